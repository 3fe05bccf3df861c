/- Parts of a proof: a layer of abstract values over the model, the functions' walks, plain laws. -/
import Derived.Deep.CondSized
import Derived.Defers
import Derived.IntWalk
import Derived.KernelRfl
import Derived.Laws.Append
import Derived.Laws.AppendOwn
import Derived.Laws.BytesArg
import Derived.Laws.ComplexArith
import Derived.Laws.Cover3
import Derived.Laws.Entries
import Derived.Laws.FloatBits
import Derived.Laws.IdiomCopy
import Derived.Laws.IdiomStrings
import Derived.Laws.Pointers
import Derived.Laws.Small
import Derived.Laws.Strings
import Derived.Laws.StructEq
import Derived.Lib.Small
import Derived.Lib.Walk
import Derived.MapKept
import Derived.OpenShut
import Derived.Orders
import Derived.OrdersIn
import Derived.ProofKit
import Derived.RangeFuncRecord
import Derived.RangeFuncSeq
import Derived.ReadAgain
import Derived.Recover
import Derived.Scope
import Derived.Shelf.Lay
import Derived.Shelf.SlSortCmp.InsertionK
import Derived.Shelf.SlSortCmp.WholeK
import Derived.SizedLaws
import Derived.Tactics
import Derived.Tactics2
import Derived.Test.YtjnoobmaedgooaaGreatProg
import Derived.Test.YtjnoobmaedgooaaGreatRows
import Derived.WalkKit
import Derived.WalkSmall
import Derived.Test.YtjnoobmaedgooaaGreatABA
set_option linter.unusedSimpArgs false
set_option linter.unusedVariables false
section
namespace Go.Av
section
variable {P:Program} {ops:Array Oper}
def cD (ops:Array Oper) (i j:Nat):Bool:=((Region.before ops).getD j 0).testBit i
structure iE (ops:Array Oper) (recs:List Rec) (t0:Tm) (h0:H) (i:Nat) (t:Tm) (h:H):Prop where
 t:∀d,t d=val (tU ops recs d) (fun _=>true) i (t0 d)
 o:∀id,h.objs id=val (oU recs id) (fun _=>true) i (h0.objs id)
 k:∀tk,decide (tk∈h.toks)=val (kU recs tk) (fun _=>true) i (decide (tk∈h0.toks))
theorem jG {recs:List Rec} {t0:Tm} {h0:H} {i:Nat} {r:Rec} (hr:recs[i]? =some r) (tc:Touch r.h r.h1 r.h1' r.h' r.en) (p:iE ops recs t0 h0 i r.t r.h):
  iE ops recs t0 h0 (i+1) (bD r.t ((ops[i]?).bind (·.dst)) r.x) r.h':=by
 have hg:recs.getD i bZ=r:=by simp[List.getD,hr]
 constructor
 ·intro d
  simp only[val,if_true,tU,hg,←p.t]
  cases e:(ops[i]?).bind (·.dst) with
  |none=>simp[bD]
  |some k=>
   simp only[bD,upd]
   by_cases hd:d=k
   ·subst hd;simp
   ·rw[if_neg hd,if_neg (by simpa using Ne.symm hd)];rfl
 ·intro id
  simp only[val,if_true,oU,hg,←p.o,tc.objs id]
  split<;>rfl
 ·intro tk
  simp only[val,if_true,kU,hg,←p.k]
  have:=tc.toks tk
  by_cases c:tk∈r.h1.toks∨tk∈r.h1'.toks
  ·rw[if_pos c]
   simp only[Option.getD_some,decide_eq_decide,this]
   constructor
   ·rintro (h|⟨h1,h2⟩)
    ·exact h
    ·exact c.resolve_left h2
   ·exact .inl
  ·rw[if_neg c]
   simp only[Option.getD_none,decide_eq_decide,this]
   simp only[not_or] at c
   constructor
   ·rintro (h|h)
    ·exact absurd h c.2
    ·exact h.1
   ·intro h;exact .inr ⟨h,c.1⟩
theorem AI {D:Nat→Bool} {recs:List Rec} {t0 t':Tm} {h0 h':H} (hc:dX P ops D 0 recs t0 h0 t' h'):(∀i r,recs[i]? =some r→iE ops recs t0 h0 i r.t r.h)∧iE ops recs t0 h0 ops.size t' h':=by
 obtain ⟨a1,a2,a3,a4,a5,a6⟩:=gL hc
 have base:iE ops recs t0 h0 0 t0 h0:=⟨fun _=>rfl,fun _=>rfl,fun _=>rfl⟩
 have key:∀i r,recs[i]? =some r→iE ops recs t0 h0 i r.t r.h:=by
  intro i
  induction i with
  |zero=>intro r hr;obtain ⟨e1,e2⟩:=a3 r hr;rw[e1,e2];exact base
  |succ i ih=>
   intro r' hr'
   have hlt:i<recs.length:=by
    have:i+1<recs.length:=by
     rcases Nat.lt_or_ge (i+1) recs.length with h|h
     ·exact h
     ·rw[List.getElem?_eq_none h] at hr';cases hr'
    omega
   obtain ⟨o,_,tc,_⟩:=a2 i recs[i] (List.getElem?_eq_getElem hlt)
   obtain ⟨e1,e2⟩:=a4 i recs[i] r' (List.getElem?_eq_getElem hlt) hr'
   rw[e1,e2]
   simpa using jG (List.getElem?_eq_getElem hlt) tc (ih _ (List.getElem?_eq_getElem hlt))
 refine ⟨key,?_⟩
 by_cases he:recs=[]
 ·obtain ⟨e1,e2⟩:=a6 he
  subst he
  simp at a1
  rw[e1,e2,←a1];exact base
 ·have hpos:0<recs.length:=List.length_pos_iff.2 he
  have hlt:recs.length - 1<recs.length:=by omega
  have hl:recs.getLast? =some recs[recs.length - 1]:=by
   rw[List.getLast?_eq_getElem?];exact List.getElem?_eq_getElem hlt
  obtain ⟨e1,e2⟩:=a5 _ hl
  obtain ⟨o,_,tc,_⟩:=a2 _ _ (List.getElem?_eq_getElem hlt)
  have:=jG (List.getElem?_eq_getElem hlt) tc (key _ _ (List.getElem?_eq_getElem hlt))
  rw[e1,e2]
  simp only[Nat.zero_add] at this a1 ⊢
  have hn:recs.length - 1+1=ops.size:=by omega
  rwa [hn] at this
structure Tidy (ops:Array Oper):Prop where
 back:∀(i:Nat) o,ops[i]? =some o→∀e∈o.after,Region.binds .any e=true→e.on<i
 anc:∀(i:Nat) o,ops[i]? =some o→∀j,cD ops j i=true→∃e∈o.after,Region.binds .any e=true∧(j=e.on∨cD ops j e.on=true)
 tmp:∀(i j:Nat) o o',ops[i]? =some o→ops[j]? =some o'→i≠j→∀d,o.dst=some d→d∈names ops o'→cD ops i j=true∨cD ops j i=true
def AJ (ops:Array Oper) (S:Nat→Bool):Prop:=∀(i:Nat) o,ops[i]? =some o→S i=true→∀e∈o.after,Region.binds .any e=true→S e.on=true
theorem AK {S:Nat→Bool} (T:Tidy ops) (hS:AJ ops S):∀(i:Nat) o,ops[i]? =some o→(∀e∈o.after,Region.binds .any e=true→S e.on=true)→∀j,cD ops j i=true→S j=true:=by
 intro i
 induction i using Nat.strongRecOn with
 |_ i ih=>
  intro o ho he j hj
  obtain ⟨e,hm,hbd,h⟩:=T.anc i o ho j hj
  rcases h with rfl|h
  ·exact he e hm hbd
  ·have hlt:=T.back i o ho e hm hbd
   have hsz:e.on<ops.size:=Nat.lt_trans hlt (Array.getElem?_eq_some_iff.1 ho).1
   exact ih e.on hlt ops[e.on] (Array.getElem?_eq_getElem hsz) (fun e' he'=>hS e.on _ (Array.getElem?_eq_getElem hsz) (he e hm hbd) e' he') j h
def HS (recs:List Rec) (h0:H) (n:Nat) (ne me:Nat) (S:Nat→Bool):H where
 objs id:=val (oU recs id) S n (h0.objs id)
 n:=ne
 toks:=(h0.toks++recs.flatMap (fun r=>r.h1'.toks)).filter fun t=>val (kU recs t) S n (decide (t∈h0.toks))
 m:=me
theorem gY {u:Nat→Option Bool} {S:Nat→Bool}:∀{n:Nat},val u S n false=true→∃i,i<n∧u i=some true
 |0,h=>by simp[val] at h
 |n+1,h=>by
  simp only[val] at h
  by_cases hs:S n=true
  ·simp only[hs,if_true] at h
   cases hu:u n with
   |none=>rw[hu] at h;obtain ⟨i,a,b⟩:=gY (n:=n) h;exact ⟨i,by omega,b⟩
   |some y=>rw[hu] at h;simp at h;subst h;exact ⟨n,by omega,hu⟩
  ·simp only[hs,if_false,Bool.false_eq_true] at h
   obtain ⟨i,a,b⟩:=gY (n:=n) h;exact ⟨i,by omega,b⟩
theorem lu {recs:List Rec} {h0:H} {n ne me:Nat} {S:Nat→Bool} (hn:n=recs.length) (t:Nat):t∈(HS recs h0 n ne me S).toks↔val (kU recs t) S n (decide (t∈h0.toks))=true:=by
 simp only[HS,List.mem_filter,List.mem_append,List.mem_flatMap]
 refine ⟨fun h=>h.2,fun h=>⟨?_,h⟩⟩
 by_cases h0t:t∈h0.toks
 ·exact .inl h0t
 ·rw[decide_eq_false h0t] at h
  obtain ⟨i,hi,hu⟩:=gY h
  rw[hn] at hi
  refine .inr ⟨recs[i],List.getElem_mem hi,?_⟩
  simp only[kU,List.getD,List.getElem?_eq_getElem hi,Option.getD_some] at hu
  split at hu
  ·simpa using hu
  ·cases hu
def count (n:Nat) (S:Nat→Bool):Nat:=((List.range n).filter fun k=> !S k).length
theorem count_insert {n i:Nat} {S S':Nat→Bool} (hS:S i=false) (hS':∀k,S' k=(S k||k == i)) (hi:i<n):count n S'+1=count n S:=by
 unfold count
 induction n with
 |zero=>omega
 |succ n ih=>
  simp only[List.range_succ,List.filter_append,List.length_append]
  by_cases e:n=i
  ·subst e
   have:(List.range n).filter (fun k=> !S' k)=(List.range n).filter (fun k=> !S k):=by
    apply List.filter_congr
    intro k hk
    have:(k == n)=false:=by simp at hk ⊢;omega
    simp[hS',this]
   rw[this]
   simp[hS',hS]
  ·have:=ih (by omega)
   have en:(n == i)=false:=by simp;exact e
   have e2:([n].filter fun k=> !S' k)=[n].filter fun k=> !S k:=by simp[List.filter_cons,hS',en]
   rw[e2]
   omega
theorem uJ {n:Nat} {S:Nat→Bool} (h:count n S=0):∀k,k<n→S k=true:=by
 intro k hk
 unfold count at h
 rw[List.length_eq_zero_iff,List.filter_eq_nil_iff] at h
 simpa using h k (by simpa using hk)
theorem mL (ops:Array Oper) (listed:Array Bool) (T:Tidy ops) {i:Nat} {o:Oper} (ho:ops[i]? =some o):i∈Region.ready .any ops listed↔listed.getD i true=false∧∀e∈o.after,Region.binds .any e=true→listed.getD e.on false=true:=by
 have hi:i<ops.size:=(Array.getElem?_eq_some_iff.1 ho).1
 simp only[Region.ready,List.mem_filter,List.mem_range,hi,true_and,ho,Option.map_some,Option.getD_some,Bool.and_eq_true,Bool.not_eq_true']
 refine and_congr_right fun _=>?_
 rw[Array.all_eq_true_iff_forall_mem]
 constructor
 ·intro h e he hb
  have:=h e he
  simpa [hb] using this
 ·intro h e he
  cases hb:Region.binds .any e with
  |false=>rfl
  |true=>simp[h e he hb]
theorem ly (T:Tidy ops) {k:Nat}:∀(q:Nat) oq,ops[q]? =some oq→cD ops k q=true→k<q:=by
 intro q
 induction q using Nat.strongRecOn with
 |_ q ihq=>
  intro oq hoq hq'
  obtain ⟨e,hm,hbd,hh⟩:=T.anc q oq hoq k hq'
  have hb:=T.back q oq hoq e hm hbd
  rcases hh with rfl|hh
  ·exact hb
  ·have hsz:e.on<ops.size:=Nat.lt_trans hb (Array.getElem?_eq_some_iff.1 hoq).1
   exact Nat.lt_trans (ihq e.on hb _ (Array.getElem?_eq_getElem hsz) hh) hb
theorem Trans.toSub {G G':aB} {w w':World} {h h' h2:H} (T:Trans G w h G' w' h') (hs:h2.sub h') (hn:h2.n=h'.n) (hm:h2.m=h'.m):Trans G w h G' w' h2:=
 {T with
  O_new:=fun B hB x=>T.O_new B hB (by obtain ⟨id,o,ho,e⟩:=x;exact ⟨id,o,hs.1 _ _ ho,e⟩)
  T_new:=fun B hB x=>T.T_new B hB (by obtain ⟨t,ht,e⟩:=x;exact ⟨t,hs.2 t ht,e⟩)
  objs_new:=fun j o hj=>by rw[hn];exact T.objs_new j o (hs.1 _ _ hj)
  toks_new:=fun t ht=>by rw[hm];exact T.toks_new t (hs.2 t ht)
  n_le:=by rw[hn];exact T.n_le
  m_le:=by rw[hm];exact T.m_le
  dom_new:=by rw[hn];exact T.dom_new
  tdom_new:=by rw[hm];exact T.tdom_new}
theorem qx (ro:Option Nat) {D:Nat→Bool} {pj:Nat} {pv:Value} {N:Nat} {Q:Exit→Act→World→Prop} (hN:∀(i:Nat) o d,ops[i]? =some o→o.dst=some d→d<N) (T:Tidy ops) {recs:List Rec} {t0 t':Tm} {h0 h':H} (hc:dX P ops D 0 recs t0 h0 t' h')
  (ap:∀i j,i<j→j<ops.size→cD ops i j=false→apart (recs.getD i bZ).en (recs.getD j bZ).en)
  {G0:aB} {w0:World} {a0:Act} (R0:aM G0 h0 w0) (F0:bH G0 h0 h')
  (hq:(∀i,D i=false)→∀G' w' a',Trans G0 w0 h0 G' w' h'→bK G' w' t' a'→aM G' h' w'→a'.tmps.size=N→a'.defers=a0.defers→Q .normal a' w')
  (hD:∀i,D i=true→(D pj=true∧pj<ops.size)∧(i=pj∨∃k,D k=true∧cD ops k i=true))
  (hP:D pj=true→∀o r,ops[pj]? =some o→recs[pj]? =some r→jd P ops pj o r.t r.h1 pv r.h1'∧(∀k,k<ops.size→k≠pj→cD ops k pj=false→cD ops pj k=false→(recs.getD k bZ).en.tk=[]∧(k<pj→(recs.getD k bZ).en.wr=[])∧∀id∈(recs.getD k bZ).en.wr,r.h'.objs id=none)∧
   ∀G' w' a',Trans G0 w0 h0 G' w' {r.h' with n:=h'.n,m:=h'.m}→aM G' {r.h' with n:=h'.n,m:=h'.m} w'→a'.tmps.size=N→a'.defers=a0.defers→Q (.panic [{v:=pv,recovered:=false}]) a' w'):
  ∀(fuel:Nat) (listed:Array Bool) (G:aB) (w:World) (a:Act),listed.size=ops.size→count ops.size (fun k=>listed.getD k false)≤fuel→AJ ops (fun k=>listed.getD k false)→(∀k,D k=true→listed.getD k false=false)→
   a.tmps.size=N→a.defers=a0.defers→(∀d,ak G w (val (tU ops recs d) (fun k=>listed.getD k false) ops.size (t0 d)) (a.tmps.getD d undef))→
   aM G (HS recs h0 ops.size h'.n h'.m (fun k=>listed.getD k false)) w→Trans G0 w0 h0 G w (HS recs h0 ops.size h'.n h'.m (fun k=>listed.getD k false))→
   (∀id,G.dom id→G0.dom id∨∃k,k<ops.size∧listed.getD k false=true∧(recs.getD k bZ).h1.n≤id∧id<(recs.getD k bZ).h1'.n)→
   (∀id,G.tdom id→G0.tdom id∨∃k,k<ops.size∧listed.getD k false=true∧(recs.getD k bZ).h1.m≤id∧id<(recs.getD k bZ).h1'.m)→
   wpAnyIn (rd ro) 0 P .any ops Q fuel listed a w:=by
 obtain ⟨a1,a2,a3,a4,a5,a6⟩:=gL hc
 obtain ⟨pre,preEnd⟩:=AI hc
 rw[Nat.zero_add] at a1
 have full:∀(listed:Array Bool) (G:aB) (w:World) (a:Act),(∀k,k<ops.size→listed.getD k false=true)→(∀k,D k=true→listed.getD k false=false)→a.tmps.size=N→a.defers=a0.defers→(∀d,ak G w (val (tU ops recs d) (fun k=>listed.getD k false) ops.size (t0 d)) (a.tmps.getD d undef))→
   aM G (HS recs h0 ops.size h'.n h'.m (fun k=>listed.getD k false)) w→Trans G0 w0 h0 G w (HS recs h0 ops.size h'.n h'.m (fun k=>listed.getD k false))→Q .normal a w:=by
  intro listed G w a hall hlj hs hd ht R Tr
  have hDf:∀i,D i=false:=by
   intro i
   cases hi:D i with
   |false=>rfl
   |true=>
    obtain ⟨⟨d1,d2⟩,-⟩:=hD i hi
    have:=hlj pj d1
    rw[hall pj d2] at this;cases this
  have ho:(HS recs h0 ops.size h'.n h'.m (fun k=>listed.getD k false)).objs=h'.objs:=by
   funext id
   simp only[HS]
   rw[val_congr (S':=fun _=>true) hall,←preEnd.o]
  have hk:∀t,t∈(HS recs h0 ops.size h'.n h'.m (fun k=>listed.getD k false)).toks↔t∈h'.toks:=by
   intro t
   rw[lu a1.symm,val_congr (S':=fun _=>true) hall,←preEnd.k]
   simp
  refine hq hDf G w a (Tr.same rfl (fun _=>Iff.rfl) ho.symm (fun t=>(hk t).symm) (Nat.le_refl _) (Nat.le_refl _) Tr.n_le (Nat.le_refl _) (Nat.le_refl _) Tr.m_le) ?_ (R.same ho.symm fun t x=>(hk t).2 x) hs hd
  intro d
  have:=ht d
  rwa [val_congr (S':=fun _=>true) hall,←preEnd.t] at this
 have noready:∀(listed:Array Bool),listed.size=ops.size→Region.ready .any ops listed=[]→∀k,k<ops.size→listed.getD k false=true:=by
  intro listed hls hr k
  induction k using Nat.strongRecOn with
  |_ k ih=>
   intro hk
   cases hl:listed.getD k false with
   |true=>rfl
   |false=>
    exfalso
    have ho:=Array.getElem?_eq_getElem hk
    have:k∈Region.ready .any ops listed:=by
     rw[mL ops listed T ho]
     refine ⟨?_,fun e he hbd=>?_⟩
     ·have hk':k<listed.size:=by omega
      simp[hk'] at hl ⊢;exact hl
     ·have:=T.back k _ ho e he hbd
      exact ih e.on this (by omega)
    rw[hr] at this;cases this
 intro fuel
 induction fuel with
 |zero=>
  intro listed G w a hls hcnt hcl hlj hs hd ht R Tr _ _
  have hall:=uJ (Nat.le_zero.1 hcnt)
  refine ⟨?_,full listed G w a hall hlj hs hd ht R Tr⟩
  rw[List.eq_nil_iff_forall_not_mem]
  intro i hi
  have hlt:i<ops.size:=by simp[Region.ready] at hi;exact hi.1
  rw[mL ops listed T (Array.getElem?_eq_getElem hlt)] at hi
  have h1:=hall i hlt
  have h2:=hi.1
  have hk':i<listed.size:=by omega
  simp[hk'] at h1 h2
  rw[h1] at h2;cases h2
 |succ fuel ih=>
  intro listed G w a hls hcnt hcl hlj hs hd ht R Tr hdom htdom
  refine ⟨fun hr=>full listed G w a (noready listed hls hr) hlj hs hd ht R Tr,fun i hi=>?_⟩
  have hlt:i<ops.size:=by simp[Region.ready] at hi;exact hi.1
  have ho:=Array.getElem?_eq_getElem hlt
  have hltr:i<recs.length:=by omega
  have hr:=List.getElem?_eq_getElem hltr
  obtain ⟨o',ho',tc,run⟩:=a2 i _ hr
  rw[Nat.zero_add] at ho' run
  obtain rfl:ops[i]=o':=Option.some.inj (ho.symm.trans ho')
  rw[mL ops listed T ho] at hi
  obtain ⟨hli,hedges⟩:=hi
  have hil:i<listed.size:=by omega
  have hSi:listed.getD i false=false:=by simp[hil] at hli ⊢;exact hli
  have hgr:recs.getD i bZ=recs[i]:=by simp[List.getD,hr]
  generalize hrr:recs[i]=r at*
  have p:=pre i r hr
  have ancS:=AK T hcl i _ ho hedges
  have late:∀k,i<k→k<ops.size→listed.getD k false=true→cD ops i k=false:=by
   intro k h1 h2 h3
   cases hb:cD ops i k with
   |false=>rfl
   |true=>
    have:=AK T hcl k _ (Array.getElem?_eq_getElem h2) (hcl k _ (Array.getElem?_eq_getElem h2) h3) i hb
    rw[hSi] at this;cases this
  have early:∀k,k<i→listed.getD k false=false→cD ops k i=false:=by
   intro k h1 h3
   cases hb:cD ops k i with
   |false=>rfl
   |true=>rw[ancS k hb] at h3;cases h3
  have apI:∀k,k<ops.size→((k<i∧listed.getD k false=false)∨(i<k∧listed.getD k false=true))→apart (recs.getD k bZ).en r.en:=by
   intro k hk h
   rcases h with ⟨h1,h2⟩|⟨h1,h2⟩
   ·have:=ap k i h1 hlt (early k h1 h2);rwa [hgr] at this
   ·have:=(ap i k h1 hk (late k h1 hk h2)).symm;rwa [hgr] at this
  have hobj:∀id,id∈r.en.rd∨id∈r.en.wr→(HS recs h0 ops.size h'.n h'.m (fun k=>listed.getD k false)).objs id=r.h.objs id:=by
   intro id hid
   simp only[HS]
   rw[p.o]
   have none_of:∀k,k<ops.size→((k<i∧listed.getD k false=false)∨(i<k∧listed.getD k false=true))→oU recs id k=none:=by
    intro k hk h
    have hap:=apI k hk h
    simp only[oU]
    rw[if_neg]
    rintro ⟨_,hw⟩
    have:=hap.1 id hw
    rcases hid with h|h
    ·exact this.1 h
    ·exact this.2 h
   refine fo (fun k h1 h2=>none_of k (by omega) (.inl ⟨h1,h2⟩)) (Nat.le_of_lt hlt) fun k h1 h2 h3=>?_
   rcases Nat.lt_or_ge i k with h|h
   ·exact none_of k h2 (.inr ⟨h,h3⟩)
   ·have:k=i:=by omega
    subst this
    rw[hSi] at h3;cases h3
  have htok:∀t,t∈r.en.tk→(t∈(HS recs h0 ops.size h'.n h'.m (fun k=>listed.getD k false)).toks↔t∈r.h.toks):=by
   intro t hid
   rw[lu a1.symm]
   have none_of:∀k,k<ops.size→((k<i∧listed.getD k false=false)∨(i<k∧listed.getD k false=true))→kU recs t k=none:=by
    intro k hk h
    have hap:=apI k hk h
    have hkr:k<recs.length:=by omega
    obtain ⟨ok,_,tck,_⟩:=a2 k _ (List.getElem?_eq_getElem hkr)
    have hgk:recs.getD k bZ=recs[k]:=by simp[List.getD,List.getElem?_eq_getElem hkr]
    rw[hgk] at hap
    simp only[kU,hgk]
    rw[if_neg]
    rintro (hw|hw)
    ·exact hap.2.2 t (tck.tk t hw) hid
    ·exact hap.2.2 t (tck.tn t hw) hid
   have:=fo (u:=kU recs t) (S:=fun k=>listed.getD k false) (v:=decide (t∈h0.toks)) (fun k h1 h2=>none_of k (by omega) (.inl ⟨h1,h2⟩)) (Nat.le_of_lt hlt) fun k h1 h2 h3=>by
    rcases Nat.lt_or_ge i k with h|h
    ·exact none_of k h2 (.inr ⟨h,h3⟩)
    ·have:k=i:=by omega
     subst this
     rw[hSi] at h3;cases h3
   rw[this,←p.k];simp
  have htmp:∀d,d∈names ops ops[i]→val (tU ops recs d) (fun k=>listed.getD k false) ops.size (t0 d)=r.t d:=by
   intro d hdn
   rw[p.t]
   have none_of:∀k,k<ops.size→((k<i∧listed.getD k false=false)∨(i<k∧listed.getD k false=true))→tU ops recs d k=none:=by
    intro k hk h
    simp only[tU]
    rw[if_neg]
    intro hdst
    rw[Array.getElem?_eq_getElem hk] at hdst
    have hne:k≠i:=by omega
    rcases T.tmp k i _ _ (Array.getElem?_eq_getElem hk) ho hne d hdst hdn with hx|hx
    ·rcases h with ⟨h1,h2⟩|⟨h1,h2⟩
     ·rw[early k h1 h2] at hx;cases hx
     ·
      have:=ancS k hx
      have:=ly T i _ ho hx
      omega
    ·rcases h with ⟨h1,h2⟩|⟨h1,h2⟩
     ·have:=ly T k _ (Array.getElem?_eq_getElem hk) hx
      omega
     ·rw[late k h1 hk h2] at hx;cases hx
   refine fo (fun k h1 h2=>none_of k (by omega) (.inl ⟨h1,h2⟩)) (Nat.le_of_lt hlt) fun k h1 h2 h3=>?_
   rcases Nat.lt_or_ge i k with h|h
   ·exact none_of k h2 (.inr ⟨h,h3⟩)
   ·have:k=i:=by omega
    subst this
    rw[hSi] at h3;cases h3
  obtain ⟨-,nm2,nm3⟩:=iD hc
  have F:bH G r.h1 r.h1':=by
   obtain ⟨⟨b1,b2⟩,b3,b4⟩:=nm2 i r hr
   constructor
   ·intro id c1 c2 hd'
    rcases hdom id hd' with hd'|⟨k,hk,hSk,d1,d2⟩
    ·exact F0.1 id (by omega) (by omega) hd'
    ·have hkr:k<recs.length:=by omega
     have hgk:recs.getD k bZ=recs[k]:=by simp[List.getD,List.getElem?_eq_getElem hkr]
     rw[hgk] at d1 d2
     rcases Nat.lt_trichotomy k i with h|h|h
     ·have:=(nm3 k i _ _ h (List.getElem?_eq_getElem hkr) hr).1;omega
     ·subst h;rw[hSi] at hSk;cases hSk
     ·have:=(nm3 i k _ _ h hr (List.getElem?_eq_getElem hkr)).1;omega
   ·intro id c1 c2 hd'
    rcases htdom id hd' with hd'|⟨k,hk,hSk,d1,d2⟩
    ·exact F0.2 id (by omega) (by omega) hd'
    ·have hkr:k<recs.length:=by omega
     have hgk:recs.getD k bZ=recs[k]:=by simp[List.getD,List.getElem?_eq_getElem hkr]
     rw[hgk] at d1 d2
     rcases Nat.lt_trichotomy k i with h|h|h
     ·have:=(nm3 k i _ _ h (List.getElem?_eq_getElem hkr) hr).2;omega
     ·subst h;rw[hSi] at hSk;cases hSk
     ·have:=(nm3 i k _ _ h hr (List.getElem?_eq_getElem hkr)).2;omega
  generalize hSdef:(fun k=>listed.getD k false)=S at*
  have hSk:∀k,listed.getD k false=S k:=fun k=>by rw[←hSdef]
  let HSi:H:={HS recs h0 ops.size h'.n h'.m S with n:=r.h.n,m:=r.h.m}
  have Ri:aM G HSi w:=R.same rfl fun _ x=>x
  have hsub:r.h1.sub HSi:=by
   refine ⟨fun j o hj=>?_,fun t ht'=>?_⟩
   ·show (HS recs h0 ops.size h'.n h'.m S).objs j=some o
    rw[hobj j (tc.rd j (by rw[hj];rfl))]
    exact tc.sub.1 j o hj
   ·show t∈(HS recs h0 ops.size h'.n h'.m S).toks
    rw[htok t (tc.tk t ht')]
    exact tc.sub.2 t ht'
  have hS':∀k,(listed.setIfInBounds i true).getD k false=(S k||k == i):=by
   intro k
   rw[←hSk]
   by_cases e:k=i
   ·subst e;simp[hil]
   ·simp[Array.getElem?_setIfInBounds,Ne.symm e,e]
  generalize hSdef':(fun k=>(listed.setIfInBounds i true).getD k false)=S'
  have hS2:∀k,S' k=(S k||k == i):=fun k=>by rw[←hSdef'];exact hS' k
  have hSi':S i=false:=by rw[←hSk];exact hSi
  have apJ:∀j,i<j→j<ops.size→S j=true→apart (recs.getD j bZ).en r.en:=fun j h1 h2 h3=>apI j h2 (.inr ⟨h1,(hSk j).trans h3⟩)
  have eobj:∀id,(HS recs h0 ops.size h'.n h'.m S').objs id=(HSi.patch r.h1 r.h1').objs id:=by
   intro id
   have hv:=je (u:=oU recs id) (v:=h0.objs id) hSi' hS2 hlt (fun j h1 h2 h3 hne=>by
    have hap:=apJ j h1 h2 h3
    simp only[oU]
    rw[if_neg]
    rintro ⟨_,hw⟩
    apply hne
    simp only[oU,hgr]
    rw[if_neg]
    rintro ⟨_,hw'⟩
    exact (hap.1 id hw).2 hw')
   show val (oU recs id) S' ops.size (h0.objs id)=_
   rw[hv]
   simp only[oU,hgr,H.patch]
   by_cases c:((r.h1.objs id).isSome∨(r.h1.n≤id∧id<r.h1'.n))
   ·by_cases hw:id∈r.en.wr
    ·simp[c,hw]
    ·simp only[c,hw,and_false,if_false,if_true,Option.getD_none]
     have hs:(r.h1.objs id).isSome:=by
      rcases c with c|c
      ·exact c
      ·exact absurd (tc.wr id c.1 c.2) hw
     rw[tc.chg id hs hw]
     show (HS recs h0 ops.size h'.n h'.m S).objs id=_
     rw[hobj id (tc.rd id hs)]
     obtain ⟨o,hoo⟩:=Option.isSome_iff_exists.1 hs
     rw[hoo];exact tc.sub.1 id o hoo
   ·simp only[c,false_and,if_false,Option.getD_none]
    rfl
  have etok:∀tk,tk∈(HS recs h0 ops.size h'.n h'.m S').toks↔tk∈(HSi.patch r.h1 r.h1').toks:=by
   intro tk
   have hv:=je (u:=kU recs tk) (v:=decide (tk∈h0.toks)) hSi' hS2 hlt (fun j h1 h2 h3 hne=>by
    have hap:=apJ j h1 h2 h3
    have hjr:j<recs.length:=by omega
    obtain ⟨ok,_,tck,_⟩:=a2 j _ (List.getElem?_eq_getElem hjr)
    have hgk:recs.getD j bZ=recs[j]:=by simp[List.getD,List.getElem?_eq_getElem hjr]
    rw[hgk] at hap
    simp only[kU,hgk]
    rw[if_neg]
    intro hw
    apply hne
    simp only[kU,hgr]
    rw[if_neg]
    intro hw'
    have h1:tk∈recs[j].en.tk:=hw.elim (tck.tk tk) (tck.tn tk)
    have h2:tk∈r.en.tk:=hw'.elim (tc.tk tk) (tc.tn tk)
    exact hap.2.2 tk h1 h2)
   rw[lu a1.symm,hv]
   have hm:=lu (recs:=recs) (h0:=h0) (ne:=h'.n) (me:=h'.m) (S:=S) a1.symm tk
   simp only[H.patch,List.mem_append,List.mem_filter]
   simp only[kU,hgr]
   by_cases c:tk∈r.h1.toks∨tk∈r.h1'.toks
   ·rw[if_pos c]
    simp only[Option.getD_some,decide_eq_true_eq]
    constructor
    ·exact .inl
    ·rintro (h|⟨h1,h2⟩)
     ·exact h
     ·exact c.resolve_left (by simpa using h2)
   ·rw[if_neg c]
    simp only[Option.getD_none]
    rw[←hm]
    simp only[not_or] at c
    constructor
    ·intro h;exact .inr ⟨h,by simpa using c.1⟩
    ·rintro (h|h)
     ·exact absurd h c.2
     ·exact h.1
  have nmi:=nm2 i r hr
  have n0:=tc.n
  have m0:=tc.m
  have le0:=tc.le
  have lem0:=tc.lem
  have hle:=Tr.n_le
  have hlem:=Tr.m_le
  simp only[HS] at hle hlem
  have after:∀G' w',Trans G w r.h1 G' w' r.h1'→aM G' r.h1' w'→Trans G w HSi G' w' (HSi.patch r.h1 r.h1')∧aM G' (HS recs h0 ops.size h'.n h'.m S') w'∧Trans G0 w0 h0 G' w' (HS recs h0 ops.size h'.n h'.m S'):=by
   intro G' w' T1 R1
   obtain ⟨R2,T2⟩:=frame Ri hsub tc.n tc.m R1 T1 F
   have T3:Trans G w {HS recs h0 ops.size h'.n h'.m S with n:=h0.n,m:=h0.m} G' w' (HS recs h0 ops.size h'.n h'.m S'):=
    T2.same rfl (fun _=>Iff.rfl) (funext eobj) etok (by show h0.n≤r.h.n;omega) (by show r.h1'.n≤h'.n;omega) hle (by show h0.m≤r.h.m;omega) (by show r.h1'.m≤h'.m;omega) hlem
   have T4:=Tr.trans' (h'':=HS recs h0 ops.size h'.n h'.m S') (h2:={HS recs h0 ops.size h'.n h'.m S with n:=h0.n,m:=h0.m}) R0 rfl (fun _=>Iff.rfl) (Nat.le_refl _) (Nat.le_refl _) hle (Nat.le_refl _) (Nat.le_refl _) hlem R T3
   exact ⟨T2,R2.same (funext eobj) fun t x=>(etok t).1 x,T4⟩
  have tset:∀d,val (tU ops recs d) S' ops.size (t0 d)=bD (fun d=>val (tU ops recs d) S ops.size (t0 d)) ops[i].dst r.x d:=by
   intro d
   have hv:=je (u:=tU ops recs d) (v:=t0 d) hSi' hS2 hlt (fun j h1 h2 h3 hne=>by
    simp only[tU]
    rw[if_neg]
    intro hdj
    apply hne
    simp only[tU]
    rw[if_neg]
    intro hdi
    rw[ho] at hdi
    rw[Array.getElem?_eq_getElem h2] at hdj
    rcases T.tmp i j _ _ ho (Array.getElem?_eq_getElem h2) (by omega) d hdi (by simp only[names,List.mem_append];left;left;rw[show ops[j].dst=some d from hdj];simp) with hx|hx
    ·rw[late j h1 h2 ((hSk j).trans h3)] at hx;cases hx
    ·have:=ly T i _ ho hx;omega)
   rw[hv]
   simp only[tU,ho,Option.bind_some,hgr]
   cases hd':ops[i].dst with
   |none=>simp[bD]
   |some k=>
    simp only[bD,upd]
    by_cases e:d=k
    ·subst e;simp
    ·rw[if_neg e,if_neg (by simpa using Ne.symm e)];rfl
  cases hDi:D i with
  |true=>
   obtain ⟨⟨d1,d2⟩,d3⟩:=hD i hDi
   have eij:i=pj:=by
    rcases d3 with e|⟨k,dk,e⟩
    ·exact e
    ·exfalso
     have h1:listed.getD k false=true:=ancS k e
     have h2:=hlj k dk
     rw[h1] at h2;cases h2
   subst eij
   obtain ⟨pr,un,hqp⟩:=hP d1 _ r ho hr
   refine pr G w a (fun d hd'=>by rw[←htmp d hd'];exact ht d) (Ri.sub hsub) F _ Q (fun G' w' T1 R1=>?_) ro
   obtain ⟨-,R3,T3⟩:=after G' w' T1 R1
   have px:=jG hr tc p
   have unS:∀k,k<ops.size→((k<i+1∧S' k=false)∨(i+1≤k∧S' k=true))→(recs.getD k bZ).en.tk=[]∧∀id∈(recs.getD k bZ).en.wr,r.h'.objs id=none:=by
    intro k hk h
    rw[hS2] at h
    have hne:k≠i:=by
     rintro rfl
     rcases h with ⟨h1,h2⟩|⟨h1,h2⟩
     ·simp at h2
     ·omega
    have hbe:(k == i)=false:=by simpa using hne
    rw[hbe,Bool.or_false] at h
    rcases h with ⟨h1,h2⟩|⟨h1,h2⟩
    ·have:=un k hk hne (early k (by omega) ((hSk k).trans h2)) (by
      cases hb:cD ops i k with
      |false=>rfl
      |true=>have:=ly T k _ (Array.getElem?_eq_getElem hk) hb;omega)
     exact ⟨this.1,this.2.2⟩
    ·have:=un k hk hne (by
      cases hb:cD ops k i with
      |false=>rfl
      |true=>have:=ly T i _ ho hb;omega) (late k (by omega) hk ((hSk k).trans h2))
     exact ⟨this.1,this.2.2⟩
   have eo:∀id o,r.h'.objs id=some o→(HS recs h0 ops.size h'.n h'.m S').objs id=some o:=by
    intro id o hid
    have none_of:∀k,k<ops.size→((k<i+1∧S' k=false)∨(i+1≤k∧S' k=true))→oU recs id k=none:=by
     intro k hk h
     simp only[oU]
     rw[if_neg]
     rintro ⟨_,hw⟩
     have:=(unS k hk h).2 id hw
     rw[this] at hid;cases hid
    have e:=fo (v:=h0.objs id) (fun k h1 h2=>none_of k (by omega) (.inl ⟨h1,h2⟩)) (by omega) fun k h1 h2 h3=>none_of k h2 (.inr ⟨h1,h3⟩)
    show val (oU recs id) S' ops.size (h0.objs id)=some o
    rw[e,←px.o];exact hid
   have et:∀tk,tk∈(HS recs h0 ops.size h'.n h'.m S').toks↔tk∈r.h'.toks:=by
    intro tk
    rw[lu a1.symm]
    have none_of:∀k,k<ops.size→((k<i+1∧S' k=false)∨(i+1≤k∧S' k=true))→kU recs tk k=none:=by
     intro k hk h
     have hkr:k<recs.length:=by omega
     obtain ⟨ok,_,tck,_⟩:=a2 k _ (List.getElem?_eq_getElem hkr)
     have hgk:recs.getD k bZ=recs[k]:=by simp[List.getD,List.getElem?_eq_getElem hkr]
     have hz:=(unS k hk h).1
     rw[hgk] at hz
     simp only[kU,hgk]
     rw[if_neg]
     rintro (hw|hw)
     ·have:=tck.tk tk hw;rw[hz] at this;cases this
     ·have:=tck.tn tk hw;rw[hz] at this;cases this
    have e:=fo (v:=decide (tk∈h0.toks)) (fun k h1 h2=>none_of k (by omega) (.inl ⟨h1,h2⟩)) (by omega) fun k h1 h2 h3=>none_of k h2 (.inr ⟨h1,h3⟩)
    rw[e,←px.k];simp
   have hsubX:H.sub {r.h' with n:=h'.n,m:=h'.m} (HS recs h0 ops.size h'.n h'.m S'):=⟨fun j o hj=>eo j o hj,fun t x=>(et t).2 x⟩
   refine hqp G' w' a (T3.toSub hsubX rfl rfl) (R3.sub hsubX) hs hd
  |false=>
  refine run hDi G w a (fun d hd'=>by rw[←htmp d hd'];exact ht d) (Ri.sub hsub) F _ Q (fun G' w' v T1 R1 V=>?_) ro
  obtain ⟨T2,R2,T4⟩:=after G' w' T1 R1
  have hput:bK G' w' (bD (fun d=>val (tU ops recs d) S ops.size (t0 d)) ops[i].dst r.x) (a.put ops[i].dst v):=
   l9 (bK.mono Ri T2 ht) V fun k hk=>by rw[hs];exact hN i _ k ho hk
  refine ih (listed.setIfInBounds i true) G' w' _ (by simpa using hls) ?_ ?_ ?_ (by rw[jF];exact hs) (by rw[put_defers];exact hd) ?_ ?_ ?_ ?_ ?_
  ·rw[hSdef']
   have:=count_insert hSi' hS2 hlt
   omega
  ·rw[hSdef']
   intro j oj hoj hj e he hbd
   rw[hS2] at hj ⊢
   by_cases ej:j=i
   ·subst ej
    obtain rfl:ops[j]=oj:=Option.some.inj (ho.symm.trans hoj)
    rw[←hSk,hedges e he hbd];rfl
   ·have:S j=true:=by simpa [ej] using hj
    rw[hcl j oj hoj this e he hbd];rfl
  ·intro k d1
   rw[show (listed.setIfInBounds i true).getD k false=S' k from congrFun hSdef' k,hS2,←hSk,hlj k d1]
   have:k≠i:=by rintro rfl;rw[d1] at hDi;cases hDi
   simpa using this
  ·rw[hSdef']
   intro d
   rw[tset d];exact hput d
  ·rw[hSdef']
   exact R2
  ·rw[hSdef'];exact T4
  ·intro id hd'
   rcases T1.dom_new id hd' with h|h
   ·rcases hdom id h with h|⟨k,h1,h2,h3⟩
    ·exact .inl h
    ·exact .inr ⟨k,h1,by rw[hS',←hSk,h2];rfl,h3⟩
   ·exact .inr ⟨i,hlt,by rw[hS'];simp,by rw[hgr];exact h⟩
  ·intro id hd'
   rcases T1.tdom_new id hd' with h|h
   ·rcases htdom id h with h|⟨k,h1,h2,h3⟩
    ·exact .inl h
    ·exact .inr ⟨k,h1,by rw[hS',←hSk,h2];rfl,h3⟩
   ·exact .inr ⟨i,hlt,by rw[hS'];simp,by rw[hgr];exact h⟩
end
end Go.Av
end
section
namespace Go.Av
open Go
theorem IS (s:List UInt8) (i:Nat):(ByteArray.mk s.toArray)[i]! =s.getD i 0:=by
 by_cases h:i<s.length
 ·have h2:i<(ByteArray.mk s.toArray).size:=by simpa [ByteArray.size] using h
  rw[getElem!_pos _ i h2]
  simp[ByteArray.getElem_eq_getElem_data,h]
 ·have h2:¬i<(ByteArray.mk s.toArray).size:=by simpa [ByteArray.size] using h
  rw[getElem!_neg _ i h2]
  simp[h]
  rfl
theorem FQ (P:Program) (w:World) (s:List UInt8) (n:Int):(Extern.BytealgIndexByte.indexByte #[.string ⟨s.toArray⟩,.int .u8 n]).run P w= .ok (.int .i64 (match (List.range s.length).find? fun i=>s.getD i 0 == UInt8.ofNat n.toNat with|some i=>(i:Int)|none=> -1)) w:=by
 have hs:(ByteArray.mk s.toArray).size=s.length:=by simp[ByteArray.size]
 have hf:(fun i=>(ByteArray.mk s.toArray)[i]! == n.toNat.toUInt8)=fun i=>s.getD i 0 == UInt8.ofNat n.toNat:=by
  funext i;rw[IS]
 change Sem.run P (match (List.range (ByteArray.mk s.toArray).size).find? fun i=>(ByteArray.mk s.toArray)[i]! == n.toNat.toUInt8 with|some i=>pure (goInt i)|none=>pure (goInt (-1))) w=_
 rw[hs,hf]
 cases (List.range s.length).find? fun i=>s.getD i 0 == UInt8.ofNat n.toNat<;>rfl
open Classical in
section
variable {P:Program} {G:aB} {w:World} {t:Tm} {a:Act} {o:Oper} {h:H} {x:AV}
theorem AL {op:AOp} (h:fh P o=some op):∃k xs,op= .raw k xs:=by
 unfold fh at h
 repeat' split at h
 all_goals first
  |(cases h;done)
  |(cases h;exact ⟨_,_,rfl⟩)
  |(simp only[Option.map_eq_some_iff] at h;obtain ⟨_,_,rfl⟩:=h;exact ⟨_,_,rfl⟩)
theorem yA (k:RK) (xs:List Opd):cOp P o≠some (.raw k xs):=by
 intro h
 unfold cOp at h
 repeat' split at h
 all_goals first
  |(cases h;done)
  |(simp at h;done)
  |skip
theorem uK {op:AOp} (h:fh P o=some op):∀c,o.op≠ .defer c:=by
 intro c e
 unfold fh at h
 rw[e] at h
 cases h
theorem sR (ht:bK G w t a) {e:TypeId}:∀{l:List (Nat × Operand)} {ps:List (Nat × Nat)} {xs:List Opd} {cs cs':List AV} {vs:List Value},iw P e l=some (ps,xs)→kn ps (xs.map (ev t)) cs=some cs'→an G w cs vs→
   ∃vs',Instr.fill (fun i=>some (i*P.cellsOf e,P.cellsOf e)) vs.toArray (l.map fun p=>(p.1,a.eval p.2))=some vs'.toArray∧an G w cs' vs'
 |[],ps,xs,cs,cs',vs,h1,h2,h3=>by
  simp only[iw,Option.some.injEq,Prod.mk.injEq] at h1
  obtain ⟨rfl,rfl⟩:=h1
  simp[kn] at h2;subst h2
  exact ⟨vs,by simp[Instr.fill],h3⟩
 |(i,x)::l,ps,xs,cs,cs',vs,h1,h2,h3=>by
  simp only[iw] at h1
  split at h1
  ·rename_i b r hb hr
   simp only[Option.some.injEq,Prod.mk.injEq] at h1
   obtain ⟨rfl,rfl⟩:=h1
   simp only[List.map_cons,kn] at h2
   split at h2
   ·rename_i hc
    obtain ⟨c1,c2,c3⟩:=hc
    have rx:=ao hb ht
    obtain ⟨s1,s2⟩:=cY rx c3
    have hsz:(a.eval x).cells.size=P.cellsOf e:=by have:=s1.length;simpa [c1] using this
    have hl:=h3.length
    have hnew:an G w (setAt cs (i*P.cellsOf e) (cellsOf (ev t b))) (vs.take (i*P.cellsOf e)++(a.eval x).cells.toList++vs.drop (i*P.cellsOf e+P.cellsOf e)):=by
     unfold setAt
     rw[c1]
     exact ((h3.take _).append s1).append (h3.drop _)
    obtain ⟨vs',e1,e2⟩:=sR ht (ps:=r.1) (xs:=r.2) hr h2 hnew
    refine ⟨vs',?_,e2⟩
    rw[List.map_cons,oP (place:=fun i=>some (i*P.cellsOf e,P.cellsOf e)) (off:=i*P.cellsOf e) rfl hsz (by simp;omega)]
    exact e1
   ·cases h2
  ·cases h1
theorem jH {name:String} {g:Array Value→Sem Value} (hg:Extern.allGenericRows.lookup name=none) (ht:Extern.allTypedRows.lookup name=none) (ha:Extern.allRows.lookup name=some g) (hn:Extern.allNextRows.lookup name=none)
  {fn:Func} (h:fn.name=name) (ho:Extern.allNextRows.lookup fn.origin=none):Extern.find fn=some g∧Extern.findNext fn=none:=by
 unfold Extern.find Extern.findNext
 simp[h,hg,ht,ha,hn,ho]
theorem DC {k:FloatKind} {xs:List Opd} (hc:fh P o=some (.raw (.i2f k) xs)):∃src dst z b q,o.op= .convert src dst z∧opd P src z=some b∧P.underlying src=some (.int q)∧P.underlying dst=some (.float k)∧xs=[b]:=by
 unfold fh at hc
 repeat' split at hc
 all_goals first
  |(cases hc;done)
  |(simp at hc;done)
  |(cases hc;exact ⟨_,_,_,_,_,‹_›,‹_›,‹_›,‹_›,rfl⟩)
theorem DD {k:IntKind} {xs:List Opd} (hc:fh P o=some (.raw (.f2i k) xs)):∃src dst z b q,o.op= .convert src dst z∧opd P src z=some b∧P.underlying src=some (.float q)∧P.underlying dst=some (.int k)∧xs=[b]:=by
 unfold fh at hc
 repeat' split at hc
 all_goals first
  |(cases hc;done)
  |(simp at hc;done)
  |(cases hc;exact ⟨_,_,_,_,_,‹_›,‹_›,‹_›,‹_›,rfl⟩)
theorem AM {sz len:Nat} {n:Option Nat} {xs:List Opd} (hc:fh P o=some (.raw (.aidx sz n len) xs)):∃ty z i b c e,o.op= .index ty z i∧opd P ty z=some b∧opd P 0 i=some c∧P.underlying ty=some (.array len e)∧(P.info? e).isSome=true∧(P.underlying e).isSome=true∧sz=P.cellsOf e∧n=(if bB P e then some (P.cellsOf e) else none)∧xs=[b,c]:=by
 unfold fh at hc
 repeat' split at hc
 all_goals first
  |(cases hc;done)
  |(simp at hc;done)
  |(rename_i hq hg;cases hc;exact ⟨_,_,_,_,_,_,‹_›,‹_›,‹_›,‹_›,hq.1,hq.2,rfl,by simp[hg],rfl⟩)
theorem yB {sz len:Nat} {xs:List Opd} (hc:fh P o=some (.raw (.paddr sz len) xs)):∃ty z i b c e,o.op= .indexAddr ty z i∧opd P 0 z=some b∧opd P 0 i=some c∧P.underlying ty=some (.array len e)∧(P.info? e).isSome=true∧sz=P.cellsOf e∧xs=[b,c]:=by
 unfold fh at hc
 repeat' split at hc
 all_goals first
  |(cases hc;done)
  |(simp at hc;done)
  |(rename_i hq;cases hc;exact ⟨_,_,_,_,_,_,‹_›,‹_›,‹_›,‹_›,hq,rfl,rfl⟩)
theorem uL {zero:List AV} {ps:List (Nat × Nat)} {xs:List Opd} (hc:fh P o=some (.raw (.abuild zero ps) xs)):∃ty parts n e z,o.op= .build ty parts∧P.underlying ty=some (.array n e)∧(P.info? ty).bind (·.zero)=some z∧cq P ty z=some (.agg zero)∧iw P e parts.toList=some (ps,xs)∧(P.info? e).isSome=true:=by
 unfold fh at hc
 repeat' split at hc
 all_goals first
  |(cases hc;done)
  |(simp at hc;done)
  |(rename_i hq;cases hc;exact ⟨_,_,_,_,_,‹_›,‹_›,‹_›,‹_›,‹_›,hq⟩)
theorem AN {xs:List Opd} (hc:fh P o=some (.raw .cplx xs)):∃c z1 z2 b1 b2,o.op= .call c∧c.callee= .builtin .complex∧c.args.toList=[z1,z2]∧opd P 0 z1=some b1∧opd P 0 z2=some b2∧xs=[b1,b2]:=by
 unfold fh at hc
 repeat' split at hc
 all_goals first
  |(cases hc;done)
  |(simp at hc;done)
  |(cases hc;exact ⟨_,_,_,_,_,‹_›,‹_›,‹_›,‹_›,‹_›,rfl⟩)
theorem yC {re:Bool} {xs:List Opd} (hc:fh P o=some (.raw (.cpart re) xs)):∃c z b,o.op= .call c∧c.callee= .builtin (if re then .real else .imag)∧c.args.toList=[z]∧opd P 0 z=some b∧xs=[b]:=by
 unfold fh at hc
 repeat' split at hc
 all_goals first
  |(cases hc;done)
  |(simp at hc;done)
  |(simp only[Option.map_eq_some_iff,Option.some.injEq,AOp.raw.injEq,RK.cpart.injEq] at hc;obtain ⟨b,hb,rfl,rfl⟩:=hc;exact ⟨_,_,_,‹_›,by simpa using ‹_›,‹_›,hb,rfl⟩)
theorem sS {k:RK} {xs:List Opd} (hk:k= .fbits∨k= .fofbits) (hc:fh P o=some (.raw k xs)):∃c z b f fn,o.op= .call c∧c.callee= .value (.func f)∧c.args.toList=[z]∧opd P 0 z=some b∧xs=[b]∧P.funcs[f]? =some fn∧fn.body.isNone=true∧fn.origin= "" ∧fn.name=(match k with| .fbits=> "math.Float64bits" |_=> "math.Float64frombits"):=by
 rcases hk with rfl|rfl
 all_goals
  unfold fh at hc
  repeat' split at hc
  all_goals first
   |(cases hc;done)
   |(simp at hc;done)
   |(rename_i hq;simp only[Option.map_eq_some_iff,Option.some.injEq,AOp.raw.injEq,true_and] at hc;obtain ⟨b,hb,rfl⟩:=hc;exact ⟨_,_,_,_,_,‹_›,‹_›,‹_›,hb,rfl,‹_›,hq.1,hq.2.2,hq.2.1⟩)
theorem yD {xs:List Opd} (hc:fh P o=some (.raw .ibyte xs)):∃c z1 z2 b1 b2 f fn,o.op= .call c∧c.callee= .value (.func f)∧c.args.toList=[z1,z2]∧opd P 0 z1=some b1∧opd P 0 z2=some b2∧xs=[b1,b2]∧P.funcs[f]? =some fn∧fn.body.isNone=true∧fn.origin= "" ∧fn.name= "internal/bytealg.IndexByteString" :=by
 unfold fh at hc
 repeat' split at hc
 all_goals first
  |(cases hc;done)
  |(simp at hc;done)
  |(cases hc;rename_i hq _ _ _ _ _ _;exact ⟨_,_,_,_,_,_,_,‹_›,‹_›,‹_›,‹_›,‹_›,rfl,‹_›,hq.1,hq.2.2,hq.2.1⟩)
  |(cases hc;rename_i hq _ _ _ _;exact ⟨_,_,_,_,_,_,_,‹_›,‹_›,‹_›,‹_›,‹_›,rfl,‹_›,hq.1,hq.2.2,hq.2.1⟩)
theorem uM:Extern.allGenericRows.lookup "internal/bytealg.IndexByteString" =none∧Extern.allTypedRows.lookup "internal/bytealg.IndexByteString" =none∧Extern.allNextRows.lookup "internal/bytealg.IndexByteString" =none:=⟨by kernel_rfl,by kernel_rfl,by kernel_rfl⟩
theorem GX:Extern.allRows.lookup "internal/bytealg.IndexByteString" =some Extern.BytealgIndexByte.indexByte:=by kernel_rfl
theorem AO {c:Call} {z1 z2:Operand} {f:FuncId} {fn:Func} {g:Array Value→Sem Value} {v:Value} {ty:TypeId} (hcal:c.callee= .value (.func f)) (ha:c.args= #[z1,z2]) (hf:P.funcs[f]? =some fn) (hb:fn.body.isNone=true) (hn:fn.name≠ "runtime.NumGoroutine")
  (h1:Extern.find fn=some g) (h2:Extern.findNext fn=none) (hg:(g #[a.eval z1,a.eval z2]).run P w= .ok v w):(do let d ←resolve a.eval c ty;invoke d.target d.args:Sem Next).run P w= .ok (.value v) w:=by
 have hb':fn.body=none:=by simpa using hb
 have he:a.eval (.func f)= .func (.func f) #[] #[]:=rfl
 simp[resolve,hcal,ha,he,Deferred.ofValue,invoke,callFunc,hf,hn,hb',h1,h2,hg]
theorem kp {k:IntKind} {n:Int} {v:Value} (h:ak G w (.int k n) v):v= .int k n:=by simpa [ak] using h
theorem mM {u v:Value} (h:ak G w (.sc u) v):v=u:=by simpa [ak] using h
theorem uN:Extern.allNextRows.lookup "" =none:=by kernel_rfl
theorem uO:Extern.allGenericRows.lookup "math.Float64bits" =none∧Extern.allTypedRows.lookup "math.Float64bits" =none∧Extern.allNextRows.lookup "math.Float64bits" =none:=⟨by kernel_rfl,by kernel_rfl,by kernel_rfl⟩
theorem uP:Extern.allGenericRows.lookup "math.Float64frombits" =none∧Extern.allTypedRows.lookup "math.Float64frombits" =none∧Extern.allNextRows.lookup "math.Float64frombits" =none:=⟨by kernel_rfl,by kernel_rfl,by kernel_rfl⟩
theorem GY:Extern.allRows.lookup "math.Float64bits" =some Extern.MathFloatBits.float64bits:=by kernel_rfl
theorem GZ:Extern.allRows.lookup "math.Float64frombits" =some Extern.MathFloatBits.float64frombits:=by kernel_rfl
theorem sT {c:Call} {z:Operand} {f:FuncId} {fn:Func} {g:Array Value→Sem Value} {v:Value} {ty:TypeId} (hcal:c.callee= .value (.func f)) (ha:c.args= #[z]) (hf:P.funcs[f]? =some fn) (hb:fn.body.isNone=true) (hn:fn.name≠ "runtime.NumGoroutine")
  (h1:Extern.find fn=some g) (h2:Extern.findNext fn=none) (hg:(g #[a.eval z]).run P w= .ok v w):(do let d ←resolve a.eval c ty;invoke d.target d.args:Sem Next).run P w= .ok (.value v) w:=by
 have hb':fn.body=none:=by simpa using hb
 have he:a.eval (.func f)= .func (.func f) #[] #[]:=rfl
 simp[resolve,hcal,ha,he,Deferred.ofValue,invoke,callFunc,hf,hn,hb',h1,h2,hg]
theorem uQ {k:IntKind} {n:Int}:ak G w (.int k n) (.int k n):=by simp[ak]
theorem sU {u:Value}:ak G w (.sc u) u:=by simp[ak]
theorem yE {k:RK} {xs:List Opd} (hc:fh P o=some (.raw k xs)) (hx:iv k (xs.map (ev t))=some x) (ht:bK G w t a):Plain P G w a o x:=by
 cases k with
 |i2f k=>
  obtain ⟨src,dst,z,b,q,hop,h1,h2,h3,rfl⟩:=DC hc
  have r1:=ao h1 ht
  simp only[List.map_cons,List.map_nil,iv] at hx
  split at hx<;>try (cases hx;done)
  rename_i e
  simp only[List.cons.injEq,and_true] at e
  rw[e] at r1
  cases hx
  refine ⟨_,?_,sU⟩
  simp only[execOp,hop,kp r1]
  simp[run_convert_int_float w src dst _ _ _ (by rw[h2];rfl) h3]
 |f2i k=>
  obtain ⟨src,dst,z,b,q,hop,h1,h2,h3,rfl⟩:=DD hc
  have r1:=ao h1 ht
  simp only[List.map_cons,List.map_nil,iv] at hx
  split at hx<;>try (cases hx;done)
  rename_i e
  simp only[List.cons.injEq,and_true] at e
  rw[e] at r1
  simp only[Option.map_eq_some_iff] at hx
  obtain ⟨n,hn,rfl⟩:=hx
  refine ⟨_,?_,uQ⟩
  simp only[execOp,hop,mM r1]
  simp[run_convert_float_int w src dst _ _ _ _ (by rw[h2];rfl) h3 hn]
 |cplx=>
  obtain ⟨c,z1,z2,b1,b2,hop,hcal,ha,h1,h2,rfl⟩:=AN hc
  have r1:=ao h1 ht
  have r2:=ao h2 ht
  have ha':c.args= #[z1,z2]:=by rw[←Array.toArray_toList (xs:=c.args),ha]
  simp only[List.map_cons,List.map_nil,iv] at hx
  split at hx<;>try (cases hx;done)
  rename_i e
  simp only[List.cons.injEq,and_true] at e
  rw[e.1] at r1
  rw[e.2] at r2
  split at hx<;>cases hx
  rename_i ek
  subst ek
  refine ⟨_,?_,sU⟩
  simp[execOp,hop,resolve,hcal,ha',mM r1,mM r2,invoke,builtin,run_complex]
 |cpart re=>
  obtain ⟨c,z,b,hop,hcal,ha,h1,rfl⟩:=yC hc
  have r1:=ao h1 ht
  have ha':c.args= #[z]:=by rw[←Array.toArray_toList (xs:=c.args),ha]
  simp only[List.map_cons,List.map_nil,iv] at hx
  split at hx<;>try (cases hx;done)
  rename_i e
  simp only[List.cons.injEq,and_true] at e
  rw[e] at r1
  cases hx
  cases re
  ·refine ⟨_,?_,sU⟩
   simp at hcal
   simp[execOp,hop,resolve,hcal,ha',mM r1,invoke,builtin,run_imag]
  ·refine ⟨_,?_,sU⟩
   simp at hcal
   simp[execOp,hop,resolve,hcal,ha',mM r1,invoke,builtin,run_real]
 |fbits=>
  obtain ⟨c,z,b,f,fn,hop,hcal,ha,h1,rfl,hf,hb,ho,hn⟩:=sS (.inl rfl) hc
  obtain ⟨e1,e2⟩:=jH uO.1 uO.2.1 GY uO.2.2 hn (by rw[ho];exact uN)
  have r1:=ao h1 ht
  have ha':c.args= #[z]:=by rw[←Array.toArray_toList (xs:=c.args),ha]
  simp only[List.map_cons,List.map_nil,iv] at hx
  split at hx<;>try (cases hx;done)
  rename_i e
  simp only[List.cons.injEq,and_true] at e
  rw[e] at r1
  cases hx
  refine ⟨_,?_,uQ⟩
  simp only[execOp,hop]
  exact sT hcal ha' hf hb (by rw[hn];simp) e1 e2 (by rw[mM r1];rfl)
 |fofbits=>
  obtain ⟨c,z,b,f,fn,hop,hcal,ha,h1,rfl,hf,hb,ho,hn⟩:=sS (.inr rfl) hc
  obtain ⟨e1,e2⟩:=jH uP.1 uP.2.1 GZ uP.2.2 hn (by rw[ho];exact uN)
  have r1:=ao h1 ht
  have ha':c.args= #[z]:=by rw[←Array.toArray_toList (xs:=c.args),ha]
  simp only[List.map_cons,List.map_nil,iv] at hx
  split at hx<;>try (cases hx;done)
  rename_i e
  simp only[List.cons.injEq,and_true] at e
  rw[e] at r1
  cases hx
  refine ⟨_,?_,sU⟩
  simp only[execOp,hop]
  exact sT hcal ha' hf hb (by rw[hn];simp) e1 e2 (by rw[kp r1];rfl)
 |ibyte=>
  obtain ⟨c,z1,z2,b1,b2,f,fn,hop,hcal,ha,h1,h2,rfl,hf,hb,ho,hn⟩:=yD hc
  obtain ⟨e1,e2⟩:=jH uM.1 uM.2.1 GX uM.2.2 hn (by rw[ho];exact uN)
  have r1:=ao h1 ht
  have r2:=ao h2 ht
  have ha':c.args= #[z1,z2]:=by rw[←Array.toArray_toList (xs:=c.args),ha]
  simp only[List.map_cons,List.map_nil,iv] at hx
  split at hx<;>try (cases hx;done)
  rename_i s n q
  simp only[List.cons.injEq,and_true] at q
  rw[q.1] at r1
  rw[q.2] at r2
  split at hx<;>cases hx
  rename_i hq
  refine ⟨_,?_,uQ⟩
  simp only[execOp,hop]
  refine AO hcal ha' hf hb (by rw[hn];simp) e1 e2 ?_
  have r1':a.eval z1= .string ⟨s.toArray⟩:=by simpa [ak] using r1
  rw[r1',kp r2]
  exact FQ P w s n
 |aidx sz n len=>
  obtain ⟨ty,z,i,b,c,e,hop,h1,h2,hu,hi,hui,rfl,rfl,rfl⟩:=AM hc
  have r1:=ao h1 ht
  have r2:=ao h2 ht
  simp only[List.map_cons,List.map_nil,iv] at hx
  split at hx<;>try (cases hx;done)
  rename_i q
  simp only[List.cons.injEq,and_true] at q
  rw[q.1] at r1
  rw[q.2] at r2
  split at hx<;>try (cases hx;done)
  rename_i hq
  simp only[ak] at r1
  obtain ⟨vs,hv,hr⟩:=r1
  obtain ⟨v,e1,e2⟩:=sG P w e _ _ vs hi hui hr hx
  exact ⟨v,by simp[execOp,hop,Instr.index,run_underlying hu,hv,kp r2,asIntOf,hq.1,hq.2,bT P w e hi,e1],e2⟩
 |paddr sz len=>
  obtain ⟨ty,z,i,b,c,e,hop,h1,h2,hu,hi,rfl,rfl⟩:=yB hc
  have r1:=ao h1 ht
  have r2:=ao h2 ht
  simp only[List.map_cons,List.map_nil,iv] at hx
  split at hx<;>try (cases hx;done)
  ·rename_i q
   simp only[List.cons.injEq,and_true] at q
   rw[q.1] at r1
   rw[q.2] at r2
   split at hx<;>cases hx
   rename_i hq
   simp only[ak] at r1
   obtain ⟨hd,hv⟩:=r1
   refine .mk (v:= .pointer (some ⟨G.ι _,_,none⟩)) ?_ (by simp only[ak];exact ⟨hd,rfl⟩)
   simp[execOp,hop,Instr.indexAt,run_underlying hu,hv,kp r2,asIntOf,Instr.sureAddr,hq.1,hq.2,bT P w e hi,add_plain]
  ·rename_i q
   simp only[List.cons.injEq,and_true] at q
   rw[q.1] at r1
   rw[q.2] at r2
   split at hx<;>cases hx
   rename_i hq
   simp only[ak] at r1
   obtain ⟨B,off,vs,hv,hr,him⟩:=r1
   refine .mk (v:= .pointer (some ⟨B,_,none⟩)) ?_ (by simp only[ak];exact ⟨B,_,_,rfl,hr.drop _,him.drop _⟩)
   simp[execOp,hop,Instr.indexAt,run_underlying hu,hv,kp r2,asIntOf,Instr.sureAddr,hq.1,hq.2,bT P w e hi,add_plain]
 |abuild zero ps=>
  obtain ⟨ty,parts,n,e,z,hop,hu,hz,hzc,hps,hi⟩:=uL hc
  simp only[iv,Option.map_eq_some_iff] at hx
  obtain ⟨cs,hcs,rfl⟩:=hx
  have r:=dt (G:=G) (w:=w) hzc
  simp only[ak] at r
  obtain ⟨vs,rfl,hr⟩:=r
  obtain ⟨vs',e1,e2⟩:=sR ht hps hcs hr
  refine ⟨.agg vs'.toArray,?_,by simp only[ak];exact ⟨vs',rfl,e2⟩⟩
  obtain ⟨i,hi1,hi2⟩:=Option.bind_eq_some_iff.1 hz
  have hmap:(parts.map fun (i,x)=>(i,a.eval x)).toList=parts.toList.map fun p=>(p.1,a.eval p.2):=by simp
  simp only[execOp,hop,Instr.build,Sem.run_bind,zeroValue,typeInfo,run_program,hi1,hi2,Result.andThen_ok,Sem.run_pure,run_underlying hu,bT P w e hi,Value.cells,hmap,e1]
end
end Go.Av
end
section
namespace Go.Av
structure aw where
 dst:Option Nat
 guard:Option (Nat × Bool)
 op:AOp
inductive AC where
 |skip
 |reg (items:List aw) (pairs:Option (List (Nat × Nat)))
 |seq (a b:AC)
 |cond (c:Opd) (a b:AC)
 |block (id:Nat) (a:AC)
 |loop (a:AC)
 |exit (id:Nat)
 |ret
 |scope (a:AC)
 |label (l:Nat)
 |goto (l:Nat)
 |p8 (g:Opd) (ps:List Nat) (asg body:AC)
def bf:AOp→List Opd
 | .mov x| .box x| .eqN _ x| .un _ x| .conv _ x| .load _ x| .faddr _ x| .fld _ _ x| .ext x _| .nilck x| .len _ x| .clr _ _ x| .mlen x| .eqM _ x| .cap x| .ifc _ x| .pan x=>[x]
 | .pick a b c| .mput a b c| .mputK _ a b c=>[a,b,c]
 | .alloc _| .mkmap| .dead=>[]
 | .build _ parts=>parts.map fun p=>p.2.2
 | .buildSl _ parts=>parts
 | .store _ x y| .bin _ x y| .eqB _ x y| .eqA _ _ x y| .mm _ x y| .mlook _ _ x y| .mdel x y| .mlookK _ _ _ x y| .mdelK _ x y| .eqP _ x y| .eqQ _ x y| .iaddr _ x y| .idx x y| .mksl _ _ _ x y| .app _ _ _ x y| .appz _ _ _ x y=>[x,y]
 | .mkfn _ a b=>a++b
 | .slc _ _ x a b c=>x::(a.toList++b.toList++c.toList)
 | .call _ l=>l
 | .callv x l=>x::l
 | .raw _ l=>l
def tmpsOf (l:List Opd):List Nat:=l.filterMap fun| .t i=>some i|_=>none
def jI (ops:Array Oper):Option (Nat × Bool)→Option (Option (Nat × Bool))
 |none=>some none
 |some (j,w)=>match (ops[j]?).bind (·.dst) with
  |some d=>some (some (d,w))
  |none=>none
def AP (P:Program) (o:Oper):Option AOp:=some (match cOp P o with
 |some q=>q
 |none=>(fh P o).getD .dead)
def qy:AOp→Bool
 | .raw _ _=>true
 |_=>false
theorem AQ {P:Program} {o:Oper} {k:RK} {xs:List Opd} (h:AP P o=some (.raw k xs)):fh P o=some (.raw k xs):=by
 simp only[AP,Option.some.injEq] at h
 split at h
 ·rename_i q hc
  subst h
  exact absurd hc (yA _ _)
 ·cases hb:fh P o with
  |none=>rw[hb] at h;simp at h
  |some q=>rw[hb] at h;simp at h;rw[h]
theorem fA {P:Program} {o:Oper} {op:AOp} (h:AP P o=some op) (hn:op≠ .dead) (hr:qy op=false):cOp P o=some op:=by
 simp only[AP,Option.some.injEq] at h
 cases hc:cOp P o with
 |none=>
  rw[hc] at h
  simp only at h
  cases hb:fh P o with
  |none=>rw[hb] at h;exact absurd h.symm hn
  |some q=>
   rw[hb] at h
   obtain ⟨k,xs,rfl⟩:=AL hb
   simp at h
   subst h
   simp[qy] at hr
 |some q=>rw[hc] at h;simp at h;rw[h]
def bm (P:Program) (N:Nat) (ops:Array Oper) (o:Oper):Option aw:=
 match AP P o,jI ops o.guard with
 |some op,some g=>if o.dst.all (fun d=>decide (d<N))&&(tmpsOf (bf op)).all (fun i=>(names ops o).contains i) then some ⟨o.dst,g,op⟩ else none
 |_,_=>none
def cG (P:Program) (N:Nat) (ops:Array Oper):List Oper→Option (List aw)
 |[]=>some []
 |o::l=>match bm P N ops o,cG P N ops l with
  |some a,some r=>some (a::r)
  |_,_=>none
def bg:AOp→Bool
 | .alloc _| .box _| .load _ _| .store _ _ _| .conv .s2b _| .conv .s2s _| .mksl _ _ _ _ _| .app _ _ _ _ _| .appz _ _ _ _ _| .clr _ _ _| .mkmap| .mlook _ _ _ _| .mput _ _ _| .mdel _ _| .mlen _| .mlookK _ _ _ _ _| .mputK _ _ _ _| .mdelK _ _ _| .eqQ _ _ _| .buildSl _ _| .call _ _| .callv _ _| .pan _=>true
 |_=>false
def tidy (ops:Array Oper):Bool:=
 let b:=Region.before ops
 let l:=ops.toList.zipIdx
 (l.all fun (o,i)=>o.after.all fun e=> !Region.binds .any e||decide (e.on<i))&&
 l.all fun (o,i)=>match o.dst with
  |none=>true
  |some d=>l.all fun (o',j)=>i == j|| !(names ops o').contains d||(b.getD j 0).testBit i||(b.getD i 0).testBit j
def jf (ops:Array Oper) (items:List aw):List (Nat × Nat):=
 let b:=Region.before ops
 (List.range ops.size).flatMap fun j=>(List.range j).filterMap fun i=>
  if (match items[i]?,items[j]? with|some x,some y=>bg x.op&&bg y.op|_,_=>false)&& !(b.getD j 0).testBit i then some (i,j) else none
def dO:Code→Bool
 | .rangeFunc _ _ _ _=>false
 | .seq a b=>dO a&&dO b
 | .cond _ a b=>dO a&&dO b
 | .block _ a=>dO a
 | .loop a=>dO a
 | .scope a=>dO a
 |_=>true
def okR (c:Code) (ro:Option Nat):Prop:=ro=none∨dO c=true
def cCode (P:Program) (N:Nat):Code→Option AC
 | .skip=>some .skip
 | .region _ ops draw=>match cG P N ops ops.toList with
  |some items=>if draw then (if P.follows .mixedOrders&&tidy ops then some (.reg items (some (jf ops items))) else none) else some (.reg items none)
  |none=>none
 | .seq a b=>match cCode P N a,cCode P N b with
  |some x,some y=>some (.seq x y)
  |_,_=>none
 | .cond c a b=>match opd P 0 c,cCode P N a,cCode P N b with
  |some c,some x,some y=>some (.cond c x y)
  |_,_,_=>none
 | .block id a=>(cCode P N a).map (.block id)
 | .loop a=>(cCode P N a).map .loop
 | .exit id=>some (.exit id)
 | .ret=>some .ret
 | .scope a=>(cCode P N a).map .scope
 | .label l=>some (.label l)
 | .goto l=>some (.goto l)
 | .rangeFunc g ps asg body=>match opd P 0 g,cCode P N asg,cCode P N body with
  |some g,some x,some y=>if dO asg&&dO body then some (.p8 g ps.toList x y) else none
  |_,_,_=>none
 | .refuse _=>none
def ag (x y:AV):Prop:=∀G w v,ak G w x v→ak G w y v
theorem ag.refl (x:AV):ag x x:=fun _ _ _ h=>h
theorem ag.trans {x y z:AV} (a:ag x y) (b:ag y z):ag x z:=fun G w v h=>b G w v (a G w v h)
theorem ag.any (x:AV):ag x .any:=fun _ _ _ _=>by simp[ak]
def af (l m:List AV):Prop:=∀G w vs,an G w l vs→an G w m vs
theorem af.refl (l:List AV):af l l:=fun _ _ _ h=>h
theorem af.nil:af [] []:=af.refl _
theorem af.cons {x y:AV} {l m:List AV} (a:ag x y) (b:af l m):af (x::l) (y::m):=by
 intro G w vs h
 simp only[an] at h ⊢
 obtain ⟨v,us,e,h1,h2⟩:=h
 exact ⟨v,us,e,a G w v h1,b G w us h2⟩
theorem ag.cap {sz:Nat} {xs:List AV} {c:Cap}:ag (.sl sz xs c) (.sl sz xs .any):=by
 intro G w v h
 simp only[ak] at h ⊢
 rcases h with ⟨a,b,_⟩|⟨B,off,C,vs,h1,h2,h3,h4,h5,h6⟩
 ·exact .inl ⟨a,b,by simp[gW]⟩
 ·exact .inr ⟨B,off,C,vs,h1,h2,h3,h4,h5,by simp[bY]⟩
theorem ag.nil {sz sz':Nat} {c:Cap}:ag (.sl sz [] c) (.sl sz' [] .any):=by
 intro G w v h
 simp only[ak] at h ⊢
 rcases h with ⟨a,b,_⟩|⟨B,off,C,vs,h1,h2,h3,h4,h5,h6⟩
 ·exact .inl ⟨a,b,by simp[gW]⟩
 ·have hv:vs=[]:=by simpa using h3
  subst hv
  exact .inr ⟨B,off,C,[],h1,h2,by simp,by simp[aq],Imm.nil,by simp[bY]⟩
theorem ag.agg {l m:List AV} (a:af l m):ag (.agg l) (.agg m):=by
 intro G w v h
 simp only[ak] at h ⊢
 obtain ⟨vs,e,h⟩:=h
 exact ⟨vs,e,a G w vs h⟩
theorem ag.tup {l m:List AV} (a:af l m):ag (.tup l) (.tup m):=by
 intro G w v h
 simp only[ak] at h ⊢
 obtain ⟨vs,e,h⟩:=h
 exact ⟨vs,e,a G w vs h⟩
section
variable {P:Program}
def aN (P:Program) (f:FuncId) (args:List AV) (h:H) (r:AV) (h':H):Prop:=
 ∀G w vs,an G w args vs→aM G h w→bH G h h'→Calls P f vs.toArray w fun e w'=>∃v G',e= .returned v∧Trans G w h G' w' h'∧aM G' h' w'∧ak G' w' r v
def H0 (n m:Nat):H:= .only ah [] n m
def aE (P:Program) (f:FuncId) (args:List AV) (r:AV):Prop:=∀n m,aN P f args (H0 n m) r (H0 n m)
structure St where
 t:Tm
 h:H
inductive aA where
 |normal
 |exit (id:Nat)
 |goto (l:Nat)
 |ret
 |panic (v:Value)
def aA.dA:aA→Exit→Prop
 | .normal,.normal=>True
 | .exit i,.exit j=>i=j
 | .goto i,.goto j=>i=j
 | .ret,.ret=>True
 | .panic v,.panic l=>l=[{v:=v,recovered:=false}]
 |_,_=>False
def Marks (G:aB) (w:World) (h:H) (l:List Deferred):Prop:=l.Nodup∧∀d∈l,∃D,d= {target:= .collected D,args:= #[]}∧w.heap[D]? =some (.deferred (some []))∧¬h.O G D∧¬h.T G D
theorem rI {w:World} {B:Nat} {o:Go.Obj} (h:w.heap[B]? =some o):B<w.heap.size:=by
 rcases Nat.lt_or_ge B w.heap.size with hb|hb
 ·exact hb
 ·have:w.heap[B]? =none:=by simp;omega
  rw[this] at h;cases h
theorem Marks.mono {G G':aB} {w w':World} {h h':H} {l:List Deferred} (m:Marks G w h l) (T:Trans G w h G' w' h'):Marks G' w' h' l:=by
 refine ⟨m.1,fun d hd=>?_⟩
 obtain ⟨D,e,h1,h2,h3⟩:=m.2 d hd
 have hB:=rI h1
 exact ⟨D,e,(T.keep D hB h2 h3).trans h1,fun x=>h2 (T.O_new D hB x),fun x=>h3 (T.T_new D hB x)⟩
structure Rel (N:Nat) (s:St) (G:aB) (w:World) (a:Act):Prop where
 size:a.tmps.size=N
 t:bK G w s.t a
 h:aM G s.h w
 df:Marks G w s.h a.defers
def jJ (w:World) (l l':List Deferred):Prop:=∀d∈l',d∈l∨∃D,w.heap.size≤D∧d= {target:= .collected D,args:= #[]}
theorem jJ.refl {w:World} {l:List Deferred}:jJ w l l:=fun d h=> .inl h
theorem jJ.trans {w w':World} {l l' l'':List Deferred} (a:jJ w l l') (hs:w.heap.size≤w'.heap.size) (b:jJ w' l' l''):jJ w l l'':=by
 intro d h
 rcases b d h with h|⟨D,h1,h2⟩
 ·exact a d h
 ·exact .inr ⟨D,by omega,h2⟩
def Run (P:Program) (N:Nat) (c:Code) (s:St) (e:aA) (s':St):Prop:=
 (s.h.n≤s'.h.n∧s.h.m≤s'.h.m)∧∀ro,okR c ro→∀G w a,Rel N s G w a→bH G s.h s'.h→c.wpIn (rd ro) 0 P (fun e' a' w'=>e.dA e'∧jJ w a.defers a'.defers∧∃G',Trans G w s.h G' w' s'.h∧Rel N s' G' w' a') a w
def Wp (P:Program) (N:Nat) (c:AC) (s:St) (Q:aA→St→Prop):Prop:=
 ∀code,cCode P N code=some c→∃e s',Run P N code s e s'∧Q e s'
variable {N:Nat} {s:St} {Q:aA→St→Prop}
theorem okR.seq {a b:Code} {ro:Option Nat} (h:okR (.seq a b) ro):okR a ro∧okR b ro:=by
 rcases h with h|h
 ·exact ⟨.inl h,.inl h⟩
 ·simp only[dO,Bool.and_eq_true] at h
  exact ⟨.inr h.1,.inr h.2⟩
theorem okR.cond {z:Operand} {a b:Code} {ro:Option Nat} (h:okR (.cond z a b) ro) (c:Bool):okR (if c then a else b) ro:=by
 rcases h with h|h
 ·exact .inl h
 ·simp only[dO,Bool.and_eq_true] at h
  cases c
  ·exact .inr h.2
  ·exact .inr h.1
theorem okR.block {id:Nat} {a:Code} {ro:Option Nat} (h:okR (.block id a) ro):okR a ro:=h
theorem okR.loop {a:Code} {ro:Option Nat} (h:okR (.loop a) ro):okR a ro:=h
theorem okR.scope {a:Code} {ro:Option Nat} (h:okR (.scope a) ro):okR a ro:=h
theorem okR.find {l:Nat} {ro:Option Nat}:∀{c rest:Code},okR c ro→findLabel c l=some rest→okR rest ro:=by
 intro c rest h hf
 rcases h with h|h
 ·exact .inl h
 ·right
  induction c generalizing rest with
  |seq a b iha ihb=>
   simp only[dO,Bool.and_eq_true] at h
   simp only[findLabel] at hf
   split at hf
   ·rename_i r hr
    cases hf
    simp only[dO,Bool.and_eq_true]
    exact ⟨iha hr h.1,h.2⟩
   ·exact ihb hf h.2
  |label l'=>
   simp only[findLabel] at hf
   split at hf
   ·cases hf;rfl
   ·cases hf
  |_=>simp[findLabel] at hf
theorem Wp.mono {c:AC} {Q':aA→St→Prop} (h:Wp P N c s Q) (hq:∀e s',Q e s'→Q' e s'):Wp P N c s Q':=
 fun code hc=>let ⟨e,s',r,q⟩:=h code hc;⟨e,s',r,hq e s' q⟩
theorem yF {code:Code} (h:cCode P N code=some .skip):code= .skip:=by
 unfold cCode at h
 split at h<;>(try rfl)<;>(try cases h)
 all_goals (repeat' split at h)<;>(try cases h)<;>simp at h
theorem Wp.skip (h:Q .normal s):Wp P N .skip s Q:=by
 intro code hc
 obtain rfl:=yF hc
 exact ⟨.normal,s,⟨⟨Nat.le_refl _,Nat.le_refl _⟩,fun ro okc G w a r _=>wpIn_skip ⟨trivial,.refl,G,Trans.refl _ _ _,r⟩⟩,h⟩
theorem yG {code:Code} {id:Nat} (h:cCode P N code=some (.exit id)):code= .exit id:=by
 unfold cCode at h
 split at h<;>(try rfl)<;>(try cases h)
 all_goals (repeat' split at h)<;>(try cases h)<;>(try rfl)<;>simp at h
theorem Wp.exit {id:Nat} (h:Q (.exit id) s):Wp P N (.exit id) s Q:=by
 intro code hc
 obtain rfl:=yG hc
 exact ⟨.exit id,s,⟨⟨Nat.le_refl _,Nat.le_refl _⟩,fun ro okc G w a r _=>wpIn_exit ⟨rfl,.refl,G,Trans.refl _ _ _,r⟩⟩,h⟩
theorem AR {code:Code} (h:cCode P N code=some .ret):code= .ret:=by
 unfold cCode at h
 split at h<;>(try rfl)<;>(try cases h)
 all_goals (repeat' split at h)<;>(try cases h)<;>(try rfl)<;>simp at h
theorem Wp.ret (h:Q .ret s):Wp P N .ret s Q:=by
 intro code hc
 obtain rfl:=AR hc
 exact ⟨.ret,s,⟨⟨Nat.le_refl _,Nat.le_refl _⟩,fun ro okc G w a r _=>wpIn_ret ⟨trivial,.refl,G,Trans.refl _ _ _,r⟩⟩,h⟩
theorem AS {code:Code} {x y:AC} (h:cCode P N code=some (.seq x y)):∃a b,code= .seq a b∧cCode P N a=some x∧cCode P N b=some y:=by
 cases code<;>simp only[cCode] at h<;>(try cases h)
 ·(repeat' split at h)<;>cases h
 ·split at h
  ·cases h;exact ⟨_,_,rfl,‹_›,‹_›⟩
  ·cases h
 ·(repeat' split at h)<;>cases h
 all_goals first|(simp at h;done)|((repeat' split at h)<;>cases h;done)
def aA.andThen (K:St→Prop) (Q:aA→St→Prop):aA→St→Prop
 | .normal,s=>K s
 |e,s=>Q e s
theorem Wp.seq {x y:AC} (h:Wp P N x s (aA.andThen (fun s'=>Wp P N y s' Q) Q)):Wp P N (.seq x y) s Q:=by
 intro code hc
 obtain ⟨a,b,rfl,ha,hb⟩:=AS hc
 obtain ⟨e,s1,r1,q1⟩:=h a ha
 cases e with
 |normal=>
  obtain ⟨e2,s2,r2,q2⟩:=q1 b hb
  obtain ⟨⟨l1,l2⟩,r1⟩:=r1
  obtain ⟨⟨l3,l4⟩,r2⟩:=r2
  refine ⟨e2,s2,⟨⟨by omega,by omega⟩,fun ro okc G w ac r F=>wpIn_seq (wpIn_mono (r1 ro okc.seq.1 G w ac r (F.sub (Nat.le_refl _) l3 (Nat.le_refl _) l4)) ?_)⟩,q2⟩
  rintro e' a' w' ⟨h1,h2,G',T1,r'⟩
  cases e'<;>simp only[aA.dA] at h1
  refine wpIn_mono (r2 ro okc.seq.2 G' w' a' r' (F.step T1)) ?_
  rintro e'' a'' w'' ⟨k1,k2,G'',T2,r''⟩
  exact ⟨k1,h2.trans T1.size_le k2,G'',T1.trans r.h r'.h T2,r''⟩
 |exit id=>
  refine ⟨.exit id,s1,⟨r1.1,fun ro okc G w ac r F=>wpIn_seq (wpIn_mono (r1.2 ro okc.seq.1 G w ac r F) ?_)⟩,q1⟩
  rintro e' a' w' ⟨h1,h2⟩
  cases e'<;>simp only[aA.dA] at h1
  exact ⟨h1,h2⟩
 |goto l=>
  refine ⟨.goto l,s1,⟨r1.1,fun ro okc G w ac r F=>wpIn_seq (wpIn_mono (r1.2 ro okc.seq.1 G w ac r F) ?_)⟩,q1⟩
  rintro e' a' w' ⟨h1,h2⟩
  cases e'<;>simp only[aA.dA] at h1
  exact ⟨h1,h2⟩
 |ret=>
  refine ⟨.ret,s1,⟨r1.1,fun ro okc G w ac r F=>wpIn_seq (wpIn_mono (r1.2 ro okc.seq.1 G w ac r F) ?_)⟩,q1⟩
  rintro e' a' w' ⟨h1,h2⟩
  cases e'<;>simp only[aA.dA] at h1
  exact ⟨trivial,h2⟩
 |panic v=>
  refine ⟨.panic v,s1,⟨r1.1,fun ro okc G w ac r F=>wpIn_seq (wpIn_mono (r1.2 ro okc.seq.1 G w ac r F) ?_)⟩,q1⟩
  rintro e' a' w' ⟨h1,h2⟩
  cases e'<;>simp only[aA.dA] at h1
  exact ⟨h1,h2⟩
theorem yH {code:Code} {c:Opd} {x y:AC} (h:cCode P N code=some (.cond c x y)):∃z a b,code= .cond z a b∧opd P 0 z=some c∧cCode P N a=some x∧cCode P N b=some y:=by
 cases code<;>simp only[cCode] at h<;>(try cases h)
 ·(repeat' split at h)<;>cases h
 ·(repeat' split at h)<;>cases h
 ·split at h
  ·cases h;exact ⟨_,_,_,rfl,‹_›,‹_›,‹_›⟩
  ·cases h
 all_goals first|(simp at h;done)|((repeat' split at h)<;>cases h;done)
theorem Wp.cond {c:Opd} {x y:AC} {b:Bool} (hb:ev s.t c= .bool b) (h:Wp P N (if b then x else y) s Q):Wp P N (.cond c x y) s Q:=by
 intro code hc
 obtain ⟨z,p,q,rfl,h1,h2,h3⟩:=yH hc
 obtain ⟨e,s',r,q⟩:=h (if b then p else q) (by cases b<;>simpa)
 refine ⟨e,s',⟨r.1,fun ro okc G w a rel F=>?_⟩,q⟩
 have hz:a.eval z= .bool b:=by
  have:=ao h1 rel.t
  rw[hb] at this
  simpa only[ak] using this
 exact wpIn_cond hz (by have:=r.2 ro (okc.cond b) G w a rel F;cases b<;>exact this)
theorem Wp.cond_true {c:Opd} {x y:AC} (hb:ev s.t c= .bool true) (h:Wp P N x s Q):Wp P N (.cond c x y) s Q:=Wp.cond hb h
theorem Wp.cond_false {c:Opd} {x y:AC} (hb:ev s.t c= .bool false) (h:Wp P N y s Q):Wp P N (.cond c x y) s Q:=Wp.cond hb h
theorem Wp.oX {c:Opd} {x y:AC} {b:Bool} (hb:ev s.t c= .bool b) (ht:b=true→Wp P N x s Q) (hf:b=false→Wp P N y s Q):Wp P N (.cond c x y) s Q:=by
 cases b
 ·exact Wp.cond hb (hf rfl)
 ·exact Wp.cond hb (ht rfl)
def aA.inBlock (id:Nat) (Q:aA→St→Prop):aA→St→Prop
 | .exit i,s=>if i=id then Q .normal s else Q (.exit i) s
 |e,s=>Q e s
theorem uR {code:Code} {id:Nat} {x:AC} (h:cCode P N code=some (.block id x)):∃a,code= .block id a∧cCode P N a=some x:=by
 cases code<;>simp only[cCode] at h<;>(try cases h)
 ·(repeat' split at h)<;>cases h
 ·(repeat' split at h)<;>cases h
 ·(repeat' split at h)<;>cases h
 ·simp only[Option.map_eq_some_iff] at h
  obtain ⟨a,h1,h2⟩:=h
  cases h2
  exact ⟨_,rfl,h1⟩
 all_goals first|(simp at h;done)|((repeat' split at h)<;>cases h;done)
theorem Wp.block {id:Nat} {x:AC} (h:Wp P N x s (aA.inBlock id Q)):Wp P N (.block id x) s Q:=by
 intro code hc
 obtain ⟨a,rfl,ha⟩:=uR hc
 obtain ⟨e,s1,r1,q1⟩:=h a ha
 cases e with
 |normal=>
  refine ⟨.normal,s1,⟨r1.1,fun ro okc G w ac r F=>wpIn_block (wpIn_mono (r1.2 ro okc.block G w ac r F) ?_)⟩,q1⟩
  rintro e' a' w' ⟨h1,h2⟩
  cases e'<;>simp only[aA.dA] at h1
  exact ⟨trivial,h2⟩
 |goto l=>
  refine ⟨.goto l,s1,⟨r1.1,fun ro okc G w ac r F=>wpIn_block (wpIn_mono (r1.2 ro okc.block G w ac r F) ?_)⟩,q1⟩
  rintro e' a' w' ⟨h1,h2⟩
  cases e'<;>simp only[aA.dA] at h1
  exact ⟨h1,h2⟩
 |ret=>
  refine ⟨.ret,s1,⟨r1.1,fun ro okc G w ac r F=>wpIn_block (wpIn_mono (r1.2 ro okc.block G w ac r F) ?_)⟩,q1⟩
  rintro e' a' w' ⟨h1,h2⟩
  cases e'<;>simp only[aA.dA] at h1
  exact ⟨trivial,h2⟩
 |panic v=>
  refine ⟨.panic v,s1,⟨r1.1,fun ro okc G w ac r F=>wpIn_block (wpIn_mono (r1.2 ro okc.block G w ac r F) ?_)⟩,q1⟩
  rintro e' a' w' ⟨h1,h2⟩
  cases e'<;>simp only[aA.dA] at h1
  exact ⟨h1,h2⟩
 |exit i=>
  simp only[aA.inBlock] at q1
  by_cases hi:i=id
  ·rw[if_pos hi] at q1
   refine ⟨.normal,s1,⟨r1.1,fun ro okc G w ac r F=>wpIn_block (wpIn_mono (r1.2 ro okc.block G w ac r F) ?_)⟩,q1⟩
   rintro e' a' w' ⟨h1,h2⟩
   cases e'<;>simp only[aA.dA] at h1
   subst h1
   simp only[Exit.inBlock,hi,if_true]
   exact ⟨trivial,h2⟩
  ·rw[if_neg hi] at q1
   refine ⟨.exit i,s1,⟨r1.1,fun ro okc G w ac r F=>wpIn_block (wpIn_mono (r1.2 ro okc.block G w ac r F) ?_)⟩,q1⟩
   rintro e' a' w' ⟨h1,h2⟩
   cases e'<;>simp only[aA.dA] at h1
   subst h1
   simp only[Exit.inBlock,hi,if_false]
   exact ⟨rfl,h2⟩
structure aF (s s':St):Prop where
 n:s.h.n≤s'.h.n
 m:s.h.m≤s'.h.m
 go:∀N G w a,Rel N s G w a→bH G s.h s'.h→∃G',Trans G w s.h G' w s'.h∧Rel N s' G' w a
theorem aF.refl (s:St):aF s s:=⟨Nat.le_refl _,Nat.le_refl _,fun N G w a r _=>⟨G,Trans.refl _ _ _,r⟩⟩
theorem aF.trans {s s' s'':St} (a:aF s s') (b:aF s' s''):aF s s'':=by
 refine ⟨Nat.le_trans a.n b.n,Nat.le_trans a.m b.m,fun N G w ac r F=>?_⟩
 obtain ⟨G1,T1,r1⟩:=a.go N G w ac r (F.sub (Nat.le_refl _) b.n (Nat.le_refl _) b.m)
 obtain ⟨G2,T2,r2⟩:=b.go N G1 w ac r1 (F.step T1)
 exact ⟨G2,T1.trans r.h r1.h T2,r2⟩
def cK:Obj→Obj→Prop
 | .cells cs,.cells cs'=>af cs cs'
 | .map es,.map es'=>es=es'
 | .loop N t ps a b st p,o'=>o'= .loop N t ps a b st p
 | .raw c,o'=>o'= .raw c
 |_,_=>False
theorem cK.refl (o:Obj):cK o o:=by cases o<;>simp[cK,af.refl]
def HLe (h h':H):Prop:=(∀j o',h'.objs j=some o'→∃o,h.objs j=some o∧cK o o')∧∀t∈h'.toks,t∈h.toks
theorem H.sub.le {h h':H} (s:h'.sub h):HLe h h':=⟨fun j o x=>⟨o,s.1 j o x,cK.refl o⟩,s.2⟩
theorem kM.sub {G:aB} {w:World} {o o':Obj} {x:Option Go.Obj} (h:kM G w o x) (s:cK o o'):kM G w o' x:=by
 cases o<;>cases o'<;>simp only[cK] at s
 ·simp only[kM] at h ⊢
  obtain ⟨vs,rest,T,fr,h1,h2,h3⟩:=h
  exact ⟨vs,rest,T,fr,h1,s G w vs h2,h3⟩
 ·subst s;exact h
 all_goals (rw [s];exact h)
theorem aM.le {G:aB} {w:World} {h h':H} (R:aM G h w) (s:HLe h h'):aM G h' w where
 obj id o' ho':=by
  obtain ⟨o,ho,hs⟩:=s.1 id o' ho'
  obtain ⟨a,b,c,d⟩:=R.obj id o ho
  exact ⟨a,b,c,d.sub hs⟩
 inj id id' o o' ho ho':=by
  obtain ⟨p,hp,-⟩:=s.1 id o ho
  obtain ⟨p',hp',-⟩:=s.1 id' o' ho'
  exact R.inj id id' p p' hp hp'
 tok t ht:=R.tok t (s.2 t ht)
 tinj t ht t' ht':=R.tinj t (s.2 t ht) t' (s.2 t' ht')
theorem Trans.le {G:aB} {w:World} {h h':H} (s:HLe h h') (n:h.n≤h'.n) (m:h.m≤h'.m):Trans G w h G w h' where
 dom_le _ x:=x
 dom_new _:= .inl
 ι_eq _ _:=rfl
 tdom_le _ x:=x
 tdom_new _:= .inl
 τ_eq _ _:=rfl
 n_le:=n
 m_le:=m
 size_le:=Nat.le_refl _
 os:=rfl
 output:=rfl
 form _ _:=bw.refl _
 keep _ _ _ _:=rfl
 own_keep _ _ _:=Iff.rfl
 lim_keep _ _ _ _:=rfl
 tok_keep _ _ _ _ e he:=⟨fun _ _=>rfl,fun e' he'=>by rw[he] at he';cases he';exact Nat.le_refl _⟩
 O_new _ _:=fun ⟨id,o,ho,e⟩=>let ⟨o',ho',_⟩:=s.1 id o ho;⟨id,o',ho',e⟩
 T_new _ _:=fun ⟨t,ht,e⟩=>⟨t,s.2 t ht,e⟩
 objs_new j o x:=let ⟨o',ho',_⟩:=s.1 j o x;.inl ⟨o',ho'⟩
 toks_new t x:= .inl (s.2 t x)
theorem aF.mk' {t t':Tm} {h h':H} (ht:∀i,ag (t i) (t' i)) (hh:HLe h h') (n:h.n≤h'.n) (m:h.m≤h'.m):aF ⟨t,h⟩ ⟨t',h'⟩:=
 ⟨n,m,fun N G w a r _=>⟨G,Trans.le hh n m,⟨r.size,fun i=>ht i G w _ (r.t i),r.h.le hh,r.df.mono (Trans.le hh n m)⟩⟩⟩
theorem aF.tok (t:Tm) (h:H):aF ⟨t,h⟩ ⟨t,{h with toks:=h.m::h.toks,m:=h.m+1}⟩:=by
 refine ⟨Nat.le_refl _,Nat.le_succ _,fun N G w a r F=>?_⟩
 have hm:¬G.tdom h.m:=F.2 h.m (Nat.le_refl _) (Nat.lt_succ_self _)
 let G':aB:={G with tdom:=fun x=>G.tdom x∨x=h.m,τ:=upd G.τ h.m none}
 have hτ:G'.τ h.m=none:=by simp[G',upd]
 have hne:∀x,G.tdom x→G'.τ x=G.τ x:=fun x hx=>by
  simp only[G',upd]
  rw[if_neg]
  rintro rfl;exact hm hx
 have T:Trans G w h G' w {h with toks:=h.m::h.toks,m:=h.m+1}:=by
  constructor
  ·exact fun _ x=>x
  ·exact fun _=> .inl
  ·exact fun _ _=>rfl
  ·exact fun _=> .inl
  ·rintro x (hx|rfl)
   ·exact .inl hx
   ·exact .inr ⟨Nat.le_refl _,Nat.lt_succ_self _⟩
  ·exact hne
  ·exact Nat.le_refl _
  ·exact Nat.le_succ _
  ·exact Nat.le_refl _
  ·rfl
  ·rfl
  ·exact fun _ _=>bw.refl _
  ·exact fun _ _ _ _=>rfl
  ·exact fun _ _ _=>Iff.rfl
  ·exact fun _ _ _ _=>rfl
  ·exact fun _ _ _ _ e he=>⟨fun _ _=>rfl,fun e' he'=>by
    have:G.lim _=some e':=he'
    rw[he] at this;cases this;exact Nat.le_refl _⟩
  ·exact fun _ _ x=>x
  ·rintro B _ ⟨x,hx,e,hte⟩
   rcases List.mem_cons.1 hx with rfl|hx
   ·rw[hτ] at hte;cases hte
   ·exact ⟨x,hx,e,by rw[←hte];exact (hne x (r.h.tok x hx).1).symm⟩
  ·exact fun j o x=> .inl ⟨o,x⟩
  ·intro x hx
   rcases List.mem_cons.1 hx with rfl|hx
   ·exact .inr ⟨Nat.le_refl _,Nat.lt_succ_self _⟩
   ·exact .inl hx
 refine ⟨G',T,r.size,fun i=>ak.mono r.h T _ _ (r.t i),⟨?_,r.h.inj,?_,?_⟩,r.df.mono T⟩
 ·intro id o ho
  obtain ⟨q1,q2,q3,q4⟩:=r.h.obj id o ho
  exact ⟨q1,q2,q3,q4.mono r.h T⟩
 ·intro x hx
  rcases List.mem_cons.1 hx with rfl|hx
  ·exact ⟨.inr rfl,fun B e hte=>by rw[hτ] at hte;cases hte⟩
  ·obtain ⟨q1,q2⟩:=r.h.tok x hx
   exact ⟨.inl q1,fun B e hte=>q2 B e (by rw[←hne x q1];exact hte)⟩
 ·intro x hx x' hx' B e e' h1 h2
  rcases List.mem_cons.1 hx with rfl|hx
  ·rw[hτ] at h1;cases h1
  ·rcases List.mem_cons.1 hx' with rfl|hx'
   ·rw[hτ] at h2;cases h2
   ·exact r.h.tinj x hx x' hx' B e e' (by rw[←hne x (r.h.tok x hx).1];exact h1) (by rw[←hne x' (r.h.tok x' hx').1];exact h2)
theorem Run.le {c:Code} {s' s'':St} {e:aA} (h:aF s s') (r:Run P N c s' e s''):Run P N c s e s'':=by
 obtain ⟨⟨rn,rm⟩,rr⟩:=r
 refine ⟨⟨Nat.le_trans h.n rn,Nat.le_trans h.m rm⟩,fun ro okc G w a rel F=>?_⟩
 obtain ⟨G1,T1,rel1⟩:=h.go N G w a rel (F.sub (Nat.le_refl _) rn (Nat.le_refl _) rm)
 refine wpIn_mono (rr ro okc G1 w a rel1 (F.step T1)) ?_
 rintro e' a' w' ⟨h1,h2,G',T,r'⟩
 exact ⟨h1,h2,G',T1.trans rel.h rel1.h T,r'⟩
theorem Wp.le {c:AC} {s':St} (h:aF s s') (hw:Wp P N c s' Q):Wp P N c s Q:=
 fun code hc=>let ⟨e,s'',r,q⟩:=hw code hc;⟨e,s'',r.le h,q⟩
theorem qz {code:Code} {x:AC} (h:cCode P N code=some (.loop x)):∃a,code= .loop a∧cCode P N a=some x:=by
 cases code<;>simp only[cCode] at h<;>(try cases h)
 ·(repeat' split at h)<;>cases h
 ·(repeat' split at h)<;>cases h
 ·(repeat' split at h)<;>cases h
 ·simp at h
 ·simp only[Option.map_eq_some_iff] at h
  obtain ⟨a,h1,h2⟩:=h
  cases h2
  exact ⟨_,rfl,h1⟩
 all_goals first|(simp at h;done)|((repeat' split at h)<;>cases h;done)
theorem uS {F:Fence} {n:Nat} {β:Type} {c:Code} {Q:Exit→Act→World→Prop} (I:β→Act→World→Prop) (μ:β→Nat)
  (round:∀b a w,I b a w→c.wpIn F n P (Exit.then (fun a' w'=>∃b',I b' a' w'∧μ b'<μ b) Q) a w) {b:β} {a:Act} {w:World} (h₀:I b a w):(Code.loop c).wpIn F n P Q a w:=by
 intro fr k cs hro hb hr
 have key:∀j b a w,μ b=j→I b a w→∃e a' w',Q e a' w'∧ArrivesIn (Machine.fenced P F) P (lone (fr.atR a (.code c:: .inLoop c::k)) cs w) fr k cs e a' w':=by
  intro j
  induction j using Nat.strongRecOn with
  |_ j ih=>
   intro b a w hn hI
   obtain ⟨e,a₁,w₁,hq,harr⟩:=round b a w hI fr (.inLoop c::k) cs hro hb hr
   cases e with
   |normal=>
    obtain ⟨b₁,hI₁,hlt⟩:=hq
    obtain ⟨e₂,a₂,w₂,hq₂,harr₂⟩:=ih (μ b₁) (hn▸hlt) b₁ a₁ w₁ rfl hI₁
    exact ⟨e₂,a₂,w₂,hq₂,.of_steps (StepsIn.trans harr (.one (fenced_calm hb hr rfl) stepR_inLoop)) harr₂⟩
   |exit id=>exact ⟨_,a₁,w₁,hq,.pass (x:= .inLoop c) rfl (fun _ _=> .inl (by simp)) harr⟩
   |goto l=>exact ⟨_,a₁,w₁,hq,.pass (x:= .inLoop c) rfl (fun _ _=> .inl (by simp)) harr⟩
   |ret=>exact ⟨_,a₁,w₁,hq,.pass (x:= .inLoop c) rfl (fun _ _=> .inl (by simp)) harr⟩
   |panic ch=>exact ⟨_,a₁,w₁,hq,.pass (x:= .inLoop c) rfl (fun _ _=> .inl (by simp)) harr⟩
   |outgrown=>exact ⟨_,a₁,w₁,hq,.pass (x:= .inLoop c) rfl (fun _ _=> .inl (by simp)) harr⟩
 obtain ⟨e,a',w',hq,harr⟩:=key _ b a w rfl h₀
 exact ⟨e,a',w',hq,.of_steps (.one (fenced_calm hb hr rfl) stepR_loop) harr⟩
inductive lz {β:Type} (P:Program) (N:Nat) (c:Code) (S:β→St) (μ:β→Nat):β→aA→St→Prop where
 |last {b:β} {e:aA} {s':St} (r:Run P N c (S b) e s') (hne:e≠ .normal):lz P N c S μ b e s'
 |more {b b':β} {e:aA} {s1 s':St} (r:Run P N c (S b) .normal s1) (hle:aF s1 (S b')) (hlt:μ b'<μ b) (rest:lz P N c S μ b' e s'):lz P N c S μ b e s'
theorem lz.nm {β:Type} {c:Code} {S:β→St} {μ:β→Nat} {b:β} {e:aA} {s':St} (h:lz P N c S μ b e s'):(S b).h.n≤s'.h.n∧(S b).h.m≤s'.h.m:=by
 induction h with
 |last r _=>exact r.1
 |more r hle _ _ ih=>have:=r.1;have:=hle.n;have:=hle.m;omega
theorem Wp.loop {β:Type} (S:β→St) (I:β→Prop) (μ:β→Nat) {c:AC} (b0:β) (h0:I b0) (hs:aF s (S b0))
  (round:∀b,I b→Wp P N c (S b) (aA.andThen (fun s'=>∃b',I b'∧μ b'<μ b∧aF s' (S b')) Q)):Wp P N (.loop c) s Q:=by
 intro code hc
 obtain ⟨x,rfl,hx⟩:=qz hc
 have ex:∀n b,μ b=n→I b→∃e s',lz P N x S μ b e s'∧Q e s':=by
  intro n
  induction n using Nat.strongRecOn with
  |_ n ih=>
   intro b hn hb
   obtain ⟨e,s1,r1,q1⟩:=round b hb x hx
   cases e with
   |normal=>
    obtain ⟨b',i1,i2,i3⟩:=q1
    obtain ⟨e,s',r',q'⟩:=ih (μ b') (hn▸i2) b' rfl i1
    exact ⟨e,s',.more r1 i3 i2 r',q'⟩
   |exit id=>exact ⟨_,s1,.last r1 (by simp),q1⟩
   |goto l=>exact ⟨_,s1,.last r1 (by simp),q1⟩
   |ret=>exact ⟨_,s1,.last r1 (by simp),q1⟩
   |panic v=>exact ⟨_,s1,.last r1 (by simp),q1⟩
 obtain ⟨e,s',hcm,q⟩:=ex _ b0 rfl h0
 refine ⟨e,s',Run.le hs ⟨hcm.nm,fun ro okc G0 w0 a0 rel0 F0=>?_⟩,q⟩
 refine uS (fun b a w=>lz P N x S μ b e s'∧jJ w0 a0.defers a.defers∧∃G,Trans G0 w0 (S b0).h G w (S b).h∧Rel N (S b) G w a∧bH G (S b).h s'.h) μ ?_ ⟨hcm,.refl,G0,Trans.refl _ _ _,rel0,F0⟩
 rintro b a w ⟨hcm,hd,G,T,rel,F⟩
 cases hcm with
 |last r hne=>
  refine wpIn_mono (r.2 ro okc.loop G w a rel F) ?_
  rintro e' a' w' ⟨h1,h2,G',T',r'⟩
  have:e'≠ .normal:=by
   rintro rfl
   cases e<;>simp[aA.dA] at h1 hne
  have hgoal:e.dA e'∧jJ w0 a0.defers a'.defers∧∃G',Trans G0 w0 (S b0).h G' w' s'.h∧Rel N s' G' w' a':=⟨h1,hd.trans T.size_le h2,G',T.trans rel0.h rel.h T',r'⟩
  cases e'<;>first|exact hgoal|exact absurd rfl this
 |more r hle hlt rest=>
  have nm:=rest.nm
  refine wpIn_mono (r.2 ro okc.loop G w a rel (F.sub (Nat.le_refl _) (Nat.le_trans hle.n nm.1) (Nat.le_refl _) (Nat.le_trans hle.m nm.2))) ?_
  rintro e' a' w' ⟨h1,h2,G',T',r'⟩
  cases e'<;>simp only[aA.dA] at h1
  rename_i b' s1
  have F1:=F.step T'
  obtain ⟨G2,T2,r2⟩:=hle.go N G' w' a' r' (F1.sub (Nat.le_refl _) nm.1 (Nat.le_refl _) nm.2)
  have T3:=(T.trans rel0.h rel.h T').trans rel0.h r'.h T2
  exact ⟨b',⟨rest,hd.trans T.size_le h2,G2,T3,r2,F1.step T2⟩,hlt⟩
def dT:AC→Nat→Option AC
 | .seq a b,l=>match dT a l with
  |some r=>some (.seq r b)
  |none=>dT b l
 | .label l',l=>if l'=l then some .skip else none
 |_,_=>none
theorem uT {l:Nat}:∀{c:Code} {x:AC},cCode P N c=some x→match findLabel c l with|some rest=>∃y,cCode P N rest=some y∧dT x l=some y|none=>dT x l=none:=by
 intro c
 induction c with
 |seq a b iha ihb=>
  intro x h
  obtain ⟨a',b',he,h1,h2⟩:∃a' b',x= .seq a' b'∧cCode P N a=some a'∧cCode P N b=some b':=by
   simp only[cCode] at h
   split at h
   ·cases h;exact ⟨_,_,rfl,‹_›,‹_›⟩
   ·cases h
  subst he
  have ga:=iha h1
  have gb:=ihb h2
  simp only[findLabel,dT]
  cases hf:findLabel a l with
  |some rest=>
   rw[hf] at ga
   obtain ⟨y,y1,y2⟩:=ga
   simp only[y2]
   exact ⟨_,by simp only[cCode,y1,h2],rfl⟩
  |none=>
   rw[hf] at ga
   simp only at ga
   simp only[ga]
   exact gb
 |label l'=>
  intro x h
  simp only[cCode,Option.some.injEq] at h
  subst h
  simp only[findLabel,dT]
  by_cases e:l'=l
  ·simp only[e,beq_self_eq_true,if_true]
   exact ⟨.skip,rfl,rfl⟩
  ·have:(l' == l)=false:=by simpa using e
   simp only[this,if_neg e,Bool.false_eq_true,if_false]
 |skip=>intro x h;simp only[cCode,Option.some.injEq] at h;subst h;simp[findLabel,dT]
 |region id ops draw=>
  intro x h
  simp only[cCode] at h
  (repeat' split at h)<;>cases h<;>simp[findLabel,dT]
 |cond z a b _ _=>
  intro x h
  simp only[cCode] at h
  split at h<;>cases h
  simp[findLabel,dT]
 |block id a _=>intro x h;simp only[cCode,Option.map_eq_some_iff] at h;obtain ⟨_,_,rfl⟩:=h;simp[findLabel,dT]
 |loop a _=>intro x h;simp only[cCode,Option.map_eq_some_iff] at h;obtain ⟨_,_,rfl⟩:=h;simp[findLabel,dT]
 |rangeFunc g ps a b _ _=>
  intro x h
  simp only[cCode] at h
  (repeat' split at h)<;>cases h<;>simp[findLabel,dT]
 |exit id=>intro x h;simp only[cCode,Option.some.injEq] at h;subst h;simp[findLabel,dT]
 |scope a _=>intro x h;simp only[cCode,Option.map_eq_some_iff] at h;obtain ⟨_,_,rfl⟩:=h;simp[findLabel,dT]
 |goto l'=>intro x h;simp only[cCode,Option.some.injEq] at h;subst h;simp[findLabel,dT]
 |ret=>intro x h;simp only[cCode,Option.some.injEq] at h;subst h;simp[findLabel,dT]
 |refuse=>intro x h;simp[cCode] at h
def kq (F:Fence) (n:Nat) (P:Program) (c cur:Code) (Q:Exit→Act→World→Prop) (a:Act) (w:World):Prop:=
 ∀(b:Frame) (k:List Item) (cs:List Frame),b.roundOf=F.round→F.fn b.fn→F.room (cs.length+1+n)→
  ∃e a' w',Q e a' w'∧ArrivesIn (Machine.fenced P F) P (lone (b.atR a (.code cur:: .inScope c::k)) cs w) b k cs e a' w'
theorem sV {b:Frame} {a:Act} {k:List Item} {cs:List Frame} {w:World} {c:Code}:step P (lone (b.atR a (.code (.scope c)::k)) cs w)= .next (lone (b.atR a (.code c:: .inScope c::k)) cs w):=
 step_lone_go (by simp[stepG,stepG.exec,Frame.atR])
theorem p9 {b:Frame} {a:Act} {k:List Item} {cs:List Frame} {w:World} {c:Code}:step P (lone (b.atR a (.inScope c::k)) cs w)= .next (lone (b.atR a k) cs w):=
 step_lone_go (by simp[stepG,stepG.exec,Frame.atR])
theorem kq.start {F:Fence} {n:Nat} {c:Code} {Q:Exit→Act→World→Prop} {a:Act} {w:World} (h:kq F n P c c Q a w):(Code.scope c).wpIn F n P Q a w:=by
 intro b k cs hro hb hr
 obtain ⟨e,a₁,w₁,hq,harr⟩:=h b k cs hro hb hr
 exact ⟨e,a₁,w₁,hq,.of_steps (.one (fenced_calm hb hr rfl) sV) harr⟩
def Exit.within (F:Fence) (n:Nat) (P:Program) (c:Code) (Q:Exit→Act→World→Prop):Exit→Act→World→Prop
 | .goto l,a,w=>match findLabel c l with
  |some rest=>kq F n P c rest Q a w
  |none=>Q (.goto l) a w
 |e,a,w=>Q e a w
theorem kq.step {F:Fence} {n:Nat} {c cur:Code} {Q:Exit→Act→World→Prop} {a:Act} {w:World} (h:cur.wpIn F n P (Exit.within F n P c Q) a w):kq F n P c cur Q a w:=by
 intro b k cs hro hb hr
 obtain ⟨e,a₁,w₁,hq,harr⟩:=h b (.inScope c::k) cs hro hb hr
 cases e with
 |normal=>exact ⟨.normal,a₁,w₁,hq,StepsIn.trans harr (.one (fenced_calm hb hr rfl) p9)⟩
 |exit id=>exact ⟨.exit id,a₁,w₁,hq,fun k' hk=>harr.1 k' (by simp[exitTo,hk]),fun h1 h2=>harr.2 h1 (by simp[exitTo,h2])⟩
 |goto l=>
  simp only[Exit.within] at hq
  cases hf:findLabel c l with
  |some rest=>
   rw[hf] at hq
   obtain ⟨e₂,a₂,w₂,hq₂,harr₂⟩:=hq b k cs hro hb hr
   exact ⟨e₂,a₂,w₂,hq₂,.of_steps (harr.1 _ (by simp[gotoIn,hf])) harr₂⟩
  |none=>
   rw[hf] at hq
   exact ⟨.goto l,a₁,w₁,hq,fun k' hk=>harr.1 k' (by simp[gotoIn,hf,hk]),fun h1 h2=>harr.2 h1 (by simp[gotoIn,hf,h2])⟩
 |ret=>exact ⟨_,a₁,w₁,hq,harr⟩
 |panic ch=>exact ⟨_,a₁,w₁,hq,harr⟩
 |outgrown=>exact ⟨_,a₁,w₁,hq,harr⟩
def DE (P:Program) (N:Nat) (c cur:Code) (s:St) (e:aA) (s':St):Prop:=
 (s.h.n≤s'.h.n∧s.h.m≤s'.h.m)∧∀ro,okR c ro→okR cur ro→∀G w a,Rel N s G w a→bH G s.h s'.h→kq (rd ro) 0 P c cur (fun e' a' w'=>e.dA e'∧jJ w a.defers a'.defers∧∃G',Trans G w s.h G' w' s'.h∧Rel N s' G' w' a') a w
def WpS (P:Program) (N:Nat) (c cur:AC) (s:St) (Q:aA→St→Prop):Prop:=
 ∀code ccur,cCode P N code=some c→cCode P N ccur=some cur→∃e s',DE P N code ccur s e s'∧Q e s'
theorem uU {code:Code} {x:AC} (h:cCode P N code=some (.scope x)):∃a,code= .scope a∧cCode P N a=some x:=by
 cases code<;>simp only[cCode] at h<;>(try cases h)
 all_goals first
  |(simp only[Option.map_eq_some_iff] at h
    obtain ⟨a,h1,h2⟩:=h
    cases h2
    exact ⟨_,rfl,h1⟩)
  |(simp at h;done)
  |((repeat' split at h)<;>cases h;done)
theorem uV {code:Code} {l:Nat} (h:cCode P N code=some (.label l)):code= .label l:=by
 cases code<;>simp only[cCode] at h<;>(try cases h)<;>(try rfl)
 all_goals first|((repeat' split at h)<;>cases h;done)|(simp at h;done)
theorem yI {code:Code} {l:Nat} (h:cCode P N code=some (.goto l)):code= .goto l:=by
 cases code<;>simp only[cCode] at h<;>(try cases h)<;>(try rfl)
 all_goals first|((repeat' split at h)<;>cases h;done)|(simp at h;done)
theorem Wp.label {l:Nat} (h:Q .normal s):Wp P N (.label l) s Q:=by
 intro code hc
 obtain rfl:=uV hc
 exact ⟨.normal,s,⟨⟨Nat.le_refl _,Nat.le_refl _⟩,fun ro okc G w a r _=>wpIn_label ⟨trivial,.refl,G,Trans.refl _ _ _,r⟩⟩,h⟩
theorem Wp.goto {l:Nat} (h:Q (.goto l) s):Wp P N (.goto l) s Q:=by
 intro code hc
 obtain rfl:=yI hc
 exact ⟨.goto l,s,⟨⟨Nat.le_refl _,Nat.le_refl _⟩,fun ro okc G w a r _=>wpIn_goto ⟨rfl,.refl,G,Trans.refl _ _ _,r⟩⟩,h⟩
theorem Wp.scope {c:AC} (h:WpS P N c c s Q):Wp P N (.scope c) s Q:=by
 intro code hc
 obtain ⟨x,rfl,hx⟩:=uU hc
 obtain ⟨e,s',r,q⟩:=h x x hx hx
 exact ⟨e,s',⟨r.1,fun ro okc G w a rel F=>(r.2 ro okc.scope okc.scope G w a rel F).start⟩,q⟩
theorem DE.le {c cur:Code} {s' s'':St} {e:aA} (h:aF s s') (r:DE P N c cur s' e s''):DE P N c cur s e s'':=by
 obtain ⟨⟨rn,rm⟩,rr⟩:=r
 refine ⟨⟨Nat.le_trans h.n rn,Nat.le_trans h.m rm⟩,fun ro okc okd G w a rel F=>?_⟩
 obtain ⟨G1,T1,rel1⟩:=h.go N G w a rel (F.sub (Nat.le_refl _) rn (Nat.le_refl _) rm)
 intro b k cs hro hb hr
 obtain ⟨e',a',w',⟨h1,h2,G',T,r'⟩,harr⟩:=rr ro okc okd G1 w a rel1 (F.step T1) b k cs hro hb hr
 exact ⟨e',a',w',⟨h1,h2,G',T1.trans rel.h rel1.h T,r'⟩,harr⟩
theorem WpS.le {c cur:AC} {s':St} (h:aF s s') (hw:WpS P N c cur s' Q):WpS P N c cur s Q:=
 fun code ccur h1 h2=>let ⟨e,s'',r,q⟩:=hw code ccur h1 h2;⟨e,s'',r.le h,q⟩
def aA.within (P:Program) (N:Nat) (c:AC) (Q:aA→St→Prop):aA→St→Prop
 | .goto l,s=>match dT c l with
  |some rest=>WpS P N c rest s Q
  |none=>Q (.goto l) s
 |e,s=>Q e s
theorem WpS.step {c cur:AC} (h:Wp P N cur s (aA.within P N c Q)):WpS P N c cur s Q:=by
 intro code ccur hc hcur
 obtain ⟨e,s1,r1,q1⟩:=h ccur hcur
 cases e with
 |normal=>
  refine ⟨.normal,s1,⟨r1.1,fun ro okc okd G w ac r F=> .step (wpIn_mono (r1.2 ro okd G w ac r F) ?_)⟩,q1⟩
  rintro e' a' w' ⟨h1,h2⟩
  cases e'<;>simp only[aA.dA] at h1
  exact ⟨trivial,h2⟩
 |ret=>
  refine ⟨.ret,s1,⟨r1.1,fun ro okc okd G w ac r F=> .step (wpIn_mono (r1.2 ro okd G w ac r F) ?_)⟩,q1⟩
  rintro e' a' w' ⟨h1,h2⟩
  cases e'<;>simp only[aA.dA] at h1
  exact ⟨trivial,h2⟩
 |panic v=>
  refine ⟨.panic v,s1,⟨r1.1,fun ro okc okd G w ac r F=> .step (wpIn_mono (r1.2 ro okd G w ac r F) ?_)⟩,q1⟩
  rintro e' a' w' ⟨h1,h2⟩
  cases e'<;>simp only[aA.dA] at h1
  exact ⟨h1,h2⟩
 |exit i=>
  refine ⟨.exit i,s1,⟨r1.1,fun ro okc okd G w ac r F=> .step (wpIn_mono (r1.2 ro okd G w ac r F) ?_)⟩,q1⟩
  rintro e' a' w' ⟨h1,h2⟩
  cases e'<;>simp only[aA.dA] at h1
  exact ⟨h1,h2⟩
 |goto l=>
  simp only[aA.within] at q1
  have hfl:=uT (l:=l) hc
  cases hf:findLabel code l with
  |none=>
   rw[hf] at hfl
   simp only at hfl
   rw[hfl] at q1
   refine ⟨.goto l,s1,⟨r1.1,fun ro okc okd G w ac r F=> .step (wpIn_mono (r1.2 ro okd G w ac r F) ?_)⟩,q1⟩
   rintro e' a' w' ⟨h1,h2⟩
   cases e'<;>simp only[aA.dA] at h1
   subst h1
   simp only[Exit.within,hf]
   exact ⟨rfl,h2⟩
  |some rest=>
   rw[hf] at hfl
   obtain ⟨y,y1,y2⟩:=hfl
   rw[y2] at q1
   obtain ⟨e2,s2,r2,q2⟩:=q1 code rest hc y1
   obtain ⟨⟨l1,l2⟩,r1⟩:=r1
   obtain ⟨⟨l3,l4⟩,r2⟩:=r2
   refine ⟨e2,s2,⟨⟨by omega,by omega⟩,fun ro okc okd G w ac r F=> .step (wpIn_mono (r1 ro okd G w ac r (F.sub (Nat.le_refl _) l3 (Nat.le_refl _) l4)) ?_)⟩,q2⟩
   rintro e' a' w' ⟨h1,h2,G',T1,r'⟩
   cases e'<;>simp only[aA.dA] at h1
   subst h1
   simp only[Exit.within,hf]
   intro b k cs hro hb hr
   obtain ⟨e'',a'',w'',⟨k1,k2,G'',T2,r''⟩,harr⟩:=r2 ro okc (okc.find hf) G' w' a' r' (F.step T1) b k cs hro hb hr
   exact ⟨e'',a'',w'',⟨k1,h2.trans T1.size_le k2,G'',T1.trans r.h r'.h T2,r''⟩,harr⟩
end
end Go.Av
end
section
namespace Go.Av
section
variable {P:Program} {N:Nat}
theorem jK {ρ ρ':Opd→AV}:∀{l:List (Nat × Nat × Opd)} {cs:List AV},(∀x∈l.map (fun p=>p.2.2),ρ x=ρ' x)→ec ρ l cs=ec ρ' l cs
 |[],_,_=>rfl
 |(off,n,x)::l,cs,h=>by
  have hx:ρ x=ρ' x:=h x (by simp)
  simp only[ec,hx]
  split
  ·exact jK fun y hy=>h y (by simp at hy ⊢;exact .inr hy)
  ·rfl
theorem yJ {ρ ρ':Opd→AV} {h:H} {op:AOp} (hh:∀x∈bf op,ρ x=ρ' x):aop ρ h op=aop ρ' h op:=by
 cases op with
 |build z parts=>simp only[aop,jK (l:=parts) hh]
 |raw k xs=>
  have e1:xs.map ρ=xs.map ρ':=List.map_congr_left fun x hx=>hh x (by simpa [bf] using hx)
  simp only[aop,e1]
 |buildSl sz parts=>
  have e1:parts.map ρ=parts.map ρ':=List.map_congr_left hh
  have e2:parts.all (fun x=>decide ((cellsOf (ρ x)).length=sz∧shaped (ρ x)=true))=parts.all (fun x=>decide ((cellsOf (ρ' x)).length=sz∧shaped (ρ' x)=true)):=by
   rw[Bool.eq_iff_iff]
   simp only[List.all_eq_true]
   exact ⟨fun k x hx=>by rw[←hh x hx];exact k x hx,fun k x hx=>by rw[hh x hx];exact k x hx⟩
  simp only[aop,e1,e2]
 |mkfn fn a b=>
  have e1:a.map ρ=a.map ρ':=List.map_congr_left fun x hx=>hh x (by simp[bf,hx])
  have e2:b.map ρ=b.map ρ':=List.map_congr_left fun x hx=>hh x (by simp[bf,hx])
  simp only[aop,e1,e2]
 |slc str sz x a b c=>
  have e0:ρ x=ρ' x:=hh x (by simp[bf])
  have e1:∀y:Option Opd,(∀z∈y.toList,ρ z=ρ' z)→y.map ρ=y.map ρ':=by
   intro y hy;cases y with
   |none=>rfl
   |some z=>simp[hy z (by simp)]
  have e2:(c.map fun m=>some (ρ m))=(c.map fun m=>some (ρ' m)):=by
   cases c with
   |none=>rfl
   |some z=>simp[hh z (by simp[bf])]
  simp only[aop,e0,e1 a (fun z hz=>hh z (by simp only[bf,List.mem_cons,List.mem_append];exact .inr (.inl (.inl hz)))),e1 b (fun z hz=>hh z (by simp only[bf,List.mem_cons,List.mem_append];exact .inr (.inl (.inr hz)))),e2]
 |call f l=>rfl
 |callv x l=>rfl
 |alloc z=>rfl
 |dead=>rfl
 |pan x=>rfl
 |_=>simp[bf] at hh;simp only[aop,hh]
def gM (l:List Nat) (t:Tm):Tm:=fun i=>if l.contains i then t i else .any
theorem eA {l:List Nat} {G:aB} {w:World} {t:Tm} {a:Act} (h:TOn l G w t a):bK G w (gM l t) a:=by
 intro i
 unfold gM
 split
 ·rename_i hh;exact h i (by simpa using hh)
 ·simp[ak]
theorem gZ {l:List Nat} {t:Tm} {xs:List Opd} (h:(tmpsOf xs).all (fun i=>l.contains i)=true):∀x∈xs,ev (gM l t) x=ev t x:=by
 intro x hx
 cases x with
 |c a=>rfl
 |t i=>
  simp only[ev,gM]
  rw[List.all_eq_true] at h
  have:=h i (by simp only[tmpsOf,List.mem_filterMap];exact ⟨_,hx,rfl⟩)
  rw[if_pos this]
def guardOf (t:Tm) (g:Option (Nat × Bool)):Option Bool:=
 match g with
 |none=>some true
 |some (d,w)=>match t d with
  | .bool b=>some (b == w)
  | .sc (.tuple _)=>some false
  |_=>none
theorem bN {ops:Array Oper} {o:Oper} {g:Option (Nat × Bool)} {t:Tm} {a:Act} {G:aB} {w:World} {b:Bool} (hg:jI ops o.guard=some g) (ht:TOn (names ops o) G w t a) (hb:guardOf t g=some b):
  Region.wanted o (yielded ops a.tmps)=b:=by
 unfold Region.wanted
 cases hog:o.guard with
 |none=>
  rw[hog] at hg
  simp[jI] at hg;subst hg
  simp[guardOf] at hb;simp[hb]
 |some jw=>
  obtain ⟨j,want⟩:=jw
  rw[hog] at hg
  simp only[jI] at hg
  split at hg
  ·rename_i d hd
   cases hg
   simp only[guardOf] at hb
   split at hb
   ·rename_i c hc
    cases hb
    have hr:=ht d (by simp only[names,hog,List.mem_append];right;simp[hd])
    rw[hc] at hr
    simp only[ak] at hr
    have hy:yielded ops a.tmps j=some c:=by
     unfold yielded
     rw[hd]
     simp only[Option.bind_some]
     have:a.tmps[d]? =some (.bool c):=by
      cases hk:a.tmps[d]? with
      |none=>simp[hk] at hr;simp[undef] at hr
      |some v=>simp[hk] at hr;rw[hr]
     rw[this]
    simp only[hy]
    cases c<;>cases want<;>rfl
   ·rename_i xs hc
    cases hb
    have hr:=ht d (by simp only[names,hog,List.mem_append];right;simp[hd])
    rw[hc] at hr
    simp only[ak] at hr
    have hy:yielded ops a.tmps j=none:=by
     unfold yielded
     rw[hd]
     simp only[Option.bind_some]
     cases hk:a.tmps[d]? with
     |none=>rfl
     |some v=>simp[hk] at hr;rw[hr]
    simp only[hy]
    cases want<;>rfl
   ·cases hb
  ·cases hg
theorem dv {o:Oper} {op:AOp} (h:cOp P o=some op):∀c,o.op≠ .defer c:=by
 intro c e
 unfold cOp at h
 rw[e] at h
 cases h
theorem jg {ro:Option Nat} {n:Nat} {f:FuncId} {args:Array Value} {w:World} {R:Ending→World→Prop} (h:Calls P f args w R):CallsIn (rd ro) n P f args w R:=by
 have h2:CallsIn Fence.wide n P f args w R:=callsIn_wide.2 h
 exact h2
theorem fD {ops:Array Oper} {i:Nat} {o:Oper} {it:aw} {t:Tm} {h h':H} {x:AV} {en:Ent} (ho:ops[i]? =some o) (hit:bm P N ops o=some it) (hg:guardOf t it.guard=some true) (hx:aop (ev t) h it.op=some (x,h',en)):
  ∃h1 h1',Touch h h1 h1' h' en∧fC P ops i o t h1 x h1':=by
 unfold bm at hit
 split at hit
 ·rename_i op g hop hgd
  split at hit<;>cases hit
  rename_i hcond
  simp only[Bool.and_eq_true] at hcond
  have hx':aop (ev (gM (names ops o) t)) h op=some (x,h',en):=by
   rw[yJ (gZ hcond.2)];exact hx
  obtain ⟨hpl,h1,h1',tc,loc⟩:(∀c,o.op≠ .defer c)∧Loc P o (gM (names ops o) t) h x h' en:=by
   cases hr:qy op with
   |false=>
    have hop:=fA hop (by rintro rfl;simp[aop] at hx) hr
    exact ⟨dv hop,DB hop hx'⟩
   |true=>
    cases op<;>simp[qy] at hr
    have hop:=AQ hop
    refine ⟨uK hop,?_⟩
    simp only[aop,Option.map_eq_some_iff,Prod.mk.injEq] at hx'
    obtain ⟨v,hv,rfl,rfl,rfl⟩:=hx'
    exact Loc.plain fun G w a ht=>yE hop hv ht
  refine ⟨h1,h1',tc,fun G w a ht R F K Q hK ro=>?_⟩
  obtain ⟨nx,v,w',G',e1,e2,T1,R1,V⟩:=loc G w a (eA ht) R F
  unfold wpOpIn
  rw[ho]
  simp only[bN hgd ht hg,if_true]
  refine ⟨fun _ _=>trivial,?_⟩
  rw[Oper.semAt_eq _ _ _ hpl,e1]
  rcases e2 with rfl|⟨rfl,rfl⟩
  ·rw[Oper.uponIn_value];exact hK G' w' v T1 R1 V
  ·rw[Oper.uponIn_skip];exact hK G' w' undef T1 R1 V
 ·cases hit
theorem fp {ops:Array Oper} {i:Nat} {o:Oper} {it:aw} {t:Tm} {h:H} (ho:ops[i]? =some o) (hit:bm P N ops o=some it) (hg:guardOf t it.guard=some false):
  fC P ops i o t (H0 h.n h.m) (.sc undef) (H0 h.n h.m):=by
 unfold bm at hit
 split at hit
 ·rename_i op g hop hgd
  split at hit<;>cases hit
  intro G w a ht R F K Q hK ro
  unfold wpOpIn
  rw[ho]
  simp only[bN hgd ht hg,if_false,Bool.false_eq_true]
  refine ⟨fun _ _=>trivial,?_⟩
  exact hK G w undef (Trans.refl _ _ _) R (by simp[ak])
 ·cases hit
theorem sW {o:Oper} {f:FuncId} {l:List Opd} (h:cOp P o=some (.call f l)):∃c fn,o.op= .call c∧c.callee= .value (.func f)∧lg P c.argTypes.toList c.args.toList=some l∧P.funcs[f]? =some fn∧fn.body.isSome=true∧fn.name≠ "runtime.NumGoroutine" :=by
 unfold cOp at h
 split at h
 case h_28 c hop=>
  split at h
  case h_8 f' hc=>
   split at h
   ·split at h
    ·rename_i fn hfn hcond
     simp only[Option.map_eq_some_iff] at h
     obtain ⟨l',h1,h2⟩:=h
     cases h2
     exact ⟨c,fn,hop,hc,h1,hfn,hcond.1,hcond.2⟩
    ·cases h
   ·cases h
  all_goals first
   |(cases h;done)
   |((repeat' split at h)<;>(try cases h)<;>simp at h)
 all_goals first
  |(cases h;done)
  |(simp at h;done)
  |((repeat' split at h)<;>(try cases h)<;>(try simp at h);done)
  |skip
theorem qA {o:Oper} {y:Opd} {l:List Opd} (h:cOp P o=some (.callv y l)):∃c z,o.op= .call c∧c.callee= .value z∧opd P 0 z=some y∧lg P c.argTypes.toList c.args.toList=some l:=by
 unfold cOp at h
 split at h
 case h_28 c hop=>
  split at h
  case h_9 z _ hc=>
   split at h
   ·rename_i a l' h1 h2
    cases h
    exact ⟨c,z,hop,hc,h1,h2⟩
   ·cases h
  all_goals first
   |(cases h;done)
   |((repeat' split at h)<;>(try cases h)<;>simp at h)
 all_goals first
  |(cases h;done)
  |(simp at h;done)
  |((repeat' split at h)<;>(try cases h)<;>(try simp at h);done)
theorem cZ {f:FuncId} {fn:Func} {args:Array Value} (w:World) (hf:P.funcs[f]? =some fn) (hb:fn.body.isSome=true) (hn:fn.name≠ "runtime.NumGoroutine"):(callFunc f args).run P w= .ok (.enter f args) w:=by
 have hb':fn.body≠none:=by intro h;rw[h] at hb;cases hb
 simp[callFunc,hf,hn,hb']
theorem oY {o:Oper} {f:FuncId} {vals:List AV} {h1 h1':H} {r:AV} (hc:aN P f vals h1 r h1') {G:aB} {w:World} {a:Act} {vs:List Value} (hv:an G w vals vs) (R:aM G h1 w) (F:bH G h1 h1') {K:Act→World→Prop} {Q:Exit→Act→World→Prop} {ro:Option Nat} (hd:∀c,o.op≠ .defer c)
  (hK:∀G' w' v,Trans G w h1 G' w' h1'→aM G' h1' w'→ak G' w' r v→K (a.put o.dst v) w') (hrun:(execOp a.eval o).run P w= .ok (.enter f vs.toArray) w):o.wpIn (rd ro) 0 P a w K Q:=by
 refine ⟨fun _ _=>trivial,?_⟩
 rw[Oper.semAt_eq _ _ _ hd,hrun,Oper.uponIn_enter]
 refine ⟨fun h=>by simp[rd,Fence.wide] at h,jg ?_⟩
 refine (hc G w vs hv R F).mono ?_
 rintro e w' ⟨v,G',rfl,T,R',V⟩
 exact hK G' w' v T R' V
theorem cN {ops:Array Oper} {i:Nat} {o:Oper} {it:aw} {t:Tm} {f:FuncId} {l:List Opd} {vals:List AV} {h1 h1':H} {r:AV} (ho:ops[i]? =some o) (hit:bm P N ops o=some it) (hg:guardOf t it.guard=some true) (hop:it.op= .call f l)
  (hs:af (l.map (ev t)) vals) (hc:aN P f vals h1 r h1'):fC P ops i o t h1 r h1':=by
 unfold bm at hit
 split at hit
 ·rename_i op g hcop hgd
  split at hit<;>cases hit
  rename_i hcond
  simp only[Bool.and_eq_true] at hcond
  simp only at hop
  subst hop
  have hcop:=fA hcop (by simp) rfl
  obtain ⟨c,fn,e1,e2,e3,e4,e5,e6⟩:=sW hcop
  intro G w a ht R F K Q hK ro
  unfold wpOpIn
  rw[ho]
  simp only[bN hgd ht hg,if_true]
  have rr:=fB (P:=P) (eA ht) e3
  have el:l.map (ev (gM (names ops o) t))=l.map (ev t):=List.map_congr_left fun x hx=>gZ hcond.2 x (by simpa [bf] using hx)
  rw[el] at rr
  refine oY hc (hs G w _ rr) R F (dv hcop) hK ?_
  have hargs:(c.args.map a.eval)=(c.args.toList.map a.eval).toArray:=by cases c.args;simp
  simp[execOp,e1,resolve,e2,Act.eval,Deferred.ofValue,invoke,hargs,cZ w e4 e5 e6]
 ·cases hit
theorem nK {ops:Array Oper} {i:Nat} {o:Oper} {it:aw} {t:Tm} {f:FuncId} {fn:Func} {y:Opd} {l:List Opd} {first caps vals:List AV} {h1 h1':H} {r:AV} (ho:ops[i]? =some o) (hit:bm P N ops o=some it) (hg:guardOf t it.guard=some true) (hop:it.op= .callv y l)
  (hy:ev t y= .clo (.func f) first caps) (hf:P.funcs[f]? =some fn) (hb:fn.body.isSome=true) (hn:fn.name≠ "runtime.NumGoroutine")
  (hs:af (first++l.map (ev t)++caps) vals) (hc:aN P f vals h1 r h1'):fC P ops i o t h1 r h1':=by
 unfold bm at hit
 split at hit
 ·rename_i op g hcop hgd
  split at hit<;>cases hit
  rename_i hcond
  simp only[Bool.and_eq_true] at hcond
  simp only at hop
  subst hop
  have hcop:=fA hcop (by simp) rfl
  obtain ⟨c,z,e1,e2,e3,e4⟩:=qA hcop
  intro G w a ht R F K Q hK ro
  unfold wpOpIn
  rw[ho]
  simp only[bN hgd ht hg,if_true]
  have rr:=fB (P:=P) (eA ht) e4
  have rz:=ao (P:=P) e3 (eA ht)
  have hcut:=gZ (t:=t) hcond.2
  have el:l.map (ev (gM (names ops o) t))=l.map (ev t):=List.map_congr_left fun x hx=>hcut x (by simp[bf,hx])
  rw[el] at rr
  rw[hcut y (by simp[bf]),hy] at rz
  simp only[ak] at rz
  obtain ⟨vs,us,q1,q2,q3⟩:=rz
  refine oY hc (hs G w _ ((q2.append rr).append q3)) R F (dv hcop) hK ?_
  have hargs:(c.args.map a.eval)=(c.args.toList.map a.eval).toArray:=by cases c.args;simp
  simp[execOp,e1,resolve,e2,q1,Deferred.ofValue,invoke,hargs,cZ w hf hb hn]
 ·cases hit
def ae (P:Program) (N:Nat) (items:List aw) (t:Tm) (h:H) (log:List Ent) (K:Tm→H→List Ent→Prop):Prop:=
 ∀ops i,i≤ops.size→cG P N ops (ops.toList.drop i)=some items→
  ∃recs t' h',AH P ops i recs t h t' h'∧K t' h' (log.reverse++recs.map (·.en))∧∀(k:Nat) r it,recs[k]? =some r→items[k]? =some it→bg it.op=false→r.en=aC
theorem ae.nil {t:Tm} {h:H} {log:List Ent} {K:Tm→H→List Ent→Prop} (hk:K t h log.reverse):ae P N [] t h log K:=by
 intro ops i hi hc
 have:i=ops.size:=by
  cases hd:ops.toList.drop i with
  |nil=>have:=List.drop_eq_nil_iff.1 hd;simp at this;omega
  |cons o l=>
   rw[hd] at hc
   simp only[cG] at hc
   split at hc<;>simp at hc
 exact ⟨[],t,h,.nil this,by simpa using hk,by simp⟩
theorem bG {ops:Array Oper} {i:Nat} {it:aw} {its:List aw} (hi:i≤ops.size) (hc:cG P N ops (ops.toList.drop i)=some (it::its)):
  ∃o,ops[i]? =some o∧bm P N ops o=some it∧i+1≤ops.size∧cG P N ops (ops.toList.drop (i+1))=some its:=by
 cases hd:ops.toList.drop i with
 |nil=>rw[hd] at hc;simp[cG] at hc
 |cons o l=>
  rw[hd] at hc
  simp only[cG] at hc
  split at hc
  ·rename_i a r h1 h2
   cases hc
   have hlt:i<ops.toList.length:=by
    rcases Nat.lt_or_ge i ops.toList.length with h|h
    ·exact h
    ·rw[List.drop_eq_nil_of_le h] at hd;cases hd
   have e:=List.drop_eq_getElem_cons hlt
   rw[hd] at e
   obtain ⟨e1,e2⟩:=List.cons.inj e
   have hlt':i<ops.size:=by simpa using hlt
   refine ⟨o,?_,h1,by omega,by rw[←e2];exact h2⟩
   rw[Array.getElem?_eq_getElem hlt',e1];simp
  ·cases hc
theorem ae.step {it:aw} {its:List aw} {t:Tm} {h h' h1 h1':H} {x:AV} {en:Ent} {log:List Ent} {K:Tm→H→List Ent→Prop} (tc:Touch h h1 h1' h' en)
  (run:∀(ops:Array Oper) i o,ops[i]? =some o→bm P N ops o=some it→fC P ops i o t h1 x h1') (hen:bg it.op=false→en=aC)
  (rest:ae P N its (bD t it.dst x) h' (en::log) K):ae P N (it::its) t h log K:=by
 intro ops i hi hc
 obtain ⟨o,ho,hit,hi',hc'⟩:=bG hi hc
 obtain ⟨recs,t',hh',ch,hk,he⟩:=rest ops (i+1) hi' hc'
 have hdst:it.dst=o.dst:=by
  unfold bm at hit
  split at hit
  ·split at hit<;>cases hit;rfl
  ·cases hit
 refine ⟨⟨t,h,h1,h1',h',x,en⟩::recs,t',hh',.cons ho rfl rfl tc (fun _=>run ops i o ho hit) (by rw[←hdst];exact ch),by simpa using hk,?_⟩
 intro k r it' hr hit' ht
 cases k with
 |zero=>simp at hr hit';subst hr hit';exact hen ht
 |succ k=>simp at hr hit';exact he k r it' hr hit' ht
theorem rJ {ρ:Opd→AV} {h h':H} {op:AOp} {x:AV} {en:Ent} (ht:bg op=false) (hx:aop ρ h op=some (x,h',en)):en=aC∨∃n y,op= .load n y:=by
 cases op<;>simp[bg] at ht<;>simp only[aop] at hx<;>first
  |(simp only[Option.some.injEq,Prod.mk.injEq] at hx;exact .inl hx.2.2.symm)
  |(simp only[Option.map_eq_some_iff,Prod.mk.injEq] at hx;obtain ⟨_,_,_,_,h⟩:=hx;exact .inl h.symm)
  |((repeat' split at hx)<;>(first|(cases hx;done)|(cases hx;exact .inl rfl)|(simp only[Option.map_eq_some_iff,Prod.mk.injEq] at hx;obtain ⟨_,_,_,_,h⟩:=hx;exact .inl h.symm)|skip))
 all_goals simp_all
def bL:List aw→Tm→H→List Ent→List aw × Tm × H × List Ent
 |[],t,h,l=>([],t,h,l)
 |it::its,t,h,l=>match guardOf t it.guard with
  |some true=>(match aop (ev t) h it.op with
   |some (x,h',en)=>bL its (bD t it.dst x) h' (en::l)
   |none=>(it::its,t,h,l))
  |some false=>bL its (bD t it.dst (.sc undef)) h (aC::l)
  |none=>(it::its,t,h,l)
theorem ae.wR {b:List aw}:∀{items its:List aw} {t t':Tm} {h h':H} {log log':List Ent} {K:Tm→H→List Ent→Prop},bL items t h log=(its,t',h',log')→ae P N (its++b) t' h' log' K→ae P N (items++b) t h log K
 |[],its,t,t',h,h',log,log',K,he,hw=>by simp only[bL,Prod.mk.injEq] at he;obtain ⟨rfl,rfl,rfl,rfl⟩:=he;exact hw
 |it::items,its,t,t',h,h',log,log',K,he,hw=>by
  simp only[bL] at he
  split at he
  ·rename_i hg
   split at he
   ·rename_i x h2 en hx
    have rest:=ae.wR he hw
    intro ops i hi hc
    obtain ⟨o,ho,hit,hi',hc'⟩:=bG hi hc
    obtain ⟨h1,h1',tc,run⟩:=fD ho hit hg hx
    obtain ⟨recs,t',hh',ch,hk,hen⟩:=rest ops (i+1) hi' hc'
    have hdst:it.dst=o.dst:=by
     unfold bm at hit
     split at hit
     ·split at hit<;>cases hit;rfl
     ·cases hit
    refine ⟨⟨t,h,h1,h1',h2,x,en⟩::recs,t',hh',.cons ho rfl rfl tc (fun _=>run) (by rw[←hdst];exact ch),by simpa using hk,?_⟩
    intro k r it' hr hit' ht
    cases k with
    |zero=>
     simp at hr hit';subst hr hit'
     rcases rJ ht hx with h|⟨n,y,h⟩
     ·exact h
     ·rw[h] at ht;simp[bg] at ht
    |succ k=>simp at hr hit';exact hen k r it' hr hit' ht
   ·simp only[Prod.mk.injEq] at he;obtain ⟨rfl,rfl,rfl,rfl⟩:=he;exact hw
  ·rename_i hg
   have rest:=ae.wR he hw
   exact ae.step (aV h) (fun ops i o ho hit=>fp ho hit hg) (fun _=>rfl) rest
  ·simp only[Prod.mk.injEq] at he;obtain ⟨rfl,rfl,rfl,rfl⟩:=he;exact hw
theorem ae.eval {items its:List aw} {t t':Tm} {h h':H} {log log':List Ent} {K:Tm→H→List Ent→Prop} (he:bL items t h log=(its,t',h',log')) (hw:ae P N its t' h' log' K):ae P N items t h log K:=by
 have:=ae.wR (b:=[]) he (by rw[List.append_nil];exact hw)
 rwa [List.append_nil] at this
theorem ae.part (k:Nat) {items:List aw} {t t':Tm} {h h':H} {log log':List Ent} {K:Tm→H→List Ent→Prop} (he:bL (items.take k) t h log=([],t',h',log')) (hw:ae P N (items.drop k) t' h' log' K):ae P N items t h log K:=by
 have:=ae.wR (b:=items.drop k) he (by rw[List.nil_append];exact hw)
 rwa [List.take_append_drop] at this
theorem ae.aP {dst:Option Nat} {g:Option (Nat × Bool)} {f:FuncId} {l:List Opd} {its:List aw} {t:Tm} {h:H} {log:List Ent} {K:Tm→H→List Ent→Prop} {vals:List AV} {r:AV} (hg:guardOf t g=some true) (hs:af (l.map (ev t)) vals) (hc:aE P f vals r)
  (rest:ae P N its (bD t dst r) h (aC::log) K):ae P N (⟨dst,g,.call f l⟩::its) t h log K:=
 ae.step (aV h) (fun ops i o ho hit=>cN ho hit hg rfl hs (hc h.n h.m)) (fun _=>rfl) rest
theorem ae.rK {dst:Option Nat} {g:Option (Nat × Bool)} {f:FuncId} {fn:Func} {y:Opd} {l:List Opd} {its:List aw} {t:Tm} {h:H} {log:List Ent} {K:Tm→H→List Ent→Prop} {first caps vals:List AV} {r:AV} (hg:guardOf t g=some true) (hy:ev t y= .clo (.func f) first caps)
  (hf:P.funcs[f]? =some fn) (hb:fn.body.isSome=true) (hn:fn.name≠ "runtime.NumGoroutine") (hs:af (first++l.map (ev t)++caps) vals) (hc:aE P f vals r)
  (rest:ae P N its (bD t dst r) h (aC::log) K):ae P N (⟨dst,g,.callv y l⟩::its) t h log K:=
 ae.step (aV h) (fun ops i o ho hit=>nK ho hit hg rfl hy hf hb hn hs (hc h.n h.m)) (fun _=>rfl) rest
theorem ae.fc {dst:Option Nat} {g:Option (Nat × Bool)} {f:FuncId} {l:List Opd} {its:List aw} {t:Tm} {h h' h1 h1':H} {log:List Ent} {en:Ent} {K:Tm→H→List Ent→Prop} {vals:List AV} {r:AV} (hg:guardOf t g=some true) (hs:af (l.map (ev t)) vals) (hc:aN P f vals h1 r h1')
  (tc:Touch h h1 h1' h' en) (rest:ae P N its (bD t dst r) h' (en::log) K):ae P N (⟨dst,g,.call f l⟩::its) t h log K:=
 ae.step tc (fun ops i o ho hit=>cN ho hit hg rfl hs hc) (fun h=>by simp[bg] at h) rest
end
end Go.Av
end
section
namespace Go.Av
section
variable {P:Program} {N:Nat}
def rowOf (acc:Array Nat) (o:Oper):Nat:=o.after.foldl (fun s e=>if Region.binds .any e then s ||| 2^e.on ||| acc.getD e.on 0 else s) 0
theorem yK {acc:Array Nat} {o:Oper} {j:Nat} (h:(rowOf acc o).testBit j=true):∃e∈o.after,Region.binds .any e=true∧(j=e.on∨(acc.getD e.on 0).testBit j=true):=by
 have key:∀(l:List Edge) (s:Nat),(l.foldl (fun s e=>if Region.binds .any e then s ||| 2^e.on ||| acc.getD e.on 0 else s) s).testBit j=true→s.testBit j=true∨∃e∈l,Region.binds .any e=true∧(j=e.on∨(acc.getD e.on 0).testBit j=true):=by
  intro l
  induction l with
  |nil=>intro s h;exact .inl h
  |cons e l ih=>
   intro s h
   rcases ih _ h with h|⟨e',h1,h2⟩
   ·by_cases hb:Region.binds .any e=true
    ·simp only[hb,if_true,Nat.testBit_or,Bool.or_eq_true] at h
     rcases h with (h|h)|h
     ·exact .inl h
     ·rw[Nat.testBit_two_pow] at h
      exact .inr ⟨e,by simp,hb,.inl (by simpa using h.symm:e.on=j).symm⟩
     ·exact .inr ⟨e,by simp,hb,.inr h⟩
    ·simp only[hb,if_false,Bool.false_eq_true] at h
     exact .inl h
   ·exact .inr ⟨e',by simp[h1],h2⟩
 unfold rowOf at h
 rw[←Array.foldl_toList] at h
 rcases key _ _ h with h|⟨e,h1,h2⟩
 ·simp at h
 ·exact ⟨e,by simpa using h1,h2⟩
theorem sX (ops:Array Oper):∀(i:Nat) o,ops[i]? =some o→∀j,cD ops j i=true→∃e∈o.after,Region.binds .any e=true∧(j=e.on∨cD ops j e.on=true):=by
 have key:∀(l:List Oper) (acc:Array Nat),let B:=l.foldl (fun acc o=>acc.push (rowOf acc o)) acc
   (B.size=acc.size+l.length)∧(∀k,k<acc.size→B.getD k 0=acc.getD k 0)∧∀k o,l[k]? =some o→∀j,(B.getD (acc.size+k) 0).testBit j=true→∃e∈o.after,Region.binds .any e=true∧(j=e.on∨(B.getD e.on 0).testBit j=true):=by
  intro l
  induction l with
  |nil=>intro acc;simp
  |cons o l ih=>
   intro acc
   obtain ⟨a1,a2,a3⟩:=ih (acc.push (rowOf acc o))
   simp only[List.foldl_cons]
   refine ⟨by rw[a1];simp;omega,fun k hk=>?_,fun k o' ho' j hj=>?_⟩
   ·rw[a2 k (by simp;omega)]
    simp[Array.getElem?_push,hk]
    rw[if_neg (by omega)];rfl
   ·cases k with
    |zero=>
     simp at ho';subst ho'
     rw[a2 _ (by simp)] at hj
     simp at hj
     obtain ⟨e,h1,h2⟩:=yK hj
     refine ⟨e,h1,h2.1,h2.2.imp (fun z=>z) fun h=>?_⟩
     have hlt:e.on<acc.size:=by
      rcases Nat.lt_or_ge e.on acc.size with h'|h'
      ·exact h'
      ·simp[h'] at h
     rw[a2 _ (by simp;omega)]
     simp only[Array.getD_eq_getD_getElem?,Array.getElem?_push] at h ⊢
     rw[if_neg (by omega)];exact h
    |succ k=>
     simp at ho'
     have:=a3 k o' ho' j (by simpa [Nat.add_assoc,Nat.add_comm 1 k] using hj)
     exact this
 obtain ⟨a1,a2,a3⟩:=key ops.toList #[]
 have hB:Region.before ops=ops.toList.foldl (fun acc o=>acc.push (rowOf acc o)) #[]:=by
  unfold Region.before
  rw[←Array.foldl_toList]
  rfl
 intro i o ho j hj
 unfold cD at hj ⊢
 rw[hB] at hj ⊢
 exact a3 i o (by simpa using ho) j (by simpa using hj)
theorem wS {ops:Array Oper} (h:tidy ops=true):Tidy ops:=by
 unfold tidy at h
 simp only[Bool.and_eq_true,List.all_eq_true] at h
 obtain ⟨h1,h2⟩:=h
 have hm:∀(i:Nat) o,ops[i]? =some o→(o,i)∈ops.toList.zipIdx:=by
  intro i o ho
  rw[List.mem_iff_getElem?]
  exact ⟨i,by simp[List.getElem?_zipIdx,ho]⟩
 constructor
 ·intro i o ho e he hbd
  have:=h1 (o,i) (hm i o ho)
  rw[Array.all_eq_true_iff_forall_mem] at this
  have:=this e he
  simpa [hbd] using this
 ·exact sX ops
 ·intro i j o o' ho ho' hne d hd hn
  have:=h2 (o,i) (hm i o ho)
  simp only[hd,List.all_eq_true] at this
  have:=this (o',j) (hm j o' ho')
  simp only[Bool.or_eq_true,Bool.not_eq_true',beq_iff_eq] at this
  rcases this with ((h|h)|h)|h
  ·exact absurd h hne
  ·have h3:(names ops o').contains d=true:=by simpa using hn
   rw[h3] at h;cases h
  ·exact .inl h
  ·exact .inr h
def ar:List (Nat × Nat)→List Ent→Prop
 |[],_=>True
 |(i,j)::l,log=>apart (log.getD i aC) (log.getD j aC)∧ar l log
theorem jL:∀{l:List (Nat × Nat)} {log:List Ent},ar l log→∀{i j:Nat},(i,j)∈l→apart (log.getD i aC) (log.getD j aC)
 |(a,b)::l,log,h,i,j,hm=>by
  rcases List.mem_cons.1 hm with e|hm
  ·cases e;exact h.1
  ·exact jL h.2 hm
theorem jh (e:Ent):apart aC e∧apart e aC:=by
 constructor
 ·exact ⟨fun id h=>by simp[aC] at h,fun id h=>by simp[aC],fun t h=>by simp[aC] at h⟩
 ·exact ⟨fun id h=>by simp[aC],fun id h=>by simp[aC] at h,fun t h=>by simp[aC]⟩
def aJ (p:Option (List (Nat × Nat))) (log:List Ent):Prop:=
 match p with
 |none=>True
 |some l=>ar l log
theorem gf {ops:Array Oper}:∀{l:List Oper} {items:List aw},cG P N ops l=some items→items.length=l.length∧∀(k:Nat) o it,l[k]? =some o→items[k]? =some it→bm P N ops o=some it
 |[],items,h=>by simp[cG] at h;subst h;simp
 |o::l,items,h=>by
  simp only[cG] at h
  split at h
  ·rename_i a r h1 h2
   cases h
   obtain ⟨e1,e2⟩:=gf h2
   refine ⟨by simp[e1],fun k o' it ho hit=>?_⟩
   cases k with
   |zero=>simp at ho hit;subst ho hit;exact h1
   |succ k=>simp at ho hit;exact e2 k o' it ho hit
  ·cases h
theorem mf {code:Code} {items:List aw} {p:Option (List (Nat × Nat))} (h:cCode P N code=some (.reg items p)):
  ∃id ops draw,code= .region id ops draw∧cG P N ops ops.toList=some items∧((draw=false∧p=none)∨(draw=true∧P.follows .mixedOrders=true∧tidy ops=true∧p=some (jf ops items))):=by
 cases code<;>simp only[cCode] at h<;>(try cases h)
 ·split at h
  ·rename_i id ops draw _ items' hi
   split at h
   ·split at h<;>cases h
    rename_i hd hcond
    simp only[Bool.and_eq_true] at hcond
    exact ⟨_,_,_,rfl,hi,.inr ⟨hd,hcond.1,hcond.2,rfl⟩⟩
   ·cases h
    rename_i hd
    exact ⟨_,_,_,rfl,hi,.inl ⟨by simpa using hd,rfl⟩⟩
  ·cases h
 all_goals first|((repeat' split at h)<;>cases h;done)|(simp at h;done)
theorem gg (G:aB) (w w':World) (h:H) (e1:w'.heap=w.heap) (e2:w'.os=w.os) (e3:w'.output=w.output):Trans G w h G w' h where
 dom_le _ x:=x
 dom_new _ x:= .inl x
 ι_eq _ _:=rfl
 tdom_le _ x:=x
 tdom_new _ x:= .inl x
 τ_eq _ _:=rfl
 n_le:=Nat.le_refl _
 m_le:=Nat.le_refl _
 size_le:=by rw[e1];exact Nat.le_refl _
 os:=e2
 output:=e3
 form B _:=by rw[e1];exact bw.refl _
 keep _ _ _ _:=by rw[e1]
 own_keep _ _ _:=Iff.rfl
 lim_keep _ _ _ _:=rfl
 tok_keep _ _ _ _ e he:=⟨fun _ _=>cell_of_heap e1 _,fun e' he'=>by rw[he] at he';cases he';exact Nat.le_refl _⟩
 O_new _ _ x:=x
 T_new _ _ x:=x
 objs_new _ o x:= .inl ⟨o,x⟩
 toks_new _ x:= .inl x
theorem aM.draw {G:aB} {w w':World} {h:H} (R:aM G h w) (e1:w'.heap=w.heap) (e2:w'.os=w.os) (e3:w'.output=w.output):aM G h w' where
 obj id o ho:=by
  obtain ⟨a,b,c,d⟩:=R.obj id o ho
  exact ⟨a,b,by rw[e1];exact c,by rw[e1];exact d.mono R (gg G w w' h e1 e2 e3)⟩
 inj:=R.inj
 tok t ht:=⟨(R.tok t ht).1,fun B e he=>by rw[e1];exact (R.tok t ht).2 B e he⟩
 tinj:=R.tinj
theorem Wp.reg {items:List aw} {p:Option (List (Nat × Nat))} {s:St} {Q:aA→St→Prop} (h:ae P N items s.t s.h [] fun t' h' log=>aJ p log∧Q .normal ⟨t',h'⟩):Wp P N (.reg items p) s Q:=by
 intro code hc
 obtain ⟨id,ops,draw,rfl,hi,hd⟩:=mf hc
 obtain ⟨recs,t',h',ch,⟨hp,hq⟩,hen⟩:=h ops 0 (Nat.zero_le _) (by simpa using hi)
 simp only[List.reverse_nil,List.nil_append] at hp
 obtain ⟨nm,-,-⟩:=iD ch
 obtain ⟨cl,ci⟩:=gf hi
 have hN:∀(i:Nat) o d,ops[i]? =some o→o.dst=some d→d<N:=by
  intro i o d ho hdd
  have hlt:i<ops.size:=(Array.getElem?_eq_some_iff.1 ho).1
  have hit:i<items.length:=by rw[cl];simpa using hlt
  have:=ci i o items[i] (by simpa using ho) (List.getElem?_eq_getElem hit)
  generalize items[i]=it at this
  unfold bm at this
  split at this
  ·split at this<;>cases this
   rename_i hcond
   simp only[Bool.and_eq_true] at hcond
   have:=hcond.1
   rw[hdd] at this
   simpa using this
  ·cases this
 refine ⟨.normal,⟨t',h'⟩,⟨nm,fun ro okc G w a r F=>?_⟩,hq⟩
 rcases hd with ⟨rfl,rfl⟩|⟨rfl,hm,ht,rfl⟩
 ·refine wpIn_region ?_
  rw[List.range_eq_range']
  have:=yz ro (Q:=fun e' a' w'=>aA.normal.dA e'∧jJ w a.defers a'.defers∧∃G',Trans G w s.h G' w' h'∧Rel N ⟨t',h'⟩ G' w' a') hN ch G w a r.size r.t r.h F
   (fun G' w' a' T1 t1 R1 s1 d1=>⟨trivial,by rw[d1];exact .refl,G',T1,⟨s1,t1,R1,by rw[d1];exact r.df.mono T1⟩⟩)
  simpa using this
 ·refine wpIn_region_any hm ?_
  obtain ⟨a1,a2,-⟩:=gL ch
  rw[Nat.zero_add] at a1
  have ap:∀i j,i<j→j<ops.size→cD ops i j=false→apart (recs.getD i bZ).en (recs.getD j bZ).en:=by
   intro i j hij hj hanc
   have hir:i<recs.length:=by omega
   have hjr:j<recs.length:=by omega
   have hii:i<items.length:=by rw[cl];simp;omega
   have hjj:j<items.length:=by rw[cl];simp;omega
   have ei:(recs.getD i bZ).en=(recs.map (·.en)).getD i aC:=by simp[List.getD,List.getElem?_eq_getElem hir]
   have ej:(recs.getD j bZ).en=(recs.map (·.en)).getD j aC:=by simp[List.getD,List.getElem?_eq_getElem hjr]
   have gi:(recs.getD i bZ)=recs[i]:=by simp[List.getD,List.getElem?_eq_getElem hir]
   have gj:(recs.getD j bZ)=recs[j]:=by simp[List.getD,List.getElem?_eq_getElem hjr]
   by_cases ti:bg items[i].op=true
   ·by_cases tj:bg items[j].op=true
    ·rw[ei,ej]
     refine jL hp ?_
     unfold jf
     simp only[List.mem_flatMap,List.mem_range,List.mem_filterMap]
     refine ⟨j,hj,i,hij,?_⟩
     unfold cD at hanc
     simp[List.getElem?_eq_getElem hii,List.getElem?_eq_getElem hjj,ti,tj]
     simpa using hanc
    ·rw[gj,hen j _ _ (List.getElem?_eq_getElem hjr) (List.getElem?_eq_getElem hjj) (by simpa using tj)]
     exact (jh _).2
   ·rw[gi,hen i _ _ (List.getElem?_eq_getElem hir) (List.getElem?_eq_getElem hii) (by simpa using ti)]
    exact (jh _).1
  let w1:World:={w with drawn:=w.drawn+1}
  have hz:∀k,(Array.replicate ops.size false).getD k false=false:=by intro k;simp[Array.getElem?_replicate];split<;>rfl
  have hz':(fun k=>(Array.replicate ops.size false).getD k false)=fun _=>false:=funext hz
  have vz:∀{β:Type} (u:Nat→Option β) (n:Nat) (v:β),val u (fun _=>false) n v=v:=by
   intro β u n v
   induction n with
   |zero=>rfl
   |succ n ih=>simp only[val,Bool.false_eq_true,if_false,ih]
  have R1:aM G s.h w1:=r.h.draw rfl rfl rfl
  have hk:∀t,t∈(HS recs s.h ops.size h'.n h'.m (fun _=>false)).toks↔t∈s.h.toks:=by
   intro t;rw[lu a1.symm,vz];simp
  have ho:(HS recs s.h ops.size h'.n h'.m (fun _=>false)).objs=s.h.objs:=by
   funext id;simp only[HS];rw[vz]
  refine qx ro (pj:=0) (pv:=undef) (N:=N) (G0:=G) (w0:=w1) (a0:=a) hN (wS ht) ch ap R1 F ?_ (fun i h=>by cases h) (fun h=>by cases h) ops.size (Array.replicate ops.size false) G w1 a (by simp) ?_ ?_ (fun k h=>by cases h) r.size rfl ?_ ?_ ?_ ?_ ?_
  ·intro _ G' w' a' T1 t1 R1' s1 d1
   exact ⟨trivial,by rw[d1];exact .refl,G',(gg G w w1 s.h rfl rfl rfl).trans r.h R1 T1,⟨s1,t1,R1',by rw[d1];exact r.df.mono ((gg G w w1 s.h rfl rfl rfl).trans r.h R1 T1)⟩⟩
  ·unfold count
   exact Nat.le_trans (List.length_filter_le _ _) (by simp)
  ·rw[hz'];intro i o _ h;cases h
  ·rw[hz'];intro d;rw[vz];exact ak.mono r.h (gg G w w1 s.h rfl rfl rfl) _ _ (r.t d)
  ·rw[hz'];exact R1.same ho fun t x=>(hk t).1 x
  ·rw[hz']
   exact (Trans.refl G w1 s.h).same rfl (fun _=>Iff.rfl) ho hk (Nat.le_refl _) nm.1 nm.1 (Nat.le_refl _) nm.2 nm.2
  ·exact fun id x=> .inl x
  ·exact fun id x=> .inl x
def eh (args:List AV):Tm:=fun i=>args.getD i .any
inductive RV where
 |tmp (d:Nat)
 |cell (d:Nat) (n:Option Nat)
def FR (P:Program):ResultVar→Option RV
 | .tmp t=>some (.tmp t)
 | .cell a t=>if (P.info? t).isSome∧(P.underlying t).isSome then some (.cell a (if bB P t then some (P.cellsOf t) else none)) else none
def oZ (P:Program):List ResultVar→Option (List RV)
 |[]=>some []
 |r::l=>match FR P r,oZ P l with
  |some a,some m=>some (a::m)
  |_,_=>none
def rv (t:Tm) (h:H):RV→Option AV
 | .tmp d=>some (t d)
 | .cell d n=>match t d with
  | .ptr id off=>match h.objs id with
   |some (.cells cs)=>part off n cs
   |_=>none
  |_=>none
def rvs (t:Tm) (h:H):List RV→Option (List AV)
 |[]=>some []
 |r::l=>match rv t h r,rvs t h l with
  |some a,some m=>some (a::m)
  |_,_=>none
def gh (ds:List RV) (t:Tm) (h:H):Option AV:=
 match rvs t h ds with
 |some [x]=>some x
 |some l=>some (.tup l)
 |none=>none
def gq:aA→Prop
 | .normal| .ret=>True
 |_=>False
theorem sY {G:aB} {w:World} {n:Nat}:∀{args:List AV} {vs:List Value},an G w args vs→bK G w (eh args) {tmps:=vs.toArray++Array.replicate n undef,defers:=[]}:=by
 intro args vs h i
 unfold eh
 by_cases hi:i<args.length
 ·obtain ⟨v,h1,h2⟩:=h.get (i:=i) (x:=args[i]) (List.getElem?_eq_getElem hi)
  have e:((vs.toArray++Array.replicate n undef).getD i undef)=v:=by
   have hlt:i<vs.length:=by rw[h.length];exact hi
   rw[List.getElem?_eq_getElem hlt] at h1
   simp[Array.getElem?_append,hlt]
   exact Option.some.inj h1
  rw[e]
  simpa [List.getD,List.getElem?_eq_getElem hi] using h2
 ·have:args.getD i .any= .any:=by simp[List.getD,List.getElem?_eq_none (Nat.le_of_not_lt hi)]
  rw[this];simp[ak]
theorem wT {G:aB} {w:World} {t:Tm} {h:H} {a:Act} (ht:bK G w t a) (R:aM G h w):∀{l:List ResultVar} {ds:List RV} {xs:List AV},oZ P l=some ds→rvs t h ds=some xs→
  ∃vs,(l.mapM (fun| .tmp t=>pure (a.tmps.getD t undef)| .cell b t=>do loadVar t (←asAddr (a.tmps.getD b undef)):ResultVar→Sem Value)).run P w= .ok vs w∧an G w xs vs
 |[],ds,xs,h1,h2=>by
  simp[oZ] at h1;subst h1
  simp[rvs] at h2;subst h2
  exact ⟨[],by simp,.nil⟩
 |r::l,ds,xs,h1,h2=>by
  simp only[oZ] at h1
  split at h1
  ·rename_i d ds' e1 e2
   cases h1
   simp only[rvs] at h2
   split at h2
   ·rename_i x xs' e3 e4
    cases h2
    obtain ⟨vs,g1,g2⟩:=wT ht R e2 e4
    cases r with
    |tmp k=>
     simp[FR] at e1;subst e1
     simp[rv] at e3;subst e3
     refine ⟨a.tmps.getD k undef::vs,?_,.cons (ht k) g2⟩
     simp only[List.mapM_cons,Sem.run_bind,Sem.run_pure,Result.andThen_ok,g1]
    |cell k ty=>
     simp only[FR] at e1
     split at e1
     ·rename_i hc
      cases e1
      simp only[rv] at e3
      split at e3
      ·rename_i id off hk
       split at e3
       ·rename_i cs ho
        have r1:=ht k
        rw[hk] at r1
        simp only[ak] at r1
        obtain ⟨vs0,rest0,T,fr,hg,hvs,-⟩:=iA R ho
        have hcell:∀j v,vs0[j]? =some v→w.cell? ⟨G.ι id,j,none⟩=some v:=by
         intro j v hj
         have hj':j<vs0.length:=(List.getElem?_eq_some_iff.1 hj).1
         unfold World.cell?;simp only[hg];simpa [List.getElem?_append_left hj'] using hj
        have hl:∃v,(loadVar ty ⟨G.ι id,off,none⟩).run P w= .ok v w∧ak G w x v:=by
         rcases lj hvs e3 with ⟨e,v,q1,q2⟩|⟨m,e,q1,q2⟩
         ·have hagg:bB P ty=false:=by cases hh:bB P ty<;>simp[hh] at e ⊢
          exact ⟨v,iz P w ty _ v hc.2 hagg (hcell _ _ q1),q2⟩
         ·have hagg:bB P ty=true:=by cases hh:bB P ty<;>simp[hh] at e ⊢
          have hm:m=P.cellsOf ty:=by simpa [hagg] using e.symm
          refine ⟨_,gI P w ty (G.ι id) off ((vs0.drop off).take m) hc.1 hc.2 hagg (by simp[hm] at q1 ⊢;omega) (fun j v hj=>hcell _ _ (by
           rw[List.getElem?_take] at hj
           split at hj
           ·simpa [List.getElem?_drop] using hj
           ·cases hj)),q2⟩
        obtain ⟨v,q1,q2⟩:=hl
        refine ⟨v::vs,?_,.cons q2 g2⟩
        have ha:(asAddr (a.tmps.getD k undef)).run P w= .ok ⟨G.ι id,off,none⟩ w:=by rw[r1.2];rfl
        simp only[List.mapM_cons,Sem.run_bind,ha,Sem.run_pure,Result.andThen_ok,q1,g1]
       ·cases e3
      ·cases e3
     ·cases e1
   ·cases h2
  ·cases h1
theorem sZ {fn:Func} {ds:List RV} {G:aB} {w:World} {t:Tm} {h:H} {a:Act} {x:AV} (hr:oZ P fn.results.toList=some ds) (ht:bK G w t a) (R:aM G h w) (hx:gh ds t h=some x):∃v,(results fn a.tmps).run P w= .ok v w∧ak G w x v:=by
 unfold gh at hx
 have hxs:∃xs,rvs t h ds=some xs∧((∃y,xs=[y]∧x=y)∨(xs.length≠1∧x= .tup xs)):=by
  split at hx
  ·rename_i y e;cases hx;exact ⟨_,e,.inl ⟨_,rfl,rfl⟩⟩
  ·rename_i l hne e
   cases hx
   refine ⟨_,e,.inr ⟨fun hl=>?_,rfl⟩⟩
   obtain ⟨y,rfl⟩:=List.length_eq_one_iff.1 hl
   exact hne y rfl
  ·cases hx
 obtain ⟨xs,e,hc⟩:=hxs
 obtain ⟨vs,g1,g2⟩:=wT (P:=P) ht R hr e
 have hm':(fn.results.mapM (fun| .tmp t=>pure (a.tmps.getD t undef)| .cell b t=>do loadVar t (←asAddr (a.tmps.getD b undef)):ResultVar→Sem Value)).run P w= .ok vs.toArray w:=by
  rw[Array.mapM_eq_mapM_toList]
  simp only[Sem.run_map,g1,Result.andThen_ok]
 have key:(results fn a.tmps).run P w= .ok (if h:vs.toArray.size=1 then vs.toArray[0] else .tuple vs.toArray) w:=by
  unfold results
  rw[Sem.run_bind]
  exact congrArg (fun x:Result (Array Value)=>x.andThen fun vs w'=>(Pure.pure (if h:vs.size=1 then vs[0] else .tuple vs):Sem Value).run P w') hm'
 rw[key]
 have hl:=g2.length
 rcases hc with ⟨y,rfl,rfl⟩|⟨hn,rfl⟩
 ·simp only[an] at g2
  obtain ⟨v,us,rfl,q1,rfl⟩:=g2
  exact ⟨v,by simp,q1⟩
 ·have:¬vs.toArray.size=1:=by simp;omega
  rw[dif_neg this]
  refine ⟨_,rfl,?_⟩
  simp only[ak]
  exact ⟨vs,rfl,g2⟩
theorem cW.results {D:Nat} {w:World} (h:w.heap[D]? =some (.deferred (some []))):cW D w (w.putObj D (.deferred none)):=
 ⟨by simp,fun B hB=>World.putObj_heap_other hB,fun c T fr e=>absurd (h.symm.trans e) (by simp),rfl,rfl⟩
theorem rM {F:Fence} {n:Nat} {fn:Func} {tmps:Array Value} {R:Ending→World→Prop} (Ds:Nat→Prop) (I:World→Prop)
  (hI:∀w D,Ds D→I w→w.heap[D]? =some (.deferred (some []))→I (w.putObj D (.deferred none))) (hend:∀w,I w→∃v,(results fn tmps).run P w= .ok v w∧R (.returned v) w):
  ∀(l:List Deferred) (w:World),l.Nodup→(∀d∈l,∃D,Ds D∧d= {target:= .collected D,args:= #[]}∧w.heap[D]? =some (.deferred (some [])))→I w→LeavesInM F n P fn tmps R l .returning w:=by
 intro l
 induction l with
 |nil=>intro w _ _ hi;exact hend w hi
 |cons d l ih=>
  intro w hn hm hi
  obtain ⟨D,h1,h2,h3⟩:=hm d (by simp)
  refine ⟨by simp,.inl ⟨D,_,by rw[h2],run_takeDeferred h3,ih _ (List.nodup_cons.1 hn).2 (fun d' hd'=>?_) (hI w D h1 hi h3)⟩⟩
  obtain ⟨D',k1,k2,k3⟩:=hm d' (by simp[hd'])
  refine ⟨D',k1,k2,?_⟩
  rw[World.putObj_heap_other ?_]
  ·exact k3
  ·rintro rfl
   exact (List.nodup_cons.1 hn).1 (by rw[h2,←k2];exact hd')
theorem yL {f:FuncId} {fn:Func} {code:Code} {ac:AC} {args:List AV} {h:H} {ds:List RV} {Q:AV→H→Prop} (hf:P.funcs[f]? =some fn) (hb:fn.body=some code) (hc:cCode P fn.ntmps code=some ac) (hr:oZ P fn.results.toList=some ds) (hl:args.length≤fn.ntmps)
  (hw:Wp P fn.ntmps ac ⟨eh args,h⟩ fun e s'=>gq e∧∃r,gh ds s'.t s'.h=some r∧Q r s'.h):∃r h',aN P f args h r h'∧Q r h':=by
 obtain ⟨e,s',run,he,r,hres,hq⟩:=hw code hc
 refine ⟨r,s'.h,?_,hq⟩
 intro G w vs hv R F
 have hlen:=hv.length
 refine callsIn_wide.1 (callsIn_of_wp_marks (F:=rd none) (n:=0) hf hb trivial (wpIn_mono (run.2 none (.inl rfl) G w _ ⟨?_,sY hv,R,⟨by simp,by simp⟩⟩ F) ?_) rfl)
 ·simp;omega
 ·rintro e' a' w' ⟨h1,h2,G',T,r'⟩
  have key:LeavesInM (rd none) 0 P fn a'.tmps (fun e w'=>∃v G',e= .returned v∧Trans G w h G' w' s'.h∧aM G' s'.h w'∧ak G' w' r v) a'.defers .returning w':=by
   refine rM (fun D=>w.heap.size≤D∧¬s'.h.O G' D∧¬s'.h.T G' D) (fun w2=>Trans G w h G' w2 s'.h∧aM G' s'.h w2∧bK G' w2 s'.t a') ?_ ?_ _ _ r'.df.1 ?_ ⟨T,r'.h,r'.t⟩
   ·rintro w2 D ⟨d1,d2,d3⟩ ⟨T2,R2,t2⟩ hD
    have tu:=cW.results hD
    exact ⟨T2.cJ tu d1,R2.cJ tu d2,fun i=>ak.cJ tu _ _ (t2 i)⟩
   ·rintro w2 ⟨T2,R2,t2⟩
    obtain ⟨v,q1,q2⟩:=sZ (P:=P) hr t2 R2 hres
    exact ⟨v,q1,v,G',rfl,T2,R2,q2⟩
   ·intro d hd
    obtain ⟨D,e,k1,k2,k3⟩:=r'.df.2 d hd
    rcases h2 d hd with h|⟨D',k4,e'⟩
    ·simp at h
    ·rw[e] at e'
     simp only[Deferred.mk.injEq,Target.collected.injEq,and_true] at e'
     subst e'
     exact ⟨D,⟨k4,k2,k3⟩,e,k1⟩
  cases e<;>cases e'<;>simp only[aA.dA,gq] at h1 he<;>exact key
def aI (P:Program) (f:FuncId) (N:Nat) (ac:AC) (ds:List RV):Prop:=∃fn,P.funcs[f]? =some fn∧fn.ntmps=N∧fn.body.bind (cCode P N)=some ac∧oZ P fn.results.toList=some ds
theorem aI.dC {f:FuncId} {ac:AC} {args:List AV} {h:H} {ds:List RV} {Q:AV→H→Prop} (hF:aI P f N ac ds) (hl:args.length≤N) (hw:Wp P N ac ⟨eh args,h⟩ fun e s'=>gq e∧∃r,gh ds s'.t s'.h=some r∧Q r s'.h):∃r h',aN P f args h r h'∧Q r h':=by
 obtain ⟨fn,h1,h2,h3,h4⟩:=hF
 subst h2
 obtain ⟨code,hb,hc⟩:=Option.bind_eq_some_iff.1 h3
 exact yL h1 hb hc h4 hl hw
def wU (x:AV):Prop:=∀G G' w v,G'.own=G.own→G'.lim=G.lim→ak G w x v→ak G' w x v
def rN (l:List AV):Prop:=∀G G' w vs,G'.own=G.own→G'.lim=G.lim→an G w l vs→an G' w l vs
theorem aN.pure {f:FuncId} {args:List AV} {n m:Nat} {r r':AV} {h':H} (ha:rN args) (hc:aN P f args (H0 n m) r h') (hs:ag r r') (hp:wU r'):aN P f args (H0 n m) r' (H0 n m):=by
 intro G w vs hv R F
 let G0:aB:={G with dom:=fun _=>False,tdom:=fun _=>False}
 refine (hc G0 w vs (ha G G0 w vs rfl rfl hv) gd ⟨fun _ _ _ h=>h,fun _ _ _ h=>h⟩).mono ?_
 rintro e w' ⟨v,G',rfl,T,R',V⟩
 refine ⟨v,{G' with dom:=G.dom,ι:=G.ι,tdom:=G.tdom,τ:=G.τ},rfl,?_,gd,hp G' _ w' v rfl rfl (hs G' w' v V)⟩
 have hO:∀{G:aB} B,¬(H0 n m).O G B:=fun B=>eW B
 have hT:∀{G:aB} B,¬(H0 n m).T G B:=fun B ⟨t,ht,_⟩=>by simp[H0,H.only] at ht
 constructor
 ·exact fun _ x=>x
 ·exact fun _=> .inl
 ·exact fun _ _=>rfl
 ·exact fun _ x=>x
 ·exact fun _=> .inl
 ·exact fun _ _=>rfl
 ·exact Nat.le_refl _
 ·exact Nat.le_refl _
 ·exact T.size_le
 ·exact T.os
 ·exact T.output
 ·exact T.form
 ·exact fun B hB _ _=>T.keep B hB (hO B) (hT B)
 ·exact fun B hB _=>T.own_keep B hB (hO B)
 ·exact fun B hB _ _=>T.lim_keep B hB (hO B) (hT B)
 ·exact fun B hB x=>absurd x (hT B)
 ·exact fun B _ x=>absurd x (hO B)
 ·exact fun B _ x=>absurd x (hT B)
 ·exact fun j o x=>by simp[H0,H.only,ah] at x
 ·exact fun t x=>by simp[H0,H.only] at x
theorem aI.AT {f:FuncId} {ac:AC} {args:List AV} {ds:List RV} {r:AV} (hF:aI P f N ac ds) (hl:args.length≤N) (ha:rN args) (hp:wU r) (hw:∀n m,Wp P N ac ⟨eh args,H0 n m⟩ fun e s'=>gq e∧∃q,gh ds s'.t s'.h=some q∧ag q r):aE P f args r:=by
 intro n m
 obtain ⟨r',h',bI,hs⟩:=hF.dC (Q:=fun r' _=>ag r' r) hl (hw n m)
 exact bI.pure ha hs hp
end
end Go.Av
end
section
namespace Go.Av
section
variable {P:Program} {N:Nat} {s:St} {Q:aA→St→Prop}
theorem Wp.cA {items:List aw} {p:Option (List (Nat × Nat))} {y:AC} {t':Tm} {h':H} {log:List Ent} (he:bL items s.t s.h []=([],t',h',log)) (hp:aJ p log.reverse) (h:Wp P N y ⟨t',h'⟩ Q):Wp P N (.seq (.reg items p) y) s Q:=
 Wp.seq (Wp.reg (ae.eval he (ae.nil ⟨hp,h⟩)))
theorem Wp.s5 {items:List aw} {p:Option (List (Nat × Nat))} {t':Tm} {h':H} {log:List Ent} (he:bL items s.t s.h []=([],t',h',log)) (hp:aJ p log.reverse) (h:Q .normal ⟨t',h'⟩):Wp P N (.reg items p) s Q:=
 Wp.reg (ae.eval he (ae.nil ⟨hp,h⟩))
theorem Wp.seqItems {items its:List aw} {p:Option (List (Nat × Nat))} {y:AC} {t':Tm} {h':H} {log:List Ent} (he:bL items s.t s.h []=(its,t',h',log)) (h:ae P N its t' h' log fun t h l=>aJ p l∧Wp P N y ⟨t,h⟩ Q):Wp P N (.seq (.reg items p) y) s Q:=
 Wp.seq (Wp.reg (ae.eval he h))
theorem Wp.items {items its:List aw} {p:Option (List (Nat × Nat))} {t':Tm} {h':H} {log:List Ent} (he:bL items s.t s.h []=(its,t',h',log)) (h:ae P N its t' h' log fun t h l=>aJ p l∧Q .normal ⟨t,h⟩):Wp P N (.reg items p) s Q:=
 Wp.reg (ae.eval he h)
def tm:List (Nat × AV)→Tm
 |[]=>fun _=> .any
 |(i,v)::l=>upd (tm l) i v
def av (t:Tm):List (Nat × AV)→Prop
 |[]=>True
 |(i,v)::l=>ag (t i) v∧av t l
theorem bk {t:Tm}:∀{l:List (Nat × AV)},av t l→∀i,ag (t i) (tm l i)
 |[],_,i=>ag.any _
 |(k,v)::l,h,i=>by
  simp only[tm,upd]
  split
  ·rename_i e;subst e;exact h.1
  ·exact bk h.2 i
theorem aF.tm {t:Tm} {h:H} {l:List (Nat × AV)} (hs:av t l):aF ⟨t,h⟩ ⟨Av.tm l,h⟩:=aF.mk' (bk hs) h.Au.le (Nat.le_refl _) (Nat.le_refl _)
theorem Wp.G4 {β:Type} (S:β→List (Nat × AV)) (I:β→Prop) (μ:β→Nat) {c:AC} {h:H} {t:Tm} (b0:β) (h0:I b0) (hs:av t (S b0))
  (round:∀b,I b→Wp P N c ⟨tm (S b),h⟩ (aA.andThen (fun s'=>∃b',I b'∧μ b'<μ b∧aF s' ⟨tm (S b'),h⟩) Q)):Wp P N (.loop c) ⟨t,h⟩ Q:=
 Wp.loop (fun b=>⟨tm (S b),h⟩) I μ b0 h0 (aF.tm hs) round
theorem av.append {t:Tm}:∀{l m:List (Nat × AV)},av t l→av t m→av t (l++m)
 |[],_,_,h=>h
 |(_,_)::_,_,h,h'=>⟨h.1,av.append h.2 h'⟩
theorem av.self {t:Tm}:∀(L:List Nat),av t (L.map fun i=>(i,t i))
 |[]=>trivial
 |_::L=>⟨ag.refl _,av.self L⟩
theorem Wp.gN {β:Type} (L:List Nat) {K:List (Nat × AV)} {c:AC} {h:H} {t:Tm} (hK:(L.map fun i=>(i,t i))=K) (ch:β→List (Nat × AV)) (I:β→Prop) (μ:β→Nat) (b0:β) (h0:I b0) (hs:av t (ch b0))
  (round:∀b,I b→Wp P N c ⟨tm (K++ch b),h⟩ (aA.andThen (fun s'=>∃b',I b'∧μ b'<μ b∧aF s' ⟨tm (K++ch b'),h⟩) Q)):Wp P N (.loop c) ⟨t,h⟩ Q:=
 Wp.G4 (fun b=>K++ch b) I μ b0 h0 (av.append (hK▸av.self L) hs) round
theorem Wp.eN {β:Type} (L:List Nat) {K:List (Nat × AV)} {c:AC} {h:H} {t:Tm} (hK:(L.map fun i=>(i,t i))=K) (ch:β→List (Nat × AV)) (hp:β→H) (I:β→Prop) (μ:β→Nat) (b0:β) (h0:I b0) (hh:h=hp b0) (hs:av t (ch b0))
  (round:∀b,I b→Wp P N c ⟨tm (K++ch b),hp b⟩ (aA.andThen (fun s'=>∃b',I b'∧μ b'<μ b∧aF s' ⟨tm (K++ch b'),hp b'⟩) Q)):Wp P N (.loop c) ⟨t,h⟩ Q:=
 Wp.loop (fun b=>⟨tm (K++ch b),hp b⟩) I μ b0 h0 (hh▸aF.tm (av.append (hK▸av.self L) hs)) round
theorem ag.int {k:IntKind} {a b:Int} (h:a=b):ag (.int k a) (.int k b):=h▸ag.refl _
theorem ag.of_eq {x y:AV} (h:x=y):ag x y:=h▸ag.refl _
def bC:Cap→Bool
 | .own _=>false
 |_=>true
mutual
def aO:AV→Bool
 | .sl _ xs c=>bC c&&az xs
 | .ref cs=>az cs
 | .agg cs=>az cs
 | .tup cs=>az cs
 | .ptr _ _| .tsl _ _ _ _ _| .mp _| .yld _=>false
 | .clo _ a b=>az a&&az b
 | .ifc _ x=>aO x
 | .slt _ xs ys=>az xs&&az ys
 |_=>true
def az:List AV→Bool
 |[]=>true
 |x::xs=>aO x&&az xs
end
mutual
theorem dP:∀(x:AV),aO x=true→wU x
 | .any,_=>fun _ _ _ _ _ _ h=>h
 | .int _ _,_=>fun _ _ _ _ _ _ h=>h
 | .bool _,_=>fun _ _ _ _ _ _ h=>h
 | .str _,_=>fun _ _ _ _ _ _ h=>h
 | .sc _,_=>fun _ _ _ _ _ _ h=>h
 | .sl sz xs c,hp=>by
  simp only[aO,Bool.and_eq_true] at hp
  intro G G' w v e1 e2 h
  simp only[ak] at h ⊢
  rcases h with h|⟨B,off,C,vs,h1,h2,h3,h4,h5,h6⟩
  ·exact .inl h
  ·refine .inr ⟨B,off,C,vs,h1,h2,h3,gO xs hp.2 G G' w sz vs e1 e2 h4,fun i v hv=>?_,?_⟩
   ·rw[e1,e2];exact h5 i v hv
   ·cases c with
    |own t=>simp[bC] at hp
    |any=>trivial
    |exact k=>exact h6
 | .ref cs,hp=>by
  simp only[aO] at hp
  intro G G' w v e1 e2 h
  simp only[ak] at h ⊢
  obtain ⟨B,off,vs,h1,h2,h3⟩:=h
  exact ⟨B,off,vs,h1,cu cs hp G G' w vs e1 e2 h2,fun i v hv=>by rw[e1,e2];exact h3 i v hv⟩
 | .agg cs,hp=>by
  simp only[aO] at hp
  intro G G' w v e1 e2 h
  simp only[ak] at h ⊢
  obtain ⟨vs,h1,h2⟩:=h
  exact ⟨vs,h1,cu cs hp G G' w vs e1 e2 h2⟩
 | .tup cs,hp=>by
  simp only[aO] at hp
  intro G G' w v e1 e2 h
  simp only[ak] at h ⊢
  obtain ⟨vs,h1,h2⟩:=h
  exact ⟨vs,h1,cu cs hp G G' w vs e1 e2 h2⟩
 | .ptr _ _,hp=>by simp[aO] at hp
 | .tsl _ _ _ _ _,hp=>by simp[aO] at hp
 | .mp _,hp=>by simp[aO] at hp
 | .yld _,hp=>by simp[aO] at hp
 | .slt sz xs ys,hp=>by
  simp only[aO,Bool.and_eq_true] at hp
  intro G G' w v e1 e2 h
  simp only[ak] at h ⊢
  obtain ⟨B,off,C,us,vs,h1,h2,h3,h4,h5,h6⟩:=h
  exact ⟨B,off,C,us,vs,h1,h2,h3,gO xs hp.1 G G' w sz us e1 e2 h4,gO ys hp.2 G G' w sz vs e1 e2 h5,fun i v hv=>by rw[e1,e2];exact h6 i v hv⟩
 | .clo f a b,hp=>by
  simp only[aO,Bool.and_eq_true] at hp
  intro G G' w v e1 e2 h
  simp only[ak] at h ⊢
  obtain ⟨vs,us,h1,h2,h3⟩:=h
  exact ⟨vs,us,h1,cu a hp.1 G G' w vs e1 e2 h2,cu b hp.2 G G' w us e1 e2 h3⟩
 | .sup B,_=>fun _ _ _ _ _ _ h=>by simpa only[ak] using h
 | .supb B,_=>fun G G' w v e1 e2 h=>by
  simp only[ak] at h ⊢
  obtain ⟨l,h1,h2|⟨D,off,C,h2,h3,h4⟩⟩:=h
  ·exact ⟨l,h1,.inl h2⟩
  ·exact ⟨l,h1,.inr ⟨D,off,C,h2,h3,fun i v hv=>by rw[e1,e2];exact h4 i v hv⟩⟩
 | .wint k,_=>fun _ _ _ _ _ _ h=>by simpa only[ak] using h
 | .one,_=>fun _ _ _ _ _ _ h=>by simpa only[ak] using h
 | .ifc t x,hp=>by
  simp only[aO] at hp
  intro G G' w v e1 e2 h
  simp only[ak] at h ⊢
  obtain ⟨u,h1,h2⟩:=h
  exact ⟨u,h1,dP x hp G G' w u e1 e2 h2⟩
theorem cu:∀(l:List AV),az l=true→rN l
 |[],_=>fun _ _ _ _ _ _ h=>by simpa only[an] using h
 |x::xs,hp=>by
  simp only[az,Bool.and_eq_true] at hp
  intro G G' w vs e1 e2 h
  simp only[an] at h ⊢
  obtain ⟨v,us,h1,h2,h3⟩:=h
  exact ⟨v,us,h1,dP x hp.1 G G' w v e1 e2 h2,cu xs hp.2 G G' w us e1 e2 h3⟩
theorem gO:∀(l:List AV),az l=true→∀(G G':aB) (w:World) (sz:Nat) (vs:List Value),G'.own=G.own→G'.lim=G.lim→aq G w sz l vs→aq G' w sz l vs
 |[],_=>fun _ _ _ _ _ _ _ h=>by simpa only[aq] using h
 |x::xs,hp=>by
  simp only[az,Bool.and_eq_true] at hp
  intro G G' w sz vs e1 e2 h
  simp only[aq] at h ⊢
  obtain ⟨v,us,h1,h2,h3,h4⟩:=h
  exact ⟨v,us,h1,h2,dP x hp.1 G G' w v e1 e2 h3,gO xs hp.2 G G' w sz us e1 e2 h4⟩
end
theorem bA {α:Type} {f:α→AV} (h:∀x,aO (f x)=true):∀l:List α,az (l.map f)=true
 |[]=>rfl
 |x::l=>by simp[az,h x,bA h l]
def strs (l:List (List UInt8)):List AV:=l.map .str
def ints (l:List Int):List AV:=l.map (.int .i64)
theorem yM (l:List Int):az (ints l)=true:=bA (fun _=>rfl) l
theorem lA (l:List UInt8):az (al l)=true:=bA (fun _=>rfl) l
theorem s6 (l:List (List UInt8)):(strs l).length=l.length:=by simp[strs]
theorem fE (l:List Int):(ints l).length=l.length:=by simp[ints]
theorem aS (l:List UInt8):(al l).length=l.length:=by simp[al]
theorem mN (l:List Int) (k:Nat) (d:AV) (h:k<l.length):(ints l).getD k d= .int .i64 (l.getD k 0):=by
 simp[ints,List.getD,List.getElem?_map,List.getElem?_eq_getElem h]
theorem gr (l:List UInt8) (k:Nat) (d:AV) (h:k<l.length):(al l).getD k d=byte (l.getD k 0):=by
 simp[al,List.getD,List.getElem?_map,List.getElem?_eq_getElem h]
theorem bW (l:List UInt8):fy (al l)=some l:=by
 induction l with
 |nil=>rfl
 |cons b l ih=>
  have:fy (List.map byte l)=some l:=ih
  simp[al,fy,uz,byte,this]
end
def lit:Bool→Bool
 |true=>true
 |false=>true
def pk:Bool→AC→AC→AC
 |true,x,_=>x
 |false,_,y=>y
theorem Wp.aK {P:Program} {N:Nat} {s:St} {Q:aA→St→Prop} {c:Opd} {x y:AC} {b:Bool} (hb:ev s.t c= .bool b) (_:lit b=true) (h:Wp P N (pk b x y) s Q):Wp P N (.cond c x y) s Q:=by
 cases b
 ·exact Wp.cond_false hb h
 ·exact Wp.cond_true hb h
theorem bx:((false=true)=False)∧(∀b:Bool,(true == b)=b)∧(∀b:Bool,(false == b)= !b)∧((!true)=false)∧((!false)=true):=
 ⟨Bool.false_eq_true,Bool.true_beq,Bool.false_beq,Bool.not_true,Bool.not_false⟩
theorem ax:(∀p:Prop,(p∧p)=p)∧(∀p:Prop,(True∧p)=p)∧(∀p:Prop,(p∧True)=p)∧(∀p:Prop,(True∨p)=True)∧(∀p:Prop,(p∨True)=True)∧(∀n:Nat,0*n=0)∧(∀n:Nat,1*n=n)∧(∀n:Nat,0≤n)
  ∧(∀h:Decidable True,@decide True h=true)∧(∀h:Decidable False,@decide False h=false)∧(∀n:Nat,((n:Nat):Int).toNat=n)∧(∀(α:Type) (a b:List α),(a++b).length=a.length+b.length)
  ∧(∀(α:Type) (p:α→Bool) (x:α) (l:List α),List.filter p (x::l)=if p x=true then x::List.filter p l else List.filter p l)∧(∀(α:Type) (p:α→Bool),List.filter p []=[])∧(∀(α:Type) (a b:α),(a≠b)= ¬(a=b))∧((¬True)=False)∧((¬False)=True):=
 ⟨and_self,true_and,and_true,true_or,or_true,Nat.zero_mul,Nat.one_mul,Nat.zero_le,fun _=>decide_true _,fun _=>decide_false _,Int.toNat_natCast,fun _ _ _=>List.length_append,fun _ _ _ _=>List.filter_cons,fun _ _=>List.filter_nil,fun _ _ _=>rfl,not_true_eq_false,not_false_eq_true⟩
attribute [go_sem] undef bL guardOf aop ev bD upd eh H0 H.only ah bU cellsOf shaped part bin FN FO iv kn oH uA oI n9 unop eqB eqP eqN eqA aW gX mm jD cR Aw oK oJ eqM slice bound lf setAt ec tm
 s6 fE aS List.getElem?_cons_zero List.getElem?_cons_succ List.getD_cons_zero List.getD_cons_succ Option.map_some Option.map_none Option.bind_some Option.bind_none List.all_cons List.all_nil Bool.and_self Bool.true_and Bool.and_true
 List.length_cons List.length_nil List.map_cons List.map_nil List.drop_succ_cons List.drop_zero List.take_succ_cons List.take_zero List.drop_nil List.take_nil Nat.zero_add Nat.add_zero List.append_nil List.nil_append List.cons_append Bool.or_false Bool.false_or Bool.or_true Bool.true_or
end Go.Av
end
section
namespace Go.Av
section
variable {P:Program} {N:Nat}
theorem mg (h:H) {tk tk' m':Nat} (htk:tk∈h.toks) (hm:h.m≤m'):Touch h (.only ah [tk] h.n h.m) (.only ah [tk'] h.n m') {h with toks:=tk'::h.toks.filter (· ≠tk),m:=m'} ⟨[],[],[tk,tk']⟩ where
 sub:=⟨fun j o x=>by simp[H.only,ah] at x,fun t x=>by simp only[H.only,List.mem_singleton] at x;subst x;exact htk⟩
 n:=rfl
 m:=rfl
 eq:=H.ext (fun j=>by simp[H.patch,H.only,ah];omega) rfl (by
  simp only[H.patch,H.only,List.singleton_append,List.cons.injEq,true_and]
  apply List.filter_congr
  intro y _
  simp) rfl
 rd j x:=by simp[H.only,ah] at x
 wr id a b:=by simp only[H.only] at a b;omega
 chg j x hj:=by simp[H.only,ah] at x
 tk t x:=by simp only[H.only,List.mem_singleton] at x;subst x;simp
 tn t x:=by simp only[H.only,List.mem_singleton] at x;subst x;simp
 le:=Nat.le_refl _
 lem:=hm
def hG (P:Program) (f:FuncId) (args:Nat→List AV) (r:Nat→AV):Prop:=∀t n m,∃t' m',m≤m'∧aN P f (args t) (.only ah [t] n m) (r t') (.only ah [t'] n m')
theorem ae.cE {dst:Option Nat} {g:Option (Nat × Bool)} {f:FuncId} {l:List Opd} {its:List aw} {t:Tm} {h:H} {log:List Ent} {K:Tm→H→List Ent→Prop} {args:Nat→List AV} {r:Nat→AV} (tk:Nat) (hg:guardOf t g=some true) (hs:af (l.map (ev t)) (args tk)) (hk:tk∈h.toks) (hc:hG P f args r)
  (rest:∀tk' m',h.m≤m'→ae P N its (bD t dst (r tk')) {h with toks:=tk'::h.toks.filter (· ≠tk),m:=m'} (⟨[],[],[tk,tk']⟩::log) K):ae P N (⟨dst,g,.call f l⟩::its) t h log K:=by
 obtain ⟨tk',m',hm,ha⟩:=hc tk h.n h.m
 exact ae.fc hg hs ha (mg h hk hm) (rest tk' m' hm)
variable {s:St} {Q:aA→St→Prop}
theorem Wp.rP {β:Type} (L:List Nat) {K:List (Nat × AV)} {c:AC} {h:H} {t:Tm} (hK:(L.map fun i=>(i,t i))=K) (ch:β→Nat→List (Nat × AV)) (I:β→Prop) (μ:β→Nat) (b0:β) (tk:Nat) (h0:I b0) (hh:h.toks=[tk]) (hs:av t (ch b0 tk))
  (round:∀b tk m,I b→Wp P N c ⟨tm (K++ch b tk),{h with toks:=[tk],m:=m}⟩ (aA.andThen (fun s'=>∃b' tk' m',I b'∧μ b'<μ b∧aF s' ⟨tm (K++ch b' tk'),{h with toks:=[tk'],m:=m'}⟩) Q)):Wp P N (.loop c) ⟨t,h⟩ Q:=by
 refine Wp.eN (β:=β × Nat × Nat) L hK (fun j=>ch j.1 j.2.1) (fun j=>{h with toks:=[j.2.1],m:=j.2.2}) (fun j=>I j.1) (fun j=>μ j.1) (b0,tk,h.m) h0 (by cases h;simp only at hh;subst hh;rfl) hs ?_
 rintro ⟨b,tk,m⟩ hb
 refine Wp.mono (round b tk m hb) ?_
 intro e s' h
 cases e with
 |normal=>obtain ⟨b',tk',m',h1,h2,h3⟩:=h;exact ⟨(b',tk',m'),h1,h2,h3⟩
 |exit id=>exact h
 |goto l=>exact h
 |ret=>exact h
 |panic v=>exact h
end
section
variable {P:Program} {N:Nat}
end
theorem jM (t:Nat):List.filter (fun x=>decide (x≠t)) [t]=[]:=by simp
theorem FU (k:Nat):(k=k+1)=False:=by simp
theorem FV (k:Nat):(k+1=k)=False:=by simp
attribute [go_sem] FU FV jM List.mem_singleton List.mem_cons true_or
end Go.Av
end
section
namespace Go.Av
structure Fun where
 N:Nat
 ac:AC
 ds:List RV
inductive FT where
 |leaf
 |node (k:Nat) (F:Fun) (l r:FT)
section
variable {P:Program} {T:FT}
theorem aN.wV {f:FuncId} {args:List AV} {r r':AV} {h':H} (ha:rN args) (hc:aN P f args (H0 0 0) r h') (hs:ag r r') (hp:wU r'):aE P f args r':=by
 intro n m G w vs hv R F
 let G0:aB:={G with dom:=fun _=>False,tdom:=fun _=>False}
 refine (hc G0 w vs (ha G G0 w vs rfl rfl hv) gd ⟨fun _ _ _ h=>h,fun _ _ _ h=>h⟩).mono ?_
 rintro e w' ⟨v,G',rfl,T,R',V⟩
 refine ⟨v,{G' with dom:=G.dom,ι:=G.ι,tdom:=G.tdom,τ:=G.τ},rfl,?_,gd,hp G' _ w' v rfl rfl (hs G' w' v V)⟩
 have hO:∀{G:aB} {n m} B,¬(H0 n m).O G B:=fun B=>eW B
 have hT:∀{G:aB} {n m} B,¬(H0 n m).T G B:=fun B ⟨t,ht,_⟩=>by simp[H0,H.only] at ht
 constructor
 ·exact fun _ x=>x
 ·exact fun _=> .inl
 ·exact fun _ _=>rfl
 ·exact fun _ x=>x
 ·exact fun _=> .inl
 ·exact fun _ _=>rfl
 ·exact Nat.le_refl _
 ·exact Nat.le_refl _
 ·exact T.size_le
 ·exact T.os
 ·exact T.output
 ·exact T.form
 ·exact fun B hB _ _=>T.keep B hB (hO B) (hT B)
 ·exact fun B hB _=>T.own_keep B hB (hO B)
 ·exact fun B hB _ _=>T.lim_keep B hB (hO B) (hT B)
 ·exact fun B hB x=>absurd x (hT B)
 ·exact fun B _ x=>absurd x (hO B)
 ·exact fun B _ x=>absurd x (hT B)
 ·exact fun j o x=>by simp[H0,H.only,ah] at x
 ·exact fun t x=>by simp[H0,H.only] at x
theorem aI.aD {f:FuncId} {N:Nat} {ac:AC} {args:List AV} {ds:List RV} {r:AV} (hF:aI P f N ac ds) (hl:args.length≤N) (ha:az args=true) (hp:aO r=true) (hw:Wp P N ac ⟨eh args,H0 0 0⟩ fun e s'=>gq e∧∃q,gh ds s'.t s'.h=some q∧ag q r):aE P f args r:=by
 obtain ⟨r',h',bI,hs⟩:=hF.dC (Q:=fun r' _=>ag r' r) hl hw
 exact bI.wV (cu _ ha) hs (dP _ hp)
end
end Go.Av
end
section
namespace Go.Av
section
variable {P:Program} {N:Nat}
def di (P:Program) (f:FuncId) (args:List AV) (h:H) (v:Value) (h':H):Prop:=
 ∀G w vs,an G w args vs→aM G h w→bH G h h'→Calls P f vs.toArray w fun e w'=>∃G',e= .panicked [{v:=v,recovered:=false}]∧Trans G w h G' w' h'∧aM G' h' w'
def AU (P:Program) (f:FuncId) (args:List AV) (v:Value):Prop:=∀n m,di P f args (H0 n m) v (H0 n m)
theorem AW {o:Oper} {f:FuncId} {vals:List AV} {h1 h1':H} {v:Value} (hc:di P f vals h1 v h1') {G:aB} {w:World} {a:Act} {vs:List Value} (hv:an G w vals vs) (R:aM G h1 w) (F:bH G h1 h1') {K:Act→World→Prop} {Q:Exit→Act→World→Prop} {ro:Option Nat} (hd:∀c,o.op≠ .defer c)
  (hK:∀G' w',Trans G w h1 G' w' h1'→aM G' h1' w'→Q (.panic [{v:=v,recovered:=false}]) a w') (hrun:(execOp a.eval o).run P w= .ok (.enter f vs.toArray) w):o.wpIn (rd ro) 0 P a w K Q:=by
 refine ⟨fun _ _=>trivial,?_⟩
 rw[Oper.semAt_eq _ _ _ hd,hrun,Oper.uponIn_enter]
 refine ⟨fun h=>by simp[rd,Fence.wide] at h,jg ?_⟩
 refine (hc G w vs hv R F).mono ?_
 rintro e w' ⟨G',rfl,T,R'⟩
 exact hK G' w' T R'
theorem dD {ops:Array Oper} {i:Nat} {o:Oper} {it:aw} {t:Tm} {f:FuncId} {l:List Opd} {vals:List AV} {h1 h1':H} {v:Value} (ho:ops[i]? =some o) (hit:bm P N ops o=some it) (hg:guardOf t it.guard=some true) (hop:it.op= .call f l)
  (hs:af (l.map (ev t)) vals) (hc:di P f vals h1 v h1'):jd P ops i o t h1 v h1':=by
 unfold bm at hit
 split at hit
 ·rename_i op g hcop hgd
  split at hit<;>cases hit
  rename_i hcond
  simp only[Bool.and_eq_true] at hcond
  simp only at hop
  subst hop
  have hcop:=fA hcop (by simp) rfl
  obtain ⟨c,fn,e1,e2,e3,e4,e5,e6⟩:=sW hcop
  intro G w a ht R F K Q hK ro
  unfold wpOpIn
  rw[ho]
  simp only[bN hgd ht hg,if_true]
  have rr:=fB (P:=P) (eA ht) e3
  have el:l.map (ev (gM (names ops o) t))=l.map (ev t):=List.map_congr_left fun x hx=>gZ hcond.2 x (by simpa [bf] using hx)
  rw[el] at rr
  refine AW hc (hs G w _ rr) R F (dv hcop) hK ?_
  have hargs:(c.args.map a.eval)=(c.args.toList.map a.eval).toArray:=by cases c.args;simp
  simp[execOp,e1,resolve,e2,Act.eval,Deferred.ofValue,invoke,hargs,cZ w e4 e5 e6]
 ·cases hit
theorem DF {o:Oper} {y:Opd} (h:cOp P o=some (.pan y)):∃x,o.op= .panic x∧opd P 0 x=some y:=by
 unfold cOp at h
 split at h
 all_goals first
  |(cases h;done)
  |(simp only[Option.map_eq_some_iff,AOp.pan.injEq] at h;obtain ⟨a,h1,rfl⟩:=h;exact ⟨_,‹_›,h1⟩)
  |(simp at h;done)
  |((repeat' split at h)<;>(try cases h)<;>(try simp at h);done)
  |skip
theorem uW {ops:Array Oper} {i:Nat} {o:Oper} {it:aw} {t:Tm} {y:Opd} {ty:TypeId} {k:IntKind} {z:Int} {n m:Nat} (ho:ops[i]? =some o) (hit:bm P N ops o=some it) (hg:guardOf t it.guard=some true) (hop:it.op= .pan y)
  (hy:ev t y= .ifc ty (.int k z)):jd P ops i o t (H0 n m) (.iface ty (.int k z)) (H0 n m):=by
 unfold bm at hit
 split at hit
 ·rename_i op g hcop hgd
  split at hit<;>cases hit
  rename_i hcond
  simp only[Bool.and_eq_true] at hcond
  simp only at hop
  subst hop
  have hcop:=fA hcop (by simp) rfl
  obtain ⟨x,e1,e2⟩:=DF hcop
  intro G w a ht R F K Q hK ro
  unfold wpOpIn
  rw[ho]
  simp only[bN hgd ht hg,if_true]
  have rz:=ao (P:=P) e2 (eA ht)
  rw[gZ (t:=t) hcond.2 y (by simp[bf]),hy] at rz
  simp only[ak] at rz
  obtain ⟨u,q1,q2⟩:=rz
  subst q2
  refine ⟨fun _ _=>trivial,?_⟩
  have hrun:(execOp a.eval o).run P w= .halt (.panic (.iface ty (.int k z))) w:=by
   simp[execOp,e1,q1,run_panic_iface]
  rw[Oper.semAt_eq _ _ _ (dv hcop),hrun,Oper.uponIn_panic]
  exact hK G w (Trans.refl _ _ _) R
 ·cases hit
theorem dX.congr {ops:Array Oper} {D D':Nat→Bool} {i:Nat} {recs:List Rec} {t t':Tm} {h h':H} (hc:dX P ops D i recs t h t' h') (hD:∀k,i≤k→D' k=D k):dX P ops D' i recs t h t' h':=by
 induction hc with
 |nil hi=>exact .nil hi
 | @cons i o r rs t t' h h' ho e1 e2 tc run rest ih=>exact .cons ho e1 e2 tc (fun hf=>run (by rw[←hD i (Nat.le_refl _)];exact hf)) (ih fun k hk=>hD k (by omega))
theorem uX (ro:Option Nat) {ops:Array Oper} {D:Nat→Bool} {j:Nat} {rj:Rec} {oj:Oper} {v:Value} {Q:Exit→Act→World→Prop} (hN:∀(i:Nat) o d,ops[i]? =some o→o.dst=some d→d<N) (hoj:ops[j]? =some oj) (hpan:jd P ops j oj rj.t rj.h1 v rj.h1') (hDj:D j=true) (hDk:∀k,D k=true→j≤k):
  ∀{i:Nat} {recs:List Rec} {t t':Tm} {h h':H},i≤j→dX P ops D i recs t h t' h'→recs[j - i]? =some rj→
  ∀(G:aB) (w:World) (a:Act),a.tmps.size=N→bK G w t a→aM G h w→bH G h h'→
   (∀G' w' a',Trans G w h G' w' {rj.h' with n:=h'.n,m:=h'.m}→aM G' {rj.h' with n:=h'.n,m:=h'.m} w'→a'.tmps.size=N→a'.defers=a.defers→Q (.panic [{v:=v,recovered:=false}]) a' w')→wpOpsIn (rd ro) 0 P ops Q (List.range' i (ops.size - i)) a w:=by
 intro i recs t t' h h' hij hc
 induction hc with
 |nil hi=>
  intro hr
  simp at hr
 | @cons i o r rs t t' h h' ho e1 e2 tc run rest ih=>
  intro hr G w a hs ht R U hq
  have hi:i<ops.size:=(Array.getElem?_eq_some_iff.1 ho).1
  have:ops.size - i=(ops.size - (i+1))+1:=by omega
  rw[this,List.range'_succ,wpOpsIn_cons]
  have nm:=(iD rest).1
  have e3:r.h'.n=r.h1'.n:=by rw[tc.eq];rfl
  have e4:r.h'.m=r.h1'.m:=by rw[tc.eq];rfl
  have F:bH G r.h1 r.h1':=U.sub (by rw[tc.n];exact Nat.le_refl _) (by omega) (by rw[tc.m];exact Nat.le_refl _) (by omega)
  by_cases hji:i=j
  ·subst hji
   simp at hr
   subst hr
   rw[hoj] at ho;cases ho
   refine hpan G w a (fun k _=>by rw[e1];exact ht k) (R.sub tc.sub) F _ Q (fun G' w' T1 R1=>?_) ro
   obtain ⟨R2,T2⟩:=frame R tc.sub tc.n tc.m R1 T1 F
   rw[←tc.eq] at R2 T2
   refine hq G' w' a ?_ (R2.same rfl fun _ x=>x) hs rfl
   exact T2.same rfl (fun _=>Iff.rfl) rfl (fun _=>Iff.rfl) (Nat.le_refl _) nm.1 (Nat.le_trans T2.n_le nm.1) (Nat.le_refl _) nm.2 (Nat.le_trans T2.m_le nm.2)
  ·have hDi:D i=false:=by
    cases hd:D i with
    |false=>rfl
    |true=>have:=hDk i hd;omega
   refine run hDi G w a (fun k _=>ht k) (R.sub tc.sub) F _ Q (fun G' w' v T1 R1 V=>?_) ro
   obtain ⟨R2,T2⟩:=frame R tc.sub tc.n tc.m R1 T1 F
   rw[←tc.eq] at R2 T2
   refine ih (by omega) (by rw[show j - i=(j - (i+1))+1 by omega] at hr;simpa using hr) G' w' _ (by rw[jF];exact hs) (l9 (ht.mono R T2) V fun k hk=>by rw[hs];exact hN i o k ho hk) R2 (U.step T2) fun G'' w'' a'' T3 h2 h3 h4=>?_
   exact hq G'' w'' a'' (T2.trans R R2 T3) h2 h3 (h4.trans (put_defers _ _ _))
def gu (l:List (Nat × Nat)) (j k:Nat) (ds:List Nat) (it:aw):Bool:=
 (bg it.op&& !l.contains (j,k))||(tmpsOf (bf it.op)).any ds.contains||(match it.guard with|some (d,_)=>ds.contains d|none=>false)
def da:AOp→Bool
 | .load _ _=>true
 |op=> !bg op
def o5 (l:List (Nat × Nat)) (j:Nat):List aw→Nat→List Nat→Tm→H→Option (List Ent)
 |[],_,_,_,_=>some []
 |it::its,k,ds,t,h=>
  if gu l j k ds it then (o5 l j its (k+1) (it.dst.toList++ds) (bD t it.dst .any) h).map (aC:: ·)
  else match guardOf t it.guard with
   |some false=>(o5 l j its (k+1) ds (bD t it.dst (.sc undef)) h).map (aC:: ·)
   |some true=>if da it.op then (match aop (ev t) h it.op with
    |some (x,_,en)=>(o5 l j its (k+1) ds (bD t it.dst x) h).map (en:: ·)
    |none=>none) else none
   |none=>none
def eB:AOp→Bool
 | .alloc _=>true
 |_=>false
def eP (l:List (Nat × Nat)) (j:Nat):List aw→Nat→List Nat→Tm→H→Option (List Ent)
 |[],_,_,_,_=>some []
 |it::its,k,ds,t,h=>
  if gu l j k ds it then (eP l j its (k+1) (it.dst.toList++ds) (bD t it.dst .any) h).map (aC:: ·)
  else match guardOf t it.guard with
   |some false=>(eP l j its (k+1) ds (bD t it.dst (.sc undef)) h).map (aC:: ·)
   |some true=>if da it.op||eB it.op then (match aop (ev t) h it.op with
    |some (x,h2,en)=>(eP l j its (k+1) ds (bD t it.dst x) h2).map (en:: ·)
    |none=>none) else none
   |none=>none
def o6 (e:Ent):Bool:=e.wr.isEmpty&&e.tk.isEmpty
theorem yN {ρ:Opd→AV} {h h':H} {op:AOp} {x:AV} {en:Ent} (ht:da op=true) (hx:aop ρ h op=some (x,h',en)):h'=h∧en.wr=[]∧en.tk=[]∧(bg op=false→en=aC):=by
 cases op<;>simp[da,bg] at ht<;>simp only[aop] at hx<;>first
  |(simp only[Option.some.injEq,Prod.mk.injEq] at hx;obtain ⟨-,rfl,rfl⟩:=hx;exact ⟨rfl,rfl,rfl,fun _=>rfl⟩)
  |(simp only[Option.map_eq_some_iff,Prod.mk.injEq] at hx;obtain ⟨_,_,_,rfl,rfl⟩:=hx;exact ⟨rfl,rfl,rfl,fun _=>rfl⟩)
  |((repeat' split at hx)<;>(first|(cases hx;done)|(cases hx;first|exact ⟨rfl,rfl,rfl,fun _=>rfl⟩|exact ⟨rfl,rfl,rfl,fun h=>by simp[bg] at h⟩)|(simp only[Option.map_eq_some_iff,Prod.mk.injEq] at hx;obtain ⟨_,_,_,rfl,rfl⟩:=hx;first|exact ⟨rfl,rfl,rfl,fun _=>rfl⟩|exact ⟨rfl,rfl,rfl,fun h=>by simp[bg] at h⟩)|skip))
 all_goals simp_all
def kr (P:Program) (N:Nat) (ops:Array Oper) (l:List (Nat × Nat)):Prop:=
 ∀(a b:Nat) oa ob ia ib,a<b→ops[a]? =some oa→ops[b]? =some ob→bm P N ops oa=some ia→bm P N ops ob=some ib→bg ia.op=true→bg ib.op=true→(a,b)∉l→cD ops a b=true
theorem oh {l:List (Nat × Nat)} {j:Nat} {ops:Array Oper} {itj:aw} {oj:Oper} (hoj:ops[j]? =some oj) (hij:bm P N ops oj=some itj) (htj:bg itj.op=true):
  ∀(its:List aw) (k:Nat) (ds:List Nat) (t:Tm) (h:H) (ents:List Ent),o5 l j its k ds t h=some ents→j<k→k≤ops.size→cG P N ops (ops.toList.drop k)=some its→
  ∃(D:Nat→Bool) (recs:List Rec) (t':Tm) (h':H),dX P ops D k recs t h t' h'∧h'=h∧recs.map (·.en)=ents∧(∀i,D i=true→k≤i)∧
   (∀(i:Nat) r it,recs[i]? =some r→its[i]? =some it→bg it.op=false→r.en=aC)∧
   (Tidy ops→kr P N ops l→∀(E:Nat→Bool),(∀d∈ds,∃k' o',k'<k∧ops[k']? =some o'∧o'.dst=some d∧E k'=true)→E j=true→(∀i,k≤i→D i=true→E i=true)→∀i,D i=true→∃k',E k'=true∧cD ops k' i=true)
 |[],k,ds,t,h,ents,he,hjk,hk,hc=>by
  simp only[o5,Option.some.injEq] at he
  subst he
  have:k=ops.size:=by
   cases hd:ops.toList.drop k with
   |nil=>have:=List.drop_eq_nil_iff.1 hd;simp at this;omega
   |cons o l=>
    rw[hd] at hc
    simp only[cG] at hc
    split at hc<;>simp at hc
  exact ⟨fun _=>false,[],t,h,.nil this,rfl,rfl,fun i h=>by (cases h),by simp,fun _ _ _ _ _ _ i h=>by (cases h)⟩
 |it::its,k,ds,t,h,ents,he,hjk,hk,hc=>by
  obtain ⟨o,ho,hit,hk',hc'⟩:=bG hk hc
  have hdst:it.dst=o.dst:=by
   unfold bm at hit
   split at hit
   ·split at hit<;>cases hit;rfl
   ·cases hit
  have hsub:(tmpsOf (bf it.op)).all (fun i=>(names ops o).contains i)=true∧jI ops o.guard=some it.guard:=by
   unfold bm at hit
   split at hit
   ·rename_i hg
    split at hit<;>cases hit
    rename_i hcond
    simp only[Bool.and_eq_true] at hcond
    exact ⟨hcond.2,hg⟩
   ·cases hit
  simp only[o5] at he
  split at he
  ·rename_i hdead
   simp only[Option.map_eq_some_iff] at he
   obtain ⟨es,he,rfl⟩:=he
   obtain ⟨D,recs,t',h',ch,hh,hr,hD,hE0,hX⟩:=oh hoj hij htj its (k+1) _ _ h es he (by omega) hk' hc'
   have hDk:D k=false:=by
    cases hd:D k with
    |false=>rfl
    |true=>have:=hD k hd;omega
   refine ⟨fun i=>D i||i == k,⟨t,h,H0 h.n h.m,H0 h.n h.m,h,.any,aC⟩::recs,t',h',?_,hh,by simp[hr],?_,?_,?_⟩
   ·refine .cons ho rfl rfl (aV h) (fun hf=>by simp at hf) ?_
    rw[←hdst]
    exact ch.congr fun i hi=>by
     have:(i == k)=false:=by simp;omega
     simp[this]
   ·intro i hi
    simp only[Bool.or_eq_true,beq_iff_eq] at hi
    rcases hi with hi|hi
    ·have:=hD i hi;omega
    ·omega
   ·intro i r it' hri hiti ht
    cases i with
    |zero=>simp at hri;subst hri;rfl
    |succ i=>simp at hri hiti;exact hE0 i r it' hri hiti ht
   ·intro T M E hds hEj hDE i hi
    simp only[Bool.or_eq_true,beq_iff_eq] at hi
    have hEk:E k=true:=hDE k (Nat.le_refl _) (by simp)
    rcases hi with hi|hi
    ·refine hX T M E ?_ hEj (fun i h1 h2=>hDE i (by omega) (by simp[h2])) i hi
     intro d hd
     simp only[List.mem_append,Option.mem_toList] at hd
     rcases hd with hd|hd
     ·exact ⟨k,o,by omega,ho,by rw[←hdst];exact hd,hEk⟩
     ·obtain ⟨k',o',h1,h2⟩:=hds d hd
      exact ⟨k',o',by omega,h2⟩
    ·subst hi
     unfold gu at hdead
     simp only[Bool.or_eq_true,Bool.and_eq_true,Bool.not_eq_true',List.any_eq_true] at hdead
     have byname:∀d,d∈ds→d∈names ops o→∃k',E k'=true∧cD ops k' i=true:=by
      intro d hd hn
      obtain ⟨k',o',h1,h2,h3,h4⟩:=hds d hd
      refine ⟨k',h4,?_⟩
      rcases T.tmp k' i o' o h2 ho (by omega) d h3 hn with h|h
      ·exact h
      ·have:=ly T k' _ h2 h;omega
     rcases hdead with (⟨h1,h2⟩|⟨d,h1,h2⟩)|h1
     ·exact ⟨j,hEj,M j i oj o itj it hjk hoj ho hij hit htj h1 (by simpa using h2)⟩
     ·have:=List.all_eq_true.1 hsub.1 d h1
      exact byname d (by simpa using h2) (by simpa using this)
     ·split at h1
      ·rename_i d w hg
       refine byname d (by simpa using h1) ?_
       have hg2:=hsub.2
       rw[hg] at hg2
       unfold jI at hg2
       split at hg2
       ·cases hg2
       ·rename_i j' w' hog
        split at hg2
        ·rename_i d' hd'
         cases hg2
         simp only[names,hog,List.mem_append]
         right
         simp[hd']
        ·cases hg2
      ·cases h1
  ·split at he
   ·rename_i hg
    simp only[Option.map_eq_some_iff] at he
    obtain ⟨es,he,rfl⟩:=he
    obtain ⟨D,recs,t',h',ch,hh,hr,hD,hE0,hX⟩:=oh hoj hij htj its (k+1) _ _ h es he (by omega) hk' hc'
    refine ⟨D,⟨t,h,H0 h.n h.m,H0 h.n h.m,h,.sc undef,aC⟩::recs,t',h',.cons ho rfl rfl (aV h) (fun _=>fp ho hit hg) (by rw[←hdst];exact ch),hh,by simp[hr],fun i hi=>by have:=hD i hi;omega,?_,?_⟩
    ·intro i r it' hri hiti ht
     cases i with
     |zero=>simp at hri;subst hri;rfl
     |succ i=>simp at hri hiti;exact hE0 i r it' hri hiti ht
    ·intro T M E hds hEj hDE i hi
     exact hX T M E (fun d hd=>by obtain ⟨k',o',h1,h2⟩:=hds d hd;exact ⟨k',o',by omega,h2⟩) hEj (fun i h1 h2=>hDE i (by omega) h2) i hi
   ·rename_i hg
    split at he
    ·rename_i hq
     split at he
     ·rename_i x h2 en hx
      simp only[Option.map_eq_some_iff] at he
      obtain ⟨es,he,rfl⟩:=he
      obtain ⟨q1,q2,q3,q4⟩:=yN hq hx
      subst q1
      obtain ⟨h1,h1',tc,run⟩:=fD ho hit hg hx
      obtain ⟨D,recs,t',h',ch,hh,hr,hD,hE0,hX⟩:=oh hoj hij htj its (k+1) _ _ _ es he (by omega) hk' hc'
      refine ⟨D,⟨t,_,h1,h1',_,x,en⟩::recs,t',h',.cons ho rfl rfl tc (fun _=>run) (by rw[←hdst];exact ch),hh,by simp[hr],fun i hi=>by have:=hD i hi;omega,?_,?_⟩
      ·intro i r it' hri hiti ht
       cases i with
       |zero=>simp at hri hiti;subst hri hiti;exact q4 ht
       |succ i=>simp at hri hiti;exact hE0 i r it' hri hiti ht
      ·intro T M E hds hEj hDE i hi
       exact hX T M E (fun d hd=>by obtain ⟨k',o',h1,h2⟩:=hds d hd;exact ⟨k',o',by omega,h2⟩) hEj (fun i h1 h2=>hDE i (by omega) h2) i hi
     ·cases he
    ·cases he
   ·cases he
theorem mh {l:List (Nat × Nat)} {j:Nat} {ops:Array Oper} {itj:aw} {oj:Oper} (hoj:ops[j]? =some oj) (hij:bm P N ops oj=some itj) (htj:bg itj.op=true):
  ∀(its:List aw) (k:Nat) (ds:List Nat) (t:Tm) (h:H) (ents:List Ent),eP l j its k ds t h=some ents→j<k→k≤ops.size→cG P N ops (ops.toList.drop k)=some its→
  ∃(D:Nat→Bool) (recs:List Rec) (t':Tm) (h':H),dX P ops D k recs t h t' h'∧recs.map (·.en)=ents∧(∀i,D i=true→k≤i)∧
   (∀(i:Nat) r it,recs[i]? =some r→its[i]? =some it→bg it.op=false→r.en=aC)∧
   (Tidy ops→kr P N ops l→∀(E:Nat→Bool),(∀d∈ds,∃k' o',k'<k∧ops[k']? =some o'∧o'.dst=some d∧E k'=true)→E j=true→(∀i,k≤i→D i=true→E i=true)→∀i,D i=true→∃k',E k'=true∧cD ops k' i=true)
 |[],k,ds,t,h,ents,he,hjk,hk,hc=>by
  simp only[eP,Option.some.injEq] at he
  subst he
  have:k=ops.size:=by
   cases hd:ops.toList.drop k with
   |nil=>have:=List.drop_eq_nil_iff.1 hd;simp at this;omega
   |cons o l=>
    rw[hd] at hc
    simp only[cG] at hc
    split at hc<;>simp at hc
  exact ⟨fun _=>false,[],t,h,.nil this,rfl,fun i h=>by (cases h),by simp,fun _ _ _ _ _ _ i h=>by (cases h)⟩
 |it::its,k,ds,t,h,ents,he,hjk,hk,hc=>by
  obtain ⟨o,ho,hit,hk',hc'⟩:=bG hk hc
  have hdst:it.dst=o.dst:=by
   unfold bm at hit
   split at hit
   ·split at hit<;>cases hit;rfl
   ·cases hit
  have hsub:(tmpsOf (bf it.op)).all (fun i=>(names ops o).contains i)=true∧jI ops o.guard=some it.guard:=by
   unfold bm at hit
   split at hit
   ·rename_i hg
    split at hit<;>cases hit
    rename_i hcond
    simp only[Bool.and_eq_true] at hcond
    exact ⟨hcond.2,hg⟩
   ·cases hit
  simp only[eP] at he
  split at he
  ·rename_i hdead
   simp only[Option.map_eq_some_iff] at he
   obtain ⟨es,he,rfl⟩:=he
   obtain ⟨D,recs,t',h',ch,hr,hD,hE0,hX⟩:=mh hoj hij htj its (k+1) _ _ h es he (by omega) hk' hc'
   have hDk:D k=false:=by
    cases hd:D k with
    |false=>rfl
    |true=>have:=hD k hd;omega
   refine ⟨fun i=>D i||i == k,⟨t,h,H0 h.n h.m,H0 h.n h.m,h,.any,aC⟩::recs,t',h',?_,by simp[hr],?_,?_,?_⟩
   ·refine .cons ho rfl rfl (aV h) (fun hf=>by simp at hf) ?_
    rw[←hdst]
    exact ch.congr fun i hi=>by
     have:(i == k)=false:=by simp;omega
     simp[this]
   ·intro i hi
    simp only[Bool.or_eq_true,beq_iff_eq] at hi
    rcases hi with hi|hi
    ·have:=hD i hi;omega
    ·omega
   ·intro i r it' hri hiti ht
    cases i with
    |zero=>simp at hri;subst hri;rfl
    |succ i=>simp at hri hiti;exact hE0 i r it' hri hiti ht
   ·intro T M E hds hEj hDE i hi
    simp only[Bool.or_eq_true,beq_iff_eq] at hi
    have hEk:E k=true:=hDE k (Nat.le_refl _) (by simp)
    rcases hi with hi|hi
    ·refine hX T M E ?_ hEj (fun i h1 h2=>hDE i (by omega) (by simp[h2])) i hi
     intro d hd
     simp only[List.mem_append,Option.mem_toList] at hd
     rcases hd with hd|hd
     ·exact ⟨k,o,by omega,ho,by rw[←hdst];exact hd,hEk⟩
     ·obtain ⟨k',o',h1,h2⟩:=hds d hd
      exact ⟨k',o',by omega,h2⟩
    ·subst hi
     unfold gu at hdead
     simp only[Bool.or_eq_true,Bool.and_eq_true,Bool.not_eq_true',List.any_eq_true] at hdead
     have byname:∀d,d∈ds→d∈names ops o→∃k',E k'=true∧cD ops k' i=true:=by
      intro d hd hn
      obtain ⟨k',o',h1,h2,h3,h4⟩:=hds d hd
      refine ⟨k',h4,?_⟩
      rcases T.tmp k' i o' o h2 ho (by omega) d h3 hn with h|h
      ·exact h
      ·have:=ly T k' _ h2 h;omega
     rcases hdead with (⟨h1,h2⟩|⟨d,h1,h2⟩)|h1
     ·exact ⟨j,hEj,M j i oj o itj it hjk hoj ho hij hit htj h1 (by simpa using h2)⟩
     ·have:=List.all_eq_true.1 hsub.1 d h1
      exact byname d (by simpa using h2) (by simpa using this)
     ·split at h1
      ·rename_i d w hg
       refine byname d (by simpa using h1) ?_
       have hg2:=hsub.2
       rw[hg] at hg2
       unfold jI at hg2
       split at hg2
       ·cases hg2
       ·rename_i j' w' hog
        split at hg2
        ·rename_i d' hd'
         cases hg2
         simp only[names,hog,List.mem_append]
         right
         simp[hd']
        ·cases hg2
      ·cases h1
  ·split at he
   ·rename_i hg
    simp only[Option.map_eq_some_iff] at he
    obtain ⟨es,he,rfl⟩:=he
    obtain ⟨D,recs,t',h',ch,hr,hD,hE0,hX⟩:=mh hoj hij htj its (k+1) _ _ h es he (by omega) hk' hc'
    refine ⟨D,⟨t,h,H0 h.n h.m,H0 h.n h.m,h,.sc undef,aC⟩::recs,t',h',.cons ho rfl rfl (aV h) (fun _=>fp ho hit hg) (by rw[←hdst];exact ch),by simp[hr],fun i hi=>by have:=hD i hi;omega,?_,?_⟩
    ·intro i r it' hri hiti ht
     cases i with
     |zero=>simp at hri;subst hri;rfl
     |succ i=>simp at hri hiti;exact hE0 i r it' hri hiti ht
    ·intro T M E hds hEj hDE i hi
     exact hX T M E (fun d hd=>by obtain ⟨k',o',h1,h2⟩:=hds d hd;exact ⟨k',o',by omega,h2⟩) hEj (fun i h1 h2=>hDE i (by omega) h2) i hi
   ·rename_i hg
    split at he
    ·rename_i hq
     split at he
     ·rename_i x h2 en hx
      simp only[Option.map_eq_some_iff] at he
      obtain ⟨es,he,rfl⟩:=he
      obtain ⟨h1,h1',tc,run⟩:=fD ho hit hg hx
      obtain ⟨D,recs,t',h',ch,hr,hD,hE0,hX⟩:=mh hoj hij htj its (k+1) _ _ _ es he (by omega) hk' hc'
      refine ⟨D,⟨t,_,h1,h1',_,x,en⟩::recs,t',h',.cons ho rfl rfl tc (fun _=>run) (by rw[←hdst];exact ch),by simp[hr],fun i hi=>by have:=hD i hi;omega,?_,?_⟩
      ·intro i r it' hri hiti ht
       cases i with
       |zero=>simp at hri hiti;subst hri hiti;exact (rJ ht hx).elim id (fun ⟨n,y,h⟩=>by rw[h] at ht;simp[bg] at ht)
       |succ i=>simp at hri hiti;exact hE0 i r it' hri hiti ht
      ·intro T M E hds hEj hDE i hi
       exact hX T M E (fun d hd=>by obtain ⟨k',o',h1,h2⟩:=hds d hd;exact ⟨k',o',by omega,h2⟩) hEj (fun i h1 h2=>hDE i (by omega) h2) i hi
     ·cases he
    ·cases he
   ·cases he
theorem qB {ops:Array Oper}:∀(its:List aw) (k:Nat) (t:Tm) (h:H),k≤ops.size→cG P N ops (ops.toList.drop k)=some its→∃(recs:List Rec) (t':Tm) (D:Nat→Bool),dX P ops D k recs t h t' h∧(∀i,D i=true→k≤i)∧∀r∈recs,r.en=aC
 |[],k,t,h,hk,hc=>by
  have:k=ops.size:=by
   cases hd:ops.toList.drop k with
   |nil=>have:=List.drop_eq_nil_iff.1 hd;simp at this;omega
   |cons o l=>
    rw[hd] at hc
    simp only[cG] at hc
    split at hc<;>simp at hc
  exact ⟨[],t,fun _=>false,.nil this,fun i h=>by (cases h),by simp⟩
 |it::its,k,t,h,hk,hc=>by
  obtain ⟨o,ho,hit,hk',hc'⟩:=bG hk hc
  obtain ⟨recs,t',D,ch,hD,he⟩:=qB its (k+1) (bD t o.dst .any) h hk' hc'
  refine ⟨⟨t,h,H0 h.n h.m,H0 h.n h.m,h,.any,aC⟩::recs,t',fun i=>D i||i == k,.cons ho rfl rfl (aV h) (fun hf=>by simp at hf) (ch.congr fun i hi=>by
   have:(i == k)=false:=by simp;omega
   simp[this]),fun i hi=>?_,?_⟩
  ·simp only[Bool.or_eq_true,beq_iff_eq] at hi
   rcases hi with hi|hi
   ·have:=hD i hi;omega
   ·omega
  ·intro r hr
   rcases List.mem_cons.1 hr with rfl|hr
   ·rfl
   ·exact he r hr
def DG (l:List (Nat × Nat)) (j:Nat) (log:List Ent):Bool:=l.all fun (a,b)=>(!Nat.beq a j||o6 (log.getD b aC))&&(!Nat.beq b j||o6 (log.getD a aC))
def yO (l:List (Nat × Nat)) (j:Nat) (log:List Ent) (h':H):Prop:=∀a b,(a,b)∈l→(a=j→(log.getD b aC).tk=[]∧∀id∈(log.getD b aC).wr,h'.objs id=none)∧(b=j→(log.getD a aC).tk=[]∧(log.getD a aC).wr=[])
theorem FW {l:List (Nat × Nat)} {j:Nat} {log:List Ent} {h':H} (h:DG l j log=true):yO l j log h':=by
 intro a b hab
 unfold DG at h
 rw[List.all_eq_true] at h
 have:=h _ hab
 simp only[Bool.and_eq_true,Bool.or_eq_true,Bool.not_eq_true',o6,List.isEmpty_iff] at this
 refine ⟨fun e=>?_,fun e=>?_⟩
 ·subst e
  obtain ⟨h1,h2⟩:=this.1.resolve_left (by simp)
  exact ⟨h2,fun id hid=>by rw[h1] at hid;cases hid⟩
 ·subst e
  obtain ⟨h1,h2⟩:=this.2.resolve_left (by simp)
  exact ⟨h2,h1⟩
structure G5 (P:Program) (N:Nat) (p:Option (List (Nat × Nat))) (ops:Array Oper) (i:Nat) (items:List aw) (t:Tm) (h:H) (log:List Ent) (D:Nat→Bool) (recs:List Rec) (t':Tm) (h':H) (j:Nat) (rj:Rec) (oj:Oper) (itj:aw) (v:Value):Prop where
 ch:dX P ops D i recs t h t' h'
 hrj:recs[j - i]? =some rj
 ij:i≤j
 hoj:ops[j]? =some oj
 it:bm P N ops oj=some itj
 tj:bg itj.op=true
 run:jd P ops j oj rj.t rj.h1 v rj.h1'
 Dj:D j=true
 Dk:∀k,D k=true→j≤k
 e0:∀(k:Nat) r it,recs[k]? =some r→items[k]? =some it→bg it.op=false→r.en=aC
 pairs:∀l,p=some l→(Tidy ops→kr P N ops l→∀k,D k=true→k=j∨∃k',D k'=true∧cD ops k' k=true)∧ar l (log.reverse++recs.map (·.en))∧yO l j (log.reverse++recs.map (·.en)) rj.h'
def ay (P:Program) (N:Nat) (p:Option (List (Nat × Nat))) (items:List aw) (t:Tm) (h:H) (log:List Ent) (R:Value→H→Prop):Prop:=
 ∀ops i,i≤ops.size→log.length=i→cG P N ops (ops.toList.drop i)=some items→
  ∃D recs t' h' j rj oj itj v,G5 P N p ops i items t h log D recs t' h' j rj oj itj v∧R v {rj.h' with n:=h'.n,m:=h'.m}
theorem ay.step {p:Option (List (Nat × Nat))} {it:aw} {its:List aw} {t:Tm} {h h' h1 h1':H} {x:AV} {en:Ent} {log:List Ent} {R:Value→H→Prop} (tc:Touch h h1 h1' h' en)
  (run:∀(ops:Array Oper) i o,ops[i]? =some o→bm P N ops o=some it→fC P ops i o t h1 x h1') (hen:bg it.op=false→en=aC)
  (rest:ay P N p its (bD t it.dst x) h' (en::log) R):ay P N p (it::its) t h log R:=by
 intro ops i hi hl hc
 obtain ⟨o,ho,hit,hi',hc'⟩:=bG hi hc
 obtain ⟨D,recs,t',hh',j,rj,oj,itj,v,A,hR⟩:=rest ops (i+1) hi' (by simp[hl]) hc'
 have hdst:it.dst=o.dst:=by
  unfold bm at hit
  split at hit
  ·split at hit<;>cases hit;rfl
  ·cases hit
 have hij:=A.ij
 refine ⟨D,⟨t,h,h1,h1',h',x,en⟩::recs,t',hh',j,rj,oj,itj,v,⟨.cons ho rfl rfl tc (fun _=>run ops i o ho hit) (by rw[←hdst];exact A.ch),?_,by omega,A.hoj,A.it,A.tj,A.run,A.Dj,A.Dk,?_,?_⟩,hR⟩
 ·have e:=A.hrj
  rw[show j - i=(j - (i+1))+1 by omega]
  simpa using e
 ·intro k r it' hr hit' ht
  cases k with
  |zero=>simp at hr hit';subst hr hit';exact hen ht
  |succ k=>simp at hr hit';exact A.e0 k r it' hr hit' ht
 ·intro l hl'
  have:=A.pairs l hl'
  simpa using this
theorem ay.here {p:Option (List (Nat × Nat))} {it:aw} {its:List aw} {t:Tm} {h h' h1 h1':H} {v:Value} {en:Ent} {log:List Ent} {R:Value→H→Prop} (hj:bg it.op=true) (tc:Touch h h1 h1' h' en)
  (run:∀(ops:Array Oper) i o,ops[i]? =some o→bm P N ops o=some it→jd P ops i o t h1 v h1')
  (hr:∀l,p=some l→∃ents,o5 l log.length its (log.length+1) it.dst.toList (bD t it.dst .any) h'=some ents∧ar l (log.reverse++en::ents)∧DG l log.length (log.reverse++en::ents)=true)
  (hq:R v h'):ay P N p (it::its) t h log R:=by
 intro ops i hi hl hc
 obtain ⟨o,ho,hit,hi',hc'⟩:=bG hi hc
 have hdst:it.dst=o.dst:=by
  unfold bm at hit
  split at hit
  ·split at hit<;>cases hit;rfl
  ·cases hit
 subst hl
 cases p with
 |none=>
  obtain ⟨recs,t',D,ch,hD,he⟩:=qB its (log.length+1) (bD t o.dst .any) h' hi' hc'
  refine ⟨fun i=>D i||i == log.length,⟨t,h,h1,h1',h',.any,en⟩::recs,t',h',log.length,⟨t,h,h1,h1',h',.any,en⟩,o,it,v,⟨.cons ho rfl rfl tc (fun hf=>by simp at hf) (ch.congr fun i hi=>by
   have:(i == log.length)=false:=by simp;omega
   simp[this]),by simp,Nat.le_refl _,ho,hit,hj,run ops _ o ho hit,by simp,?_,?_,by simp⟩,hq⟩
  ·intro k hk
   simp only[Bool.or_eq_true,beq_iff_eq] at hk
   rcases hk with hk|hk
   ·have:=hD k hk;omega
   ·omega
  ·intro k r it' hr hit' ht
   cases k with
   |zero=>simp at hr hit';subst hr hit';rw[hj] at ht;cases ht
   |succ k=>
    simp at hr
    exact he r (List.mem_of_getElem? hr)
 |some l=>
  obtain ⟨ents,hrest,hpk,hpb⟩:=hr l rfl
  obtain ⟨D,recs,t',h2,ch,rfl,hre,hD,hE0,hX⟩:=oh ho hit hj its (log.length+1) _ _ h' ents hrest (by omega) hi' hc'
  refine ⟨fun i=>D i||i == log.length,⟨t,h,h1,h1',h2,.any,en⟩::recs,t',h2,log.length,⟨t,h,h1,h1',h2,.any,en⟩,o,it,v,⟨.cons ho rfl rfl tc (fun hf=>by simp at hf) (by
   rw[←hdst]
   exact ch.congr fun i hi=>by
    have:(i == log.length)=false:=by simp;omega
    simp[this]),by simp,Nat.le_refl _,ho,hit,hj,run ops _ o ho hit,by simp,?_,?_,?_⟩,hq⟩
  ·intro k hk
   simp only[Bool.or_eq_true,beq_iff_eq] at hk
   rcases hk with hk|hk
   ·have:=hD k hk;omega
   ·omega
  ·intro k r it' hr hit' ht
   cases k with
   |zero=>simp at hr hit';subst hr hit';rw[hj] at ht;cases ht
   |succ k=>
    simp at hr hit'
    exact hE0 k r it' hr hit' ht
  ·intro l' hl'
   cases hl'
   refine ⟨fun T M k hk=>?_,by simpa [hre] using hpk,FW (by simpa [hre] using hpb)⟩
   simp only[Bool.or_eq_true,beq_iff_eq] at hk
   rcases hk with hk|hk
   ·right
    refine hX T M (fun i=>D i||i == log.length) ?_ (by simp) (fun i _ h=>by simp[h]) k hk
    intro d hd
    rw[Option.mem_toList] at hd
    exact ⟨log.length,o,by omega,ho,by rw[←hdst];exact hd,by simp⟩
   ·exact .inl hk
theorem ay.Fo {l:List (Nat × Nat)} {it:aw} {its:List aw} {t:Tm} {h h' h1 h1':H} {v:Value} {en:Ent} {log:List Ent} {R:Value→H→Prop} (hj:bg it.op=true) (tc:Touch h h1 h1' h' en)
  (run:∀(ops:Array Oper) i o,ops[i]? =some o→bm P N ops o=some it→jd P ops i o t h1 v h1')
  (hr:∃ents,eP l log.length its (log.length+1) it.dst.toList (bD t it.dst .any) h'=some ents∧ar l (log.reverse++en::ents)∧yO l log.length (log.reverse++en::ents) h')
  (hq:∀n m,h'.n≤n→h'.m≤m→R v {h' with n:=n,m:=m}):ay P N (some l) (it::its) t h log R:=by
 intro ops i hi hl hc
 obtain ⟨o,ho,hit,hi',hc'⟩:=bG hi hc
 have hdst:it.dst=o.dst:=by
  unfold bm at hit
  split at hit
  ·split at hit<;>cases hit;rfl
  ·cases hit
 subst hl
 obtain ⟨ents,hrest,hpk,hpb⟩:=hr
 obtain ⟨D,recs,t',h2,ch,hre,hD,hE0,hX⟩:=mh ho hit hj its (log.length+1) _ _ h' ents hrest (by omega) hi' hc'
 obtain ⟨nm,nm2,-⟩:=iD ch
 refine ⟨fun i=>D i||i == log.length,⟨t,h,h1,h1',h',.any,en⟩::recs,t',h2,log.length,⟨t,h,h1,h1',h',.any,en⟩,o,it,v,⟨.cons ho rfl rfl tc (fun hf=>by simp at hf) (by
  rw[←hdst]
  exact ch.congr fun i hi=>by
   have:(i == log.length)=false:=by simp;omega
   simp[this]),by simp,Nat.le_refl _,ho,hit,hj,run ops _ o ho hit,by simp,?_,?_,?_⟩,hq _ _ nm.1 nm.2⟩
 ·intro k hk
  simp only[Bool.or_eq_true,beq_iff_eq] at hk
  rcases hk with hk|hk
  ·have:=hD k hk;omega
  ·omega
 ·intro k r it' hr hit' ht
  cases k with
  |zero=>simp at hr hit';subst hr hit';rw[hj] at ht;cases ht
  |succ k=>
   simp at hr hit'
   exact hE0 k r it' hr hit' ht
 ·intro l' hl'
  cases hl'
  refine ⟨fun T M k hk=>?_,by simpa [hre] using hpk,by simpa [hre] using hpb⟩
  simp only[Bool.or_eq_true,beq_iff_eq] at hk
  rcases hk with hk|hk
  ·right
   refine hX T M (fun i=>D i||i == log.length) ?_ (by simp) (fun i _ h=>by simp[h]) k hk
   intro d hd
   rw[Option.mem_toList] at hd
   exact ⟨log.length,o,by omega,ho,by rw[←hdst];exact hd,by simp⟩
  ·exact .inl hk
theorem Wp.lB {items:List aw} {p:Option (List (Nat × Nat))} {s:St} {Q:aA→St→Prop} (h:ay P N p items s.t s.h [] fun v h'=>Q (.panic v) ⟨fun _=> .any,h'⟩):Wp P N (.reg items p) s Q:=by
 intro code hc
 obtain ⟨id,ops,draw,rfl,hi,hd⟩:=mf hc
 obtain ⟨D,recs,t',h',j,rj,oj,itj,v,A,hq⟩:=h ops 0 (Nat.zero_le _) rfl (by simpa using hi)
 have ch:=A.ch
 have hrj:recs[j]? =some rj:=by simpa using A.hrj
 obtain ⟨nm,nm2,-⟩:=iD ch
 obtain ⟨cl,ci⟩:=gf hi
 have hN:∀(i:Nat) o d,ops[i]? =some o→o.dst=some d→d<N:=by
  intro i o d ho hdd
  have hlt:i<ops.size:=(Array.getElem?_eq_some_iff.1 ho).1
  have hit:i<items.length:=by rw[cl];simpa using hlt
  have:=ci i o items[i] (by simpa using ho) (List.getElem?_eq_getElem hit)
  generalize items[i]=it at this
  unfold bm at this
  split at this
  ·split at this<;>cases this
   rename_i hcond
   simp only[Bool.and_eq_true] at hcond
   have:=hcond.1
   rw[hdd] at this
   simpa using this
  ·cases this
 refine ⟨.panic v,_,⟨nm,fun ro okc G w a r F=>?_⟩,hq⟩
 rcases hd with ⟨rfl,rfl⟩|⟨rfl,hm,ht,rfl⟩
 ·refine wpIn_region ?_
  rw[List.range_eq_range']
  have:=uX ro (Q:=fun e' a' w'=>(aA.panic v).dA e'∧jJ w a.defers a'.defers∧∃G',Trans G w s.h G' w' {rj.h' with n:=h'.n,m:=h'.m}∧Rel N ⟨fun _=> .any,{rj.h' with n:=h'.n,m:=h'.m}⟩ G' w' a') hN A.hoj A.run A.Dj A.Dk (Nat.zero_le j) ch (by simpa using A.hrj) G w a r.size r.t r.h F
   (fun G' w' a' T1 R1 s1 d1=>⟨rfl,by rw[d1];exact .refl,G',T1,⟨s1,fun _=>by simp[ak],R1,by rw[d1];exact r.df.mono T1⟩⟩)
  simpa using this
 ·obtain ⟨pD,pk,pb⟩:=A.pairs _ rfl
  simp only[List.reverse_nil,List.nil_append] at pk pb
  refine wpIn_region_any hm ?_
  obtain ⟨a1,a2,-⟩:=gL ch
  rw[Nat.zero_add] at a1
  have ap:∀i j,i<j→j<ops.size→cD ops i j=false→apart (recs.getD i bZ).en (recs.getD j bZ).en:=by
   intro i j hij hj hanc
   have hir:i<recs.length:=by omega
   have hjr:j<recs.length:=by omega
   have hii:i<items.length:=by rw[cl];simp;omega
   have hjj:j<items.length:=by rw[cl];simp;omega
   have ei:(recs.getD i bZ).en=(recs.map (·.en)).getD i aC:=by simp[List.getD,List.getElem?_eq_getElem hir]
   have ej:(recs.getD j bZ).en=(recs.map (·.en)).getD j aC:=by simp[List.getD,List.getElem?_eq_getElem hjr]
   have gi:(recs.getD i bZ)=recs[i]:=by simp[List.getD,List.getElem?_eq_getElem hir]
   have gj:(recs.getD j bZ)=recs[j]:=by simp[List.getD,List.getElem?_eq_getElem hjr]
   by_cases ti:bg items[i].op=true
   ·by_cases tj:bg items[j].op=true
    ·rw[ei,ej]
     refine jL pk ?_
     unfold jf
     simp only[List.mem_flatMap,List.mem_range,List.mem_filterMap]
     refine ⟨j,hj,i,hij,?_⟩
     unfold cD at hanc
     simp[List.getElem?_eq_getElem hii,List.getElem?_eq_getElem hjj,ti,tj]
     simpa using hanc
    ·rw[gj,A.e0 j _ _ (List.getElem?_eq_getElem hjr) (List.getElem?_eq_getElem hjj) (by simpa using tj)]
     exact (jh _).2
   ·rw[gi,A.e0 i _ _ (List.getElem?_eq_getElem hir) (List.getElem?_eq_getElem hii) (by simpa using ti)]
    exact (jh _).1
  have hjs:j<ops.size:=(Array.getElem?_eq_some_iff.1 A.hoj).1
  have itemAt:∀(k:Nat) (o:Oper),ops[k]? =some o→∃it,items[k]? =some it∧bm P N ops o=some it:=by
   intro k o ho
   have hlt:k<ops.size:=(Array.getElem?_eq_some_iff.1 ho).1
   have hit:k<items.length:=by rw[cl];simpa using hlt
   exact ⟨_,List.getElem?_eq_getElem hit,ci k o items[k] (by simpa using ho) (List.getElem?_eq_getElem hit)⟩
  have inPairs:∀(a b:Nat) oa ob ia ib,a<b→ops[a]? =some oa→ops[b]? =some ob→bm P N ops oa=some ia→bm P N ops ob=some ib→bg ia.op=true→bg ib.op=true→cD ops a b=false→(a,b)∈jf ops items:=by
   intro a b oa ob ia ib hab hoa hob hia hib ta tb hanc
   obtain ⟨ia',p1,p2⟩:=itemAt a oa hoa
   obtain ⟨ib',p3,p4⟩:=itemAt b ob hob
   rw[hia] at p2;rw[hib] at p4
   cases p2;cases p4
   unfold jf
   simp only[List.mem_flatMap,List.mem_range,List.mem_filterMap]
   refine ⟨b,(Array.getElem?_eq_some_iff.1 hob).1,a,hab,?_⟩
   unfold cD at hanc
   simp[p1,p3,ta,tb]
   simpa using hanc
  have M:kr P N ops (jf ops items):=by
   intro a b oa ob ia ib hab hoa hob hia hib ta tb hn
   cases hanc:cD ops a b with
   |true=>rfl
   |false=>exact absurd (inPairs a b oa ob ia ib hab hoa hob hia hib ta tb hanc) hn
  have T:=wS ht
  have pD:=pD T M
  let w1:World:={w with drawn:=w.drawn+1}
  have hz:∀k,(Array.replicate ops.size false).getD k false=false:=by intro k;simp[Array.getElem?_replicate];split<;>rfl
  have hz':(fun k=>(Array.replicate ops.size false).getD k false)=fun _=>false:=funext hz
  have vz:∀{β:Type} (u:Nat→Option β) (n:Nat) (v:β),val u (fun _=>false) n v=v:=by
   intro β u n v
   induction n with
   |zero=>rfl
   |succ n ih=>simp only[val,Bool.false_eq_true,if_false,ih]
  have R1:aM G s.h w1:=r.h.draw rfl rfl rfl
  have hk:∀t,t∈(HS recs s.h ops.size h'.n h'.m (fun _=>false)).toks↔t∈s.h.toks:=by
   intro t;rw[lu a1.symm,vz];simp
  have ho:(HS recs s.h ops.size h'.n h'.m (fun _=>false)).objs=s.h.objs:=by
   funext id;simp only[HS];rw[vz]
  have T01:=gg G w w1 s.h rfl rfl rfl
  refine qx ro (pj:=j) (pv:=v) (N:=N) (G0:=G) (w0:=w1) (a0:=a) hN T ch ap R1 F (fun hf=>absurd A.Dj (by simp[hf j])) ?_ ?_ ops.size (Array.replicate ops.size false) G w1 a (by simp) ?_ ?_ ?_ r.size rfl ?_ ?_ ?_ ?_ ?_
  ·intro i hDi
   exact ⟨⟨A.Dj,hjs⟩,pD i hDi⟩
  ·intro _ o rr hoo hrr
   rw[A.hoj] at hoo;cases hoo
   rw[hrj] at hrr;cases hrr
   refine ⟨A.run,?_,?_⟩
   ·intro k hk hne h1 h2
    have hko:=Array.getElem?_eq_getElem hk
    obtain ⟨itk,p1,p2⟩:=itemAt k _ hko
    have hkr:k<recs.length:=by omega
    have gk:(recs.getD k bZ)=recs[k]:=by simp[List.getD,List.getElem?_eq_getElem hkr]
    have ek:(recs.getD k bZ).en=(recs.map (·.en)).getD k aC:=by simp[List.getD,List.getElem?_eq_getElem hkr]
    by_cases tk:bg itk.op=true
    ·rw[ek]
     rcases Nat.lt_or_ge k j with hlt|hge
     ·obtain ⟨q1,q2⟩:=(pb _ _ (inPairs k j _ oj itk itj hlt hko A.hoj p2 A.it tk A.tj h1)).2 rfl
      exact ⟨q1,fun _=>q2,fun id hid=>by rw[q2] at hid;cases hid⟩
     ·obtain ⟨q1,q2⟩:=(pb _ _ (inPairs j k oj _ itj itk (by omega) A.hoj hko A.it p2 A.tj tk h2)).1 rfl
      exact ⟨q1,fun h=>by omega,q2⟩
    ·rw[gk,A.e0 k _ _ (List.getElem?_eq_getElem hkr) p1 (by simpa using tk)]
     exact ⟨rfl,fun _=>rfl,fun id hid=>by cases hid⟩
   ·intro G' w' a' T1 R1' s1 d1
    have T2:=T01.trans r.h R1 T1
    exact ⟨rfl,by rw[d1];exact .refl,G',T2,⟨s1,fun _=>by simp[ak],R1',by rw[d1];exact r.df.mono T2⟩⟩
  ·unfold count
   exact Nat.le_trans (List.length_filter_le _ _) (by simp)
  ·rw[hz'];intro i o _ h;cases h
  ·intro k _;exact hz k
  ·rw[hz'];intro d;rw[vz];exact ak.mono r.h T01 _ _ (r.t d)
  ·rw[hz'];exact R1.same ho fun t x=>(hk t).1 x
  ·rw[hz']
   exact (Trans.refl G w1 s.h).same rfl (fun _=>Iff.rfl) ho hk (Nat.le_refl _) nm.1 nm.1 (Nat.le_refl _) nm.2 nm.2
  ·exact fun id x=> .inl x
  ·exact fun id x=> .inl x
end
end Go.Av
end
section
namespace Go.Av
section
variable {P:Program} {N:Nat}
theorem qa {F:Fence} {n:Nat} {fn:Func} {tmps:Array Value} {R:Ending→World→Prop} {chain:List PanicEntry} (Ds:Nat→Prop) (I:World→Prop)
  (hI:∀w D,Ds D→I w→w.heap[D]? =some (.deferred (some []))→I (w.putObj D (.deferred none))) (hend:∀w,I w→R (.panicked chain) w):
  ∀(l:List Deferred) (w:World),l.Nodup→(∀d∈l,∃D,Ds D∧d= {target:= .collected D,args:= #[]}∧w.heap[D]? =some (.deferred (some [])))→I w→LeavesInM F n P fn tmps R l (.panicking chain) w:=by
 intro l
 induction l with
 |nil=>intro w _ _ hi;exact hend w hi
 |cons d l ih=>
  intro w hn hm hi
  obtain ⟨D,h1,h2,h3⟩:=hm d (by simp)
  refine ⟨by simp,.inl ⟨D,_,by rw[h2],run_takeDeferred h3,ih _ (List.nodup_cons.1 hn).2 (fun d' hd'=>?_) (hI w D h1 hi h3)⟩⟩
  obtain ⟨D',k1,k2,k3⟩:=hm d' (by simp[hd'])
  refine ⟨D',k1,k2,?_⟩
  rw[World.putObj_heap_other ?_]
  ·exact k3
  ·rintro rfl
   exact (List.nodup_cons.1 hn).1 (by rw[h2,←k2];exact hd')
theorem DH {f:FuncId} {fn:Func} {code:Code} {ac:AC} {args:List AV} {h:H} {Q:Value→H→Prop} (hf:P.funcs[f]? =some fn) (hb:fn.body=some code) (hc:cCode P fn.ntmps code=some ac) (hl:args.length≤fn.ntmps)
  (hw:Wp P fn.ntmps ac ⟨eh args,h⟩ fun e s'=>∃v,e= .panic v∧Q v s'.h):∃v h',di P f args h v h'∧Q v h':=by
 obtain ⟨e,s',run,v,rfl,hq⟩:=hw code hc
 refine ⟨v,s'.h,?_,hq⟩
 intro G w vs hv R F
 have hlen:=hv.length
 refine callsIn_wide.1 (callsIn_of_wp_marks (F:=rd none) (n:=0) hf hb trivial (wpIn_mono (run.2 none (.inl rfl) G w _ ⟨?_,sY hv,R,⟨by simp,by simp⟩⟩ F) ?_) rfl)
 ·simp;omega
 ·rintro e' a' w' ⟨h1,h2,G',T,r'⟩
  have key:LeavesInM (rd none) 0 P fn a'.tmps (fun e w'=>∃G',e= .panicked [{v:=v,recovered:=false}]∧Trans G w h G' w' s'.h∧aM G' s'.h w') a'.defers (.panicking [{v:=v,recovered:=false}]) w':=by
   refine qa (fun D=>w.heap.size≤D∧¬s'.h.O G' D∧¬s'.h.T G' D) (fun w2=>Trans G w h G' w2 s'.h∧aM G' s'.h w2) ?_ ?_ _ _ r'.df.1 ?_ ⟨T,r'.h⟩
   ·rintro w2 D ⟨d1,d2,d3⟩ ⟨T2,R2⟩ hD
    have tu:=cW.results hD
    exact ⟨T2.cJ tu d1,R2.cJ tu d2⟩
   ·rintro w2 ⟨T2,R2⟩
    exact ⟨G',rfl,T2,R2⟩
   ·intro d hd
    obtain ⟨D,e,k1,k2,k3⟩:=r'.df.2 d hd
    rcases h2 d hd with h|⟨D',k4,e'⟩
    ·simp at h
    ·rw[e] at e'
     simp only[Deferred.mk.injEq,Target.collected.injEq,and_true] at e'
     subst e'
     exact ⟨D,⟨k4,k2,k3⟩,e,k1⟩
  cases e'<;>simp only[aA.dA] at h1
  subst h1
  exact key
theorem aI.DJ {f:FuncId} {ac:AC} {args:List AV} {h:H} {ds:List RV} {Q:Value→H→Prop} (hF:aI P f N ac ds) (hl:args.length≤N) (hw:Wp P N ac ⟨eh args,h⟩ fun e s'=>∃v,e= .panic v∧Q v s'.h):∃v h',di P f args h v h'∧Q v h':=by
 obtain ⟨fn,h1,h2,h3,h4⟩:=hF
 subst h2
 obtain ⟨code,hb,hc⟩:=Option.bind_eq_some_iff.1 h3
 exact DH h1 hb hc hl hw
end
end Go.Av
end
section
namespace Go.Av
structure mi (D:Nat) (G:aB) (w w':World):Prop where
 size:w'.heap.size=w.heap.size
 same:∀B,B≠D→w'.heap[B]? =w.heap[B]?
 own:G.own D
 form:∀c T fr,w.heap[D]? =some (.cells c T fr)→∃c',w'.heap[D]? =some (.cells c' T fr)∧c'.size=c.size
 os:w'.os=w.os
 out:w'.output=w.output
section
variable {D:Nat} {G:aB} {w w':World}
theorem mi.cell (t:mi D G w w') {B off:Nat} {v:Value} (hB:B≠D) (h:w.cell? ⟨B,off,none⟩=some v):w'.cell? ⟨B,off,none⟩=some v:=by
 have:=t.same B hB
 unfold World.cell? at h ⊢
 simpa [this] using h
theorem mi.heap (t:mi D G w w') {B:Nat} {c:Array Value} {T:TypeId} {fr:Nat × Nat} (h:w.heap[B]? =some (.cells c T fr)):∃c',w'.heap[B]? =some (.cells c' T fr)∧c'.size=c.size:=by
 by_cases e:B=D
 ·subst e;exact t.form _ _ _ h
 ·rw[t.same B e];exact ⟨c,h,rfl⟩
theorem Imm.set (t:mi D G w w') {B off:Nat} {vs:List Value} (h:Imm G w B off vs):Imm G w' B off vs:=fun i v hv=>
 ⟨t.cell (fun e=>(h i v hv).2.2.1 (by rw[e];exact t.own)) (h i v hv).1,(h i v hv).2⟩
theorem bY.set (t:mi D G w w') {c:Cap} {B off len C sz:Nat} (h:bY G w c B off len C sz):bY G w' c B off len C sz:=by
 cases c with
 |any=>trivial
 |exact c=>exact h
 |own k=>
  rcases h with h|⟨h1,h2,cs,T,fr,h3,h4,h5⟩
  ·exact .inl h
  ·obtain ⟨c',k1,k2⟩:=t.heap h3
   exact .inr ⟨h1,h2,c',T,fr,k1,by rw[k2];exact h4,by rw[k2];exact h5⟩
mutual
theorem ak.set (t:mi D G w w'):∀(x:AV) (v:Value),ak G w x v→ak G w' x v
 | .any,_,_=>trivial
 | .int k n,_,hv=>hv
 | .bool b,_,hv=>hv
 | .str l,_,hv=>hv
 | .sc x,_,hv=>hv
 | .sl sz xs c,v,hv=>by
  simp only[ak] at hv ⊢
  rcases hv with hv|⟨B,off,C,vs,h1,h2,h3,h4,h5,h6⟩
  ·exact .inl hv
  ·exact .inr ⟨B,off,C,vs,h1,h2,h3,aq.set t sz xs vs h4,h5.set t,h6.set t⟩
 | .ref cs,v,hv=>by
  simp only[ak] at hv ⊢
  obtain ⟨B,off,vs,h1,h2,h3⟩:=hv
  exact ⟨B,off,vs,h1,an.set t cs vs h2,h3.set t⟩
 | .agg cs,v,hv=>by
  simp only[ak] at hv ⊢
  obtain ⟨vs,h1,h2⟩:=hv
  exact ⟨vs,h1,an.set t cs vs h2⟩
 | .tup cs,v,hv=>by
  simp only[ak] at hv ⊢
  obtain ⟨vs,h1,h2⟩:=hv
  exact ⟨vs,h1,an.set t cs vs h2⟩
 | .ptr id off,v,hv=>by simpa only[ak] using hv
 | .tsl sz id off len cap,v,hv=>by
  simp only[ak] at hv ⊢
  obtain ⟨hd,hv⟩:=hv
  refine ⟨hd,?_⟩
  rcases hv with ⟨C,c,Tt,fr,h1,h2,h3,h4,h5⟩|hv
  ·obtain ⟨c',k1,k2⟩:=t.heap h4
   exact .inl ⟨C,c',Tt,fr,h1,h2,h3,k1,by rw[k2];exact h5⟩
  ·exact .inr hv
 | .clo fn a b,v,hv=>by
  simp only[ak] at hv ⊢
  obtain ⟨vs,us,h1,h2,h3⟩:=hv
  exact ⟨vs,us,h1,an.set t a vs h2,an.set t b us h3⟩
 | .ifc k x,v,hv=>by
  simp only[ak] at hv ⊢
  obtain ⟨u,h1,h2⟩:=hv
  exact ⟨u,h1,ak.set t x u h2⟩
 | .mp id,v,hv=>by simpa only[ak] using hv
 | .yld id,v,hv=>by simpa only[ak] using hv
 | .slt sz xs ys,v,hv=>by
  simp only[ak] at hv ⊢
  obtain ⟨B,off,C,us,vs,h1,h2,h3,h4,h5,h6⟩:=hv
  exact ⟨B,off,C,us,vs,h1,h2,h3,aq.set t sz xs us h4,aq.set t sz ys vs h5,h6.set t⟩
 | .sup B,v,hv=>by simpa only[ak] using hv
 | .supb B,v,hv=>by
  simp only[ak] at hv ⊢
  obtain ⟨l,h1,h2|⟨D,off,C,h2,h3,h4⟩⟩:=hv
  ·exact ⟨l,h1,.inl h2⟩
  ·exact ⟨l,h1,.inr ⟨D,off,C,h2,h3,h4.set t⟩⟩
 | .wint k,v,hv=>by simpa only[ak] using hv
 | .one,v,hv=>by simpa only[ak] using hv
theorem an.set (t:mi D G w w'):∀(x:List AV) (v:List Value),an G w x v→an G w' x v
 |[],_,hv=>by simpa only[an] using hv
 |x::xs,vs,hv=>by
  simp only[an] at hv ⊢
  obtain ⟨v,us,h1,h2,h3⟩:=hv
  exact ⟨v,us,h1,ak.set t x v h2,an.set t xs us h3⟩
theorem aq.set (t:mi D G w w') (sz:Nat):∀(x:List AV) (v:List Value),aq G w sz x v→aq G w' sz x v
 |[],_,hv=>by simpa only[aq] using hv
 |x::xs,vs,hv=>by
  simp only[aq] at hv ⊢
  obtain ⟨v,us,h1,h2,h3,h4⟩:=hv
  exact ⟨v,us,h1,h2,ak.set t x v h3,aq.set t sz xs us h4⟩
end
theorem Entries.G6 (t:mi D G w w'):∀(l:List (AV × AV)) (e:List MapEntry),Entries G w l e→Entries G w' l e
 |[],_,hv=>hv
 |(k,v)::l,es,hv=>by
  obtain ⟨e,r,h1,h2,h3,h4⟩:=hv
  exact ⟨e,r,h1,ak.set t k _ h2,ak.set t v _ h3,Entries.G6 t l r h4⟩
theorem kM.set (t:mi D G w w') {o:Obj} {x:Option Go.Obj} (hx:kM G w o x):kM G w' o x:=by
 cases o with
 |cells cs=>
  obtain ⟨vs,rest,Tt,fr,h1,h2,h3⟩:=hx
  exact ⟨vs,rest,Tt,fr,h1,an.set t _ _ h2,h3⟩
 |map es=>
  obtain ⟨en,k,h1,h2⟩:=hx
  exact ⟨en,k,h1,Entries.G6 t _ _ h2⟩
 |loop N tt ps asg body st pend=>
  obtain ⟨r,h1,h2,h3,h4⟩:=hx
  exact ⟨r,h1,h2,fun i=>ak.set t _ _ (h3 i),h4⟩
 |raw c=>exact hx
theorem aM.set {h:H} (R:aM G h w) (t:mi D G w w') (hD:¬h.O G D):aM G h w' where
 obj id o ho:=by
  obtain ⟨a,b,c,d⟩:=R.obj id o ho
  have hne:G.ι id≠D:=fun e=>hD ⟨id,o,ho,e⟩
  exact ⟨a,b,by rw[t.size];exact c,by rw[t.same _ hne];exact d.set t⟩
 inj:=R.inj
 tok k hk:=⟨(R.tok k hk).1,fun B e he=>by rw[t.size];exact (R.tok k hk).2 B e he⟩
 tinj:=R.tinj
theorem Trans.set {G0:aB} {w0:World} {h0 h:H} (T:Trans G0 w0 h0 G w h) (t:mi D G w w') (hD:w0.heap.size≤D):Trans G0 w0 h0 G w' h where
 dom_le:=T.dom_le
 dom_new:=T.dom_new
 ι_eq:=T.ι_eq
 tdom_le:=T.tdom_le
 tdom_new:=T.tdom_new
 τ_eq:=T.τ_eq
 n_le:=T.n_le
 m_le:=T.m_le
 size_le:=by rw[t.size];exact T.size_le
 os:=t.os.trans T.os
 output:=t.out.trans T.output
 form B hB:=by rw[t.same B (by omega)];exact T.form B hB
 keep B hB h1 h2:=by rw[t.same B (by omega)];exact T.keep B hB h1 h2
 own_keep:=T.own_keep
 lim_keep:=T.lim_keep
 tok_keep B hB h1 h2 e he:=⟨fun j hj=>by
  have:=(T.tok_keep B hB h1 h2 e he).1 j hj
  rw[←this]
  have hs:=t.same B (by omega)
  unfold World.cell?
  simp only[hs],(T.tok_keep B hB h1 h2 e he).2⟩
 O_new:=T.O_new
 T_new:=T.T_new
 objs_new:=T.objs_new
 toks_new:=T.toks_new
def mj (G:aB) (D:Nat):aB:={G with own:=fun B=>B=D∨G.own B}
theorem s7 {o:Go.Obj} {h:H} (R:aM G h w) (hp:cz w w' o):Trans G w h (mj G w.heap.size) w' h∧aM (mj G w.heap.size) h w'∧¬h.O (mj G w.heap.size) w.heap.size∧¬h.T (mj G w.heap.size) w.heap.size:=by
 have T:Trans G w h (mj G w.heap.size) w' h:=by
  constructor
  ·exact fun _ x=>x
  ·exact fun _ x=> .inl x
  ·exact fun _ _=>rfl
  ·exact fun _ x=>x
  ·exact fun _ x=> .inl x
  ·exact fun _ _=>rfl
  ·exact Nat.le_refl _
  ·exact Nat.le_refl _
  ·rw[hp.size];omega
  ·exact hp.2.1
  ·exact hp.2.2
  ·intro B hB;rw[hp.old hB];exact bw.refl _
  ·exact fun B hB _ _=>hp.old hB
  ·intro B hB _
   simp only[mj]
   constructor
   ·rintro (e|x)
    ·omega
    ·exact x
   ·exact .inr
  ·exact fun _ _ _ _=>rfl
  ·intro B hB ht _ e he
   refine ⟨fun j _=>by unfold World.cell?;simp only[hp.old hB],fun e' he'=>?_⟩
   have he':G.lim B=some e':=he'
   rw[he] at he';cases he';exact Nat.le_refl _
  ·exact fun _ _ x=>x
  ·exact fun _ _ x=>x
  ·exact fun j o x=> .inl ⟨o,x⟩
  ·exact fun t x=> .inl x
 refine ⟨T,⟨?_,R.inj,?_,R.tinj⟩,?_,?_⟩
 ·intro id o ho
  obtain ⟨a,b,c,d⟩:=R.obj id o ho
  refine ⟨a,.inr b,by rw[hp.size];show G.ι id<_;omega,?_⟩
  show kM _ w' o w'.heap[G.ι id]?
  rw[hp.old c]
  exact kM.mono R T d
 ·intro t ht
  refine ⟨(R.tok t ht).1,fun B e he=>?_⟩
  obtain ⟨a,b,c⟩:=(R.tok t ht).2 B e he
  refine ⟨a,?_,by rw[hp.size];omega⟩
  rintro (e|x)
  ·omega
  ·exact b x
 ·rintro ⟨id,o,ho,e⟩
  have:=(R.obj id o ho).2.2.1
  have e:G.ι id=w.heap.size:=e
  omega
 ·rintro ⟨t,ht,e,he⟩
  have:=((R.tok t ht).2 _ e he).2.2
  omega
theorem yP {D:Nat} {v x:Value} {T:TypeId} {fr:Nat × Nat} (hh:w.heap[D]? =some (.cells #[v] T fr)) (ho:G.own D):mi D G w (w.setCell ⟨D,0,none⟩ x) where
 size:=by simp[World.setCell]
 same B hB:=by
  simp only[World.setCell,Array.getElem?_modify]
  rw[if_neg (fun e=>hB e.symm)]
 own:=ho
 form c T fr hc:=by
  simp only[World.setCell,Array.getElem?_modify,if_true,hc,Option.map_some]
  exact ⟨_,rfl,by simp⟩
 os:=rfl
 out:=rfl
theorem wW {D:Nat} {v x:Value} {T:TypeId} {fr:Nat × Nat} (hh:w.heap[D]? =some (.cells #[v] T fr)):(w.setCell ⟨D,0,none⟩ x).heap[D]? =some (.cells #[x] T fr):=by
 simp only[World.setCell,Array.getElem?_modify,if_true,hh,Option.map_some]
 rfl
end
end Go.Av
end
section
set_option maxRecDepth 10000
namespace Go.Av
section
variable {P:Program}
def uY (sz bytes:Nat):AC:=(.seq (.reg [⟨some 2,none,.mov (.c (.sl sz [] (.exact 0)))⟩] none)
 (.seq (.seq (.reg [⟨some 3,none,.mov (.t 0)⟩,⟨some 4,none,.eqN false (.t 3)⟩] none)
 (.cond (.t 4) (.seq (.reg [⟨some 2,none,.mov (.c (.sl sz [] (.exact 0)))⟩] none)
 .ret) .skip))
 (.seq (.reg [⟨some 5,none,.buildSl sz []⟩,⟨some 6,none,.mov (.t 0)⟩,⟨some 7,none,.app false sz bytes (.t 5) (.t 6)⟩,⟨some 2,none,.mov (.t 7)⟩] none)
 .ret)))
theorem ag.own {sz:Nat} {xs:List AV} {t:Nat}:ag (.sl sz xs (.own t)) (.sl sz xs .any):=ag.cap
theorem ag.AX {sz:Nat} {a:Option Addr} {C:Nat} (h:C=0∨∃B off,a=some ⟨B,off,none⟩):ag (.sc (.slice a 0 C)) (.sl sz [] .any):=by
 intro G w v hv
 simp only[ak] at hv
 subst hv
 unfold ak
 rcases h with rfl|⟨B,off,rfl⟩
 ·exact .inl ⟨rfl,⟨a,rfl⟩,trivial⟩
 ·exact .inr ⟨B,off,C,[],rfl,Nat.zero_le _,by simp,by simp[aq],Imm.nil,trivial⟩
theorem aN.s8 {f:FuncId} {sz:Nat} {c:Cap} {rest:List AV} {h h':H} {r:AV} (hc:∀a C,(C=0∨∃B off,a=some ⟨B,off,none⟩)→aN P f (.sc (.slice a 0 C)::rest) h r h'):aN P f (.sl sz [] c::rest) h r h':=by
 intro G w vs hv R F
 simp only[an] at hv
 obtain ⟨v,us,rfl,hv,hr⟩:=hv
 simp only[ak] at hv
 rcases hv with ⟨-,⟨a,rfl⟩,-⟩|⟨B,off,C,ws,rfl,-⟩
 ·exact hc a 0 (.inl rfl) G w _ (.cons (by simp[ak]) hr) R F
 ·exact hc _ C (.inr ⟨B,off,rfl⟩) G w _ (.cons (by simp[ak]) hr) R F
theorem yQ {f:FuncId} {sz bytes:Nat} (hF:aI P f 8 (uY sz bytes) [.tmp 2]) (xs:List AV) (hp:az xs=true) (hb:xs.length*bytes≤140737488355328) (hl:xs.length<4611686018427387904):aE P f [.sl sz xs .any] (.sl sz xs .any):=by
 cases xs with
 |nil=>
  intro n m
  refine aN.s8 fun a C hC=>?_
  have:aE P f [.sc (.slice a 0 C)] (.sl sz [] .any):=by
   refine hF.AT (by simp) (cu _ rfl) (dP _ rfl) fun n m=>?_
   unfold uY
   refine Wp.cA (by simp only[go_sem,reduceIte,Nat.reduceEqDiff,Nat.reduceAdd,bx];exact rfl) (by trivial) ?_
   refine Wp.seq ?_
   refine Wp.cA (by simp only[go_sem,reduceIte,Nat.reduceEqDiff,Nat.reduceAdd,bx];exact rfl) (by trivial) ?_
   cases ha:a.isNone with
   |true=>
    refine Wp.cond_true (by simp only[go_sem,reduceIte,Nat.reduceEqDiff,Nat.reduceAdd,bx,ha]) ?_
    refine Wp.cA (by simp only[go_sem,reduceIte,Nat.reduceEqDiff,Nat.reduceAdd,bx];exact rfl) (by trivial) ?_
    refine Wp.ret ⟨trivial,_,rfl,?_⟩
    simp only[go_sem,reduceIte,Nat.reduceEqDiff,Nat.reduceAdd,bx]
    exact ag.cap
   |false=>
    refine Wp.cond_false (by simp only[go_sem,reduceIte,Nat.reduceEqDiff,Nat.reduceAdd,bx,ha]) ?_
    refine Wp.skip ?_
    refine Wp.le (s':=⟨tm [(0,.sl sz [] .any)],_⟩) (aF.tm ⟨ag.AX hC,trivial⟩) ?_
    refine Wp.cA (by simp only[go_sem,reduceIte,Nat.reduceEqDiff,Nat.reduceAdd,bx,Nat.zero_mul,Nat.zero_le,and_self,or_true,if_true,Nat.reduceMul,Nat.reduceLT,Nat.reduceLeDiff,decide_true];exact rfl) (by trivial) ?_
    refine Wp.ret ⟨trivial,_,rfl,?_⟩
    simp only[go_sem,reduceIte,Nat.reduceEqDiff,Nat.reduceAdd,bx]
    exact ag.cap
  exact this n m
 |cons x xs=>
  refine hF.AT (by simp) (cu _ (by simp[az,aO,bC] at hp ⊢;exact hp)) (dP _ (by simp[az,aO,bC] at hp ⊢;exact hp)) fun n m=>?_
  unfold uY
  refine Wp.cA (by simp only[go_sem,reduceIte,Nat.reduceEqDiff,Nat.reduceAdd,bx];exact rfl) (by trivial) ?_
  refine Wp.seq ?_
  refine Wp.cA (by simp only[go_sem,reduceIte,Nat.reduceEqDiff,Nat.reduceAdd,bx];exact rfl) (by trivial) ?_
  refine Wp.cond_false (by simp only[go_sem,reduceIte,Nat.reduceEqDiff,Nat.reduceAdd,bx]) ?_
  refine Wp.skip ?_
  simp only[List.length_cons] at hb hl
  have h1:(0+(xs.length+1))*bytes≤140737488355328:=by rw[Nat.zero_add];exact hb
  have h2:0+(xs.length+1)<4611686018427387904:=by omega
  refine Wp.cA (by simp only[go_sem,reduceIte,Nat.reduceEqDiff,Nat.reduceAdd,bx,Nat.zero_mul,Nat.zero_le,and_self,or_true,true_or,if_true,Nat.reduceMul,Nat.reduceLT,Nat.reduceLeDiff,decide_true,hb,hl];exact rfl) (by trivial) ?_
  refine Wp.ret ⟨trivial,_,rfl,?_⟩
  simp only[go_sem,reduceIte,Nat.reduceEqDiff,Nat.reduceAdd,bx]
  exact ag.cap
def OLe (f f':Nat→Option Obj):Prop:=∀j o',f' j=some o'→∃o,f j=some o∧cK o o'
theorem OLe.refl (f:Nat→Option Obj):OLe f f:=fun j o h=>⟨o,h,cK.refl o⟩
theorem OLe.none (f:Nat→Option Obj):OLe f ah:=fun j o h=>by cases h
theorem OLe.upd {f f':Nat→Option Obj} {i:Nat} {o o':Obj} (h:OLe f f') (hs:cK o o'):OLe (upd f i (some o)) (upd f' i (some o')):=by
 intro j p hp
 simp only[Go.Av.upd] at hp ⊢
 split at hp
 ·rename_i e;rw[if_pos e];cases hp;exact ⟨o,rfl,hs⟩
 ·rename_i e;rw[if_neg e];exact h j p hp
theorem aF.of {t t':Tm} {f f':Nat→Option Obj} {n n' m m':Nat} {k k':List Nat} (ht:∀i,ag (t i) (t' i)) (ho:OLe f f') (hk:∀x∈k',x∈k) (hn:n≤n') (hm:m≤m'):aF ⟨t,⟨f,n,k,m⟩⟩ ⟨t',⟨f',n',k',m'⟩⟩:=
 aF.mk' ht ⟨ho,hk⟩ hn hm
theorem ag.dF {sz:Nat} {xs:List AV} {k t:Nat} (h:k=xs.length):ag (.sl sz xs (.exact k)) (.sl sz xs (.own t)):=by
 intro G w v hv
 unfold ak at hv ⊢
 rcases hv with ⟨a,b,-⟩|⟨B,off,C,vs,h1,h2,h3,h4,h5,h6⟩
 ·exact .inl ⟨a,b,trivial⟩
 ·exact .inr ⟨B,off,C,vs,h1,h2,h3,h4,h5,.inl (by simp only[bY] at h6;omega)⟩
theorem OLe.put {f f':Nat→Option Obj} {i:Nat} {o o':Obj} (h:OLe f f') (hf:f i=some o) (hs:cK o o'):OLe f (Go.Av.upd f' i (some o')):=by
 intro j p hp
 simp only[Go.Av.upd] at hp
 split at hp
 ·rename_i e;subst e;cases hp;exact ⟨o,hf,hs⟩
 ·exact h j p hp
end
end Go.Av
end
section
namespace Go.Av
open Classical in
section
variable {P:Program} {G:aB} {h:H} {w:World}
def H.DO (h:H) (G:aB) (d:Nat→Bool) (B:Nat):Prop:=∃id o,d id=true∧h.objs id=some o∧G.ι id=B
def H.drop (h:H) (d:Nat→Bool):H:={h with objs:=fun j=>if d j then none else h.objs j}
noncomputable def aB.frz (G:aB) (h:H) (d:Nat→Bool):aB:=
 {G with own:=fun B=>G.own B∧¬h.DO G d B,lim:=fun B=>if h.DO G d B then none else G.lim B}
theorem FX {d:Nat→Bool} {B:Nat} (x:h.DO G d B):h.O G B:=by
 obtain ⟨id,o,-,a,b⟩:=x
 exact ⟨id,o,a,b⟩
theorem aT (d:Nat→Bool):Trans G w h (G.frz h d) w (h.drop d):=by
 have hsub:∀B,(h.drop d).O (G.frz h d) B→h.O G B:=by
  rintro B ⟨id,o,a,b⟩
  simp only[H.drop] at a
  split at a
  ·cases a
  ·exact ⟨id,o,a,b⟩
 constructor
 ·exact fun _ x=>x
 ·exact fun _=> .inl
 ·exact fun _ _=>rfl
 ·exact fun _ x=>x
 ·exact fun _=> .inl
 ·exact fun _ _=>rfl
 ·exact Nat.le_refl _
 ·exact Nat.le_refl _
 ·exact Nat.le_refl _
 ·rfl
 ·rfl
 ·intro B hB
  exact bw.refl _
 ·exact fun _ _ _ _=>rfl
 ·intro B hB hO
  have:¬h.DO G d B:=fun x=>hO (FX x)
  simp[aB.frz,this]
 ·intro B hB hO hT
  have:¬h.DO G d B:=fun x=>hO (FX x)
  simp[aB.frz,this]
 ·intro B hB hT hO e he
  have:¬h.DO G d B:=fun x=>hO (FX x)
  refine ⟨fun _ _=>rfl,fun e' he'=>?_⟩
  simp only[aB.frz,this,if_false] at he'
  rw[he] at he'
  cases he'
  exact Nat.le_refl _
 ·exact fun B _ x=>hsub B x
 ·exact fun B _ x=>x
 ·intro j o a
  simp only[H.drop] at a
  split at a
  ·cases a
  ·exact .inl ⟨o,a⟩
 ·exact fun t x=> .inl x
theorem ml (R:aM G h w) (d:Nat→Bool):aM (G.frz h d) (h.drop d) w:=by
 have hd:∀{id o},(h.drop d).objs id=some o→h.objs id=some o∧d id=false:=by
  intro id o a
  simp only[H.drop] at a
  split at a
  ·cases a
  ·rename_i q;exact ⟨a,by simpa using q⟩
 constructor
 ·intro id o a
  obtain ⟨a,q⟩:=hd a
  obtain ⟨r1,r2,r3,r4⟩:=R.obj id o a
  refine ⟨r1,⟨r2,?_⟩,r3,?_⟩
  ·rintro ⟨id',o',x1,x2,x3⟩
   have:=R.inj _ _ _ _ x2 a x3
   subst this
   rw[x1] at q;cases q
  ·cases o with
   |cells cs=>
    obtain ⟨vs,rest,T,fr,y1,y2,y3⟩:=r4
    exact ⟨vs,rest,T,fr,y1,an.mono R (aT d) _ _ y2,y3⟩
   |map es=>
    obtain ⟨en,clock,y1,y2⟩:=r4
    exact ⟨en,clock,y1,Entries.mono R (aT d) _ _ y2⟩
   |loop N t ps asg body st pend=>
    obtain ⟨r,y1,y2,y3,y4⟩:=r4
    exact ⟨r,y1,y2,fun i=>ak.mono R (aT d) _ _ (y3 i),y4⟩
   |raw c=>exact r4
 ·intro id id' o o' a b e
  exact R.inj _ _ _ _ (hd a).1 (hd b).1 e
 ·intro t ht
  obtain ⟨r1,r2⟩:=R.tok t ht
  refine ⟨r1,fun B e q=>?_⟩
  obtain ⟨x1,x2,x3⟩:=r2 B e q
  have:¬h.DO G d B:=by
   rintro ⟨id,o,y1,y2,y3⟩
   have:=(R.obj id o y2).2.1
   rw[y3] at this
   exact x2 this
  refine ⟨by simp only[aB.frz,this,if_false];exact x1,fun x=>x2 x.1,x3⟩
 ·exact fun t ht t' ht' B e e' a b=>R.tinj t ht t' ht' B e e' a b
theorem ku {v:Value} (h:One v):v.cells= #[v]:=by
 obtain ⟨a,b⟩:=h
 cases v<;>first|rfl|exact absurd rfl (a _)|exact absurd rfl (b _)
theorem DK (R:aM G h w) {d:Nat→Bool} {id off len:Nat} {c:Option Nat} {cs:List AV} {v:Value} (ho:h.objs id=some (.cells cs)) (hd:d id=true) (hl:off+len≤cs.length) (r:ak G w (.tsl 1 id off len c) v):
  ak (G.frz h d) w (.sl 1 ((cs.drop off).take len) .any) v:=by
 simp only[ak] at r
 obtain ⟨-,⟨C,cc,Tt,fr,rfl,⟨h2,-⟩,-⟩|⟨h0,⟨a,rfl⟩,-⟩⟩:=r
 ·obtain ⟨-,r2,r3,vs,rest,T,fr',y1,y2,y3,y4⟩:=R.obj id _ ho
  have hlen:=an.length y2
  have hx:an (G.frz h d) w ((cs.drop off).take len) ((vs.drop off).take len):=an.mono R (aT d) _ _ (an.take len (an.drop off y2))
  have h1:∀v∈(vs.drop off).take len,One v:=fun v hv=>y4 v (List.mem_of_mem_drop (List.mem_of_mem_take hv))
  have he:=du (sz:=1) hx (fun v hv=>by rw[ku (h1 v hv)];rfl)
  have hfl:((vs.drop off).take len).flatMap (·.cells.toList)=(vs.drop off).take len:=by
   have:∀l:List Value,(∀v∈l,One v)→l.flatMap (·.cells.toList)=l:=by
    intro l
    induction l with
    |nil=>intro _;rfl
    |cons x l ih=>intro hl;rw[List.flatMap_cons,ku (hl x (by simp)),ih (fun v hv=>hl v (by simp[hv]))];rfl
   exact this _ h1
  rw[hfl] at he
  unfold ak
  refine .inr ⟨G.ι id,off,C,(vs.drop off).take len,?_,?_,?_,he,?_,trivial⟩
  ·rw[List.length_take,List.length_drop];congr 1;omega
  ·rw[List.length_take];omega
  ·simp only[List.length_take,List.length_drop];omega
  ·intro i v hi
   have hi':=(List.getElem?_eq_some_iff.1 hi).1
   rw[List.length_take,List.length_drop] at hi'
   have hv1:vs[off+i]? =some v:=by
    rw[List.getElem?_take_of_lt (by omega),List.getElem?_drop] at hi
    exact hi
   refine ⟨?_,h1 v (List.mem_of_getElem? hi),?_,?_⟩
   ·unfold World.cell?
    simp only[y1]
    simp[List.getElem?_append_left (show off+i<vs.length by omega),hv1]
   ·exact fun x=>x.2 ⟨id,_,hd,ho,rfl⟩
   ·intro e he'
    have:h.DO G d (G.ι id):=⟨id,_,hd,ho,rfl⟩
    simp[aB.frz,this] at he'
 ·subst h0
  unfold ak
  exact .inl ⟨by simp,⟨_,rfl⟩,trivial⟩
theorem DL (R:aM G h w) {d:Nat→Bool} {id off:Nat} {cs:List AV} {v:Value} (ho:h.objs id=some (.cells cs)) (hd:d id=true) (r:ak G w (.ptr id off) v):
  ak (G.frz h d) w (.ref (cs.drop off)) v:=by
 simp only[ak] at r
 obtain ⟨-,rfl⟩:=r
 obtain ⟨-,r2,r3,vs,rest,T,fr',y1,y2,y3,y4⟩:=R.obj id _ ho
 unfold ak
 refine ⟨G.ι id,off,vs.drop off,rfl,an.mono R (aT d) _ _ (an.drop off y2),?_⟩
 intro i v hi
 have hv1:vs[off+i]? =some v:=by rw[List.getElem?_drop] at hi;exact hi
 have hi':=(List.getElem?_eq_some_iff.1 hv1).1
 refine ⟨?_,y4 v (List.mem_of_getElem? hv1),?_,?_⟩
 ·unfold World.cell?
  simp only[y1]
  simp[List.getElem?_append_left hi',hv1]
 ·exact fun x=>x.2 ⟨id,_,hd,ho,rfl⟩
 ·intro e he'
  have:h.DO G d (G.ι id):=⟨id,_,hd,ho,rfl⟩
  simp[aB.frz,this] at he'
mutual
def unT (h:H) (d:Nat→Bool):AV→AV
 | .tsl sz id off len c=>if sz=1∧d id=true then (match h.objs id with
  |some (.cells cs)=>if off+len≤cs.length then .sl 1 ((cs.drop off).take len) .any else .any
  |_=> .any) else .tsl sz id off len c
 | .ptr id off=>if d id=true then (match h.objs id with
  |some (.cells cs)=> .ref (cs.drop off)
  |_=> .any) else .ptr id off
 | .agg xs=> .agg (rQ h d xs)
 | .tup xs=> .tup (rQ h d xs)
 | .clo fn a b=> .clo fn (rQ h d a) (rQ h d b)
 |x=>x
def rQ (h:H) (d:Nat→Bool):List AV→List AV
 |[]=>[]
 |x::xs=>unT h d x::rQ h d xs
end
mutual
theorem oi (R:aM G h w) (d:Nat→Bool):∀(x:AV) (v:Value),ak G w x v→ak (G.frz h d) w (unT h d x) v
 | .tsl sz id off len c,v,r=>by
  unfold unT
  split
  ·rename_i hs
   obtain ⟨rfl,hd⟩:=hs
   split
   ·rename_i cs ho
    split
    ·rename_i hl
     exact DK R ho hd hl r
    ·simp[ak]
   ·simp[ak]
  ·exact ak.mono R (aT d) _ _ r
 | .agg xs,v,r=>by
  simp only[unT,ak] at r ⊢
  obtain ⟨vs,e,r⟩:=r
  exact ⟨vs,e,jN R d xs vs r⟩
 | .tup xs,v,r=>by
  simp only[unT,ak] at r ⊢
  obtain ⟨vs,e,r⟩:=r
  exact ⟨vs,e,jN R d xs vs r⟩
 | .any,v,r=>by simp[unT,ak]
 | .int k n,v,r=>by unfold unT;exact ak.mono R (aT d) _ _ r
 | .bool b,v,r=>by unfold unT;exact ak.mono R (aT d) _ _ r
 | .str l,v,r=>by unfold unT;exact ak.mono R (aT d) _ _ r
 | .sc x,v,r=>by unfold unT;exact ak.mono R (aT d) _ _ r
 | .sl sz xs c,v,r=>by unfold unT;exact ak.mono R (aT d) _ _ r
 | .ref cs,v,r=>by unfold unT;exact ak.mono R (aT d) _ _ r
 | .ptr id off,v,r=>by
  unfold unT
  split
  ·rename_i hd
   split
   ·rename_i cs ho
    exact DL R ho hd r
   ·simp[ak]
  ·exact ak.mono R (aT d) _ _ r
 | .clo fn a b,v,r=>by
  simp only[unT,ak] at r ⊢
  obtain ⟨vs,us,e,r1,r2⟩:=r
  exact ⟨vs,us,e,jN R d a vs r1,jN R d b us r2⟩
 | .ifc t x,v,r=>by unfold unT;exact ak.mono R (aT d) _ _ r
 | .mp id,v,r=>by unfold unT;exact ak.mono R (aT d) _ _ r
 | .yld id,v,r=>by unfold unT;exact ak.mono R (aT d) _ _ r
 | .slt sz xs ys,v,r=>by unfold unT;exact ak.mono R (aT d) _ _ r
 | .sup B,v,r=>by unfold unT;exact ak.mono R (aT d) _ _ r
 | .supb B,v,r=>by unfold unT;exact ak.mono R (aT d) _ _ r
 | .wint k,v,r=>by unfold unT;exact ak.mono R (aT d) _ _ r
 | .one,v,r=>by unfold unT;exact ak.mono R (aT d) _ _ r
theorem jN (R:aM G h w) (d:Nat→Bool):∀(xs:List AV) (vs:List Value),an G w xs vs→an (G.frz h d) w (rQ h d xs) vs
 |[],vs,r=>by simpa [rQ,an] using r
 |x::xs,vs,r=>by
  simp only[rQ,an] at r ⊢
  obtain ⟨v,us,e,r1,r2⟩:=r
  exact ⟨v,us,e,oi R d x v r1,jN R d xs us r2⟩
end
theorem FY (t:Tm) (h:H) (d:Nat→Bool):aF ⟨t,h⟩ ⟨fun i=>unT h d (t i),h.drop d⟩ where
 n:=Nat.le_refl _
 m:=Nat.le_refl _
 go:=fun N G w a r _=>⟨G.frz h d,aT d,⟨r.size,fun i=>oi r.h d _ _ (r.t i),ml r.h d,r.df.mono (aT d)⟩⟩
theorem aN.frz {f:FuncId} {args:List AV} {h h':H} {r:AV} (hc:aN P f args h r h') (d:Nat→Bool):aN P f args h (unT h' d r) (h'.drop d):=by
 intro G w vs hv R F
 refine (hc G w vs hv R F).mono ?_
 rintro e w' ⟨v,G',rfl,T,R',V⟩
 exact ⟨v,G'.frz h' d,rfl,T.trans R R' (aT d),ml R' d,oi R' d _ _ V⟩
theorem aI.DM {f:FuncId} {N:Nat} {ac:AC} {args:List AV} {ds:List RV} {r:AV} (hF:aI P f N ac ds) (hl:args.length≤N) (ha:az args=true) (hp:aO r=true) (hw:Wp P N ac ⟨eh args,H0 0 0⟩ fun e s'=>gq e∧∃q,gh ds s'.t s'.h=some q∧ag (unT s'.h (fun _=>true) q) r):aE P f args r:=by
 obtain ⟨r',h',bI,hs⟩:=hF.dC (Q:=fun r' h'=>ag (unT h' (fun _=>true) r') r) hl hw
 exact (bI.frz _).wV (cu _ ha) hs (dP _ hp)
end
end Go.Av
end
section
namespace Go.Av
section
variable {P:Program} {G:aB} {h:H} {w:World}
theorem o7 {sz:Nat}:∀(rows:List (List AV)) (vs:List Value),(∀x∈rows,x.length=sz)→an G w rows.flatten vs→aq G w sz (rows.map .agg) vs
 |[],vs,_,h=>by simpa [an,aq] using h
 |x::rows,vs,hl,h=>by
  have hx:=hl x (by simp)
  have h1:=an.take sz h
  have h2:=an.drop sz h
  rw[List.flatten_cons,List.take_left' hx] at h1
  rw[List.flatten_cons,List.drop_left' hx] at h2
  have hn:(vs.take sz).length=sz:=by have:=an.length h1;omega
  simp only[List.map_cons,aq]
  refine ⟨.agg (vs.take sz).toArray,vs.drop sz,by simp[Value.cells],by simpa [Value.cells] using hn,?_,o7 rows _ (fun y hy=>hl y (by simp[hy])) h2⟩
  simp only[ak]
  exact ⟨_,rfl,h1⟩
theorem nM {sz:Nat}:∀(rows:List (List AV)),(∀x∈rows,x.length=sz)→rows.flatten.length=rows.length*sz
 |[],_=>by simp
 |x::rows,h=>by
  have:=nM rows fun y hy=>h y (by simp[hy])
  have hx:=h x (by simp)
  simp[this,hx,Nat.add_mul];omega
open Classical in
theorem s9 (R:aM G h w) {d:Nat→Bool} {sz id:Nat} {rows:List (List AV)} {c:Option Nat} {v:Value} (hr:∀x∈rows,x.length=sz) (ho:h.objs id=some (.cells rows.flatten)) (hd:d id=true) (r:ak G w (.tsl sz id 0 rows.length c) v):
  ak (G.frz h d) w (.sl sz (rows.map .agg) .any) v:=by
 simp only[ak] at r
 obtain ⟨-,⟨C,cc,Tt,fr,rfl,⟨h2,-⟩,-⟩|⟨h0,⟨a,rfl⟩,-⟩⟩:=r
 ·obtain ⟨-,r2,r3,vs,rest,T,fr',y1,y2,y3,y4⟩:=R.obj id _ ho
  have hlen:=an.length y2
  have hfl:=nM rows hr
  have hx:an (G.frz h d) w rows.flatten vs:=an.mono R (aT d) _ _ y2
  unfold ak
  refine .inr ⟨G.ι id,0,C,vs,by simp,by simpa using h2,by simp;omega,o7 rows vs hr hx,?_,trivial⟩
  intro i v hi
  have hi':=(List.getElem?_eq_some_iff.1 hi).1
  refine ⟨?_,y4 v (List.mem_of_getElem? hi),?_,?_⟩
  ·unfold World.cell?
   simp only[y1,Nat.zero_add]
   simp[List.getElem?_append_left hi',hi]
  ·exact fun x=>x.2 ⟨id,_,hd,ho,rfl⟩
  ·intro e he'
   have:h.DO G d (G.ι id):=⟨id,_,hd,ho,rfl⟩
   simp[aB.frz,this] at he'
 ·have:rows=[]:=List.length_eq_zero_iff.1 h0
  subst this
  unfold ak
  exact .inl ⟨by simp,⟨_,rfl⟩,trivial⟩
def UpK (h:H) (q r:AV):Prop:=ag q r∨∃(rows:List (List AV)) (id sz:Nat) (rest:List AV),q= .tup (.tsl sz id 0 rows.length none::rest)∧(∀x∈rows,x.length=sz)∧h.objs id=some (.cells rows.flatten)∧ag (.tup (.sl sz (rows.map .agg) .any::rest)) r
theorem aN.upK {f:FuncId} {args:List AV} {h h':H} {q r:AV} (hc:aN P f args h q h') (u:UpK h' q r):aN P f args h r (h'.drop fun _=>true):=by
 intro G w vs hv R F
 refine (hc G w vs hv R F).mono ?_
 rintro e w' ⟨v,G',rfl,T,R',V⟩
 refine ⟨v,G'.frz h' fun _=>true,rfl,T.trans R R' (aT _),ml R' _,?_⟩
 rcases u with hs|⟨rows,id,sz,rest,rfl,hr,ho,hs⟩
 ·exact hs _ _ _ (ak.mono R' (aT _) _ _ V)
 ·refine hs _ _ _ ?_
  simp only[ak,an] at V ⊢
  obtain ⟨vs',e,v1,us,rfl,V1,V2⟩:=V
  exact ⟨_,e,v1,us,rfl,by simpa only[ak] using s9 R' hr ho rfl (by simpa only[ak] using V1),an.mono R' (aT _) _ _ V2⟩
theorem aI.DN {f:FuncId} {N:Nat} {ac:AC} {args:List AV} {ds:List RV} {r:AV} (hF:aI P f N ac ds) (hl:args.length≤N) (ha:az args=true) (hp:aO r=true) (hw:Wp P N ac ⟨eh args,H0 0 0⟩ fun e s'=>gq e∧∃q,gh ds s'.t s'.h=some q∧UpK s'.h q r):aE P f args r:=by
 obtain ⟨r',h',bI,hs⟩:=hF.dC (Q:=fun r' h'=>UpK h' r' r) hl hw
 exact (bI.upK hs).wV (cu _ ha) (ag.refl _) (dP _ hp)
end
end Go.Av
end
section
namespace Go.Av
section
variable {P:Program} {N:Nat} {o:Oper} {t:Tm} {h:H} {en:Ent}
theorem yR {x:AV} (h:shaped x=true):bU x=true∨∃cs,x= .agg cs:=by
 unfold shaped at h
 simp only[Bool.or_eq_true] at h
 rcases h with h|h
 ·exact .inl h
 ·cases x<;>simp at h
  exact .inr ⟨_,rfl⟩
theorem eu {G:aB} {w:World} {sz:Nat}:∀{els:List AV} {vs:List Value},aq G w sz els vs→els.all shaped=true→an G w (els.flatMap cellsOf) vs
 |[],vs,h,_=>by simpa [aq,an] using h
 |x::els,vs,h,ha=>by
  simp only[aq] at h
  obtain ⟨v,us,rfl,h1,h2,h3⟩:=h
  simp only[List.all_cons,Bool.and_eq_true] at ha
  rw[List.flatMap_cons]
  exact (dh h2 (yR ha.1)).append (eu h3 ha.2)
theorem AY {c:Call} {zs zx:Operand} {ys yx:Opd} {T U e:TypeId} {d:TypeDesc} {i:TypeInfo} {s:Nat} {els:List AV} (hop:o.op= .call c) (hc:c.callee= .builtin .append) (ha:c.args.toList=[zs,zx]) (hta:c.argTypes.toList=[T,U])
  (hT:P.underlying T=some (.slice e)) (hU:P.underlying U=some d) (hd:(∃e',d= .slice e')∨d= .string) (hi:P.info? e=some i) (hz:i.zero.any (fun z=>z.cells.size == i.size)=true) (hsz:0<i.size)
  (hys:opd P T zs=some ys) (hyx:opd P U zx=some yx) (hs:ev t ys= .sl s [] (.exact 0)) (hx:∃s' c',ev t yx= .sl s' els c'∧s'=i.size) (hsh:els.all shaped=true) (hne:0<els.length)
  (hb:els.length*i.bytes≤140737488355328) (hlen:els.length<4611686018427387904):
  Loc P o t h (.tsl i.size h.n 0 els.length none) {h with objs:=upd h.objs h.n (some (.cells (els.flatMap cellsOf))),n:=h.n+1} ⟨[],[h.n],[]⟩:=by
 have ha':c.args= #[zs,zx]:=by rw[←Array.toArray_toList (xs:=c.args),ha]
 have hta':c.argTypes= #[T,U]:=by rw[←Array.toArray_toList (xs:=c.argTypes),hta]
 obtain ⟨z,hz1,hz2⟩:∃z,i.zero=some z∧z.cells.size=i.size:=by
  cases hzz:i.zero with
  |none=>rw[hzz] at hz;simp at hz
  |some z=>rw[hzz] at hz;exact ⟨z,rfl,by simpa using hz⟩
 refine ⟨_,_,fm h _,fun G w a ht R F=>?_⟩
 have r1:=ao hys ht
 have r2:=ao hyx ht
 rw[hs] at r1
 obtain ⟨s',c',hx,hs'⟩:=hx
 rw[hx] at r2
 obtain ⟨news,n1,n2,n3⟩:=iB (P:=P) (.inl hs') r2
 have hbase:∃a0,a.eval zs= .slice a0 0 0:=by
  simp only[ak,bY] at r1
  rcases r1 with ⟨-,h,-⟩|⟨B,off,C,vs,q1,-,-,-,-,q6⟩
  ·exact h
  ·subst q6;exact ⟨_,by simpa using q1⟩
 obtain ⟨a0,ha0⟩:=hbase
 obtain ⟨w',C,rest,e1,e2,e3,e4⟩:=dM (ty:=o.type) hT hU hd hi hz1 hz2 hsz n1 (lU a0) (by omega) (Nat.le_refl _) (by simpa using hb) (by simpa using hlen)
 rw[List.nil_append] at e2
 simp only[Nat.zero_add] at e1 e3 e4
 have hnl:=n2.length
 obtain ⟨G',T1,R1,V⟩:=oc (m:=h.m) (sz:=i.size) e2 (eu n2 hsh) n3 (ja F (by simp[H.only])) e3 (by omega)
 refine ⟨.value _,_,w',G',?_,.inl rfl,T1,R1,V⟩
 simp[execOp,hop,resolve,hc,ha',hta',invoke,builtin,ha0,e1]
theorem rR {ty e:TypeId} {len:Nat} {parts:Array (Nat × Operand)} {ys:List Opd} {z:Value} (hop:o.op= .buildSlice ty len parts) (hu:P.underlying ty=some (.slice e)) (hi:(P.info? e).isSome=true) (hn:parts.size=len) (hpos:0<P.cellsOf e)
  (hz:(P.info? e).bind (·.zero)=some z) (hzs:z.cells.size=P.cellsOf e)
  (hys:fO P e 0 parts.toList=some ys) (hs:∀y∈ys,(cellsOf (ev t y)).length=P.cellsOf e∧shaped (ev t y)=true) (hle:ys.length*P.cellsOf e≤16777216):
  Loc P o t h (.tsl (P.cellsOf e) h.n 0 ys.length none) {h with objs:=upd h.objs h.n (some (.cells ((ys.map (ev t)).flatMap cellsOf))),n:=h.n+1} ⟨[],[h.n],[]⟩:=by
 refine ⟨_,_,fm h _,fun G w a ht R F=>?_⟩
 obtain ⟨r1,r2,r3⟩:=gJ ht hys
 simp only[Array.length_toList,hn] at r2 r3
 have hsz:∀v∈parts.toList.map (fun p=>a.eval p.2),v.cells.size=P.cellsOf e∧∀u∈v.cells.toList,One u:=by
  intro v hv
  obtain ⟨k,hk⟩:=List.getElem?_of_mem hv
  have hlt:k<(parts.toList.map (fun p=>a.eval p.2)).length:=by
   rcases Nat.lt_or_ge k (parts.toList.map (fun p=>a.eval p.2)).length with h|h
   ·exact h
   ·rw[List.getElem?_eq_none h] at hk;cases hk
  have hlt':k<ys.length:=by simp at hlt;omega
  obtain ⟨u,hu1,hu2⟩:=r1.get (i:=k) (x:=ev t ys[k]) (by simp[List.getElem?_eq_getElem hlt'])
  have e:u=v:=Option.some.inj (hu1.symm.trans hk)
  subst e
  obtain ⟨s1,s2⟩:=hs ys[k] (List.getElem_mem hlt')
  obtain ⟨c1,c2⟩:=cY hu2 s2
  have:=c1.length
  exact ⟨by simpa [s1] using this,cells_one c1 c2⟩
 generalize hV:parts.toList.map (fun p=>a.eval p.2)=vals at*
 have hvl:vals.length=len:=by rw[←hV];simp[hn]
 have he:=du r1 fun v hv=>(hsz v hv).1
 have hfl:(vals.flatMap (·.cells.toList)).length=len*P.cellsOf e:=by
  have:=he.length;rw[this];simp[r3]
 have hfill:∀cells:Array Value,cells.size=len*P.cellsOf e→Instr.fill (fun i=>some (i*P.cellsOf e,P.cellsOf e)) cells ((parts.map fun (i,x)=>(i,a.eval x)).toList)=some (vals.flatMap (·.cells.toList)).toArray:=by
  intro cells hc
  have hz:(parts.map fun (i,x)=>(i,a.eval x)).toList=(List.range' 0 vals.length).zip vals:=by
   have:∀l:List (Nat × Operand),l.map (fun (i,x)=>(i,a.eval x))=(l.map (·.1)).zip (l.map fun p=>a.eval p.2):=by
    intro l;induction l with
    |nil=>rfl
    |cons p l ih=>simp[ih]
   rw[Array.toList_map,this,r2,hV,hvl]
  rw[hz]
  have:=jb (sz:=P.cellsOf e) (cells:=cells) vals 0 [] cells (by simp) (by simp) (by rw[hc,hvl];simp) (fun v hv=>(hsz v hv).1)
  simpa using this
 have hle':¬(len*P.cellsOf e>16777216):=by rw[←r3];omega
 obtain ⟨G',T1,R1,V⟩:=oc (m:=h.m) (sz:=P.cellsOf e) (len:=len) (C:=len) (rest:=[]) (vs:=vals.flatMap fun v:Value=>v.cells.toList) (cX w (.cells ((vals.flatMap fun v:Value=>v.cells.toList)++[]).toArray e (0,0))) (eu he (by
  rw[List.all_map]
  exact List.all_eq_true.2 fun y hy=>(hs y hy).2)) (by
  intro u hu
  obtain ⟨v,hv,hu'⟩:=List.mem_flatMap.1 hu
  exact (hsz v hv).2 u hu') (ja F (by simp[H.only])) ⟨Nat.le_refl _,by
  have:=Nat.le_mul_of_pos_right len hpos
  omega⟩ (by rw[hfl];simp)
 rw[List.append_nil] at T1 R1 V
 refine ⟨.value (.slice (some ⟨w.heap.size,0,none⟩) len len),_,_,G',?_,.inl rfl,T1,R1,by rw[r3];exact V⟩
 obtain ⟨i,hi1,hi2⟩:=Option.bind_eq_some_iff.1 hz
 have hle2:¬(16777216<len*P.cellsOf e):=by omega
 have hmap:∀(zc:Array Value),((Array.range (len*P.cellsOf e)).map (zc[· %zc.size]!)).size=len*P.cellsOf e:=by intro zc;simp
 have hrz:(zeroValue e).run P w= .ok z w:=by simp[zeroValue,typeInfo,hi1,hi2]
 simp only[execOp,hop,Sem.run_bind,Instr.buildSlice,run_underlying hu,Result.andThen_ok,bT P w e hi,if_neg hle2,Sem.run_pure,Sem.run_ite,hrz,hfill _ (hmap _)]
 by_cases h0:len*P.cellsOf e=0
 ·rw[if_pos h0];simp[newRow]
 ·rw[if_neg h0];simp[newRow]
theorem AZ {c:Call} {zs zx:Operand} {ys yx:Opd} {T U e:TypeId} {d:TypeDesc} {i:TypeInfo} {s s':Nat} {xs:List AV} {cp c':Cap} (hop:o.op= .call c) (hc:c.callee= .builtin .append) (ha:c.args.toList=[zs,zx]) (hta:c.argTypes.toList=[T,U])
  (hT:P.underlying T=some (.slice e)) (hU:P.underlying U=some d) (hd:(∃e',d= .slice e')∨d= .string) (hi:P.info? e=some i)
  (hys:opd P T zs=some ys) (hyx:opd P U zx=some yx) (hs:ev t ys= .sl s xs cp) (hx:ev t yx= .sl s' [] c'):Loc P o t h (.sl s xs cp) h aC:=by
 have ha':c.args= #[zs,zx]:=by rw[←Array.toArray_toList (xs:=c.args),ha]
 have hta':c.argTypes= #[T,U]:=by rw[←Array.toArray_toList (xs:=c.argTypes),hta]
 refine Loc.plain fun G w a ht=>?_
 have r1:=ao hys ht
 have r2:=ao hyx ht
 rw[hs] at r1
 rw[hx] at r2
 obtain ⟨news,n1,n2,-⟩:=iB (P:=P) (sz:=i.size) (.inr rfl) r2
 have hnn:news=[]:=by simpa [aq] using n2
 subst hnn
 obtain ⟨base,len,C,hv,hlC⟩:∃base len C,a.eval zs= .slice base len C∧len≤C:=by
  simp only[ak] at r1
  rcases r1 with ⟨-,⟨a0,h⟩,-⟩|⟨B,off,C,vs,q1,q2,-⟩
  ·exact ⟨_,_,_,h,Nat.le_refl _⟩
  ·exact ⟨_,_,_,q1,q2⟩
 have hrun:=run_append_fits (ty:=o.type) (base:=base) (sLen:=len) (sCap:=C) (w':=w) hT hU hd hi n1 (by simpa using hlC) (by cases base<;>simp[storeCells])
 refine ⟨a.eval zs,?_,r1⟩
 simp[execOp,hop,resolve,hc,ha',hta',invoke,builtin,hv] at hrun ⊢
 rw[hrun]
 rfl
def jA (ρ:Opd→AV) (h:H):AOp→Option (AV × H × Ent)
 | .app false sz bytes s x=>match ρ s,ρ x with
  | .sl s xs c,.sl _ [] _=>some (.sl s xs c,h,aC)
  | .sl _ [] (.exact 0),.sl s' els _=>if s'=sz∧els.all shaped=true∧0<els.length∧els.length*bytes≤140737488355328∧els.length<4611686018427387904 then
    some (.tsl sz h.n 0 els.length none,{h with objs:=upd h.objs h.n (some (.cells (els.flatMap cellsOf))),n:=h.n+1},⟨[],[h.n],[]⟩) else none
  |_,_=>none
 | .buildSl sz parts=>if parts.all (fun x=>(cellsOf (ρ x)).length=sz∧shaped (ρ x))=true∧parts.length*sz≤16777216 then
   some (.tsl sz h.n 0 parts.length none,{h with objs:=upd h.objs h.n (some (.cells ((parts.map ρ).flatMap cellsOf))),n:=h.n+1},⟨[],[h.n],[]⟩) else none
 |_=>none
theorem wX {sz bytes:Nat} {ys yx:Opd} (h:cOp P o=some (.app false sz bytes ys yx)):∃c zs zx T U e e' i,o.op= .call c∧c.callee= .builtin .append∧c.args.toList=[zs,zx]∧c.argTypes.toList=[T,U]∧
  opd P T zs=some ys∧opd P U zx=some yx∧P.underlying T=some (.slice e)∧P.underlying U=some (.slice e')∧P.info? e=some i∧0<i.size∧(i.zero.any fun z=>z.cells.size == i.size)=true∧i.size=sz∧i.bytes=bytes:=by
 unfold cOp at h
 split at h
 case h_28 c hop=>
  split at h
  case h_7 hcal=>
   split at h
   ·rename_i zs zx T U ha hta
    split at h
    ·split at h
     ·split at h
      ·rename_i hq
       cases h
       exact ⟨c,zs,zx,T,U,_,_,_,hop,hcal,ha,hta,‹_›,‹_›,‹_›,‹_›,‹_›,hq.1,hq.2,rfl,rfl⟩
      ·cases h
     ·cases h
    ·(repeat' split at h)<;>(try cases h)<;>simp at h
    ·(repeat' split at h)<;>(try cases h)<;>simp at h
    ·cases h
   ·cases h
  all_goals first
   |(cases h;done)
   |((repeat' split at h)<;>(try cases h)<;>simp at h)
 all_goals first
  |(cases h;done)
  |(simp at h;done)
  |((repeat' split at h)<;>(try cases h)<;>(try simp at h);done)
  |skip
theorem nN {sz:Nat} {ys:List Opd} (h:cOp P o=some (.buildSl sz ys)):∃ty e len parts z,o.op= .buildSlice ty len parts∧P.underlying ty=some (.slice e)∧(P.info? e).isSome=true∧parts.size=len∧0<P.cellsOf e∧(P.info? e).bind (·.zero)=some z∧z.cells.size=P.cellsOf e∧
  fO P e 0 parts.toList=some ys∧sz=P.cellsOf e:=by
 unfold cOp at h
 split at h
 case h_7 ty len parts hop=>
  split at h
  ·split at h
   ·rename_i hq
    simp only[Option.map_eq_some_iff] at h
    obtain ⟨l,h1,h2⟩:=h
    cases h2
    obtain ⟨q1,q2,q3,q4⟩:=hq
    cases hz:(P.info? _).bind (·.zero) with
    |none=>rw[hz] at q4;simp at q4
    |some z=>rw[hz] at q4;exact ⟨ty,_,len,parts,z,hop,‹_›,q2,q1,q3,hz,by simpa using q4,h1,rfl⟩
   ·cases h
  ·cases h
 all_goals first
  |(cases h;done)
  |(simp at h;done)
  |((repeat' split at h)<;>(try cases h)<;>(try simp at h);done)
  |skip
theorem Ba {op:AOp} {x:AV} {h':H} (hc:cOp P o=some op) (hx:jA (ev t) h op=some (x,h',en)):Loc P o t h x h' en:=by
 cases op<;>(try (simp [jA] at hx;done))
 case app str sz bytes s x0=>
  cases str<;>(try (simp [jA] at hx;done))
  obtain ⟨c,zs,zx,T,U,e,e',i,hop,hcal,ha,hta,hys,hyx,hT,hU,hi,hs1,hs2,rfl,rfl⟩:=wX hc
  simp only[jA] at hx
  split at hx
  ·cases hx
   exact AZ hop hcal ha hta hT hU (.inl ⟨_,rfl⟩) hi hys hyx ‹_› ‹_›
  ·split at hx
   ·rename_i hq
    cases hx
    exact AY hop hcal ha hta hT hU (.inl ⟨_,rfl⟩) hi hs2 hs1 hys hyx ‹_› ⟨_,_,‹_›,hq.1⟩ hq.2.1 hq.2.2.1 hq.2.2.2.1 hq.2.2.2.2
   ·cases hx
  ·cases hx
 case buildSl sz parts=>
  obtain ⟨ty,e,len,ps,z,hop,hu,hi,hn,hpos,hz,hzs,hys,rfl⟩:=nN hc
  simp only[jA] at hx
  split at hx
  ·rename_i hq
   cases hx
   exact rR hop hu hi hn hpos hz hzs hys (fun y hy=>by simpa using List.all_eq_true.1 hq.1 y hy) hq.2
  ·cases hx
theorem uZ {ρ ρ':Opd→AV} {op:AOp} (hx:∀y∈bf op,ρ y=ρ' y):jA ρ h op=jA ρ' h op:=by
 cases op<;>(try rfl)
 case app str sz bytes s x0=>
  cases str
  ·simp only[jA,hx s (by simp[bf]),hx x0 (by simp[bf])]
  ·rfl
 case buildSl sz parts=>
  have e1:parts.map ρ=parts.map ρ':=List.map_congr_left fun y hy=>hx y (by simpa [bf] using hy)
  have e2:parts.all (fun x=>(cellsOf (ρ x)).length=sz∧shaped (ρ x))=parts.all (fun x=>(cellsOf (ρ' x)).length=sz∧shaped (ρ' x)):=by
   refine Bool.eq_iff_iff.2 ?_
   simp only[List.all_eq_true]
   exact ⟨fun h y hy=>by rw[←hx y (by simpa [bf] using hy)];exact h y hy,fun h y hy=>by rw[hx y (by simpa [bf] using hy)];exact h y hy⟩
  simp only[jA,e1,e2]
theorem mO {ops:Array Oper} {i:Nat} {o:Oper} {it:aw} {t:Tm} {h h':H} {x:AV} {en:Ent} (ho:ops[i]? =some o) (hit:bm P N ops o=some it) (hg:guardOf t it.guard=some true) (hx:jA (ev t) h it.op=some (x,h',en)):
  ∃h1 h1',Touch h h1 h1' h' en∧fC P ops i o t h1 x h1':=by
 unfold bm at hit
 split at hit
 ·rename_i op g hop hgd
  split at hit<;>cases hit
  rename_i hcond
  simp only[Bool.and_eq_true] at hcond
  have hop:=fA hop (by rintro rfl;simp[jA] at hx) (by cases op<;>first|rfl|(simp [jA] at hx))
  have hx':jA (ev (gM (names ops o) t)) h op=some (x,h',en):=by
   rw[uZ (gZ hcond.2)];exact hx
  obtain ⟨h1,h1',tc,loc⟩:=Ba hop hx'
  refine ⟨h1,h1',tc,fun G w a ht R F K Q hK ro=>?_⟩
  obtain ⟨nx,v,w',G',e1,e2,T1,R1,V⟩:=loc G w a (eA ht) R F
  unfold wpOpIn
  rw[ho]
  simp only[bN hgd ht hg,if_true]
  refine ⟨fun _ _=>trivial,?_⟩
  rw[Oper.semAt_eq _ _ _ (dv hop),e1]
  rcases e2 with rfl|⟨rfl,rfl⟩
  ·rw[Oper.uponIn_value];exact hK G' w' v T1 R1 V
  ·rw[Oper.uponIn_skip];exact hK G' w' undef T1 R1 V
 ·cases hit
theorem ae.opT {dst:Option Nat} {g:Option (Nat × Bool)} {op:AOp} {its:List aw} {t:Tm} {h h':H} {log:List Ent} {en:Ent} {K:Tm→H→List Ent→Prop} {x:AV} (hg:guardOf t g=some true) (hx:jA (ev t) h op=some (x,h',en)) (ht:bg op=true)
  (rest:ae P N its (bD t dst x) h' (en::log) K):ae P N (⟨dst,g,op⟩::its) t h log K:=by
 intro ops i hi hc
 obtain ⟨o,ho,hit,hi',hc'⟩:=bG hi hc
 obtain ⟨h1,h1',tc,run⟩:=mO ho hit hg hx
 obtain ⟨recs,t',hh',ch,hk,hen⟩:=rest ops (i+1) hi' hc'
 have hdst:dst=o.dst:=by
  unfold bm at hit
  split at hit
  ·split at hit<;>cases hit;rfl
  ·cases hit
 refine ⟨⟨t,h,h1,h1',h',x,en⟩::recs,t',hh',.cons ho rfl rfl tc (fun _=>run) (by rw[←hdst];exact ch),by simpa using hk,?_⟩
 intro k r it' hr hit' ht'
 cases k with
 |zero=>
  simp at hr hit';subst hr hit'
  rw[ht] at ht';cases ht'
 |succ k=>simp at hr hit';exact hen k r it' hr hit' ht'
theorem u0 (h:H) {id:Nat} {ob:Obj} (ho:h.objs id=some ob):Touch h (.only (upd ah id (some ob)) [] h.n h.m) (H0 h.n h.m) {h with objs:=fun j=>if j=id then none else h.objs j} ⟨[],[id],[]⟩ where
 sub:=(cF h ho).sub
 n:=rfl
 m:=rfl
 eq:=H.ext (fun j=>by
  simp only[H.patch,H0,H.only,upd,ah]
  by_cases e:j=id
  ·subst e;simp
  ·simp[e];omega) rfl (by simp[H.patch,H0,H.only,dN]) rfl
 rd j x:=by
  simp only[H.only,upd,ah] at x
  split at x
  ·rename_i e;subst e;simp
  ·cases x
 wr id a b:=by simp only[H0,H.only] at a b;omega
 chg j x hj:=by
  simp only[H.only,upd,ah] at x
  split at x
  ·rename_i e;subst e;simp at hj
  ·cases x
 tk t x:=by simp[H.only] at x
 tn t x:=by simp[H0,H.only] at x
 le:=Nat.le_refl _
 lem:=Nat.le_refl _
def bE (P:Program) (N:Nat) (items:List aw) (t:Tm) (h:H) (K:Tm→H→Prop):Prop:=
 ∀ops i,i≤ops.size→cG P N ops (ops.toList.drop i)=some items→∃recs t' h',AH P ops i recs t h t' h'∧K t' h'
theorem bE.step {it:aw} {its:List aw} {t:Tm} {h h':H} {x:AV} {en:Ent} {K:Tm→H→Prop}
  (run:∀(ops:Array Oper) i o,ops[i]? =some o→bm P N ops o=some it→∃h1 h1',Touch h h1 h1' h' en∧fC P ops i o t h1 x h1') (rest:bE P N its (bD t it.dst x) h' K):bE P N (it::its) t h K:=by
 intro ops i hi hc
 obtain ⟨o,ho,hit,hi',hc'⟩:=bG hi hc
 obtain ⟨h1,h1',tc,run⟩:=run ops i o ho hit
 obtain ⟨recs,t',hh',ch,hk⟩:=rest ops (i+1) hi' hc'
 have hdst:it.dst=o.dst:=by
  unfold bm at hit
  split at hit
  ·split at hit<;>cases hit;rfl
  ·cases hit
 exact ⟨⟨t,h,h1,h1',h',x,en⟩::recs,t',hh',.cons ho rfl rfl tc (fun _=>run) (by rw[←hdst];exact ch),hk⟩
theorem bE.op {dst:Option Nat} {g:Option (Nat × Bool)} {op:AOp} {its:List aw} {t:Tm} {h h':H} {en:Ent} {K:Tm→H→Prop} {x:AV} (hg:guardOf t g=some true) (hx:aop (ev t) h op=some (x,h',en))
  (rest:bE P N its (bD t dst x) h' K):bE P N (⟨dst,g,op⟩::its) t h K:=
 bE.step (fun ops i o ho hit=>fD ho hit hg hx) rest
theorem bE.opT {dst:Option Nat} {g:Option (Nat × Bool)} {op:AOp} {its:List aw} {t:Tm} {h h':H} {en:Ent} {K:Tm→H→Prop} {x:AV} (hg:guardOf t g=some true) (hx:jA (ev t) h op=some (x,h',en))
  (rest:bE P N its (bD t dst x) h' K):bE P N (⟨dst,g,op⟩::its) t h K:=
 bE.step (fun ops i o ho hit=>mO ho hit hg hx) rest
theorem bE.fc {dst:Option Nat} {g:Option (Nat × Bool)} {f:FuncId} {l:List Opd} {its:List aw} {t:Tm} {h h' h1 h1':H} {en:Ent} {K:Tm→H→Prop} {vals:List AV} {r:AV} (hg:guardOf t g=some true) (hs:af (l.map (ev t)) vals) (hc:aN P f vals h1 r h1')
  (tc:Touch h h1 h1' h' en) (rest:bE P N its (bD t dst r) h' K):bE P N (⟨dst,g,.call f l⟩::its) t h K:=
 bE.step (fun ops i o ho hit=>⟨h1,h1',tc,cN ho hit hg rfl hs hc⟩) rest
theorem bE.aP {dst:Option Nat} {g:Option (Nat × Bool)} {f:FuncId} {l:List Opd} {its:List aw} {t:Tm} {h:H} {K:Tm→H→Prop} {vals:List AV} {r:AV} (hg:guardOf t g=some true) (hs:af (l.map (ev t)) vals) (hc:aE P f vals r)
  (rest:bE P N its (bD t dst r) h K):bE P N (⟨dst,g,.call f l⟩::its) t h K:=
 bE.fc hg hs (hc h.n h.m) (aV h) rest
end
end Go.Av
end
section
namespace Go.Av
variable {P:Program} {N:Nat} {s:St} {Q:aA→St→Prop}
def aA.noGoto (Q:aA→St→Prop):aA→St→Prop
 | .goto _,_=>False
 |e,s=>Q e s
theorem Wp.Bb {c:AC} (h:Wp P N c s (aA.noGoto Q)):Wp P N (.scope c) s Q:=by
 refine Wp.scope (WpS.step (Wp.mono h ?_))
 intro e s' h
 cases e with
 |normal=>exact h
 |exit id=>exact h
 |goto l=>exact h.elim
 |ret=>exact h
 |panic v=>exact h
theorem aF.tmN {t:Tm} {f f':Nat→Option Obj} {n n' m:Nat} {k:List Nat} {l:List (Nat × AV)} (hn:n≤n') (ho:OLe f f') (h:av t l):aF ⟨t,⟨f,n,k,m⟩⟩ ⟨Go.Av.tm l,⟨f',n',k,m⟩⟩:=
 aF.trans (aF.tm h) (aF.of (fun i=>ag.refl _) ho (fun x hx=>hx) hn (Nat.le_refl _))
theorem OLe.skip {f:Nat→Option Obj} {i:Nat} {o:Option Obj} (h:f i=Option.none):OLe (Go.Av.upd f i o) f:=by
 intro j p hp
 refine ⟨p,?_,cK.refl p⟩
 simp only[Go.Av.upd]
 split
 ·rename_i e;subst e;rw[h] at hp;cases hp
 ·exact hp
theorem OLe.at {g:Nat→Option Obj} {k:Nat} {A:Obj} (h:g k=some A):OLe g (Go.Av.upd ah k (some A)):=by
 intro j p hp
 simp only[Go.Av.upd,ah] at hp
 split at hp
 ·rename_i e;subst e;cases hp;exact ⟨_,h,cK.refl _⟩
 ·cases hp
theorem Wp.qC {β:Type} (L:List Nat) {K:List (Nat × AV)} {c:AC} {h:H} {t:Tm} (hK:(L.map fun i=>(i,t i))=K) (ch:β→List (Nat × AV)) (I:β→Prop) (μ:β→Nat) (b0:β) (h0:I b0) (hs:av t (ch b0))
  (round:∀b n,h.n≤n→I b→Wp P N c ⟨tm (K++ch b),{h with n:=n}⟩ (aA.andThen (fun s'=>∃b' n',h.n≤n'∧I b'∧μ b'<μ b∧aF s' ⟨tm (K++ch b'),{h with n:=n'}⟩) Q)):Wp P N (.loop c) ⟨t,h⟩ Q:=by
 refine Wp.eN (β:=β × Nat) L hK (fun j=>ch j.1) (fun j=>{h with n:=j.2}) (fun j=>h.n≤j.2∧I j.1) (fun j=>μ j.1) (b0,h.n) ⟨Nat.le_refl _,h0⟩ rfl hs ?_
 rintro ⟨b,n⟩ ⟨hn,hb⟩
 refine Wp.mono (round b n hn hb) ?_
 intro e s' h
 cases e with
 |normal=>obtain ⟨b',n',h1,h2,h3,h4⟩:=h;exact ⟨(b',n'),⟨h1,h2⟩,h3,h4⟩
 |exit id=>exact h
 |goto l=>exact h
 |ret=>exact h
 |panic v=>exact h
theorem Wp.iF {β:Type} (L:List Nat) {K:List (Nat × AV)} {c:AC} {h:H} {t:Tm} (hK:(L.map fun i=>(i,t i))=K) (ch:β→Nat→List (Nat × AV)) (I:β→Prop) (μ:β→Nat) (b0:β) (tk:Nat) (h0:I b0) (hh:h.toks=[tk]) (hs:av t (ch b0 tk))
  (round:∀b tk n m,h.n≤n→I b→Wp P N c ⟨tm (K++ch b tk),⟨h.objs,n,[tk],m⟩⟩ (aA.andThen (fun s'=>∃b' tk' n' m',h.n≤n'∧I b'∧μ b'<μ b∧aF s' ⟨tm (K++ch b' tk'),⟨h.objs,n',[tk'],m'⟩⟩) Q)):Wp P N (.loop c) ⟨t,h⟩ Q:=by
 refine Wp.eN (β:=β × Nat × Nat × Nat) L hK (fun j=>ch j.1 j.2.1) (fun j=>⟨h.objs,j.2.2.1,[j.2.1],j.2.2.2⟩) (fun j=>h.n≤j.2.2.1∧I j.1) (fun j=>μ j.1) (b0,tk,h.n,h.m) ⟨Nat.le_refl _,h0⟩ (by cases h;simp only at hh;subst hh;rfl) hs ?_
 rintro ⟨b,tk,n,m⟩ ⟨hn,hb⟩
 refine Wp.mono (round b tk n m hn hb) ?_
 intro e s' h
 cases e with
 |normal=>obtain ⟨b',tk',n',m',h1,h2,h3,h4⟩:=h;exact ⟨(b',tk',n',m'),⟨h1,h2⟩,h3,h4⟩
 |exit id=>exact h
 |goto l=>exact h
 |ret=>exact h
 |panic v=>exact h
end Go.Av
end
section
namespace Go.Av
section
variable {P:Program} {N:Nat} {Q:aA→St→Prop}
theorem Wp.frz {c:AC} {t:Tm} {h:H} (d:Nat→Bool) (l:List (Nat × AV)) (h':H) (hs:av (fun i=>unT h d (t i)) l) (ho:OLe (h.drop d).objs h'.objs) (hk:∀x∈h'.toks,x∈h.toks) (hn:h.n≤h'.n) (hm:h.m≤h'.m) (k:Wp P N c ⟨tm l,h'⟩ Q):Wp P N c ⟨t,h⟩ Q:=
 Wp.le (aF.trans (FY t h d) (aF.trans (aF.tm hs) (aF.of (f:=(h.drop d).objs) (n:=h.n) (m:=h.m) (k:=h.toks) (fun i=>ag.refl _) ho hk hn hm))) k
theorem kv {G:aB} {f:Nat→Option Obj} {n m:Nat} (B:Nat):¬(H.only f [] n m).T G B:=fun ⟨t,ht,_⟩=>by simp[H.only] at ht
def H.cJ (h:H) (id:Nat) (o:Obj):H:={h with objs:=upd (fun j=>if j=id then none else h.objs j) h.n (some o),n:=h.n+1}
end
end Go.Av
end
section
namespace Go.Av
abbrev yS:=Nat→Option Obj
structure Fr where
 o:yS
 k:List Nat
def lay:List Fr→yS
 |[]=>ah
 |F::l=>fun j=>(F.o j).or (lay l j)
def ks (l:List Fr):List Nat:=l.flatMap (·.k)
def ob (i:Nat) (o:Obj):Fr:=⟨upd ah i (some o),[]⟩
def fr0:Fr:=⟨ah,[]⟩
structure Ok (l:List Fr) (n:Nat) (T:List Nat) (m:Nat):Prop where
 bd:∀F∈l,∀j,n≤j→F.o j=none
 dj:l.Pairwise fun F F'=>∀j,F.o j=none∨F'.o j=none
 tk:∀t∈ks l,t∈T
 td:l.Pairwise fun F F'=>∀t∈F.k,t∉F'.k
 tb:∀t∈T,t<m
theorem Bc (F:Fr) (l:List Fr) (j:Nat):lay (F::l) j=(F.o j).or (lay l j):=rfl
theorem DP (i:Nat) (o:Obj) (j:Nat):(ob i o).o j=if j=i then some o else none:=rfl
theorem u3 (l m:List Fr) (j:Nat):lay (l++m) j=(lay l j).or (lay m j):=by
 induction l with
 |nil=>simp[lay,ah]
 |cons F l ih=>simp[lay,ih,Option.or_assoc]
theorem mn {l:List Fr} {j:Nat}:lay l j=none↔∀F∈l,F.o j=none:=by
 induction l with
 |nil=>simp[lay,ah]
 |cons F l ih=>simp[lay,Option.or_eq_none_iff,ih]
theorem FZ {l:List Fr} {t:Nat}:t∈ks l↔∃F∈l,t∈F.k:=by simp[ks]
theorem Ok.F3 {l:List Fr} {n m:Nat} {T:List Nat} (h:Ok l n T m) {j:Nat} (hj:n≤j):lay l j=none:=mn.2 fun F hF=>h.bd F hF j hj
theorem Ok.nil {n m:Nat}:Ok [] n [] m:=⟨by simp,by simp,by simp[ks],by simp,by simp⟩
theorem Ok.grow {l:List Fr} {n m n' m':Nat} {T:List Nat} (h:Ok l n T m) (hn:n≤n') (hm:m≤m'):Ok l n' T m':=
 ⟨fun F hF j hj=>h.bd F hF j (by omega),h.dj,h.tk,h.td,fun t ht=>Nat.lt_of_lt_of_le (h.tb t ht) hm⟩
theorem Ok.tail {F:Fr} {l:List Fr} {n m:Nat} {T:List Nat} (h:Ok (F::l) n T m):Ok l n T m:=
 ⟨fun F' hF=>h.bd F' (by simp[hF]),(List.pairwise_cons.1 h.dj).2,fun t ht=>h.tk t (by rw[FZ] at ht ⊢;obtain ⟨F',a,b⟩:=ht;exact ⟨F',by simp[a],b⟩),(List.pairwise_cons.1 h.td).2,h.tb⟩
theorem Ok.put {F:Fr} {l:List Fr} {n m i:Nat} {T:List Nat} {o:Obj} (h:Ok (F::l) n T m) (hi:lay l i=none) (hn:i<n):Ok (⟨upd F.o i (some o),F.k⟩::l) n T m where
 bd F' hF j hj:=by
  rcases List.mem_cons.1 hF with rfl|hF
  ·simp only[upd]
   rw[if_neg (by omega)]
   exact h.bd F (by simp) j hj
  ·exact h.bd F' (by simp[hF]) j hj
 dj:=by
  refine List.pairwise_cons.2 ⟨fun F' hF j=>?_,(List.pairwise_cons.1 h.dj).2⟩
  simp only[upd]
  by_cases e:j=i
  ·subst e;exact .inr (mn.1 hi F' hF)
  ·rw[if_neg e];exact (List.pairwise_cons.1 h.dj).1 F' hF j
 tk t ht:=h.tk t (by simpa [ks] using ht)
 td:=List.pairwise_cons.2 ⟨(List.pairwise_cons.1 h.td).1,(List.pairwise_cons.1 h.td).2⟩
 tb:=h.tb
theorem Ok.start {l:List Fr} {n m:Nat} {T:List Nat} (h:Ok l n T m):Ok (fr0::l) n T m:=
 ⟨fun F hF j hj=>by rcases List.mem_cons.1 hF with rfl|hF;exact rfl;exact h.bd F hF j hj,List.pairwise_cons.2 ⟨fun F' _ j=> .inl rfl,h.dj⟩,fun t ht=>h.tk t (by simpa [ks,fr0] using ht),List.pairwise_cons.2 ⟨fun F' _ t ht=>by simp[fr0] at ht,h.td⟩,h.tb⟩
theorem Ok.old {F:Fr} {l:List Fr} {n m:Nat} {T:List Nat} (h:Ok (F::l) n T m) {i:Nat} (hi:(F.o i).isSome=true):lay l i=none:=
 mn.2 fun F' hF=>by
  rcases (List.pairwise_cons.1 h.dj).1 F' hF i with e|e
  ·rw[e] at hi;cases hi
  ·exact e
section
variable {P:Program} {N:Nat}
def rS (P:Program) (f:FuncId) (args:List AV) (l:List Fr) (Q:AV→List Fr→Prop):Prop:=
 ∀n m,Ok l n (ks l) m→∃r l' n' m',aN P f args ⟨lay l,n,ks l,m⟩ r ⟨lay l',n',ks l',m'⟩∧n≤n'∧m≤m'∧Ok l' n' (ks l') m'∧(∀j,n≤j∨(lay l j).isSome=true∨lay l' j=none)∧(∀t∈ks l',t∈ks l∨m≤t)∧Q r l'
theorem rS.mono {f:FuncId} {args:List AV} {l:List Fr} {Q Q':AV→List Fr→Prop} (h:rS P f args l Q) (hq:∀r l',Q r l'→Q' r l'):rS P f args l Q':=by
 intro n m ok
 obtain ⟨r,l',n',m',h1,h2,h3,h4,h5,h6,h7⟩:=h n m ok
 exact ⟨r,l',n',m',h1,h2,h3,h4,h5,h6,hq _ _ h7⟩
theorem aE.g {f:FuncId} {args:List AV} {r:AV} (h:aE P f args r):rS P f args [] (fun r' l'=>r'=r∧l'=[]):=fun n m _=>
 ⟨r,[],n,m,h n m,Nat.le_refl _,Nat.le_refl _,Ok.nil,fun j=> .inr (.inr rfl),by simp[ks],rfl,rfl⟩
theorem Wp.nm {c:AC} {s:St} {Q:aA→St→Prop} (h:Wp P N c s Q):Wp P N c s fun e s'=>Q e s'∧s.h.n≤s'.h.n∧s.h.m≤s'.h.m:=by
 intro code hc
 obtain ⟨e,s',r,q⟩:=h code hc
 exact ⟨e,s',r,q,r.1⟩
theorem aN.le {f:FuncId} {args:List AV} {h h' h'':H} {r r':AV} (hc:aN P f args h r h') (hs:ag r r') (hl:HLe h' h'') (n:h'.n=h''.n) (m:h'.m=h''.m):aN P f args h r' h'':=by
 intro G w vs hv R F
 refine (hc G w vs hv R (by unfold bH at F ⊢;rwa [n,m])).mono ?_
 rintro e w' ⟨v,G',rfl,T,R',V⟩
 exact ⟨v,G',rfl,T.trans R R' (Trans.le hl (by omega) (by omega)),R'.le hl,hs G' w' v V⟩
structure Ends (l:List Fr) (n m:Nat) (Q:AV→List Fr→Prop) (q:AV) (h:H) (r:AV) (l':List Fr):Prop where
 sub:ag q r
 ole:OLe h.objs (lay l')
 tk:∀t∈ks l',t∈h.toks
 ok:Ok l' h.n (Go.Av.ks l') h.m
 new:∀j,n≤j∨(lay l j).isSome=true∨lay l' j=none
 knew:∀t∈Go.Av.ks l',t∈Go.Av.ks l∨m≤t
 q:Q r l'
def fin (h:H) (ids toks:List Nat):Ent:=⟨[],ids,toks⟩
def Wi (l0:List Fr) (n0:Nat) (l:List Fr):Prop:=∀j,n0≤j∨(lay l0 j).isSome=true∨lay l j=none
def Ki (l0:List Fr) (m0:Nat) (l:List Fr):Prop:=∀t∈ks l,t∈ks l0∨m0≤t
theorem Wi.refl {l:List Fr} {n:Nat}:Wi l n l:=fun j=>by
 cases h:lay l j with
 |none=>exact .inr (.inr rfl)
 |some o=>exact .inr (.inl rfl)
theorem Ki.refl {l:List Fr} {m:Nat}:Ki l m l:=fun t h=> .inl h
theorem Wi.trans {l0 l l':List Fr} {n0 n:Nat} (a:Wi l0 n0 l) (hn:n0≤n) (b:Wi l n l'):Wi l0 n0 l':=fun j=>by
 rcases b j with h|h|h
 ·exact .inl (by omega)
 ·rcases a j with h'|h'|h'
  ·exact .inl h'
  ·exact .inr (.inl h')
  ·rw[h'] at h;cases h
 ·exact .inr (.inr h)
theorem Ki.trans {l0 l l':List Fr} {m0 m:Nat} (a:Ki l0 m0 l) (hm:m0≤m) (b:Ki l m l'):Ki l0 m0 l':=fun t ht=>by
 rcases b t ht with h|h
 ·exact a t h
 ·exact .inr (by omega)
end
end Go.Av
end
section
namespace Go.Av
section
variable {P:Program} {N:Nat} {s:St} {Q:aA→St→Prop}
def mP (F:Fence) (n:Nat) (P:Program) (c:Code) (Q:Exit→Act→World→Prop) (a:Act) (w:World):Prop:=
 ∀(b:Frame) (k:List Item) (cs:List Frame),b.roundOf=F.round→F.fn b.fn→F.room (cs.length+1+n)→
  ∃e a' w',Q e a' w'∧ArrivesIn (Machine.fenced P F) P (lone (b.atR a (.code c:: .inLoop c::k)) cs w) b k cs e a' w'
theorem mP.start {F:Fence} {n:Nat} {c:Code} {Q:Exit→Act→World→Prop} {a:Act} {w:World} (h:mP F n P c Q a w):(Code.loop c).wpIn F n P Q a w:=by
 intro b k cs hro hb hr
 obtain ⟨e,a₁,w₁,hq,harr⟩:=h b k cs hro hb hr
 exact ⟨e,a₁,w₁,hq,.of_steps (.one (fenced_calm hb hr rfl) stepR_loop) harr⟩
theorem mP.step {F:Fence} {n:Nat} {c:Code} {Q:Exit→Act→World→Prop} {a:Act} {w:World} (h:c.wpIn F n P (Exit.then (mP F n P c Q) Q) a w):mP F n P c Q a w:=by
 intro b k cs hro hb hr
 obtain ⟨e,a₁,w₁,hq,harr⟩:=h b (.inLoop c::k) cs hro hb hr
 cases e with
 |normal=>
  obtain ⟨e₂,a₂,w₂,hq₂,harr₂⟩:=hq b k cs hro hb hr
  exact ⟨e₂,a₂,w₂,hq₂,.of_steps (StepsIn.trans harr (.one (fenced_calm hb hr rfl) stepR_inLoop)) harr₂⟩
 |exit id=>exact ⟨_,a₁,w₁,hq,.pass (x:= .inLoop c) rfl (fun _ _=> .inl (by simp)) harr⟩
 |goto l=>exact ⟨_,a₁,w₁,hq,.pass (x:= .inLoop c) rfl (fun _ _=> .inl (by simp)) harr⟩
 |ret=>exact ⟨_,a₁,w₁,hq,.pass (x:= .inLoop c) rfl (fun _ _=> .inl (by simp)) harr⟩
 |panic ch=>exact ⟨_,a₁,w₁,hq,.pass (x:= .inLoop c) rfl (fun _ _=> .inl (by simp)) harr⟩
 |outgrown=>exact ⟨_,a₁,w₁,hq,.pass (x:= .inLoop c) rfl (fun _ _=> .inl (by simp)) harr⟩
def IT (P:Program) (N:Nat) (c:Code) (s:St) (e:aA) (s':St):Prop:=
 (s.h.n≤s'.h.n∧s.h.m≤s'.h.m)∧∀ro,okR c ro→∀G w a,Rel N s G w a→bH G s.h s'.h→mP (rd ro) 0 P c (fun e' a' w'=>e.dA e'∧jJ w a.defers a'.defers∧∃G',Trans G w s.h G' w' s'.h∧Rel N s' G' w' a') a w
def WpL (P:Program) (N:Nat) (c:AC) (s:St) (Q:aA→St→Prop):Prop:=
 ∀code,cCode P N code=some c→∃e s',IT P N code s e s'∧Q e s'
theorem Wp.Fp {c:AC} (h:WpL P N c s Q):Wp P N (.loop c) s Q:=by
 intro code hc
 obtain ⟨x,rfl,hx⟩:=qz hc
 obtain ⟨e,s',r,q⟩:=h x hx
 exact ⟨e,s',⟨r.1,fun ro okc G w a rel F=>(r.2 ro okc.loop G w a rel F).start⟩,q⟩
theorem WpL.next {c:AC} (h:Wp P N c s (aA.andThen (fun s'=>WpL P N c s' Q) Q)):WpL P N c s Q:=by
 intro x hx
 obtain ⟨e,s1,r1,q1⟩:=h x hx
 cases e with
 |normal=>
  obtain ⟨e2,s2,r2,q2⟩:=q1 x hx
  obtain ⟨⟨l1,l2⟩,r1⟩:=r1
  obtain ⟨⟨l3,l4⟩,r2⟩:=r2
  refine ⟨e2,s2,⟨⟨by omega,by omega⟩,fun ro okc G w ac r F=> .step (wpIn_mono (r1 ro okc G w ac r (F.sub (Nat.le_refl _) l3 (Nat.le_refl _) l4)) ?_)⟩,q2⟩
  rintro e' a' w' ⟨h1,h2,G',T1,r'⟩
  cases e'<;>simp only[aA.dA] at h1
  intro b k cs hro hb hr
  obtain ⟨e'',a'',w'',⟨k1,k2,G'',T2,r''⟩,harr⟩:=r2 ro okc G' w' a' r' (F.step T1) b k cs hro hb hr
  exact ⟨e'',a'',w'',⟨k1,h2.trans T1.size_le k2,G'',T1.trans r.h r'.h T2,r''⟩,harr⟩
 |exit id=>
  refine ⟨.exit id,s1,⟨r1.1,fun ro okc G w ac r F=> .step (wpIn_mono (r1.2 ro okc G w ac r F) ?_)⟩,q1⟩
  rintro e' a' w' ⟨h1,h2⟩
  cases e'<;>simp only[aA.dA] at h1
  exact ⟨h1,h2⟩
 |goto l=>
  refine ⟨.goto l,s1,⟨r1.1,fun ro okc G w ac r F=> .step (wpIn_mono (r1.2 ro okc G w ac r F) ?_)⟩,q1⟩
  rintro e' a' w' ⟨h1,h2⟩
  cases e'<;>simp only[aA.dA] at h1
  exact ⟨h1,h2⟩
 |ret=>
  refine ⟨.ret,s1,⟨r1.1,fun ro okc G w ac r F=> .step (wpIn_mono (r1.2 ro okc G w ac r F) ?_)⟩,q1⟩
  rintro e' a' w' ⟨h1,h2⟩
  cases e'<;>simp only[aA.dA] at h1
  exact ⟨trivial,h2⟩
 |panic v=>
  refine ⟨.panic v,s1,⟨r1.1,fun ro okc G w ac r F=> .step (wpIn_mono (r1.2 ro okc G w ac r F) ?_)⟩,q1⟩
  rintro e' a' w' ⟨h1,h2⟩
  cases e'<;>simp only[aA.dA] at h1
  exact ⟨h1,h2⟩
def fM:List aw→Tm→H→List Ent→Option (List aw × Tm × H × List Ent)
 |[],t,h,l=>some ([],t,h,l)
 |it::its,t,h,l=>match guardOf t it.guard with
  |some true=>(match aop (ev t) h it.op with
   |some (x,h',en)=>fM its (bD t it.dst x) h' (en::l)
   |none=>some (it::its,t,h,l))
  |some false=>fM its (bD t it.dst (.sc undef)) h (aC::l)
  |none=>some (it::its,t,h,l)
theorem aZ:∀{items:List aw} {t:Tm} {h:H} {l:List Ent} {r:List aw × Tm × H × List Ent},fM items t h l=some r→bL items t h l=r
 |[],t,h,l,r,he=>by simpa [fM,bL] using he
 |it::its,t,h,l,r,he=>by
  simp only[fM] at he
  simp only[bL]
  cases hg:guardOf t it.guard with
  |none=>rw[hg] at he;simpa using he
  |some g=>
   rw[hg] at he
   cases g with
   |false=>exact aZ he
   |true=>
    simp only at he ⊢
    cases hx:aop (ev t) h it.op with
    |none=>rw[hx] at he;simpa using he
    |some p=>
     obtain ⟨x,h',en⟩:=p
     rw[hx] at he
     exact aZ he
theorem ae.evR {items its:List aw} {t t':Tm} {h h':H} {log log':List Ent} {K:Tm→H→List Ent→Prop} (he:fM items t h log=some (its,t',h',log')) (hw:ae P N its t' h' log' K):ae P N items t h log K:=ae.eval (aZ he) hw
theorem Wp.aG {items its:List aw} {p:Option (List (Nat × Nat))} {y:AC} {t':Tm} {h':H} {log:List Ent} (he:fM items s.t s.h []=some (its,t',h',log)) (h:ae P N its t' h' log fun t h l=>aJ p l∧Wp P N y ⟨t,h⟩ Q):Wp P N (.seq (.reg items p) y) s Q:=Wp.seqItems (aZ he) h
theorem Wp.cf {items its:List aw} {p:Option (List (Nat × Nat))} {t':Tm} {h':H} {log:List Ent} (he:fM items s.t s.h []=some (its,t',h',log)) (h:ae P N its t' h' log fun t h l=>aJ p l∧Q .normal ⟨t,h⟩):Wp P N (.reg items p) s Q:=Wp.items (aZ he) h
def Fq:List aw→Tm→H→List Ent→List aw × Tm × H × List Ent
 |[],t,h,l=>([],t,h,l)
 |it::its,t,h,l=>match it.guard with
  |some _=>(it::its,t,h,l)
  |none=>(match aop (ev t) h it.op with
   |some (x,h',en)=>Fq its (bD t it.dst x) h' (en::l)
   |none=>(it::its,t,h,l))
end
attribute [go_sem] Fq fM
def jx:List AV→List AV→Prop
 |[],[]=>True
 |x::xs,y::ys=>ag x y∧jx xs ys
 |_,_=>False
theorem jx.refl:∀l,jx l l
 |[]=>trivial
 |x::l=>⟨ag.refl x,jx.refl l⟩
theorem jx.len:∀{xs ys:List AV},jx xs ys→xs.length=ys.length
 |[],[],_=>rfl
 |_::_,_::_,h=>by simp[jx.len h.2]
 |[],_::_,h=>h.elim
 |_::_,[],h=>h.elim
theorem jx.els {G:aB} {w:World} {sz:Nat}:∀{xs ys:List AV} {vs:List Value},jx xs ys→aq G w sz xs vs→aq G w sz ys vs
 |[],[],_,_,h=>h
 |x::xs,y::ys,vs,h,hv=>by
  simp only[aq] at hv ⊢
  obtain ⟨v,us,e,h1,h2,h3⟩:=hv
  exact ⟨v,us,e,h1,h.1 G w v h2,jx.els h.2 h3⟩
 |[],_::_,_,h,_=>h.elim
 |_::_,[],_,h,_=>h.elim
theorem ag.sl {sz:Nat} {xs ys:List AV} {c:Cap} (h:jx xs ys):ag (.sl sz xs c) (.sl sz ys .any):=by
 intro G w v hv
 have hl:=h.len
 simp only[ak] at hv ⊢
 rcases hv with ⟨rfl,a,_⟩|⟨B,off,C,vs,h1,h2,h3,h4,h5,h6⟩
 ·cases ys with
  |nil=>exact .inl ⟨rfl,a,by simp[gW]⟩
  |cons y ys=>simp at hl
 ·exact .inr ⟨B,off,C,vs,by rw[←hl];exact h1,by rw[←hl];exact h2,by rw[←hl];exact h3,h.els h4,h5,by simp[bY]⟩
theorem ag.slc {sz:Nat} {xs ys:List AV} {c:Cap} (h:jx xs ys):ag (.sl sz xs c) (.sl sz ys c):=by
 intro G w v hv
 have hl:=h.len
 simp only[ak] at hv ⊢
 rcases hv with ⟨rfl,a,b⟩|⟨B,off,C,vs,h1,h2,h3,h4,h5,h6⟩
 ·cases ys with
  |nil=>exact .inl ⟨rfl,a,b⟩
  |cons y ys=>simp at hl
 ·exact .inr ⟨B,off,C,vs,by rw[←hl];exact h1,by rw[←hl];exact h2,by rw[←hl];exact h3,h.els h4,h5,by rw[←hl];exact h6⟩
theorem gP {α:Type} {l:List α} {i:Nat} {d:α} (h:i<l.length):l.getD i d=l[i]:=by
 rw[List.getD_eq_getElem?_getD,List.getElem?_eq_getElem h];rfl
theorem kz {α:Type} {l:List α} {j:Nat} (d:α) (h:j<l.length):l.take (j+1)=l.take j++[l.getD j d]:=by
 rw[List.take_succ_eq_append_getElem h,gP h]
theorem Bd {α:Type} [Inhabited α] (f:α→AV) (l:List α) (k:Nat) (d:AV) (h:k<l.length):(l.map f).getD k d=f (l.getD k default):=by
 simp[List.getD,List.getElem?_map,List.getElem?_eq_getElem h]
end Go.Av
end
section
namespace Go.Av
section
variable {P:Program} {N:Nat}
def mQ (P:Program) (id:Nat) (args:List AV) (h:H) (r:AV) (h':H):Prop:=
 ∀G w vs,G.dom id→an G w args vs→aM G h w→bH G h h'→YieldAt Fence.wide 0 P (G.ι id) vs.toArray w fun e w'=>∃v G',e= .returned v∧Trans G w h G' w' h'∧aM G' h' w'∧ak G' w' r v
theorem u4 {ro:Option Nat} {n l:Nat} {f:FuncId} {tmps:Array Value} {assign body:Code} {w:World} {R:Ending→World→Prop} (h:RoundIn Fence.wide n P l f tmps assign body w R):RoundIn (rd ro) n P l f tmps assign body w R:=h
theorem te {ops:Array Oper} {i:Nat} {o:Oper} {it:aw} {t:Tm} {id:Nat} {y:Opd} {l:List Opd} {vals:List AV} {h1 h1':H} {r:AV} (ho:ops[i]? =some o) (hit:bm P N ops o=some it) (hg:guardOf t it.guard=some true) (hop:it.op= .callv y l)
  (hy:ev t y= .yld id) (hs:af (l.map (ev t)) vals) (hc:mQ P id vals h1 r h1'):fC P ops i o t h1 r h1':=by
 unfold bm at hit
 split at hit
 ·rename_i op g hcop hgd
  split at hit<;>cases hit
  rename_i hcond
  simp only[Bool.and_eq_true] at hcond
  simp only at hop
  subst hop
  have hcop:=fA hcop (by simp) rfl
  obtain ⟨c,z,e1,e2,e3,e4⟩:=qA hcop
  intro G w a ht R F K Q hK ro
  unfold wpOpIn
  rw[ho]
  simp only[bN hgd ht hg,if_true]
  have rr:=fB (P:=P) (eA ht) e4
  have rz:=ao (P:=P) e3 (eA ht)
  have hcut:=gZ (t:=t) hcond.2
  have el:l.map (ev (gM (names ops o) t))=l.map (ev t):=List.map_congr_left fun x hx=>hcut x (by simp[bf,hx])
  rw[el] at rr
  rw[hcut y (by simp[bf]),hy] at rz
  simp only[ak] at rz
  obtain ⟨rdom,rz⟩:=rz
  refine ⟨fun _ _=>trivial,?_⟩
  obtain ⟨fn,tmps,asg,body,q1,q2⟩:=hc G w _ rdom (hs G w _ rr) R F
  have hargs:(c.args.map a.eval)=(c.args.toList.map a.eval).toArray:=by cases c.args;simp
  have hrun:(execOp a.eval o).run P w= .ok (.round (G.ι id) fn tmps asg body) w:=by
   simp[execOp,e1,resolve,e2,rz,Deferred.ofValue,invoke,hargs]
   exact q1
  rw[Oper.semAt_eq _ _ _ (dv hcop),hrun,Oper.uponIn_round]
  refine ⟨fun h=>by simp[rd,Fence.wide] at h,u4 (q2.mono ?_)⟩
  rintro e w' ⟨v,G',rfl,T,R',V⟩
  exact hK G' w' v T R' V
 ·cases hit
def iG (t:Tm):List Nat→List AV→Tm
 |p::ps,x::xs=>iG (upd t p x) ps xs
 |_,_=>t
theorem qD {G:aB} {w:World}:∀{ps:List Nat} {xs:List AV} {vs:List Value} {t:Tm} {tmps:Array Value},an G w xs vs→(∀p∈ps,p<tmps.size)→(∀i,ak G w (t i) (tmps.getD i undef))→
  (∀i,ak G w (iG t ps xs i) (((ps.zip vs).foldl (fun tm (p:Nat × Value)=>tm.setIfInBounds p.1 p.2) tmps).getD i undef))∧((ps.zip vs).foldl (fun tm (p:Nat × Value)=>tm.setIfInBounds p.1 p.2) tmps).size=tmps.size
 |[],xs,vs,t,tmps,_,_,h=>by simpa [iG] using h
 |p::ps,[],vs,t,tmps,hv,_,h=>by
  simp only[an] at hv;subst hv
  simpa [iG] using h
 |p::ps,x::xs,vs,t,tmps,hv,hp,h=>by
  simp only[an] at hv
  obtain ⟨v,us,rfl,h1,h2⟩:=hv
  have hk:=hp p (by simp)
  have:=qD (ps:=ps) (t:=upd t p x) (tmps:=tmps.setIfInBounds p v) h2 (fun q hq=>by simpa using hp q (by simp[hq])) (fun i=>by
   simp only[upd]
   by_cases e:i=p
   ·subst e;simp[Array.getElem?_setIfInBounds,hk];exact h1
   ·have e2:(tmps.setIfInBounds p v).getD i undef=tmps.getD i undef:=by simp[Array.getElem?_setIfInBounds,Ne.symm e]
    rw[if_neg e,e2];exact h i)
  simp only[iG,List.zip_cons_cons,List.foldl_cons]
  exact ⟨this.1,by rw[this.2];simp⟩
inductive iH:aA→Bool→LoopState→Option Code→Prop where
 |normal:iH .normal true .ready none
 |ret:iH .ret false .done (some .ret)
 |exit (i:Nat):iH (.exit i) false .done (some (.exit i))
 |goto (l:Nat):iH (.goto l) false .done (some (.goto l))
theorem qE {G:aB} {w:World} {f:yS} {n m id M:Nat} {T:List Nat} {t:Nat→AV} {ps:List Nat} {asg body:Code} {st:LoopState} {pend:Option Code} (R:aM G ⟨f,n,T,m⟩ w) (ho:f id=some (.loop M t ps asg body st pend)) {r:Loop}
  (hr:w.heap[G.ι id]? =some (.loop r)) (st':LoopState) (pend':Option Code):
  Trans G w ⟨f,n,T,m⟩ G (w.putObj (G.ι id) (.loop {r with state:=st',pending:=pend'})) ⟨upd f id (some (.loop M t ps asg body st' pend')),n,T,m⟩∧
  aM G ⟨upd f id (some (.loop M t ps asg body st' pend')),n,T,m⟩ (w.putObj (G.ι id) (.loop {r with state:=st',pending:=pend'})):=by
 obtain ⟨d1,d2,d3,r0,e0,d4⟩:=R.obj id _ ho
 have hrr:r0=r:=by
  have:=hr
  rw[e0] at this
  cases this;rfl
 subst hrr
 have tu:cW (G.ι id) w (w.putObj (G.ι id) (.loop {r0 with state:=st',pending:=pend'})):=
  ⟨by simp,fun B hB=>World.putObj_heap_other hB,fun c T fr e=>absurd (hr.symm.trans e) (by simp),rfl,rfl⟩
 have hO:∀B,H.O ⟨f,n,T,m⟩ G B↔H.O ⟨upd f id (some (.loop M t ps asg body st' pend')),n,T,m⟩ G B:=by
  intro B
  constructor
  ·rintro ⟨j,o,h1,h2⟩
   by_cases e:j=id
   ·exact ⟨id,.loop M t ps asg body st' pend',by simp[upd],by rw[←h2,e]⟩
   ·exact ⟨j,o,by simpa [upd,e] using h1,h2⟩
  ·rintro ⟨j,o,h1,h2⟩
   by_cases e:j=id
   ·exact ⟨id,_,ho,by rw[←h2,e]⟩
   ·exact ⟨j,o,by simpa [upd,e] using h1,h2⟩
 have hne:∀B,¬H.O ⟨f,n,T,m⟩ G B→B≠G.ι id:=fun B h e=>h ⟨id,_,ho,e.symm⟩
 have Tr:Trans G w ⟨f,n,T,m⟩ G (w.putObj (G.ι id) (.loop {r0 with state:=st',pending:=pend'})) ⟨upd f id (some (.loop M t ps asg body st' pend')),n,T,m⟩:=by
  constructor
  ·exact fun _ x=>x
  ·exact fun _=> .inl
  ·exact fun _ _=>rfl
  ·exact fun _ x=>x
  ·exact fun _=> .inl
  ·exact fun _ _=>rfl
  ·exact Nat.le_refl _
  ·exact Nat.le_refl _
  ·rw[tu.size];exact Nat.le_refl _
  ·exact tu.os
  ·exact tu.out
  ·intro B hB
   by_cases e:B=G.ι id
   ·subst e
    rw[hr,World.putObj_heap_same d3]
    exact ⟨_,rfl⟩
   ·rw[tu.same B e];exact bw.refl _
  ·exact fun B hB h1 _=>tu.same B (hne B h1)
  ·exact fun _ _ _=>Iff.rfl
  ·exact fun _ _ _ _=>rfl
  ·intro B hB h1 h2 e he
   refine ⟨fun j hj=>?_,fun e' he'=>by rw[he] at he';cases he';exact Nat.le_refl _⟩
   have:=tu.same B (hne B h2)
   unfold World.cell?
   simp only[this]
  ·exact fun B _ h=>(hO B).2 h
  ·exact fun B _ h=>h
  ·intro j o h
   by_cases e:j=id
   ·exact .inl ⟨_,by rw[e];exact ho⟩
   ·exact .inl ⟨o,by simpa [upd,e] using h⟩
  ·exact fun _=> .inl
 refine ⟨Tr,⟨fun j o hj=>?_,fun i j o o' h1 h2=>?_,fun t ht=>⟨(R.tok t ht).1,fun B e he=>by rw[tu.size];exact (R.tok t ht).2 B e he⟩,R.tinj⟩⟩
 ·by_cases e:j=id
  ·subst e
   have:o= .loop M t ps asg body st' pend':=by simpa [upd] using hj.symm
   subst this
   refine ⟨d1,d2,by rw[tu.size];exact d3,_,World.putObj_heap_same d3,d4.1,fun i=>ak.cJ tu _ _ (d4.2.1 i),d4.2.2.1,d4.2.2.2.1,d4.2.2.2.2.1,rfl,rfl⟩
  ·have hj':f j=some o:=by simpa [upd,e] using hj
   obtain ⟨a1,a2,a3,a4⟩:=R.obj j o hj'
   refine ⟨a1,a2,by rw[tu.size];exact a3,?_⟩
   have hb:G.ι j≠G.ι id:=fun e'=>e (R.inj j id o _ hj' ho e')
   rw[tu.same _ hb]
   exact a4.cJ tu
 ·have get:∀k p,upd f id (some (.loop M t ps asg body st' pend')) k=some p→∃p',f k=some p':=by
   intro k p hk
   by_cases e:k=id
   ·exact ⟨_,by rw[e];exact ho⟩
   ·exact ⟨p,by simpa [upd,e] using hk⟩
  obtain ⟨p,hp⟩:=get i o h1
  obtain ⟨p',hp'⟩:=get j o' h2
  exact R.inj i j p p' hp hp'
theorem yU {id M n m:Nat} {f:yS} {T:List Nat} {t:Tm} {ps:List Nat} {asg body:Code} {x y:AC} {args:List AV} {Q:AV→H→Prop} (ho:f id=some (.loop M t ps asg body .ready none)) (ha:cCode P M asg=some x) (hb:cCode P M body=some y) (hna:dO asg=true) (hnb:dO body=true)
  (hl:args.length=ps.length) (hps:∀p∈ps,p<M)
  (hw:Wp P M x ⟨iG t ps args,⟨f,n,T,m⟩⟩ fun e s=>e= .normal∧∃t1,s.h.objs id=some (.loop M t1 ps asg body .ready none)∧
   Wp P M y ⟨s.t,{s.h with objs:=upd s.h.objs id (some (.loop M t1 ps asg body .busy none))}⟩ fun e2 s2=>∃t2 b st pend,s2.h.objs id=some (.loop M t2 ps asg body .busy none)∧iH e2 b st pend∧
    Q (.bool b) {s2.h with objs:=upd s2.h.objs id (some (.loop M t2 ps asg body st pend))}):
  ∃r h',mQ P id args ⟨f,n,T,m⟩ r h'∧Q r h':=by
 obtain ⟨e,s,run,rfl,t1,ho1,hw2⟩:=hw asg ha
 obtain ⟨e2,s2,run2,t2,b,st,pend,ho2,hre,hq⟩:=hw2 body hb
 refine ⟨_,_,?_,hq⟩
 have nm1:=run.1
 have nm2:=run2.1
 simp only at nm1 nm2
 intro G w vs hdom hv R F
 obtain ⟨d1,d2,d3,r,e0,d4,d5,d6,d7,d8,d9,d10⟩:=R.obj id _ ho
 have hsz:vs.toArray.size=r.params.size:=by
  have h1:=hv.length
  have h2:r.params.toList.length=ps.length:=by rw[d6]
  simp at h2 ⊢
  omega
 refine ⟨r.fn,_,r.assign,r.body,run_yield e0 hsz,?_⟩
 refine roundIn_of_wpIn (F:=Fence.wide) trivial ?_
 have hzip:(r.params.zip vs.toArray).foldl (fun tmps (p:Tmp × Value)=>tmps.setIfInBounds p.1 p.2) r.tmps=(ps.zip vs).foldl (fun tm (p:Nat × Value)=>tm.setIfInBounds p.1 p.2) r.tmps:=by
  rw[←Array.foldl_toList,Array.toList_zip,d6]
 have hput:=qD (ps:=ps) (t:=t) (tmps:=r.tmps) hv (fun p hp=>by rw[d4];exact hps p hp) d5
 have F1:bH G ⟨f,n,T,m⟩ s.h:=F.sub (Nat.le_refl _) nm2.1 (Nat.le_refl _) nm2.2
 have rel0:Rel M ⟨iG t ps args,⟨f,n,T,m⟩⟩ G w {tmps:=(r.params.zip vs.toArray).foldl (fun tmps (p:Tmp × Value)=>tmps.setIfInBounds p.1 p.2) r.tmps,defers:=[]}:=by
  rw[hzip]
  exact ⟨hput.2.trans d4,hput.1,R,by simp,by simp⟩
 have w1:=run.2 (some (G.ι id)) (.inr hna) G w _ rel0 F1
 rw[d7,d8]
 refine wpIn_mono w1 ?_
 rintro e' a1 w1' ⟨h1,-,G1,T1,r1⟩
 cases e'<;>simp only[aA.dA] at h1
 have hι:G1.ι id=G.ι id:=T1.ι_eq id d1
 obtain ⟨k1,k2,k3,r',k4,k5,k6,k7,k8,k9,k10,k11⟩:=r1.h.obj id _ ho1
 rw[hι] at k3 k4
 have hbr:=run_beginRound (P:=P) k4 k10
 refine ⟨_,hbr,?_⟩
 have k4':w1'.heap[G1.ι id]? =some (.loop r'):=by rw[hι];exact k4
 obtain ⟨T2,R2⟩:=qE (n:=s.h.n) (m:=s.h.m) (T:=s.h.toks) (f:=s.h.objs) r1.h ho1 k4' .busy none
 rw[hι] at T2 R2
 have hrec:{r' with state:=LoopState.busy,pending:=(none:Option Code)}= {r' with state:= .busy}:=by rw[←k11]
 rw[hrec] at T2 R2
 have rel1:Rel M ⟨s.t,{s.h with objs:=upd s.h.objs id (some (.loop M t1 ps asg body .busy none))}⟩ G1 (w1'.putObj (G.ι id) (.loop {r' with state:= .busy})) a1:=
  ⟨r1.size,fun i=>ak.mono r1.h T2 _ _ (r1.t i),R2,r1.df.mono T2⟩
 have F2:bH G1 {s.h with objs:=upd s.h.objs id (some (.loop M t1 ps asg body .busy none))} s2.h:=by
  have:=(F.step (h':={s2.h with objs:=upd s2.h.objs id (some (.loop M t2 ps asg body st pend))}) T1)
  exact this
 refine wpIn_mono (run2.2 (some (G.ι id)) (.inr hnb) G1 _ a1 rel1 F2) ?_
 rintro e' a2 w2 ⟨q1,-,G2,T3,r2⟩
 have hι2:G2.ι id=G.ι id:=(T3.ι_eq id k1).trans hι
 obtain ⟨j1,j2,j3,r'',j4,j5,j6,j7,j8,j9,j10,j11⟩:=r2.h.obj id _ ho2
 have j4':w2.heap[G.ι id]? =some (.loop r''):=by rw[←hι2];exact j4
 obtain ⟨T4,R4⟩:=qE (n:=s2.h.n) (m:=s2.h.m) (T:=s2.h.toks) (f:=s2.h.objs) r2.h ho2 j4 st pend
 rw[hι2] at T4 R4
 have Tall:=((T1.trans R r1.h T2).trans R R2 T3).trans R r2.h T4
 cases hre
 all_goals
  cases e'<;>simp only[aA.dA] at q1
  try subst q1
  have hend:=fun j=>run_endRound (P:=P) j j4'
  refine ⟨_,_,hend _,_,G2,rfl,Tall,R4,?_⟩
  simp only[ak,Option.isNone_none,Option.isNone_some]
theorem qF {code:Code} {g:Opd} {ps:List Nat} {x y:AC} (h:cCode P N code=some (.p8 g ps x y)):∃z qs a b,code= .rangeFunc z qs a b∧opd P 0 z=some g∧qs.toList=ps∧cCode P N a=some x∧cCode P N b=some y∧dO a=true∧dO b=true:=by
 cases code with
 |rangeFunc z qs a b=>
  simp only[cCode] at h
  split at h
  ·rename_i g' x' y' h1 h2 h3
   split at h
   ·rename_i hcc
    cases h
    have hcc':dO a=true∧dO b=true:=by simpa using hcc
    exact ⟨_,_,_,_,rfl,h1,rfl,h2,h3,hcc'.1,hcc'.2⟩
   ·cases h
  ·cases h
 |_=>
  simp only[cCode] at h
  first|(simp at h;done)|(cases h;done)|((repeat' split at h)<;>cases h;done)
inductive kA:Option Code→aA→Prop where
 |none:kA none .normal
 |ret:kA (some .ret) .ret
 |exit (i:Nat):kA (some (.exit i)) (.exit i)
 |goto (l:Nat):kA (some (.goto l)) (.goto l)
theorem Wp.p8 {g:Opd} {ps:List Nat} {x y:AC} {t:Tm} {f:yS} {n m:Nat} {T:List Nat} {Q:aA→St→Prop} {fi:FuncId} {fn:Func} {first caps:List AV} (hg:ev t g= .clo (.func fi) first caps) (hf:P.funcs[fi]? =some fn) (hfb:fn.body.isSome=true) (hfn:fn.name≠ "runtime.NumGoroutine")
  (hfresh:f n=none)
  (hw:∀asg body,cCode P N asg=some x→cCode P N body=some y→dO asg=true→dO body=true→∃r f2 n2 T2 m2 t2 st pend e,
   aN P fi (first++[.yld n]++caps) ⟨upd f n (some (.loop N t ps asg body .ready none)),n+1,T,m⟩ r ⟨f2,n2,T2,m2⟩∧n+1≤n2∧m≤m2∧f2 n=some (.loop N t2 ps asg body st pend)∧st≠ .busy∧kA pend e∧
   Q e ⟨t,⟨fun j=>if j=n then none else f2 j,n2,T2,m2⟩⟩):Wp P N (.p8 g ps x y) ⟨t,⟨f,n,T,m⟩⟩ Q:=by
 intro code hc
 obtain ⟨z,qs,asg,body,rfl,c1,c2,c3,c4,c5,c6⟩:=qF hc
 obtain ⟨r,f2,n2,T2,m2,t2,st,pend,e,bI,hn2,hm2,ho2,hst,hle,hq⟩:=hw asg body c3 c4 c5 c6
 refine ⟨e,_,⟨⟨by simp only;omega,by simp only;omega⟩,fun ro okc G w a rel F=>?_⟩,hq⟩
 obtain rfl:ro=none:=by
  rcases okc with h|h
  ·exact h
  ·simp[dO] at h
 have hz:ak G w (.clo (.func fi) first caps) (a.eval z):=by rw[←hg];exact ao c1 rel.t
 simp only[ak] at hz
 obtain ⟨vs,us,hz,hv1,hv2⟩:=hz
 refine wpIn_rangeFunc (F:=rd none) (n:=0) fun fid _=>?_
 let D:=w.heap.size
 let bZ:Loop:={state:= .ready,pending:=none,fn:=fid,tmps:=a.tmps,params:=qs,assign:=asg,body:=body,defers:=w.heap.size}
 let w1:=(w.alloc (.deferred (some []))).alloc (.loop bZ)
 have hD1:w1.heap[D]? =some (.deferred (some [])):=by
  show ((w.heap.push (.deferred (some []))).push (.loop bZ))[w.heap.size]? =_
  rw[Array.getElem?_push,if_neg (by simp),Array.getElem?_push,if_pos rfl]
 have hL1:w1.heap[D+1]? =some (.loop bZ):=by
  show ((w.heap.push (.deferred (some []))).push (.loop bZ))[w.heap.size+1]? =_
  rw[Array.getElem?_push,if_pos (by simp)]
 have hsz1:w1.heap.size=w.heap.size+2:=by show ((w.heap.push (.deferred (some []))).push (.loop bZ)).size=_;simp
 have hold:∀B,B<w.heap.size→w1.heap[B]? =w.heap[B]? :=by
  intro B hB
  show ((w.heap.push (.deferred (some []))).push (.loop bZ))[B]? =_
  rw[Array.getElem?_push,if_neg (by rw[Array.size_push];omega),Array.getElem?_push,if_neg (by omega)]
 have hndom:¬G.dom n:=F.1 n (Nat.le_refl _) (by simp only;omega)
 let G1:aB:={G with dom:=fun j=>G.dom j∨j=n,ι:=upd G.ι n (D+1),own:=fun B=>G.own B∨B=D+1}
 have hι1:∀j,G.dom j→G1.ι j=G.ι j:=fun j hj=>by
  simp only[G1,upd];rw[if_neg];rintro rfl;exact hndom hj
 have hιn:G1.ι n=D+1:=by simp[G1,upd]
 have hne:∀j o,f j=some o→j≠n:=fun j o h e=>by subst e;rw[hfresh] at h;cases h
 have hO:∀B,B<w.heap.size→H.O ⟨upd f n (some (.loop N t ps asg body .ready none)),n+1,T,m⟩ G1 B→H.O ⟨f,n,T,m⟩ G B:=by
  rintro B hB ⟨j,o,h1,h2⟩
  by_cases e':j=n
  ·subst e';rw[hιn] at h2;omega
  ·have h1':f j=some o:=by simpa [upd,e'] using h1
   exact ⟨j,o,h1',by rw[←hι1 j (rel.h.obj j o h1').1];exact h2⟩
 have Tr1:Trans G w ⟨f,n,T,m⟩ G1 w1 ⟨upd f n (some (.loop N t ps asg body .ready none)),n+1,T,m⟩:=by
  constructor
  ·exact fun _ x=> .inl x
  ·rintro j (h|rfl)
   ·exact .inl h
   ·exact .inr ⟨Nat.le_refl _,Nat.lt_succ_self _⟩
  ·exact hι1
  ·exact fun _ x=>x
  ·exact fun _=> .inl
  ·exact fun _ _=>rfl
  ·exact Nat.le_succ _
  ·exact Nat.le_refl _
  ·rw[hsz1];omega
  ·rfl
  ·rfl
  ·intro B hB;rw[hold B hB];exact bw.refl _
  ·exact fun B hB _ _=>hold B hB
  ·intro B hB _
   exact ⟨fun h=>h.resolve_right (by omega),.inl⟩
  ·exact fun _ _ _ _=>rfl
  ·intro B hB h1 h2 e' he'
   refine ⟨fun j hj=>?_,fun e'' he''=>?_⟩
   ·have:=hold B hB
    unfold World.cell?
    simp only[this]
   ·have he2:G.lim B=some e'':=he''
    rw[he'] at he2;cases he2;exact Nat.le_refl _
  ·exact hO
  ·exact fun _ _ h=>h
  ·intro j o h
   by_cases e':j=n
   ·subst e';exact .inr ⟨Nat.le_refl _,Nat.lt_succ_self _⟩
   ·exact .inl ⟨o,by simpa [upd,e'] using h⟩
  ·exact fun _=> .inl
 have R1:aM G1 ⟨upd f n (some (.loop N t ps asg body .ready none)),n+1,T,m⟩ w1:=by
  refine ⟨fun j o h=>?_,fun i j o o' h1 h2 h3=>?_,fun k hk=>⟨(rel.h.tok k hk).1,fun B e' he'=>?_⟩,rel.h.tinj⟩
  ·by_cases e':j=n
   ·subst e'
    have:o= .loop N t ps asg body .ready none:=by simpa [upd] using h.symm
    subst this
    refine ⟨.inr rfl,by rw[hιn];exact .inr rfl,by rw[hιn,hsz1];show w.heap.size+1<_;omega,bZ,by rw[hιn];exact hL1,rel.size,fun i=>ak.mono rel.h Tr1 _ _ (rel.t i),c2,rfl,rfl,rfl,rfl⟩
   ·have h':f j=some o:=by simpa [upd,e'] using h
    obtain ⟨a1,a2,a3,a4⟩:=rel.h.obj j o h'
    refine ⟨.inl a1,by rw[hι1 j a1];exact .inl a2,by rw[hι1 j a1,hsz1];omega,?_⟩
    rw[hι1 j a1,hold _ a3]
    exact a4.mono rel.h Tr1
  ·have low:∀k p,f k=some p→G1.ι k<w.heap.size:=fun k p hk=>by rw[hι1 k (rel.h.obj k p hk).1];exact (rel.h.obj k p hk).2.2.1
   by_cases e1:i=n
   ·by_cases e2:j=n
    ·rw[e1,e2]
    ·have:=low j o' (by simpa [upd,e2] using h2)
     rw[←h3,e1,hιn] at this
     omega
   ·have hi:f i=some o:=by simpa [upd,e1] using h1
    by_cases e2:j=n
    ·have:=low i o hi
     rw[h3,e2,hιn] at this
     omega
    ·have hj:f j=some o':=by simpa [upd,e2] using h2
     exact rel.h.inj i j o o' hi hj (by rw[←hι1 i (rel.h.obj i o hi).1,←hι1 j (rel.h.obj j o' hj).1];exact h3)
  ·obtain ⟨b1,b2,b3⟩:=(rel.h.tok k hk).2 B e' he'
   refine ⟨b1,?_,by rw[hsz1];omega⟩
   rintro (h|h)
   ·exact b2 h
   ·omega
 have F1:bH G1 ⟨upd f n (some (.loop N t ps asg body .ready none)),n+1,T,m⟩ ⟨f2,n2,T2,m2⟩:=F.step Tr1
 have hargs:an G1 w1 (first++[.yld n]++caps) (vs++[Value.func (.yield (D+1)) #[] #[]]++us):=by
  refine an.append (an.append (an.mono rel.h Tr1 _ _ hv1) ?_) (an.mono rel.h Tr1 _ _ hv2)
  simp only[an,ak]
  exact ⟨_,[],rfl,⟨.inr rfl,by rw[hιn]⟩,rfl⟩
 refine ⟨D+1,[{target:= .collected D,args:= #[]}],w1,{target:= .fn (.func fi) us.toArray,args:=vs.toArray++ #[Value.func (.yield (D+1)) #[] #[]]},w1,fi,(vs++[Value.func (.yield (D+1)) #[] #[]]++us).toArray,w1,?_,?_,fun _ _=>trivial,?_,fun h=>by simp[rd,Fence.wide] at h,jg ?_⟩
 ·exact run_enterLoop_outer fid a.tmps qs asg body
 ·have he:∀v,a.eval (.const v)=v:=fun _=>rfl
  simp[resolve,rangeCall,hz,Deferred.ofValue,he]
 ·simp[invoke,cZ w1 hf hfb hfn]
 ·refine (bI G1 w1 _ hargs R1 F1).mono ?_
  rintro e' w3 ⟨v,G3,rfl,T3,R3,V3⟩
  obtain ⟨b1,b2,b3,⟨st3,pend3,fn3,tmps3,params3,asg3,body3,df3⟩,b4,b5,b6,b7,b8,b9,b10,b11⟩:=R3.obj n _ ho2
  simp only at b10 b11
  subst b11
  have hι3:G3.ι n=D+1:=(T3.ι_eq n (.inr rfl)).trans hιn
  rw[hι3] at b3 b4
  have hDO1:¬H.O ⟨upd f n (some (.loop N t ps asg body .ready none)),n+1,T,m⟩ G1 D:=by
   rintro ⟨j,o,h1,h2⟩
   by_cases e':j=n
   ·subst e';rw[hιn] at h2;omega
   ·have h1':f j=some o:=by simpa [upd,e'] using h1
    have:=(rel.h.obj j o h1').2.2.1
    rw[hι1 j (rel.h.obj j o h1').1] at h2
    omega
  have hDT1:¬H.T ⟨upd f n (some (.loop N t ps asg body .ready none)),n+1,T,m⟩ G1 D:=by
   rintro ⟨k,hk,e',he'⟩
   have:=((rel.h.tok k hk).2 D e' he').2.2
   omega
  have hDlt:D<w1.heap.size:=by rw[hsz1];show w.heap.size<_;omega
  have hD3:w3.heap[D]? =some (.deferred (some [])):=(T3.keep D hDlt hDO1 hDT1).trans hD1
  have hDO3:¬H.O ⟨f2,n2,T2,m2⟩ G3 D:=fun h=>hDO1 (T3.O_new D hDlt h)
  have hDT3:¬H.T ⟨f2,n2,T2,m2⟩ G3 D:=fun h=>hDT1 (T3.T_new D hDlt h)
  refine ⟨pend3,_,run_endLoop b4 (by simp only;rw[b10];exact hst),?_⟩
  let w4:=w3.putObj (D+1) (.loop ⟨.exhausted,pend3,fn3,tmps3,params3,asg3,body3,df3⟩)
  have tu:cW (D+1) w3 w4:=⟨by simp[w4],fun B hB=>World.putObj_heap_other hB,fun c T fr e=>absurd (b4.symm.trans e) (by simp),rfl,rfl⟩
  have hle3:HLe ⟨f2,n2,T2,m2⟩ ⟨fun j=>if j=n then none else f2 j,n2,T2,m2⟩:=by
   refine ⟨fun j o' hj=>?_,fun t h=>h⟩
   simp only at hj
   split at hj
   ·cases hj
   ·exact ⟨o',hj,cK.refl _⟩
  have T03:Trans G w ⟨f,n,T,m⟩ G3 w3 ⟨fun j=>if j=n then none else f2 j,n2,T2,m2⟩:=(Tr1.trans rel.h R1 T3).trans rel.h R3 (Trans.le hle3 (Nat.le_refl _) (Nat.le_refl _))
  have R03:=R3.le hle3
  have hLO:¬H.O ⟨fun j=>if j=n then none else f2 j,n2,T2,m2⟩ G3 (D+1):=by
   rintro ⟨j,o,h1,h2⟩
   simp only at h1
   split at h1
   ·cases h1
   ·rename_i hjn
    exact hjn (R3.inj j n o _ h1 ho2 (by rw[h2,hι3]))
  have T04:=T03.cJ tu (by show w.heap.size≤w.heap.size+1;omega)
  have R04:=R03.cJ tu hLO
  have hD4:w4.heap[D]? =some (.deferred (some [])):=by rw[tu.same D (by omega)];exact hD3
  have relEnd:Rel N ⟨t,⟨fun j=>if j=n then none else f2 j,n2,T2,m2⟩⟩ G3 w4 {a with defers:=[({target:= .collected D,args:= #[]}:Deferred)]++a.defers}:=by
   refine ⟨rel.size,fun i=>ak.cJ tu _ _ (ak.mono rel.h T03 _ _ (rel.t i)),R04,?_,?_⟩
   ·show ([({target:= .collected D,args:= #[]}:Deferred)]++a.defers).Nodup
    rw[List.singleton_append,List.nodup_cons]
    refine ⟨fun hm=>?_,rel.df.1⟩
    obtain ⟨D',e',h1,-⟩:=rel.df.2 _ hm
    simp only[Deferred.mk.injEq,Target.collected.injEq,and_true] at e'
    have:=rI h1
    rw[←e'] at this
    exact absurd this (Nat.lt_irrefl _)
   ·intro d hd
    rcases List.mem_append.1 hd with hd|hd
    ·rw[List.mem_singleton.1 hd]
     exact ⟨D,rfl,hD4,fun ⟨j,o,h1,h2⟩=>by
      simp only at h1
      split at h1
      ·cases h1
      ·exact hDO3 ⟨j,o,h1,h2⟩,hDT3⟩
    ·exact (rel.df.mono T04).2 d hd
  have hnew:jJ w a.defers ([({target:= .collected D,args:= #[]}:Deferred)]++a.defers):=by
   intro d hd
   rcases List.mem_append.1 hd with hd|hd
   ·rw[List.mem_singleton.1 hd];exact .inr ⟨D,Nat.le_refl _,rfl⟩
   ·exact .inl hd
  cases hle with
  |none=>exact ⟨trivial,hnew,G3,T04,relEnd⟩
  |ret=>exact wpIn_ret ⟨trivial,hnew,G3,T04,relEnd⟩
  |exit i=>exact wpIn_exit ⟨rfl,hnew,G3,T04,relEnd⟩
  |goto l=>exact wpIn_goto ⟨rfl,hnew,G3,T04,relEnd⟩
end
end Go.Av
end
section
namespace Go.Av
section
variable {P:Program} {N:Nat} {o:Oper} {t:Tm} {h:H} {en:Ent} {G:aB} {w:World}
theorem Be {w':World} {cs:List AV} {vs rest:List Value} {T:TypeId} {n m sz len C:Nat} (hp:cz w w' (.cells (vs++rest).toArray T (0,0))) (hr:an G w cs vs) (h1:∀v∈vs,One v) (hf:¬G.dom n) (hC:len≤C∧C≤9223372036854775807) (hroom:C*sz≤vs.length+rest.length):
  ∃G',Trans G w (.only ah [] n m) G' w' (.only (upd ah n (some (.cells cs))) [] (n+1) m)∧aM G' (.only (upd ah n (some (.cells cs))) [] (n+1) m) w'∧ak G' w' (.tsl sz n 0 len (some C)) (.slice (some ⟨w.heap.size,0,none⟩) len C):=by
 obtain ⟨G',T1,R1,V⟩:=oN (n:=n) (m:=m) hp hr h1 hf
 refine ⟨G',T1,R1,?_⟩
 simp only[ak] at V
 obtain ⟨hd,hv⟩:=V
 simp only[Value.pointer.injEq,Option.some.injEq,Addr.mk.injEq,and_true] at hv
 unfold ak
 refine ⟨hd,.inl ⟨C,(vs++rest).toArray,T,(0,0),by rw[hv],hC,(fun _ h=>by cases h;rfl),?_,by simpa using hroom⟩⟩
 rw[←hv];exact hp.new
theorem rT {ty e:TypeId} {len:Nat} {parts:Array (Nat × Operand)} {ys:List Opd} {z:Value} (hop:o.op= .buildSlice ty len parts) (hu:P.underlying ty=some (.slice e)) (hi:(P.info? e).isSome=true) (hn:parts.size=len) (hpos:0<P.cellsOf e)
  (hz:(P.info? e).bind (·.zero)=some z) (hzs:z.cells.size=P.cellsOf e)
  (hys:fO P e 0 parts.toList=some ys) (hs:∀y∈ys,(cellsOf (ev t y)).length=P.cellsOf e∧shaped (ev t y)=true) (hle:ys.length*P.cellsOf e≤16777216):
  Loc P o t h (.tsl (P.cellsOf e) h.n 0 ys.length (some ys.length)) {h with objs:=upd h.objs h.n (some (.cells ((ys.map (ev t)).flatMap cellsOf))),n:=h.n+1} ⟨[],[h.n],[]⟩:=by
 refine ⟨_,_,fm h _,fun G w a ht R F=>?_⟩
 obtain ⟨r1,r2,r3⟩:=gJ ht hys
 simp only[Array.length_toList,hn] at r2 r3
 have hsz:∀v∈parts.toList.map (fun p=>a.eval p.2),v.cells.size=P.cellsOf e∧∀u∈v.cells.toList,One u:=by
  intro v hv
  obtain ⟨k,hk⟩:=List.getElem?_of_mem hv
  have hlt:k<(parts.toList.map (fun p=>a.eval p.2)).length:=by
   rcases Nat.lt_or_ge k (parts.toList.map (fun p=>a.eval p.2)).length with h|h
   ·exact h
   ·rw[List.getElem?_eq_none h] at hk;cases hk
  have hlt':k<ys.length:=by simp at hlt;omega
  obtain ⟨u,hu1,hu2⟩:=r1.get (i:=k) (x:=ev t ys[k]) (by simp[List.getElem?_eq_getElem hlt'])
  have e:u=v:=Option.some.inj (hu1.symm.trans hk)
  subst e
  obtain ⟨s1,s2⟩:=hs ys[k] (List.getElem_mem hlt')
  obtain ⟨c1,c2⟩:=cY hu2 s2
  have:=c1.length
  exact ⟨by simpa [s1] using this,cells_one c1 c2⟩
 generalize hV:parts.toList.map (fun p=>a.eval p.2)=vals at*
 have hvl:vals.length=len:=by rw[←hV];simp[hn]
 have he:=du r1 fun v hv=>(hsz v hv).1
 have hfl:(vals.flatMap (·.cells.toList)).length=len*P.cellsOf e:=by
  have:=he.length;rw[this];simp[r3]
 have hfill:∀cells:Array Value,cells.size=len*P.cellsOf e→Instr.fill (fun i=>some (i*P.cellsOf e,P.cellsOf e)) cells ((parts.map fun (i,x)=>(i,a.eval x)).toList)=some (vals.flatMap (·.cells.toList)).toArray:=by
  intro cells hc
  have hz:(parts.map fun (i,x)=>(i,a.eval x)).toList=(List.range' 0 vals.length).zip vals:=by
   have:∀l:List (Nat × Operand),l.map (fun (i,x)=>(i,a.eval x))=(l.map (·.1)).zip (l.map fun p=>a.eval p.2):=by
    intro l;induction l with
    |nil=>rfl
    |cons p l ih=>simp[ih]
   rw[Array.toList_map,this,r2,hV,hvl]
  rw[hz]
  have:=jb (sz:=P.cellsOf e) (cells:=cells) vals 0 [] cells (by simp) (by simp) (by rw[hc,hvl];simp) (fun v hv=>(hsz v hv).1)
  simpa using this
 have hle':¬(len*P.cellsOf e>16777216):=by rw[←r3];omega
 obtain ⟨G',T1,R1,V⟩:=Be (m:=h.m) (sz:=P.cellsOf e) (len:=len) (C:=len) (rest:=[]) (vs:=vals.flatMap fun v:Value=>v.cells.toList) (cX w (.cells ((vals.flatMap fun v:Value=>v.cells.toList)++[]).toArray e (0,0))) (eu he (by
  rw[List.all_map]
  exact List.all_eq_true.2 fun y hy=>(hs y hy).2)) (by
  intro u hu
  obtain ⟨v,hv,hu'⟩:=List.mem_flatMap.1 hu
  exact (hsz v hv).2 u hu') (ja F (by simp[H.only])) ⟨Nat.le_refl _,by
  have:=Nat.le_mul_of_pos_right len hpos
  omega⟩ (by rw[hfl];simp)
 rw[List.append_nil] at T1 R1 V
 refine ⟨.value (.slice (some ⟨w.heap.size,0,none⟩) len len),_,_,G',?_,.inl rfl,T1,R1,by rw[r3];exact V⟩
 obtain ⟨i,hi1,hi2⟩:=Option.bind_eq_some_iff.1 hz
 have hle2:¬(16777216<len*P.cellsOf e):=by omega
 have hmap:∀(zc:Array Value),((Array.range (len*P.cellsOf e)).map (zc[· %zc.size]!)).size=len*P.cellsOf e:=by intro zc;simp
 have hrz:(zeroValue e).run P w= .ok z w:=by simp[zeroValue,typeInfo,hi1,hi2]
 simp only[execOp,hop,Sem.run_bind,Instr.buildSlice,run_underlying hu,Result.andThen_ok,bT P w e hi,if_neg hle2,Sem.run_pure,Sem.run_ite,hrz,hfill _ (hmap _)]
 by_cases h0:len*P.cellsOf e=0
 ·rw[if_pos h0];simp[newRow]
 ·rw[if_neg h0];simp[newRow]
theorem yV {w:World} {B:Nat} {c:Array Value} {T:TypeId} {fr:Nat × Nat} (h:w.heap[B]? =some (.cells c T fr)) (hfr:fr.1=fr.2) (k:Nat):
  (w.freeze ⟨B,k,none⟩ 1).heap[B]? =some (.cells c T (k,k+1))∧(∀b,b≠B→(w.freeze ⟨B,k,none⟩ 1).heap[b]? =w.heap[b]?)∧(w.freeze ⟨B,k,none⟩ 1).heap.size=w.heap.size∧(w.freeze ⟨B,k,none⟩ 1).os=w.os∧(w.freeze ⟨B,k,none⟩ 1).output=w.output:=by
 obtain ⟨lo,hi⟩:=fr
 simp only at hfr
 subst hfr
 have hB:B<w.heap.size:=(Array.getElem?_eq_some_iff.1 h).1
 refine ⟨?_,fun b hb=>?_,?_,rfl,rfl⟩
 ·simp[World.freeze,Array.getElem?_modify,h]
 ·simp[World.freeze,Array.getElem?_modify,Ne.symm hb]
 ·simp[World.freeze]
theorem DQ {ty e:TypeId} {z:Operand} {y:Opd} {id k:Nat} {cs:List AV} (hop:o.op= .convert ty ty z) (hu:P.underlying ty=some (.slice e)) (he:P.underlying e=some (.int .u8)) (hy:opd P ty z=some y)
  (hx:ev t y= .tsl 1 id 0 cs.length (some k)) (ho:h.objs id=some (.cells cs)) (hl:0<cs.length):Loc P o t h (.sl 1 cs (.exact k)) {h with objs:=fun j=>if j=id then none else h.objs j} ⟨[],[id],[]⟩:=by
 refine ⟨_,_,u0 h ho,fun G w a ht R F=>?_⟩
 have r:=ao hy ht
 rw[hx] at r
 simp only[ak] at r
 obtain ⟨hd,⟨C,c,T1,fr1,hv,⟨hC,-⟩,hk,hg1,hroom⟩|⟨h0,-⟩⟩:=r
 ·have hCk:=hk k rfl
  have hob:(H.only (upd ah id (some (.cells cs))) [] h.n h.m).objs id=some (.cells cs):=by simp[H.only,upd]
  obtain ⟨q1,q2,q3,vs,rest,T,fr,y1,y2,y3,y4⟩:=R.obj id _ hob
  have hlen:=an.length y2
  obtain ⟨f1,f2,f3,f4,f5⟩:=yV y1 y3 (vs++rest).toArray.size
  generalize hB:G.ι id=B at*
  generalize hw':w.freeze ⟨B,(vs++rest).toArray.size,none⟩ 1=w' at*
  let G':aB:={G with own:=fun b=>G.own b∧b≠B,lim:=fun b=>if b=B then none else G.lim b}
  have hO:(H.only (upd ah id (some (.cells cs))) [] h.n h.m).O G B:=⟨id,_,hob,hB⟩
  have hne:∀b,¬(H.only (upd ah id (some (.cells cs))) [] h.n h.m).O G b→b≠B:=fun b h1 e=>h1 (e▸hO)
  have T1':Trans G w (.only (upd ah id (some (.cells cs))) [] h.n h.m) G' w' (H0 h.n h.m):=by
   constructor
   ·exact fun _ x=>x
   ·exact fun _=> .inl
   ·exact fun _ _=>rfl
   ·exact fun _ x=>x
   ·exact fun _=> .inl
   ·exact fun _ _=>rfl
   ·exact Nat.le_refl _
   ·exact Nat.le_refl _
   ·rw[f3];exact Nat.le_refl _
   ·exact f4
   ·exact f5
   ·intro b hb
    by_cases e:b=B
    ·subst e
     rw[y1,f1]
     exact ⟨_,_,rfl,rfl,fun j hj h1=>by simp only at h1;omega⟩
    ·rw[f2 b e];exact bw.refl _
   ·exact fun b hb h1 _=>f2 b (hne b h1)
   ·exact fun b hb h1=>⟨fun x=>x.1,fun x=>⟨x,hne b h1⟩⟩
   ·intro b hb h1 _
    show (if b=B then none else G.lim b)=_
    rw[if_neg (hne b h1)]
   ·exact fun b hb x=>absurd x (kv b)
   ·exact fun b _ x=>absurd x (eW b)
   ·exact fun b _ x=>absurd x (kv b)
   ·exact fun j o x=>by simp[H0,H.only,ah] at x
   ·exact fun t x=>by simp[H0,H.only] at x
  have hvs:=an.mono R T1' _ _ y2
  have hel:=du (sz:=1) hvs (fun v hv=>by rw[ku (y4 v hv)];rfl)
  have hfl:vs.flatMap (·.cells.toList)=vs:=by
   have:∀l:List Value,(∀v∈l,One v)→l.flatMap (·.cells.toList)=l:=by
    intro l
    induction l with
    |nil=>intro _;rfl
    |cons x l ih=>intro hl;rw[List.flatMap_cons,ku (hl x (by simp)),ih (fun v hv=>hl v (by simp[hv]))];rfl
   exact this _ y4
  rw[hfl] at hel
  refine ⟨.value (a.eval z),_,w',G',?_,.inl rfl,T1',gd,?_⟩
  ·rw[hv]
   have hbeq:(ty == ty)=true:=by simp
   have hsh:w.shape? B=some (T,(vs++rest).toArray.size):=by simp[World.shape?,y1]
   simp only[execOp,hop,hv,convert,Sem.run_bind,run_underlying hu,Result.andThen_ok,hbeq,run_underlying he,markStringish,run_shape,hsh,run_freeze,hw',Sem.run_pure]
  ·rw[hv]
   unfold ak
   refine .inr ⟨B,0,C,vs,rfl,hC,by omega,hel,fun i v hi=>?_,hCk⟩
   have hi':=(List.getElem?_eq_some_iff.1 hi).1
   refine ⟨?_,y4 v (List.mem_of_getElem? hi),fun x=>x.2 rfl,fun e he'=>by simp[G'] at he'⟩
   unfold World.cell?
   simp only[f1]
   simp[List.getElem?_append_left hi',hi]
 ·omega
def kN (ρ:Opd→AV) (h:H):AOp→Option (AV × H × Ent)
 | .buildSl sz parts=>if parts.all (fun x=>(cellsOf (ρ x)).length=sz∧shaped (ρ x))=true∧parts.length*sz≤16777216 then
   some (.tsl sz h.n 0 parts.length (some parts.length),{h with objs:=upd h.objs h.n (some (.cells ((parts.map ρ).flatMap cellsOf))),n:=h.n+1},⟨[],[h.n],[]⟩) else none
 | .conv .s2s x=>match ρ x with
  | .tsl 1 id 0 len (some k)=>match h.objs id with
   |some (.cells cs)=>if len=cs.length∧0<cs.length then some (.sl 1 cs (.exact k),{h with objs:=fun j=>if j=id then none else h.objs j},⟨[],[id],[]⟩) else none
   |_=>none
  |_=>none
 |_=>none
theorem DR {y:Opd} (h:cOp P o=some (.conv .s2s y)):∃ty e z,o.op= .convert ty ty z∧P.underlying ty=some (.slice e)∧P.underlying e=some (.int .u8)∧opd P ty z=some y:=by
 unfold cOp at h
 split at h
 case h_12 src dst z hop=>
  split at h
  ·cases h
  ·split at h<;>cases h
  ·split at h<;>cases h
  ·cases h
  ·split at h
   ·rename_i hq
    cases h
    obtain ⟨rfl,hq,-⟩:=hq
    exact ⟨_,_,z,hop,‹_›,l8 hq,‹_›⟩
   ·cases h
  ·cases h
 all_goals first
  |(cases h;done)
  |(simp at h;done)
  |((repeat' split at h)<;>(try cases h)<;>(try simp at h);done)
  |skip
theorem Bf {op:AOp} {x:AV} {h':H} (hc:cOp P o=some op) (hx:kN (ev t) h op=some (x,h',en)):Loc P o t h x h' en:=by
 cases op<;>(try (simp [kN] at hx;done))
 case buildSl sz parts=>
  obtain ⟨ty,e,len,ps,z,hop,hu,hi,hn,hpos,hz,hzs,hys,rfl⟩:=nN hc
  simp only[kN] at hx
  split at hx
  ·rename_i hq
   cases hx
   exact rT hop hu hi hn hpos hz hzs hys (fun y hy=>by simpa using List.all_eq_true.1 hq.1 y hy) hq.2
  ·cases hx
 case conv k x0=>
  cases k<;>(try (simp [kN] at hx;done))
  obtain ⟨ty,e,z,hop,hu,he,hy⟩:=DR hc
  simp only[kN] at hx
  split at hx
  ·rename_i e1
   split at hx
   ·rename_i e2
    split at hx
    ·rename_i hq
     obtain ⟨rfl,hq⟩:=hq
     cases hx
     exact DQ hop hu he hy e1 e2 hq
    ·cases hx
   ·cases hx
  ·cases hx
theorem u5 {ρ ρ':Opd→AV} {op:AOp} (hx:∀y∈bf op,ρ y=ρ' y):kN ρ h op=kN ρ' h op:=by
 cases op<;>(try rfl)
 case buildSl sz parts=>
  have e1:parts.map ρ=parts.map ρ':=List.map_congr_left fun y hy=>hx y (by simpa [bf] using hy)
  have e2:parts.all (fun x=>(cellsOf (ρ x)).length=sz∧shaped (ρ x))=parts.all (fun x=>(cellsOf (ρ' x)).length=sz∧shaped (ρ' x)):=by
   refine Bool.eq_iff_iff.2 ?_
   simp only[List.all_eq_true]
   exact ⟨fun h y hy=>by rw[←hx y (by simpa [bf] using hy)];exact h y hy,fun h y hy=>by rw[hx y (by simpa [bf] using hy)];exact h y hy⟩
  simp only[kN,e1,e2]
 case conv k x0=>
  cases k<;>(try rfl)
  simp only[kN,hx x0 (by simp[bf])]
theorem yW {ops:Array Oper} {i:Nat} {o:Oper} {it:aw} {t:Tm} {h h':H} {x:AV} {en:Ent} (ho:ops[i]? =some o) (hit:bm P N ops o=some it) (hg:guardOf t it.guard=some true) (hx:kN (ev t) h it.op=some (x,h',en)):
  ∃h1 h1',Touch h h1 h1' h' en∧fC P ops i o t h1 x h1':=by
 unfold bm at hit
 split at hit
 ·rename_i op g hop hgd
  split at hit<;>cases hit
  rename_i hcond
  simp only[Bool.and_eq_true] at hcond
  have hop:=fA hop (by rintro rfl;simp[kN] at hx) (by cases op<;>first|rfl|(simp [kN] at hx))
  have hx':kN (ev (gM (names ops o) t)) h op=some (x,h',en):=by
   rw[u5 (gZ hcond.2)];exact hx
  obtain ⟨h1,h1',tc,loc⟩:=Bf hop hx'
  refine ⟨h1,h1',tc,fun G w a ht R F K Q hK ro=>?_⟩
  obtain ⟨nx,v,w',G',e1,e2,T1,R1,V⟩:=loc G w a (eA ht) R F
  unfold wpOpIn
  rw[ho]
  simp only[bN hgd ht hg,if_true]
  refine ⟨fun _ _=>trivial,?_⟩
  rw[Oper.semAt_eq _ _ _ (dv hop),e1]
  rcases e2 with rfl|⟨rfl,rfl⟩
  ·rw[Oper.uponIn_value];exact hK G' w' v T1 R1 V
  ·rw[Oper.uponIn_skip];exact hK G' w' undef T1 R1 V
 ·cases hit
theorem ae.opV {dst:Option Nat} {g:Option (Nat × Bool)} {op:AOp} {its:List aw} {t:Tm} {h h':H} {log:List Ent} {en:Ent} {K:Tm→H→List Ent→Prop} {x:AV} (hg:guardOf t g=some true) (hx:kN (ev t) h op=some (x,h',en)) (ht:bg op=true)
  (rest:ae P N its (bD t dst x) h' (en::log) K):ae P N (⟨dst,g,op⟩::its) t h log K:=by
 intro ops i hi hc
 obtain ⟨o,ho,hit,hi',hc'⟩:=bG hi hc
 obtain ⟨h1,h1',tc,run⟩:=yW ho hit hg hx
 obtain ⟨recs,t',hh',ch,hk,hen⟩:=rest ops (i+1) hi' hc'
 have hdst:dst=o.dst:=by
  unfold bm at hit
  split at hit
  ·split at hit<;>cases hit;rfl
  ·cases hit
 refine ⟨⟨t,h,h1,h1',h',x,en⟩::recs,t',hh',.cons ho rfl rfl tc (fun _=>run) (by rw[←hdst];exact ch),by simpa using hk,?_⟩
 intro k r it' hr hit' ht'
 cases k with
 |zero=>
  simp at hr hit';subst hr hit'
  rw[ht] at ht';cases ht'
 |succ k=>simp at hr hit';exact hen k r it' hr hit' ht'
end
end Go.Av
end
section
namespace Go.Av
section
variable {P:Program} {N:Nat} {o:Oper} {t:Tm} {h:H} {en:Ent} {G:aB} {w:World}
theorem qG {id n m:Nat} {c:Obj} {j:Nat} {o:Obj} (ho:(H.only (upd ah id (some c)) [] n m).objs j=some o):j=id∧o=c:=by
 simp only[H.only,upd,ah] at ho
 split at ho
 ·cases ho;exact ⟨‹_›,rfl⟩
 ·cases ho
theorem o8 {id n m:Nat} {cs xs:List AV} {us:List Value} (R:aM G (.only (upd ah id (some (.cells cs))) [] n m) w) (hn:¬G.dom n) (hr:an G w xs us) (h1:∀v∈us,One v)
  {c:Array Value} {T0:TypeId} {fr0:Nat × Nat} (hc0:w.heap[G.ι id]? =some (.cells c T0 fr0)) (hl:cs.length+xs.length≤c.size):
  ∃w' G',(storeCells ⟨G.ι id,cs.length,none⟩ us 0).run P w= .ok () w'∧Trans G w (.only (upd ah id (some (.cells cs))) [] n m) G' w' (.only (upd ah n (some (.cells (cs++xs)))) [] (n+1) m)∧aM G' (.only (upd ah n (some (.cells (cs++xs)))) [] (n+1) m) w'∧
   G'.dom n∧G'.ι n=G.ι id∧∃c' T' fr',w'.heap[G.ι id]? =some (.cells c' T' fr')∧c'.size=c.size:=by
 have hme:(H.only (upd ah id (some (.cells cs))) [] n m).objs id=some (.cells cs):=by simp[H.only,upd]
 obtain ⟨d1,d2,d3,-⟩:=R.obj id _ hme
 obtain ⟨vs,rest,T,fr,hg,hvs,hfr,hone⟩:=iA R hme
 have hlen:=hvs.length
 have hul:=hr.length
 have hcs:c.size=vs.length+rest.length:=by
  rw[hg] at hc0
  cases hc0
  simp
 have hc:∀j,w.cell? ⟨G.ι id,j,none⟩=(vs++rest)[j]? :=by
  intro j;unfold World.cell?;simp only[hg];simp
 have hcell:∀j,j<us.length→(w.cell? ⟨G.ι id,cs.length+0+j,none⟩).isSome=true:=fun j hj=>by rw[hc];simp;omega
 have hfrz:∀j,j<us.length→w.frozen? ⟨G.ι id,cs.length+0+j,none⟩=false:=fun j hj=>by
  unfold World.frozen?;simp only[hg]
  have:¬(fr.1≤cs.length+0+j∧cs.length+0+j<fr.2):=fun h=>by omega
  simpa using this
 have honec:∀v∈us,v.oneCell'=true:=fun v hv=>by
  obtain ⟨k1,k2⟩:=h1 v hv
  cases v with
  |agg a=>exact absurd rfl (k1 a)
  |tuple a=>exact absurd rfl (k2 a)
  |_=>rfl
 have hrun:=run_storeCells_cells (P:=P) (G.ι id) cs.length us 0 w hcell hfrz honec
 rw[Nat.add_zero] at hrun
 obtain ⟨a1,a2,a3,a4,a5⟩:=fz (G.ι id) T fr us cs.length (vs++rest) w hg (by simp;omega)
 have ecur:(vs++rest).take cs.length++us++(vs++rest).drop (cs.length+us.length)=(vs++us)++rest.drop us.length:=by
  rw[List.take_append_of_le_length (by omega),List.take_of_length_le (by omega),List.drop_append,List.drop_of_length_le (by omega),hlen,List.nil_append]
  congr 2;omega
 rw[ecur] at a1
 clear hcell hfrz honec
 generalize w.setCells (G.ι id) cs.length us=w1 at*
 let G':aB:={G with dom:=fun j=>G.dom j∨j=n,ι:=upd G.ι n (G.ι id)}
 have hιn:G'.ι n=G.ι id:=by simp[G',upd]
 have hι:∀j,G.dom j→G'.ι j=G.ι j:=fun j hj=>by
  simp only[G',upd];rw[if_neg];rintro rfl;exact hn hj
 refine ⟨w1,G',hrun,?_⟩
 have T1:Trans G w (.only (upd ah id (some (.cells cs))) [] n m) G' w1 (.only (upd ah n (some (.cells (cs++xs)))) [] (n+1) m):=by
  constructor
  ·exact fun _ x=> .inl x
  ·rintro j (x|rfl)
   ·exact .inl x
   ·exact .inr ⟨by simp[H.only],by simp[H.only]⟩
  ·exact hι
  ·exact fun _ x=>x
  ·exact fun _=> .inl
  ·exact fun _ _=>rfl
  ·simp[H.only]
  ·exact Nat.le_refl _
  ·rw[a3];exact Nat.le_refl _
  ·exact a4
  ·exact a5
  ·intro B hB
   by_cases hBi:B=G.ι id
   ·subst hBi
    rw[a1,hg]
    exact ⟨_,_,rfl,by simp;omega,fun _ _ h=>h⟩
   ·rw[a2 B hBi];exact bw.refl _
  ·intro B hB hO _
   exact a2 B fun e=>hO ⟨id,_,hme,e.symm⟩
  ·exact fun _ _ _=>Iff.rfl
  ·exact fun _ _ _ _=>rfl
  ·rintro B hB ⟨t,ht,_⟩;simp[H.only] at ht
  ·rintro B hB ⟨j,o,ho,e⟩
   obtain ⟨rfl,rfl⟩:=qG ho
   exact ⟨id,_,hme,by rw[←e,hιn]⟩
  ·rintro B hB ⟨t,ht,_⟩;simp[H.only] at ht
  ·intro j o ho
   obtain ⟨rfl,rfl⟩:=qG ho
   exact .inr ⟨by simp[H.only],by simp[H.only]⟩
  ·intro t ht;simp[H.only] at ht
 refine ⟨T1,⟨?_,?_,?_,?_⟩,.inr rfl,hιn,_,T,fr,a1,?_⟩
 ·intro j o ho
  obtain ⟨rfl,rfl⟩:=qG ho
  refine ⟨.inr rfl,by rw[hιn];exact d2,by rw[hιn,a3];exact d3,?_⟩
  rw[hιn,a1]
  refine ⟨_,_,T,fr,rfl,(an.mono R T1 _ _ hvs).append (an.mono R T1 _ _ hr),hfr,?_⟩
  intro v hv
  rcases List.mem_append.1 hv with hv|hv
  ·exact hone v hv
  ·exact h1 v hv
 ·intro j j' o o' ho ho' _
  rw[(qG ho).1,(qG ho').1]
 ·intro t ht;simp[H.only] at ht
 ·intro t ht;simp[H.only] at ht
 ·simp;omega
theorem Trans.Fs {id n m:Nat} {c:Obj} {G':aB} {w':World} {h':H} (T:Trans G w (.only ah [] n m) G' w' h'):Trans G w (.only (upd ah id (some c)) [] n m) G' w' h':=by
 constructor
 ·exact T.dom_le
 ·exact T.dom_new
 ·exact T.ι_eq
 ·exact T.tdom_le
 ·exact T.tdom_new
 ·exact T.τ_eq
 ·exact T.n_le
 ·exact T.m_le
 ·exact T.size_le
 ·exact T.os
 ·exact T.output
 ·exact T.form
 ·exact fun B hB _ _=>T.keep B hB (eW B) (kv B)
 ·exact fun B hB _=>T.own_keep B hB (eW B)
 ·exact fun B hB _ _=>T.lim_keep B hB (eW B) (kv B)
 ·exact fun B hB x=>absurd x (kv B)
 ·exact fun B hB x=>absurd (T.O_new B hB x) (eW B)
 ·exact fun B hB x=>absurd (T.T_new B hB x) (kv B)
 ·intro j o ho
  rcases T.objs_new j o ho with ⟨o',x⟩|x
  ·simp[H.only,ah] at x
  ·exact .inr x
 ·exact T.toks_new
theorem u6 (h:H) {id:Nat} {ob ob':Obj} (ho:h.objs id=some ob):Touch h (.only (upd ah id (some ob)) [] h.n h.m) (.only (upd ah h.n (some ob')) [] (h.n+1) h.m) {h with objs:=upd (fun j=>if j=id then none else h.objs j) h.n (some ob'),n:=h.n+1} ⟨[],[id,h.n],[]⟩ where
 sub:=⟨fun j o hj=>by obtain ⟨rfl,rfl⟩:=qG hj;exact ho,fun t ht=>by simp[H.only] at ht⟩
 n:=rfl
 m:=rfl
 eq:=by
  refine H.ext (fun j=>?_) rfl (by simp[H.patch,H.only];exact (List.filter_eq_self.2 fun _ _=>rfl).symm) rfl
  simp only[H.patch,H.only,upd,ah]
  by_cases e1:j=h.n
  ·subst e1;simp
  ·by_cases e2:j=id
   ·subst e2;simp[e1]
   ·have:¬(h.n≤j∧j<h.n+1):=by omega
    simp[e1,e2,this]
 rd j x:=by
  right
  simp only[H.only,upd,ah] at x
  split at x
  ·rename_i e;simp[e]
  ·simp at x
 wr j a b:=by simp only[H.only] at a b;simp;omega
 chg j x hx:=by
  simp only[H.only,upd,ah] at x
  split at x
  ·rename_i e;subst e;simp at hx
  ·simp at x
 tk t x:=by simp[H.only] at x
 tn t x:=by simp[H.only] at x
 le:=by simp[H.only]
 lem:=Nat.le_refl _
theorem Bg {c:Call} {zs zx:Operand} {ys yx:Opd} {T U e:TypeId} {d:TypeDesc} {i:TypeInfo} {id len:Nat} {cap:Option Nat} {cs els:List AV} (hop:o.op= .call c) (hc:c.callee= .builtin .append) (ha:c.args.toList=[zs,zx]) (hta:c.argTypes.toList=[T,U])
  (hT:P.underlying T=some (.slice e)) (hU:P.underlying U=some d) (hd:(∃e',d= .slice e')∨d= .string) (hi:P.info? e=some i) (hz:i.zero.any (fun z=>z.cells.size == i.size)=true) (hsz:0<i.size)
  (hys:opd P T zs=some ys) (hyx:opd P U zx=some yx) (hs:ev t ys= .tsl i.size id 0 len cap) (ho:h.objs id=some (.cells cs)) (hcl:cs.length=len*i.size) (hx:∃s' c',ev t yx= .sl s' els c'∧s'=i.size) (hsh:els.all shaped=true)
  (hb:(len+els.length)*i.bytes≤140737488355328) (hlen:len+els.length<4611686018427387904):
  Loc P o t h (.tsl i.size h.n 0 (len+els.length) none) {h with objs:=upd (fun j=>if j=id then none else h.objs j) h.n (some (.cells (cs++els.flatMap cellsOf))),n:=h.n+1} ⟨[],[id,h.n],[]⟩:=by
 have ha':c.args= #[zs,zx]:=by rw[←Array.toArray_toList (xs:=c.args),ha]
 have hta':c.argTypes= #[T,U]:=by rw[←Array.toArray_toList (xs:=c.argTypes),hta]
 obtain ⟨z,hz1,hz2⟩:∃z,i.zero=some z∧z.cells.size=i.size:=by
  cases hzz:i.zero with
  |none=>rw[hzz] at hz;simp at hz
  |some z=>rw[hzz] at hz;exact ⟨z,rfl,by simpa using hz⟩
 refine ⟨_,_,u6 h ho,fun G w a ht R F=>?_⟩
 have r1:=ao hys ht
 have r2:=ao hyx ht
 rw[hs] at r1
 obtain ⟨s',c',hx,hs'⟩:=hx
 rw[hx] at r2
 obtain ⟨news,n1,n2,n3⟩:=iB (P:=P) (.inl hs') r2
 have hnl:=n2.length
 have hnr:=eu n2 hsh
 have hnrl:=hnr.length
 have hdn:¬G.dom h.n:=F.1 h.n (by simp[H.only]) (by simp[H.only])
 have hme:(H.only (upd ah id (some (.cells cs))) [] h.n h.m).objs id=some (.cells cs):=by simp[H.only,upd]
 obtain ⟨d1,d2,d3,-⟩:=R.obj id _ hme
 obtain ⟨vs,rest,T0,fr,hg,hvs,hfr,hone⟩:=iA R hme
 have hvl:=hvs.length
 have hmul:(len+els.length)*i.size=len*i.size+els.length*i.size:=Nat.add_mul _ _ _
 have fin:∀v w' G',(execOp a.eval o).run P w= .ok (.value v) w'→Trans G w (.only (upd ah id (some (.cells cs))) [] h.n h.m) G' w' (.only (upd ah h.n (some (.cells (cs++els.flatMap cellsOf)))) [] (h.n+1) h.m)→aM G' (.only (upd ah h.n (some (.cells (cs++els.flatMap cellsOf)))) [] (h.n+1) h.m) w'→ak G' w' (.tsl i.size h.n 0 (len+els.length) none) v→
   ∃nx v w' G',(execOp a.eval o).run P w= .ok nx w'∧(nx= .value v∨nx= .skip∧v=undef)∧Trans G w (.only (upd ah id (some (.cells cs))) [] h.n h.m) G' w' (.only (upd ah h.n (some (.cells (cs++els.flatMap cellsOf)))) [] (h.n+1) h.m)∧aM G' (.only (upd ah h.n (some (.cells (cs++els.flatMap cellsOf)))) [] (h.n+1) h.m) w'∧ak G' w' (.tsl i.size h.n 0 (len+els.length) none) v:=
  fun v w' G' a b c d=>⟨_,v,w',G',a,.inl rfl,b,c,d⟩
 have hex:∀{va vx r:Value} {w':World},a.eval zs=va→(Builtin.append_ #[T,U] o.type #[va,a.eval zx]).run P w= .ok r w'→(execOp a.eval o).run P w= .ok (.value r) w':=by
  intro va vx r w' h1 h2
  simp[execOp,hop,resolve,hc,ha',hta',invoke,builtin,h1,h2]
 simp only[ak] at r1
 obtain ⟨-,⟨C,c1,T1,fr1,hv,⟨hC,hC2⟩,-,hg1,hroom⟩|⟨rfl,⟨a0,hv⟩,-⟩⟩:=r1
 ·have hc1:c1.size=vs.length+rest.length:=by rw[hg] at hg1;cases hg1;simp
  by_cases hfit:len+els.length≤C
  ·have hCs:(len+els.length)*i.size≤C*i.size:=Nat.mul_le_mul_right _ hfit
   obtain ⟨w',G',q1,q2,q3,q4,q5,c',T',fr',q6,q7⟩:=o8 (P:=P) R hdn hnr n3 hg1 (by omega)
   have hst:(storeCells ((⟨G.ι id,0,none⟩:Addr).add (len*i.size)) news).run P w= .ok () w':=by
    have e:(⟨G.ι id,0,none⟩:Addr).add (len*i.size)=⟨G.ι id,cs.length,none⟩:=by rw[add_plain,hcl,Nat.zero_add]
    rw[e];exact q1
   refine fin _ w' G' (hex (vx:= .nilIface) hv (run_append_fits (ty:=o.type) hT hU hd hi n1 hfit hst)) q2 q3 ?_
   unfold ak
   refine ⟨q4,.inl ⟨C,c',T',fr',by rw[q5],⟨hfit,hC2⟩,(fun _ h=>by cases h),by rw[q5];exact q6,by omega⟩⟩
  ·have hsrc:Src P w i.size (.slice (some ⟨G.ι id,0,none⟩) len C) len vs:=by
    refine ⟨by simp[Builtin.lenOf],fun w' hw=>?_⟩
    have:=run_loadCells_list (P:=P) w' ⟨G.ι id,0,none⟩ vs (fun j u hu=>by
     rw[add_plain,cell_of_heap hw]
     unfold World.cell?
     simp only[hg]
     have hj:=(List.getElem?_eq_some_iff.1 hu).1
     simp[List.getElem?_append_left hj,hu])
    simp only[Builtin.firstCells]
    rw[←hcl,←hvl];exact this
   obtain ⟨w',C',rest',e1,e2,e3,e4⟩:=dM (ty:=o.type) hT hU hd hi hz1 hz2 hsz n1 hsrc hfit hC hb hlen
   obtain ⟨G',T2,R2,V⟩:=oc (m:=h.m) (sz:=i.size) (cs:=cs++els.flatMap cellsOf) e2 (hvs.append hnr) (fun u hu=>by
    rcases List.mem_append.1 hu with h|h
    ·exact hone u h
    ·exact n3 u h) hdn e3 (by simp only[List.length_append];omega)
   exact fin _ w' G' (hex (vx:= .nilIface) hv e1) T2.Fs R2 V
 ·by_cases hk:els=[]
  ·subst hk
   have hnn:news=[]:=by simpa [aq] using n2
   subst hnn
   have hcs0:cs=[]:=by
    cases cs with
    |nil=>rfl
    |cons x l=>simp at hcl
   subst hcs0
   obtain ⟨w',G',q1,q2,q3,q4,q5,-⟩:=o8 (P:=P) (xs:=[]) (us:=[]) R hdn .nil (by simp) hg (by simp)
   have hw':w'=w:=by simpa [storeCells] using q1.symm
   subst hw'
   refine fin _ w' G' (hex (vx:= .nilIface) hv (run_append_fits (ty:=o.type) hT hU hd hi n1 (Nat.le_refl _) (w':=w') (by cases a0<;>rfl))) q2 q3 ?_
   unfold ak
   exact ⟨q4,.inr ⟨rfl,⟨a0,rfl⟩,fun _ h=>by cases h⟩⟩
  ·have hpos:0<els.length:=List.length_pos_iff.2 hk
   have hcs0:cs=[]:=by
    cases cs with
    |nil=>rfl
    |cons x l=>simp at hcl
   subst hcs0
   obtain ⟨w',C',rest',e1,e2,e3,e4⟩:=dM (ty:=o.type) hT hU hd hi hz1 hz2 hsz n1 (lU (some a0)) (by omega) (Nat.le_refl _) (by simpa using hb) (by simpa using hlen)
   rw[List.nil_append] at e2
   obtain ⟨G',T2,R2,V⟩:=oc (m:=h.m) (sz:=i.size) e2 hnr n3 hdn e3 (by omega)
   exact fin _ w' G' (hex (vx:= .nilIface) hv e1) T2.Fs R2 V
def kO (ρ:Opd→AV) (h:H):AOp→Option (AV × H × Ent)
 | .app false sz bytes s x=>match ρ s,ρ x with
  | .tsl z id 0 len _,.sl s' els _=>match h.objs id with
   |some (.cells cs)=>if z=sz∧s'=sz∧cs.length=len*sz∧els.all shaped=true∧(len+els.length)*bytes≤140737488355328∧len+els.length<4611686018427387904 then
     some (.tsl sz h.n 0 (len+els.length) none,{h with objs:=upd (fun j=>if j=id then none else h.objs j) h.n (some (.cells (cs++els.flatMap cellsOf))),n:=h.n+1},⟨[],[id,h.n],[]⟩) else none
   |_=>none
  |_,_=>none
 |_=>none
theorem Bh {op:AOp} {x:AV} {h':H} (hc:cOp P o=some op) (hx:kO (ev t) h op=some (x,h',en)):Loc P o t h x h' en:=by
 cases op<;>(try (simp [kO] at hx;done))
 case app str sz bytes s x0=>
  cases str<;>(try (simp [kO] at hx;done))
  obtain ⟨c,zs,zx,T,U,e,e',i,hop,hcal,ha,hta,hys,hyx,hT,hU,hi,hs1,hs2,rfl,rfl⟩:=wX hc
  simp only[kO] at hx
  split at hx
  ·split at hx
   ·split at hx
    ·rename_i hq
     obtain ⟨q1,q2,q3,q4,q5,q6⟩:=hq
     subst q1
     cases hx
     exact Bg hop hcal ha hta hT hU (.inl ⟨_,rfl⟩) hi hs2 hs1 hys hyx ‹_› ‹_› q3 ⟨_,_,‹_›,q2⟩ q4 q5 q6
    ·cases hx
   ·cases hx
  ·cases hx
theorem u7 {ρ ρ':Opd→AV} {op:AOp} (hx:∀y∈bf op,ρ y=ρ' y):kO ρ h op=kO ρ' h op:=by
 cases op<;>(try rfl)
 case app str sz bytes s x0=>
  cases str
  ·simp only[kO,hx s (by simp[bf]),hx x0 (by simp[bf])]
  ·rfl
theorem mR {ops:Array Oper} {i:Nat} {o:Oper} {it:aw} {t:Tm} {h h':H} {x:AV} {en:Ent} (ho:ops[i]? =some o) (hit:bm P N ops o=some it) (hg:guardOf t it.guard=some true) (hx:kO (ev t) h it.op=some (x,h',en)):
  ∃h1 h1',Touch h h1 h1' h' en∧fC P ops i o t h1 x h1':=by
 unfold bm at hit
 split at hit
 ·rename_i op g hop hgd
  split at hit<;>cases hit
  rename_i hcond
  simp only[Bool.and_eq_true] at hcond
  have hop:=fA hop (by rintro rfl;simp[kO] at hx) (by cases op<;>first|rfl|(simp [kO] at hx))
  have hx':kO (ev (gM (names ops o) t)) h op=some (x,h',en):=by
   rw[u7 (gZ hcond.2)];exact hx
  obtain ⟨h1,h1',tc,loc⟩:=Bh hop hx'
  refine ⟨h1,h1',tc,fun G w a ht R F K Q hK ro=>?_⟩
  obtain ⟨nx,v,w',G',e1,e2,T1,R1,V⟩:=loc G w a (eA ht) R F
  unfold wpOpIn
  rw[ho]
  simp only[bN hgd ht hg,if_true]
  refine ⟨fun _ _=>trivial,?_⟩
  rw[Oper.semAt_eq _ _ _ (dv hop),e1]
  rcases e2 with rfl|⟨rfl,rfl⟩
  ·rw[Oper.uponIn_value];exact hK G' w' v T1 R1 V
  ·rw[Oper.uponIn_skip];exact hK G' w' undef T1 R1 V
 ·cases hit
theorem ae.opK {dst:Option Nat} {g:Option (Nat × Bool)} {op:AOp} {its:List aw} {t:Tm} {h h':H} {log:List Ent} {en:Ent} {K:Tm→H→List Ent→Prop} {x:AV} (hg:guardOf t g=some true) (hx:kO (ev t) h op=some (x,h',en)) (ht:bg op=true)
  (rest:ae P N its (bD t dst x) h' (en::log) K):ae P N (⟨dst,g,op⟩::its) t h log K:=by
 intro ops i hi hc
 obtain ⟨o,ho,hit,hi',hc'⟩:=bG hi hc
 obtain ⟨h1,h1',tc,run⟩:=mR ho hit hg hx
 obtain ⟨recs,t',hh',ch,hk,hen⟩:=rest ops (i+1) hi' hc'
 have hdst:dst=o.dst:=by
  unfold bm at hit
  split at hit
  ·split at hit<;>cases hit;rfl
  ·cases hit
 refine ⟨⟨t,h,h1,h1',h',x,en⟩::recs,t',hh',.cons ho rfl rfl tc (fun _=>run) (by rw[←hdst];exact ch),by simpa using hk,?_⟩
 intro k r it' hr hit' ht'
 cases k with
 |zero=>
  simp at hr hit';subst hr hit'
  rw[ht] at ht';cases ht'
 |succ k=>simp at hr hit';exact hen k r it' hr hit' ht'
theorem bE.opK {dst:Option Nat} {g:Option (Nat × Bool)} {op:AOp} {its:List aw} {t:Tm} {h h':H} {en:Ent} {K:Tm→H→Prop} {x:AV} (hg:guardOf t g=some true) (hx:kO (ev t) h op=some (x,h',en))
  (rest:bE P N its (bD t dst x) h' K):bE P N (⟨dst,g,op⟩::its) t h K:=
 bE.step (it:=⟨dst,g,op⟩) (fun ops i o ho hit=>mR ho hit hg hx) rest
end
end Go.Av
end
section
namespace Go.Av
section
variable {P:Program} {T:FT}
end
end Go.Av
end
