/- Parts of a proof: a layer of abstract values over the model, the functions' walks, plain laws. -/
import Derived.Deep.CondSized
import Derived.Defers
import Derived.IntWalk
import Derived.KernelRfl
import Derived.Laws.Append
import Derived.Laws.AppendOwn
import Derived.Laws.BytesArg
import Derived.Laws.ComplexArith
import Derived.Laws.Cover3
import Derived.Laws.Entries
import Derived.Laws.IdiomCopy
import Derived.Laws.IdiomStrings
import Derived.Laws.Pointers
import Derived.Laws.Small
import Derived.Laws.Strings
import Derived.Laws.StructEq
import Derived.MapKept
import Derived.OpenShut
import Derived.Orders
import Derived.OrdersIn
import Derived.ProofKit
import Derived.RangeFuncRecord
import Derived.RangeFuncSeq
import Derived.ReadAgain
import Derived.Recover
import Derived.Scope
import Derived.Shelf.Slices.Cells
import Derived.Shelf.Slices.Clone
import Derived.Shelf.Slices.Delete
import Derived.Shelf.Spec.SlicesInsertGrow
import Derived.SizedLaws
import Derived.Tactics
import Derived.Tactics2
import Derived.Test.YtbgmofhgfnmaiaaGreatProg
import Derived.Test.YtbgmofhgfnmaiaaGreatRows
import Derived.WalkSmall
import Derived.Test.YtbgmofhgfnmaiaaGreatZElB
set_option linter.unusedSimpArgs false
set_option linter.unusedVariables false
section
namespace Go.Av
section
variable {P:Program} {N:Nat}
def vO (P:Program) (id:Nat) (args:List AV) (h:H) (r:AV) (h':H):Prop:=
 ∀G w vs,G.dom id→aA G w args vs→aX G h w→cR G h h'→YieldAt Fence.wide 0 P (G.ι id) vs.toArray w fun e w'=>∃v G',e= .returned v∧Trans G w h G' w' h'∧aX G' h' w'∧aw G' w' r v
theorem vP {ro:Option Nat} {n l:Nat} {f:FuncId} {tmps:Array Value} {assign body:Code} {w:World} {R:Ending→World→Prop} (h:RoundIn Fence.wide n P l f tmps assign body w R):RoundIn (rd ro) n P l f tmps assign body w R:=h
theorem uj {ops:Array Oper} {i:Nat} {o:Oper} {it:aP} {t:Tm} {id:Nat} {y:Opd} {l:List Opd} {vals:List AV} {h1 h1':H} {r:AV} (ho:ops[i]? =some o) (hit:bR P N ops o=some it) (hg:guardOf t it.guard=some true) (hop:it.op= .callv y l)
  (hy:ev t y= .yld id) (hs:ay (l.map (ev t)) vals) (hc:vO P id vals h1 r h1'):gz P ops i o t h1 r h1':=by
 unfold bR at hit
 split at hit
 ·rename_i op g hcop hgd
  split at hit<;>cases hit
  rename_i hcond
  simp only[Bool.and_eq_true] at hcond
  simp only at hop
  subst hop
  have hcop:=fk hcop af rfl
  obtain ⟨c,z,e1,e2,e3,e4⟩:=qU hcop
  intro G w a ht R F K Q hK ro
  unfold wpOpIn
  rw[ho]
  simp only[dc hgd ht hg,if_true]
  have rr:=fZ (P:=P) (fz ht) e4
  have rz:=aG (P:=P) e3 (fz ht)
  have hcut:=jC (t:=t) hcond.2
  have el:l.map (ev (jb (names ops o) t))=l.map (ev t):=List.map_congr_left fun x hx=>hcut x (by simp[bT,hx])
  rw[el] at rr
  rw[hcut y (by simp[bT]),hy] at rz
  simp only[aw] at rz
  obtain ⟨rdom,rz⟩:=rz
  refine ⟨fun _ _=>trivial,?_⟩
  obtain ⟨fn,tmps,asg,body,q1,q2⟩:=hc G w _ rdom (hs G w _ rr) R F
  have hargs:(c.args.map a.eval)=(c.args.toList.map a.eval).toArray:=by cases c.args;simp
  have hrun:(execOp a.eval o).run P w= .ok (.round (G.ι id) fn tmps asg body) w:=by
   simp[execOp,e1,resolve,e2,rz,Deferred.ofValue,invoke,hargs]
   exact q1
  rw[Oper.semAt_eq _ _ _ (eQ hcop),hrun,Oper.uponIn_round]
  refine ⟨fun h=>by simp[rd,Fence.wide] at h,vP (q2.mono ?_)⟩
  rintro e w' ⟨v,G',rfl,T,R',V⟩
  exact hK G' w' v T R' V
 ·cases hit
def my (t:Tm):List Nat→List AV→Tm
 |p::ps,x::xs=>my (upd t p x) ps xs
 |_,_=>t
theorem qZ {G:aM} {w:World}:∀{ps:List Nat} {xs:List AV} {vs:List Value} {t:Tm} {tmps:Array Value},aA G w xs vs→(∀p∈ps,p<tmps.size)→(∀i,aw G w (t i) (tmps.getD i undef))→
  (∀i,aw G w (my t ps xs i) (((ps.zip vs).foldl (fun tm (p:Nat × Value)=>tm.setIfInBounds p.1 p.2) tmps).getD i undef))∧((ps.zip vs).foldl (fun tm (p:Nat × Value)=>tm.setIfInBounds p.1 p.2) tmps).size=tmps.size
 |[],xs,vs,t,tmps,_,_,h=>by simpa [my] using h
 |p::ps,[],vs,t,tmps,hv,_,h=>by
  simp only[aA] at hv;subst hv
  simpa [my] using h
 |p::ps,x::xs,vs,t,tmps,hv,hp,h=>by
  simp only[aA] at hv
  obtain ⟨v,us,rfl,h1,h2⟩:=hv
  have hk:=hp p af
  have:=qZ (ps:=ps) (t:=upd t p x) (tmps:=tmps.setIfInBounds p v) h2 (fun q hq=>by simpa using hp q (by simp[hq])) (fun i=>by
   simp only[upd]
   by_cases e:i=p
   ·subst e;simp[Array.getElem?_setIfInBounds,hk];exact h1
   ·have e2:(tmps.setIfInBounds p v).getD i undef=tmps.getD i undef:=by simp[Array.getElem?_setIfInBounds,Ne.symm e]
    rw[if_neg e,e2];exact h i)
  simp only[my,List.zip_cons_cons,List.foldl_cons]
  exact ⟨this.1,by rw[this.2];simp⟩
inductive jd:aQ→Bool→LoopState→Option Code→Prop where
 |normal:jd .normal true .ready none
 |ret:jd .ret false .done (some .ret)
 |exit (i:Nat):jd (.exit i) false .done (some (.exit i))
 |goto (l:Nat):jd (.goto l) false .done (some (.goto l))
theorem q9 {G:aM} {w:World} {f:Bw} {n m id M:Nat} {T:List Nat} {t:Nat→AV} {ps:List Nat} {asg body:Code} {st:LoopState} {pend:Option Code} (R:aX G ⟨f,n,T,m⟩ w) (ho:f id=some (.loop M t ps asg body st pend)) {r:Loop}
  (hr:w.heap[G.ι id]? =some (.loop r)) (st':LoopState) (pend':Option Code):
  Trans G w ⟨f,n,T,m⟩ G (w.putObj (G.ι id) (.loop {r with state:=st',pending:=pend'})) ⟨upd f id (some (.loop M t ps asg body st' pend')),n,T,m⟩∧
  aX G ⟨upd f id (some (.loop M t ps asg body st' pend')),n,T,m⟩ (w.putObj (G.ι id) (.loop {r with state:=st',pending:=pend'})):=by
 obtain ⟨d1,d2,d3,r0,e0,d4⟩:=R.obj id _ ho
 have hrr:r0=r:=by
  have:=hr
  rw[e0] at this
  cases this;rfl
 subst hrr
 have tu:dX (G.ι id) w (w.putObj (G.ι id) (.loop {r0 with state:=st',pending:=pend'})):=
  ⟨by simp,fun B hB=>World.putObj_heap_other hB,fun c T fr e=>absurd (hr.symm.trans e) af,rfl,rfl⟩
 have hO:∀B,H.O ⟨f,n,T,m⟩ G B↔H.O ⟨upd f id (some (.loop M t ps asg body st' pend')),n,T,m⟩ G B:=by
  intro B
  constructor
  ·rintro ⟨j,o,h1,h2⟩
   by_cases e:j=id
   ·exact ⟨id,.loop M t ps asg body st' pend',by simp[upd],by rw[←h2,e]⟩
   ·exact ⟨j,o,by simpa [upd,e] using h1,h2⟩
  ·rintro ⟨j,o,h1,h2⟩
   by_cases e:j=id
   ·exact ⟨id,_,ho,by rw[←h2,e]⟩
   ·exact ⟨j,o,by simpa [upd,e] using h1,h2⟩
 have hne:∀B,¬H.O ⟨f,n,T,m⟩ G B→B≠G.ι id:=fun B h e=>h ⟨id,_,ho,e.symm⟩
 have Tr:Trans G w ⟨f,n,T,m⟩ G (w.putObj (G.ι id) (.loop {r0 with state:=st',pending:=pend'})) ⟨upd f id (some (.loop M t ps asg body st' pend')),n,T,m⟩:=by
  constructor
  ·exact fun _ x=>x
  ·exact fun _=> .inl
  ·exact fun _ _=>rfl
  ·exact fun _ x=>x
  ·exact fun _=> .inl
  ·exact fun _ _=>rfl
  ·exact Nat.le_refl _
  ·exact Nat.le_refl _
  ·rw[tu.size];exact Nat.le_refl _
  ·exact tu.os
  ·exact tu.out
  ·intro B hB
   by_cases e:B=G.ι id
   ·subst e
    rw[hr,World.putObj_heap_same d3]
    exact ⟨_,rfl⟩
   ·rw[tu.same B e];exact bQ.refl _
  ·exact fun B hB h1 _=>tu.same B (hne B h1)
  ·exact fun _ _ _=>Iff.rfl
  ·exact fun _ _ _ _=>rfl
  ·intro B hB h1 h2 e he
   refine ⟨fun j hj=>?_,fun e' he'=>by rw[he] at he';cases he';exact Nat.le_refl _⟩
   have:=tu.same B (hne B h2)
   unfold World.cell?
   simp only[this]
  ·exact fun B _ h=>(hO B).2 h
  ·exact fun B _ h=>h
  ·intro j o h
   by_cases e:j=id
   ·exact .inl ⟨_,by rw[e];exact ho⟩
   ·exact .inl ⟨o,by simpa [upd,e] using h⟩
  ·exact fun _=> .inl
 refine ⟨Tr,⟨fun j o hj=>?_,fun i j o o' h1 h2=>?_,fun t ht=>⟨(R.tok t ht).1,fun B e he=>by rw[tu.size];exact (R.tok t ht).2 B e he⟩,R.tinj⟩⟩
 ·by_cases e:j=id
  ·subst e
   have:o= .loop M t ps asg body st' pend':=by simpa [upd] using hj.symm
   subst this
   refine ⟨d1,d2,by rw[tu.size];exact d3,_,World.putObj_heap_same d3,d4.1,fun i=>aw.dF tu _ _ (d4.2.1 i),d4.2.2.1,d4.2.2.2.1,d4.2.2.2.2.1,rfl,rfl⟩
  ·have hj':f j=some o:=by simpa [upd,e] using hj
   obtain ⟨a1,a2,a3,a4⟩:=R.obj j o hj'
   refine ⟨a1,a2,by rw[tu.size];exact a3,?_⟩
   have hb:G.ι j≠G.ι id:=fun e'=>e (R.inj j id o _ hj' ho e')
   rw[tu.same _ hb]
   exact a4.dF tu
 ·have get:∀k p,upd f id (some (.loop M t ps asg body st' pend')) k=some p→∃p',f k=some p':=by
   intro k p hk
   by_cases e:k=id
   ·exact ⟨_,by rw[e];exact ho⟩
   ·exact ⟨p,by simpa [upd,e] using hk⟩
  obtain ⟨p,hp⟩:=get i o h1
  obtain ⟨p',hp'⟩:=get j o' h2
  exact R.inj i j p p' hp hp'
theorem zu {id M n m:Nat} {f:Bw} {T:List Nat} {t:Tm} {ps:List Nat} {asg body:Code} {x y:AC} {args:List AV} {Q:AV→H→Prop} (ho:f id=some (.loop M t ps asg body .ready none)) (ha:cCode P M asg=some x) (hb:cCode P M body=some y) (hna:fM asg=true) (hnb:fM body=true)
  (hl:args.length=ps.length) (hps:∀p∈ps,p<M)
  (hw:Wp P M x ⟨my t ps args,⟨f,n,T,m⟩⟩ fun e s=>e= .normal∧∃t1,s.h.objs id=some (.loop M t1 ps asg body .ready none)∧
   Wp P M y ⟨s.t,{s.h with objs:=upd s.h.objs id (some (.loop M t1 ps asg body .busy none))}⟩ fun e2 s2=>∃t2 b st pend,s2.h.objs id=some (.loop M t2 ps asg body .busy none)∧jd e2 b st pend∧
    Q (.bool b) {s2.h with objs:=upd s2.h.objs id (some (.loop M t2 ps asg body st pend))}):
  ∃r h',vO P id args ⟨f,n,T,m⟩ r h'∧Q r h':=by
 obtain ⟨e,s,run,rfl,t1,ho1,hw2⟩:=hw asg ha
 obtain ⟨e2,s2,run2,t2,b,st,pend,ho2,hre,hq⟩:=hw2 body hb
 refine ⟨_,_,?_,hq⟩
 have nm1:=run.1
 have nm2:=run2.1
 simp only at nm1 nm2
 intro G w vs hdom hv R F
 obtain ⟨d1,d2,d3,r,e0,d4,d5,d6,d7,d8,d9,d10⟩:=R.obj id _ ho
 have hsz:vs.toArray.size=r.params.size:=by
  have h1:=hv.length
  have h2:r.params.toList.length=ps.length:=by rw[d6]
  simp at h2 ⊢
  omega
 refine ⟨r.fn,_,r.assign,r.body,run_yield e0 hsz,?_⟩
 refine roundIn_of_wpIn (F:=Fence.wide) trivial ?_
 have hzip:(r.params.zip vs.toArray).foldl (fun tmps (p:Tmp × Value)=>tmps.setIfInBounds p.1 p.2) r.tmps=(ps.zip vs).foldl (fun tm (p:Nat × Value)=>tm.setIfInBounds p.1 p.2) r.tmps:=by
  rw[←Array.foldl_toList,Array.toList_zip,d6]
 have hput:=qZ (ps:=ps) (t:=t) (tmps:=r.tmps) hv (fun p hp=>by rw[d4];exact hps p hp) d5
 have F1:cR G ⟨f,n,T,m⟩ s.h:=F.sub (Nat.le_refl _) nm2.1 (Nat.le_refl _) nm2.2
 have rel0:Rel M ⟨my t ps args,⟨f,n,T,m⟩⟩ G w {tmps:=(r.params.zip vs.toArray).foldl (fun tmps (p:Tmp × Value)=>tmps.setIfInBounds p.1 p.2) r.tmps,defers:=[]}:=by
  rw[hzip]
  exact ⟨hput.2.trans d4,hput.1,R,by simp,by simp⟩
 have w1:=run.2 (some (G.ι id)) (.inr hna) G w _ rel0 F1
 rw[d7,d8]
 refine wpIn_mono w1 ?_
 rintro e' a1 w1' ⟨h1,-,G1,T1,r1⟩
 cases e'<;>simp only[aQ.fm] at h1
 have hι:G1.ι id=G.ι id:=T1.ι_eq id d1
 obtain ⟨k1,k2,k3,r',k4,k5,k6,k7,k8,k9,k10,k11⟩:=r1.h.obj id _ ho1
 rw[hι] at k3 k4
 have hbr:=run_beginRound (P:=P) k4 k10
 refine ⟨_,hbr,?_⟩
 have k4':w1'.heap[G1.ι id]? =some (.loop r'):=by rw[hι];exact k4
 obtain ⟨T2,R2⟩:=q9 (n:=s.h.n) (m:=s.h.m) (T:=s.h.toks) (f:=s.h.objs) r1.h ho1 k4' .busy none
 rw[hι] at T2 R2
 have hrec:{r' with state:=LoopState.busy,pending:=(none:Option Code)}= {r' with state:= .busy}:=by rw[←k11]
 rw[hrec] at T2 R2
 have rel1:Rel M ⟨s.t,{s.h with objs:=upd s.h.objs id (some (.loop M t1 ps asg body .busy none))}⟩ G1 (w1'.putObj (G.ι id) (.loop {r' with state:= .busy})) a1:=
  ⟨r1.size,fun i=>aw.mono r1.h T2 _ _ (r1.t i),R2,r1.df.mono T2⟩
 have F2:cR G1 {s.h with objs:=upd s.h.objs id (some (.loop M t1 ps asg body .busy none))} s2.h:=by
  have:=(F.step (h':={s2.h with objs:=upd s2.h.objs id (some (.loop M t2 ps asg body st pend))}) T1)
  exact this
 refine wpIn_mono (run2.2 (some (G.ι id)) (.inr hnb) G1 _ a1 rel1 F2) ?_
 rintro e' a2 w2 ⟨q1,-,G2,T3,r2⟩
 have hι2:G2.ι id=G.ι id:=(T3.ι_eq id k1).trans hι
 obtain ⟨j1,j2,j3,r'',j4,j5,j6,j7,j8,j9,j10,j11⟩:=r2.h.obj id _ ho2
 have j4':w2.heap[G.ι id]? =some (.loop r''):=by rw[←hι2];exact j4
 obtain ⟨T4,R4⟩:=q9 (n:=s2.h.n) (m:=s2.h.m) (T:=s2.h.toks) (f:=s2.h.objs) r2.h ho2 j4 st pend
 rw[hι2] at T4 R4
 have Tall:=((T1.trans R r1.h T2).trans R R2 T3).trans R r2.h T4
 cases hre
 all_goals
  cases e'<;>simp only[aQ.fm] at q1
  try subst q1
  have hend:=fun j=>run_endRound (P:=P) j j4'
  refine ⟨_,_,hend _,_,G2,rfl,Tall,R4,?_⟩
  simp only[aw,Option.isNone_none,Option.isNone_some]
theorem zw {code:Code} {g:Opd} {ps:List Nat} {x y:AC} (h:cCode P N code=some (.vE g ps x y)):∃z qs a b,code= .rangeFunc z qs a b∧opd P 0 z=some g∧qs.toList=ps∧cCode P N a=some x∧cCode P N b=some y∧fM a=true∧fM b=true:=by
 cases code with
 |rangeFunc z qs a b=>
  simp only[cCode] at h
  split at h
  ·rename_i g' x' y' h1 h2 h3
   split at h
   ·rename_i hcc
    cases h
    have hcc':fM a=true∧fM b=true:=by simpa using hcc
    exact ⟨_,_,_,_,rfl,h1,rfl,h2,h3,hcc'.1,hcc'.2⟩
   ·cases h
  ·cases h
 |_=>
  simp only[cCode] at h
  first|(simp at h;done)|(cases h;done)|((repeat' split at h)<;>cases h;done)
inductive kF:Option Code→aQ→Prop where
 |none:kF none .normal
 |ret:kF (some .ret) .ret
 |exit (i:Nat):kF (some (.exit i)) (.exit i)
 |goto (l:Nat):kF (some (.goto l)) (.goto l)
theorem Wp.vE {g:Opd} {ps:List Nat} {x y:AC} {t:Tm} {f:Bw} {n m:Nat} {T:List Nat} {Q:aQ→St→Prop} {fi:FuncId} {fn:Func} {first caps:List AV} (hg:ev t g= .clo (.func fi) first caps) (hf:P.funcs[fi]? =some fn) (hfb:fn.body.isSome=true) (hfn:fn.name≠ "runtime.NumGoroutine")
  (hfresh:f n=none)
  (hw:∀asg body,cCode P N asg=some x→cCode P N body=some y→fM asg=true→fM body=true→∃r f2 n2 T2 m2 t2 st pend e,
   aJ P fi (first++[.yld n]++caps) ⟨upd f n (some (.loop N t ps asg body .ready none)),n+1,T,m⟩ r ⟨f2,n2,T2,m2⟩∧n+1≤n2∧m≤m2∧f2 n=some (.loop N t2 ps asg body st pend)∧st≠ .busy∧kF pend e∧
   Q e ⟨t,⟨fun j=>if j=n then none else f2 j,n2,T2,m2⟩⟩):Wp P N (.vE g ps x y) ⟨t,⟨f,n,T,m⟩⟩ Q:=by
 intro code hc
 obtain ⟨z,qs,asg,body,rfl,c1,c2,c3,c4,c5,c6⟩:=zw hc
 obtain ⟨r,f2,n2,T2,m2,t2,st,pend,e,aT,hn2,hm2,ho2,hst,hle,hq⟩:=hw asg body c3 c4 c5 c6
 refine ⟨e,_,⟨⟨by simp only;omega,by simp only;omega⟩,fun ro okc G w a rel F=>?_⟩,hq⟩
 obtain rfl:ro=none:=by
  rcases okc with h|h
  ·exact h
  ·simp[fM] at h
 have hz:aw G w (.clo (.func fi) first caps) (a.eval z):=by rw[←hg];exact aG c1 rel.t
 simp only[aw] at hz
 obtain ⟨vs,us,hz,hv1,hv2⟩:=hz
 refine wpIn_rangeFunc (F:=rd none) (n:=0) fun fid _=>?_
 let D:=w.heap.size
 let dC:Loop:={state:= .ready,pending:=none,fn:=fid,tmps:=a.tmps,params:=qs,assign:=asg,body:=body,defers:=w.heap.size}
 let w1:=(w.alloc (.deferred (some []))).alloc (.loop dC)
 have hD1:w1.heap[D]? =some (.deferred (some [])):=by
  show ((w.heap.push (.deferred (some []))).push (.loop dC))[w.heap.size]? =_
  rw[Array.getElem?_push,if_neg af,Array.getElem?_push,if_pos rfl]
 have hL1:w1.heap[D+1]? =some (.loop dC):=by
  show ((w.heap.push (.deferred (some []))).push (.loop dC))[w.heap.size+1]? =_
  rw[Array.getElem?_push,if_pos af]
 have hsz1:w1.heap.size=w.heap.size+2:=by show ((w.heap.push (.deferred (some []))).push (.loop dC)).size=_;simp
 have hold:∀B,B<w.heap.size→w1.heap[B]? =w.heap[B]? :=by
  intro B hB
  show ((w.heap.push (.deferred (some []))).push (.loop dC))[B]? =_
  rw[Array.getElem?_push,if_neg (by rw[Array.size_push];omega),Array.getElem?_push,if_neg ab]
 have hndom:¬G.dom n:=F.1 n (Nat.le_refl _) (by simp only;omega)
 let G1:aM:={G with dom:=fun j=>G.dom j∨j=n,ι:=upd G.ι n (D+1),own:=fun B=>G.own B∨B=D+1}
 have hι1:∀j,G.dom j→G1.ι j=G.ι j:=fun j hj=>by
  simp only[G1,upd];rw[if_neg];rintro rfl;exact hndom hj
 have hιn:G1.ι n=D+1:=by simp[G1,upd]
 have hne:∀j o,f j=some o→j≠n:=fun j o h e=>by subst e;rw[hfresh] at h;cases h
 have hO:∀B,B<w.heap.size→H.O ⟨upd f n (some (.loop N t ps asg body .ready none)),n+1,T,m⟩ G1 B→H.O ⟨f,n,T,m⟩ G B:=by
  rintro B hB ⟨j,o,h1,h2⟩
  by_cases e':j=n
  ·subst e';rw[hιn] at h2;omega
  ·have h1':f j=some o:=by simpa [upd,e'] using h1
   exact ⟨j,o,h1',by rw[←hι1 j (rel.h.obj j o h1').1];exact h2⟩
 have Tr1:Trans G w ⟨f,n,T,m⟩ G1 w1 ⟨upd f n (some (.loop N t ps asg body .ready none)),n+1,T,m⟩:=by
  constructor
  ·exact fun _ x=> .inl x
  ·rintro j (h|rfl)
   ·exact .inl h
   ·exact .inr ⟨Nat.le_refl _,Nat.lt_succ_self _⟩
  ·exact hι1
  ·exact fun _ x=>x
  ·exact fun _=> .inl
  ·exact fun _ _=>rfl
  ·exact Nat.le_succ _
  ·exact Nat.le_refl _
  ·rw[hsz1];omega
  ·rfl
  ·rfl
  ·intro B hB;rw[hold B hB];exact bQ.refl _
  ·exact fun B hB _ _=>hold B hB
  ·intro B hB _
   exact ⟨fun h=>h.resolve_right ab,.inl⟩
  ·exact fun _ _ _ _=>rfl
  ·intro B hB h1 h2 e' he'
   refine ⟨fun j hj=>?_,fun e'' he''=>?_⟩
   ·have:=hold B hB
    unfold World.cell?
    simp only[this]
   ·have he2:G.lim B=some e'':=he''
    rw[he'] at he2;cases he2;exact Nat.le_refl _
  ·exact hO
  ·exact fun _ _ h=>h
  ·intro j o h
   by_cases e':j=n
   ·subst e';exact .inr ⟨Nat.le_refl _,Nat.lt_succ_self _⟩
   ·exact .inl ⟨o,by simpa [upd,e'] using h⟩
  ·exact fun _=> .inl
 have R1:aX G1 ⟨upd f n (some (.loop N t ps asg body .ready none)),n+1,T,m⟩ w1:=by
  refine ⟨fun j o h=>?_,fun i j o o' h1 h2 h3=>?_,fun k hk=>⟨(rel.h.tok k hk).1,fun B e' he'=>?_⟩,rel.h.tinj⟩
  ·by_cases e':j=n
   ·subst e'
    have:o= .loop N t ps asg body .ready none:=by simpa [upd] using h.symm
    subst this
    refine ⟨.inr rfl,by rw[hιn];exact .inr rfl,by rw[hιn,hsz1];show w.heap.size+1<_;omega,dC,by rw[hιn];exact hL1,rel.size,fun i=>aw.mono rel.h Tr1 _ _ (rel.t i),c2,rfl,rfl,rfl,rfl⟩
   ·have h':f j=some o:=by simpa [upd,e'] using h
    obtain ⟨a1,a2,a3,a4⟩:=rel.h.obj j o h'
    refine ⟨.inl a1,by rw[hι1 j a1];exact .inl a2,by rw[hι1 j a1,hsz1];omega,?_⟩
    rw[hι1 j a1,hold _ a3]
    exact a4.mono rel.h Tr1
  ·have low:∀k p,f k=some p→G1.ι k<w.heap.size:=fun k p hk=>by rw[hι1 k (rel.h.obj k p hk).1];exact (rel.h.obj k p hk).2.2.1
   by_cases e1:i=n
   ·by_cases e2:j=n
    ·rw[e1,e2]
    ·have:=low j o' (by simpa [upd,e2] using h2)
     rw[←h3,e1,hιn] at this
     omega
   ·have hi:f i=some o:=by simpa [upd,e1] using h1
    by_cases e2:j=n
    ·have:=low i o hi
     rw[h3,e2,hιn] at this
     omega
    ·have hj:f j=some o':=by simpa [upd,e2] using h2
     exact rel.h.inj i j o o' hi hj (by rw[←hι1 i (rel.h.obj i o hi).1,←hι1 j (rel.h.obj j o' hj).1];exact h3)
  ·obtain ⟨b1,b2,b3⟩:=(rel.h.tok k hk).2 B e' he'
   refine ⟨b1,?_,by rw[hsz1];omega⟩
   rintro (h|h)
   ·exact b2 h
   ·omega
 have F1:cR G1 ⟨upd f n (some (.loop N t ps asg body .ready none)),n+1,T,m⟩ ⟨f2,n2,T2,m2⟩:=F.step Tr1
 have hargs:aA G1 w1 (first++[.yld n]++caps) (vs++[Value.func (.yield (D+1)) #[] #[]]++us):=by
  refine aA.append (aA.append (aA.mono rel.h Tr1 _ _ hv1) ?_) (aA.mono rel.h Tr1 _ _ hv2)
  simp only[aA,aw]
  exact ⟨_,[],rfl,⟨.inr rfl,by rw[hιn]⟩,rfl⟩
 refine ⟨D+1,[{target:= .collected D,args:= #[]}],w1,{target:= .fn (.func fi) us.toArray,args:=vs.toArray++ #[Value.func (.yield (D+1)) #[] #[]]},w1,fi,(vs++[Value.func (.yield (D+1)) #[] #[]]++us).toArray,w1,?_,?_,fun _ _=>trivial,?_,fun h=>by simp[rd,Fence.wide] at h,lJ ?_⟩
 ·exact run_enterLoop_outer fid a.tmps qs asg body
 ·have he:∀v,a.eval (.const v)=v:=fun _=>rfl
  simp[resolve,rangeCall,hz,Deferred.ofValue,he]
 ·simp[invoke,eR w1 hf hfb hfn]
 ·refine (aT G1 w1 _ hargs R1 F1).mono ?_
  rintro e' w3 ⟨v,G3,rfl,T3,R3,V3⟩
  obtain ⟨b1,b2,b3,⟨st3,pend3,fn3,tmps3,params3,asg3,body3,df3⟩,b4,b5,b6,b7,b8,b9,b10,b11⟩:=R3.obj n _ ho2
  simp only at b10 b11
  subst b11
  have hι3:G3.ι n=D+1:=(T3.ι_eq n (.inr rfl)).trans hιn
  rw[hι3] at b3 b4
  have hDO1:¬H.O ⟨upd f n (some (.loop N t ps asg body .ready none)),n+1,T,m⟩ G1 D:=by
   rintro ⟨j,o,h1,h2⟩
   by_cases e':j=n
   ·subst e';rw[hιn] at h2;omega
   ·have h1':f j=some o:=by simpa [upd,e'] using h1
    have:=(rel.h.obj j o h1').2.2.1
    rw[hι1 j (rel.h.obj j o h1').1] at h2
    omega
  have hDT1:¬H.T ⟨upd f n (some (.loop N t ps asg body .ready none)),n+1,T,m⟩ G1 D:=by
   rintro ⟨k,hk,e',he'⟩
   have:=((rel.h.tok k hk).2 D e' he').2.2
   omega
  have hDlt:D<w1.heap.size:=by rw[hsz1];show w.heap.size<_;omega
  have hD3:w3.heap[D]? =some (.deferred (some [])):=(T3.keep D hDlt hDO1 hDT1).trans hD1
  have hDO3:¬H.O ⟨f2,n2,T2,m2⟩ G3 D:=fun h=>hDO1 (T3.O_new D hDlt h)
  have hDT3:¬H.T ⟨f2,n2,T2,m2⟩ G3 D:=fun h=>hDT1 (T3.T_new D hDlt h)
  refine ⟨pend3,_,run_endLoop b4 (by simp only;rw[b10];exact hst),?_⟩
  let w4:=w3.putObj (D+1) (.loop ⟨.exhausted,pend3,fn3,tmps3,params3,asg3,body3,df3⟩)
  have tu:dX (D+1) w3 w4:=⟨by simp[w4],fun B hB=>World.putObj_heap_other hB,fun c T fr e=>absurd (b4.symm.trans e) af,rfl,rfl⟩
  have hle3:HLe ⟨f2,n2,T2,m2⟩ ⟨fun j=>if j=n then none else f2 j,n2,T2,m2⟩:=by
   refine ⟨fun j o' hj=>?_,fun t h=>h⟩
   simp only at hj
   split at hj
   ·cases hj
   ·exact ⟨o',hj,dN.refl _⟩
  have T03:Trans G w ⟨f,n,T,m⟩ G3 w3 ⟨fun j=>if j=n then none else f2 j,n2,T2,m2⟩:=(Tr1.trans rel.h R1 T3).trans rel.h R3 (Trans.le hle3 (Nat.le_refl _) (Nat.le_refl _))
  have R03:=R3.le hle3
  have hLO:¬H.O ⟨fun j=>if j=n then none else f2 j,n2,T2,m2⟩ G3 (D+1):=by
   rintro ⟨j,o,h1,h2⟩
   simp only at h1
   split at h1
   ·cases h1
   ·rename_i hjn
    exact hjn (R3.inj j n o _ h1 ho2 (by rw[h2,hι3]))
  have T04:=T03.dF tu (by show w.heap.size≤w.heap.size+1;omega)
  have R04:=R03.dF tu hLO
  have hD4:w4.heap[D]? =some (.deferred (some [])):=by rw[tu.same D ab];exact hD3
  have relEnd:Rel N ⟨t,⟨fun j=>if j=n then none else f2 j,n2,T2,m2⟩⟩ G3 w4 {a with defers:=[({target:= .collected D,args:= #[]}:Deferred)]++a.defers}:=by
   refine ⟨rel.size,fun i=>aw.dF tu _ _ (aw.mono rel.h T03 _ _ (rel.t i)),R04,?_,?_⟩
   ·show ([({target:= .collected D,args:= #[]}:Deferred)]++a.defers).Nodup
    rw[List.singleton_append,List.nodup_cons]
    refine ⟨fun hm=>?_,rel.df.1⟩
    obtain ⟨D',e',h1,-⟩:=rel.df.2 _ hm
    simp only[Deferred.mk.injEq,Target.collected.injEq,and_true] at e'
    have:=xu h1
    rw[←e'] at this
    exact absurd this (Nat.lt_irrefl _)
   ·intro d hd
    rcases List.mem_append.1 hd with hd|hd
    ·rw[List.mem_singleton.1 hd]
     exact ⟨D,rfl,hD4,fun ⟨j,o,h1,h2⟩=>by
      simp only at h1
      split at h1
      ·cases h1
      ·exact hDO3 ⟨j,o,h1,h2⟩,hDT3⟩
    ·exact (rel.df.mono T04).2 d hd
  have hnew:kT w a.defers ([({target:= .collected D,args:= #[]}:Deferred)]++a.defers):=by
   intro d hd
   rcases List.mem_append.1 hd with hd|hd
   ·rw[List.mem_singleton.1 hd];exact .inr ⟨D,Nat.le_refl _,rfl⟩
   ·exact .inl hd
  cases hle with
  |none=>exact ⟨trivial,hnew,G3,T04,relEnd⟩
  |ret=>exact wpIn_ret ⟨trivial,hnew,G3,T04,relEnd⟩
  |exit i=>exact wpIn_exit ⟨rfl,hnew,G3,T04,relEnd⟩
  |goto l=>exact wpIn_goto ⟨rfl,hnew,G3,T04,relEnd⟩
end
end Go.Av
end
section
namespace Go.Av
section
variable {P:Program} {N:Nat} {o:Oper} {t:Tm} {h:H} {en:Ent}
end
end Go.Av
end
section
namespace Go.Av
section
variable {P:Program} {N:Nat} {o:Oper} {t:Tm} {h:H}
theorem zy {ty e:TypeId} {zl zc:Operand} {yl yc:Opd} {i:TypeInfo} {z:Value} {b:AV} {kl kc:IntKind} {l c:Int} (hop:o.op= .makeSlice ty zl zc) (hu:P.underlying ty=some (.slice e)) (hi:P.info? e=some i) (hz:i.zero=some z) (hzs:z.cells.size=i.size) (hpos:0<i.size)
  (hb:cZ P e z=some b) (hyl:opd P 0 zl=some yl) (hyc:opd P 0 zc=some yc) (hl:ev t yl= .int kl l) (hc:ev t yc= .int kc c) (h0:0≤l) (hlc:l≤c) (hbytes:c*i.bytes≤140737488355328) (hc63:c<9223372036854775808) (hsh:shaped b=true):
  Loc P o t h (.tsl i.size h.n 0 l.toNat none) {h with objs:=upd h.objs h.n (some (.cells ((List.replicate l.toNat b).flatMap cellsOf))),n:=h.n+1} ⟨[],[h.n],[]⟩:=by
 refine ⟨_,_,ew h _,fun G w a ht R F=>?_⟩
 have r1:=aG hyl ht
 have r2:=aG hyc ht
 rw[hl] at r1
 rw[hc] at r2
 simp only[aw] at r1 r2
 have rb:=dL (G:=G) (w:=w) hb
 obtain ⟨sc1,sc2⟩:=ec rb hsh
 have hel:∀k:Nat,aH G w i.size (List.replicate k b) (List.replicate k z.cells.toList).flatten:=by
  intro k
  induction k with
  |zero=>simp[aH]
  |succ k ih=>
   simp only[List.replicate_succ,List.flatten_cons,aH]
   exact ⟨z,_,rfl,hzs,rb,ih⟩
 have hone:∀k:Nat,∀u∈(List.replicate k z.cells.toList).flatten,One u:=by
  intro k u hu
  obtain ⟨x,hx,hu'⟩:=List.mem_flatten.1 hu
  rw[(List.mem_replicate.1 hx).2] at hu'
  exact eA sc1 sc2 u hu'
 have hrow:∀k:Nat,(((Array.range (k*i.size)).map (z.cells[· %z.cells.size]!))).toList=(List.replicate k z.cells.toList).flatten:=by
  intro k
  apply List.ext_getElem?
  intro j
  have hL:z.cells.toList.length=i.size:=by simp[hzs]
  rcases Nat.lt_or_ge j (k*i.size) with hj|hj
  ·rw[mh z.cells.toList ab k j (by rw[hL];exact hj),hL]
   have hm:j%i.size<z.cells.size:=by rw[hzs];exact Nat.mod_lt _ hpos
   have hb2:z.cells[j%i.size]? =some z.cells[j%i.size]! :=by rw[getElem!_pos z.cells (j%i.size) hm];exact Array.getElem?_eq_getElem hm
   simp[hj,hzs,hb2]
  ·rw[List.getElem?_eq_none ak,List.getElem?_eq_none (by simp[hzs];omega)]
 have hrow2:((Array.range (c.toNat*i.size)).map (z.cells[· %z.cells.size]!))=((List.replicate l.toNat z.cells.toList).flatten++(List.replicate (c.toNat - l.toNat) z.cells.toList).flatten).toArray:=by
  apply Array.ext'
  rw[hrow]
  have:c.toNat=l.toNat+(c.toNat - l.toNat):=by omega
  rw[this,←List.replicate_append_replicate,List.flatten_append]
  simp
 have hlen:∀k:Nat,((List.replicate k z.cells.toList).flatten).length=k*i.size:=by intro k;simp[hzs]
 obtain ⟨G',T1,R1,V⟩:=mf (m:=h.m) (sz:=i.size) (len:=l.toNat) (C:=c.toNat) (dZ w (.cells ((List.replicate l.toNat z.cells.toList).flatten++(List.replicate (c.toNat - l.toNat) z.cells.toList).flatten).toArray e (0,0))) (fc (hel l.toNat) (by simp[hsh])) (hone _) (kA F (by simp[H.only])) ⟨ab,ab⟩ (by rw[hlen,hlen,←Nat.add_mul];exact Nat.mul_le_mul_right _ ab)
 refine ⟨.value (.slice (some ⟨w.heap.size,0,none⟩) l.toNat c.toNat),_,_,G',?_,.inl rfl,T1,R1,V⟩
 have hwl:IntKind.i64.wrap l=l:=by
  simp[IntKind.wrap,IntKind.bits,IntKind.signed];omega
 have hwc:IntKind.i64.wrap c=c:=by
  simp[IntKind.wrap,IntKind.bits,IntKind.signed];omega
 have hcc:i.bytes*c≤140737488355328:=by rw[Int.mul_comm];exact hbytes
 have e1:¬(c<0):=by omega
 have e2:¬(281474976710656<(i.bytes:Int)*c):=by omega
 have e3:¬(l<0):=by omega
 have e4:¬(c<l):=by omega
 have hrz:(zeroValue e).run P w= .ok z w:=by simp[zeroValue,typeInfo,hi,hz]
 have hsize:(sizeOf e).run P w= .ok i.size w:=by simp[sizeOf,typeInfo,hi]
 simp only[execOp,hop,Instr.makeSlice,Sem.run_bind,run_underlying hu,Result.andThen_ok,r1,r2,asInt,asIntOf,Sem.run_pure,typeInfo,run_program,hi,hwl,hwc]
 simp[e1,e2,e3,e4,hsize,hrz,newRow]
 split
 ·rename_i hz0
  have hc0:c.toNat=0:=by
   rcases Nat.mul_eq_zero.1 hz0 with h|h
   ·exact h
   ·omega
  have hl0:l.toNat=0:=by omega
  have hr0:Array.range 0= #[]:=rfl
  simp[hc0,hl0,hr0]
 ·have hrow3:=hrow2
  simp only[hrow3]
def jI (ρ:Opd→AV) (h:H):AOp→Option (AV × H × Ent)
 | .mksl sz bytes zero len cap=>match ρ len,ρ cap with
  | .int _ l,.int _ c=>if 0≤l∧l≤c∧c*bytes≤140737488355328∧c<9223372036854775808∧shaped zero then
    some (.tsl sz h.n 0 l.toNat none,{h with objs:=upd h.objs h.n (some (.cells ((List.replicate l.toNat zero).flatMap cellsOf))),n:=h.n+1},⟨[],[h.n],[]⟩) else none
  |_,_=>none
 |_=>none
theorem uk {op:AOp} {x:AV} {h':H} {en:Ent} (hc:cOp P o=some op) (hx:jI (ev t) h op=some (x,h',en)):Loc P o t h x h' en:=by
 cases op<;>(try (simp [jI] at hx;done))
 rename_i sz bytes zero len cap
 have inv:∃ty zl zc e i z,o.op= .makeSlice ty zl zc∧P.underlying ty=some (.slice e)∧P.info? e=some i∧i.zero=some z∧z.cells.size=i.size∧0<i.size∧cZ P e z=some zero∧opd P 0 zl=some len∧opd P 0 zc=some cap∧i.size=sz∧i.bytes=bytes:=by
  unfold cOp at hc
  split at hc
  case h_14=>
   split at hc
   ·split at hc
    ·split at hc
     ·split at hc
      ·split at hc
       case isFalse=>cases hc
       rename_i hcond
       cases hc
       exact ⟨_,_,_,_,_,_,‹_›,‹_›,‹_›,‹_›,hcond.1,hcond.2,‹_›,‹_›,‹_›,rfl,rfl⟩
      ·cases hc
     ·cases hc
    ·cases hc
   ·cases hc
  all_goals first
   |(cases hc;done)
   |(simp at hc;done)
   |((repeat' split at hc)<;>(try cases hc)<;>(try simp at hc);done)
 obtain ⟨ty,zl,zc,e,i,z,h1,h2,h3,h4,h5,h6,h7,h8,h9,rfl,rfl⟩:=inv
 simp only[jI] at hx
 split at hx
 ·split at hx
  ·rename_i hq
   obtain ⟨q1,q2,q3,q4,q5⟩:=hq
   cases hx
   exact zy h1 h2 h3 h4 h5 h6 h7 h8 h9 ‹_› ‹_› q1 q2 q3 q4 q5
  ·cases hx
 ·cases hx
theorem vQ {ρ ρ':Opd→AV} {op:AOp} (hx:∀y∈bT op,ρ y=ρ' y):jI ρ h op=jI ρ' h op:=by
 cases op<;>(try rfl)
 rename_i sz bytes zero len cap
 simp only[jI,hx len (by simp[bT]),hx cap (by simp[bT])]
end
end Go.Av
end
section
namespace Go.Av
section
variable {P:Program} {N:Nat} {o:Oper} {t:Tm} {h:H} {en:Ent} {G:aM} {w:World}
theorem py {id n m:Nat} {c:Obj} {j:Nat} {o:Obj} (ho:(H.only (upd az id (some c)) [] n m).objs j=some o):j=id∧o=c:=by
 simp only[H.only,upd,az] at ho
 split at ho
 ·cases ho;exact ⟨‹_›,rfl⟩
 ·cases ho
theorem pz {id n m:Nat} {cs xs:List AV} {us:List Value} (R:aX G (.only (upd az id (some (.cells cs))) [] n m) w) (hn:¬G.dom n) (hr:aA G w xs us) (h1:∀v∈us,One v)
  {c:Array Value} {T0:TypeId} {fr0:Nat × Nat} (hc0:w.heap[G.ι id]? =some (.cells c T0 fr0)) (hl:cs.length+xs.length≤c.size):
  ∃w' G',(storeCells ⟨G.ι id,cs.length,none⟩ us 0).run P w= .ok () w'∧Trans G w (.only (upd az id (some (.cells cs))) [] n m) G' w' (.only (upd az n (some (.cells (cs++xs)))) [] (n+1) m)∧aX G' (.only (upd az n (some (.cells (cs++xs)))) [] (n+1) m) w'∧
   G'.dom n∧G'.ι n=G.ι id∧∃c' T' fr',w'.heap[G.ι id]? =some (.cells c' T' fr')∧c'.size=c.size:=by
 have hme:(H.only (upd az id (some (.cells cs))) [] n m).objs id=some (.cells cs):=by simp[H.only,upd]
 obtain ⟨d1,d2,d3,-⟩:=R.obj id _ hme
 obtain ⟨vs,rest,T,fr,hg,hvs,hfr,hone⟩:=fq R hme
 have hlen:=hvs.length
 have hul:=hr.length
 have hcs:c.size=vs.length+rest.length:=by
  rw[hg] at hc0
  cases hc0
  simp
 have hc:∀j,w.cell? ⟨G.ι id,j,none⟩=(vs++rest)[j]? :=by
  intro j;unfold World.cell?;simp only[hg];simp
 have hcell:∀j,j<us.length→(w.cell? ⟨G.ι id,cs.length+0+j,none⟩).isSome=true:=fun j hj=>by rw[hc];simp;omega
 have hfrz:∀j,j<us.length→w.frozen? ⟨G.ι id,cs.length+0+j,none⟩=false:=fun j hj=>by
  unfold World.frozen?;simp only[hg]
  have:¬(fr.1≤cs.length+0+j∧cs.length+0+j<fr.2):=fun h=>by omega
  simpa using this
 have honec:∀v∈us,v.oneCell'=true:=fun v hv=>by
  obtain ⟨k1,k2⟩:=h1 v hv
  cases v with
  |agg a=>exact absurd rfl (k1 a)
  |tuple a=>exact absurd rfl (k2 a)
  |_=>rfl
 have hrun:=run_storeCells_cells (P:=P) (G.ι id) cs.length us 0 w hcell hfrz honec
 rw[Nat.add_zero] at hrun
 obtain ⟨a1,a2,a3,a4,a5⟩:=bJ (G.ι id) T fr us cs.length (vs++rest) w hg ak
 have ecur:(vs++rest).take cs.length++us++(vs++rest).drop (cs.length+us.length)=(vs++us)++rest.drop us.length:=by
  rw[List.take_append_of_le_length ab,List.take_of_length_le ab,List.drop_append,List.drop_of_length_le ab,hlen,List.nil_append]
  congr 2;omega
 rw[ecur] at a1
 clear hcell hfrz honec
 generalize w.setCells (G.ι id) cs.length us=w1 at*
 let G':aM:={G with dom:=fun j=>G.dom j∨j=n,ι:=upd G.ι n (G.ι id)}
 have hιn:G'.ι n=G.ι id:=by simp[G',upd]
 have hι:∀j,G.dom j→G'.ι j=G.ι j:=fun j hj=>by
  simp only[G',upd];rw[if_neg];rintro rfl;exact hn hj
 refine ⟨w1,G',hrun,?_⟩
 have T1:Trans G w (.only (upd az id (some (.cells cs))) [] n m) G' w1 (.only (upd az n (some (.cells (cs++xs)))) [] (n+1) m):=by
  constructor
  ·exact fun _ x=> .inl x
  ·rintro j (x|rfl)
   ·exact .inl x
   ·exact .inr ⟨by simp[H.only],by simp[H.only]⟩
  ·exact hι
  ·exact fun _ x=>x
  ·exact fun _=> .inl
  ·exact fun _ _=>rfl
  ·simp[H.only]
  ·exact Nat.le_refl _
  ·rw[a3];exact Nat.le_refl _
  ·exact a4
  ·exact a5
  ·intro B hB
   by_cases hBi:B=G.ι id
   ·subst hBi
    rw[a1,hg]
    exact ⟨_,_,rfl,by simp;omega,fun _ _ h=>h⟩
   ·rw[a2 B hBi];exact bQ.refl _
  ·intro B hB hO _
   exact a2 B fun e=>hO ⟨id,_,hme,e.symm⟩
  ·exact fun _ _ _=>Iff.rfl
  ·exact fun _ _ _ _=>rfl
  ·rintro B hB ⟨t,ht,_⟩;simp[H.only] at ht
  ·rintro B hB ⟨j,o,ho,e⟩
   obtain ⟨rfl,rfl⟩:=py ho
   exact ⟨id,_,hme,by rw[←e,hιn]⟩
  ·rintro B hB ⟨t,ht,_⟩;simp[H.only] at ht
  ·intro j o ho
   obtain ⟨rfl,rfl⟩:=py ho
   exact .inr ⟨by simp[H.only],by simp[H.only]⟩
  ·intro t ht;simp[H.only] at ht
 refine ⟨T1,⟨?_,?_,?_,?_⟩,.inr rfl,hιn,_,T,fr,a1,?_⟩
 ·intro j o ho
  obtain ⟨rfl,rfl⟩:=py ho
  refine ⟨.inr rfl,by rw[hιn];exact d2,by rw[hιn,a3];exact d3,?_⟩
  rw[hιn,a1]
  refine ⟨_,_,T,fr,rfl,(aA.mono R T1 _ _ hvs).append (aA.mono R T1 _ _ hr),hfr,?_⟩
  intro v hv
  rcases List.mem_append.1 hv with hv|hv
  ·exact hone v hv
  ·exact h1 v hv
 ·intro j j' o o' ho ho' _
  rw[(py ho).1,(py ho').1]
 ·intro t ht;simp[H.only] at ht
 ·intro t ht;simp[H.only] at ht
 ·simp;omega
theorem Trans.ED {id n m:Nat} {c:Obj} {G':aM} {w':World} {h':H} (T:Trans G w (.only az [] n m) G' w' h'):Trans G w (.only (upd az id (some c)) [] n m) G' w' h':=by
 constructor
 ·exact T.dom_le
 ·exact T.dom_new
 ·exact T.ι_eq
 ·exact T.tdom_le
 ·exact T.tdom_new
 ·exact T.τ_eq
 ·exact T.n_le
 ·exact T.m_le
 ·exact T.size_le
 ·exact T.os
 ·exact T.output
 ·exact T.form
 ·exact fun B hB _ _=>T.keep B hB (eX B) (oM B)
 ·exact fun B hB _=>T.own_keep B hB (eX B)
 ·exact fun B hB _ _=>T.lim_keep B hB (eX B) (oM B)
 ·exact fun B hB x=>absurd x (oM B)
 ·exact fun B hB x=>absurd (T.O_new B hB x) (eX B)
 ·exact fun B hB x=>absurd (T.T_new B hB x) (oM B)
 ·intro j o ho
  rcases T.objs_new j o ho with ⟨o',x⟩|x
  ·simp[H.only,az] at x
  ·exact .inr x
 ·exact T.toks_new
theorem vR (h:H) {id:Nat} {ob ob':Obj} (ho:h.objs id=some ob):Touch h (.only (upd az id (some ob)) [] h.n h.m) (.only (upd az h.n (some ob')) [] (h.n+1) h.m) {h with objs:=upd (fun j=>if j=id then none else h.objs j) h.n (some ob'),n:=h.n+1} ⟨[],[id,h.n],[]⟩ where
 sub:=⟨fun j o hj=>by obtain ⟨rfl,rfl⟩:=py hj;exact ho,fun t ht=>by simp[H.only] at ht⟩
 n:=rfl
 m:=rfl
 eq:=by
  refine H.ext (fun j=>?_) rfl (by simp[H.patch,H.only];exact (List.filter_eq_self.2 fun _ _=>rfl).symm) rfl
  simp only[H.patch,H.only,upd,az]
  by_cases e1:j=h.n
  ·subst e1;simp
  ·by_cases e2:j=id
   ·subst e2;simp[e1]
   ·have:¬(h.n≤j∧j<h.n+1):=by omega
    simp[e1,e2,this]
 rd j x:=by
  right
  simp only[H.only,upd,az] at x
  split at x
  ·rename_i e;simp[e]
  ·simp at x
 wr j a b:=by simp only[H.only] at a b;simp;omega
 chg j x hx:=by
  simp only[H.only,upd,az] at x
  split at x
  ·rename_i e;subst e;simp at hx
  ·simp at x
 tk t x:=by simp[H.only] at x
 tn t x:=by simp[H.only] at x
 le:=by simp[H.only]
 lem:=Nat.le_refl _
theorem Bx {c:Call} {zs zx:Operand} {ys yx:Opd} {T U e:TypeId} {d:TypeDesc} {i:TypeInfo} {id len:Nat} {cap:Option Nat} {cs els:List AV} (hop:o.op= .call c) (hc:c.callee= .builtin .append) (ha:c.args.toList=[zs,zx]) (hta:c.argTypes.toList=[T,U])
  (hT:P.underlying T=some (.slice e)) (hU:P.underlying U=some d) (hd:(∃e',d= .slice e')∨d= .string) (hi:P.info? e=some i) (hz:i.zero.any (fun z=>z.cells.size == i.size)=true) (hsz:0<i.size)
  (hys:opd P T zs=some ys) (hyx:opd P U zx=some yx) (hs:ev t ys= .tsl i.size id 0 len cap) (ho:h.objs id=some (.cells cs)) (hcl:cs.length=len*i.size) (hx:∃s' c',ev t yx= .sl s' els c'∧s'=i.size) (hsh:els.all shaped=true)
  (hb:(len+els.length)*i.bytes≤140737488355328) (hlen:len+els.length<4611686018427387904):
  Loc P o t h (.tsl i.size h.n 0 (len+els.length) none) {h with objs:=upd (fun j=>if j=id then none else h.objs j) h.n (some (.cells (cs++els.flatMap cellsOf))),n:=h.n+1} ⟨[],[id,h.n],[]⟩:=by
 have ha':c.args= #[zs,zx]:=by rw[←Array.toArray_toList (xs:=c.args),ha]
 have hta':c.argTypes= #[T,U]:=by rw[←Array.toArray_toList (xs:=c.argTypes),hta]
 obtain ⟨z,hz1,hz2⟩:∃z,i.zero=some z∧z.cells.size=i.size:=by
  cases hzz:i.zero with
  |none=>rw[hzz] at hz;simp at hz
  |some z=>rw[hzz] at hz;exact ⟨z,rfl,by simpa using hz⟩
 refine ⟨_,_,vR h ho,fun G w a ht R F=>?_⟩
 have r1:=aG hys ht
 have r2:=aG hyx ht
 rw[hs] at r1
 obtain ⟨s',c',hx,hs'⟩:=hx
 rw[hx] at r2
 obtain ⟨news,n1,n2,n3⟩:=gF (P:=P) (.inl hs') r2
 have hnl:=n2.length
 have hnr:=fc n2 hsh
 have hnrl:=hnr.length
 have hdn:¬G.dom h.n:=F.1 h.n (by simp[H.only]) (by simp[H.only])
 have hme:(H.only (upd az id (some (.cells cs))) [] h.n h.m).objs id=some (.cells cs):=by simp[H.only,upd]
 obtain ⟨d1,d2,d3,-⟩:=R.obj id _ hme
 obtain ⟨vs,rest,T0,fr,hg,hvs,hfr,hone⟩:=fq R hme
 have hvl:=hvs.length
 have hmul:(len+els.length)*i.size=len*i.size+els.length*i.size:=Nat.add_mul _ _ _
 have fin:∀v w' G',(execOp a.eval o).run P w= .ok (.value v) w'→Trans G w (.only (upd az id (some (.cells cs))) [] h.n h.m) G' w' (.only (upd az h.n (some (.cells (cs++els.flatMap cellsOf)))) [] (h.n+1) h.m)→aX G' (.only (upd az h.n (some (.cells (cs++els.flatMap cellsOf)))) [] (h.n+1) h.m) w'→aw G' w' (.tsl i.size h.n 0 (len+els.length) none) v→
   ∃nx v w' G',(execOp a.eval o).run P w= .ok nx w'∧(nx= .value v∨nx= .skip∧v=undef)∧Trans G w (.only (upd az id (some (.cells cs))) [] h.n h.m) G' w' (.only (upd az h.n (some (.cells (cs++els.flatMap cellsOf)))) [] (h.n+1) h.m)∧aX G' (.only (upd az h.n (some (.cells (cs++els.flatMap cellsOf)))) [] (h.n+1) h.m) w'∧aw G' w' (.tsl i.size h.n 0 (len+els.length) none) v:=
  fun v w' G' a b c d=>⟨_,v,w',G',a,.inl rfl,b,c,d⟩
 have hex:∀{va vx r:Value} {w':World},a.eval zs=va→(Builtin.append_ #[T,U] o.type #[va,a.eval zx]).run P w= .ok r w'→(execOp a.eval o).run P w= .ok (.value r) w':=by
  intro va vx r w' h1 h2
  simp[execOp,hop,resolve,hc,ha',hta',invoke,builtin,h1,h2]
 simp only[aw] at r1
 obtain ⟨-,⟨C,c1,T1,fr1,hv,⟨hC,hC2⟩,-,hg1,hroom⟩|⟨rfl,⟨a0,hv⟩,-⟩⟩:=r1
 ·have hc1:c1.size=vs.length+rest.length:=by rw[hg] at hg1;cases hg1;simp
  by_cases hfit:len+els.length≤C
  ·have hCs:(len+els.length)*i.size≤C*i.size:=Nat.mul_le_mul_right _ hfit
   obtain ⟨w',G',q1,q2,q3,q4,q5,c',T',fr',q6,q7⟩:=pz (P:=P) R hdn hnr n3 hg1 ab
   have hst:(storeCells ((⟨G.ι id,0,none⟩:Addr).add (len*i.size)) news).run P w= .ok () w':=by
    have e:(⟨G.ι id,0,none⟩:Addr).add (len*i.size)=⟨G.ι id,cs.length,none⟩:=by rw[add_plain,hcl,Nat.zero_add]
    rw[e];exact q1
   refine fin _ w' G' (hex (vx:= .nilIface) hv (run_append_fits (ty:=o.type) hT hU hd hi n1 hfit hst)) q2 q3 ?_
   unfold aw
   refine ⟨q4,.inl ⟨C,c',T',fr',by rw[q5],⟨hfit,hC2⟩,(fun _ h=>by cases h),by rw[q5];exact q6,ab⟩⟩
  ·have hsrc:Src P w i.size (.slice (some ⟨G.ι id,0,none⟩) len C) len vs:=by
    refine ⟨by simp[Builtin.lenOf],fun w' hw=>?_⟩
    have:=run_loadCells_list (P:=P) w' ⟨G.ι id,0,none⟩ vs (fun j u hu=>by
     rw[add_plain,cell_of_heap hw]
     unfold World.cell?
     simp only[hg]
     have hj:=(List.getElem?_eq_some_iff.1 hu).1
     simp[List.getElem?_append_left hj,hu])
    simp only[Builtin.firstCells]
    rw[←hcl,←hvl];exact this
   obtain ⟨w',C',rest',e1,e2,e3,e4⟩:=eM (ty:=o.type) hT hU hd hi hz1 hz2 hsz n1 hsrc hfit hC hb hlen
   obtain ⟨G',T2,R2,V⟩:=mf (m:=h.m) (sz:=i.size) (cs:=cs++els.flatMap cellsOf) e2 (hvs.append hnr) (fun u hu=>by
    rcases List.mem_append.1 hu with h|h
    ·exact hone u h
    ·exact n3 u h) hdn e3 (by simp only[List.length_append];omega)
   exact fin _ w' G' (hex (vx:= .nilIface) hv e1) T2.ED R2 V
 ·by_cases hk:els=[]
  ·subst hk
   have hnn:news=[]:=by simpa [aH] using n2
   subst hnn
   have hcs0:cs=[]:=by
    cases cs with
    |nil=>rfl
    |cons x l=>simp at hcl
   subst hcs0
   obtain ⟨w',G',q1,q2,q3,q4,q5,-⟩:=pz (P:=P) (xs:=[]) (us:=[]) R hdn .nil af hg af
   have hw':w'=w:=by simpa [storeCells] using q1.symm
   subst hw'
   refine fin _ w' G' (hex (vx:= .nilIface) hv (run_append_fits (ty:=o.type) hT hU hd hi n1 (Nat.le_refl _) (w':=w') (by cases a0<;>rfl))) q2 q3 ?_
   unfold aw
   exact ⟨q4,.inr ⟨rfl,⟨a0,rfl⟩,fun _ h=>by cases h⟩⟩
  ·have hpos:0<els.length:=List.length_pos_iff.2 hk
   have hcs0:cs=[]:=by
    cases cs with
    |nil=>rfl
    |cons x l=>simp at hcl
   subst hcs0
   obtain ⟨w',C',rest',e1,e2,e3,e4⟩:=eM (ty:=o.type) hT hU hd hi hz1 hz2 hsz n1 (iX (some a0)) ab (Nat.le_refl _) (by simpa using hb) (by simpa using hlen)
   rw[List.nil_append] at e2
   obtain ⟨G',T2,R2,V⟩:=mf (m:=h.m) (sz:=i.size) e2 hnr n3 hdn e3 ab
   exact fin _ w' G' (hex (vx:= .nilIface) hv e1) T2.ED R2 V
def mz (ρ:Opd→AV) (h:H):AOp→Option (AV × H × Ent)
 | .app false sz bytes s x=>match ρ s,ρ x with
  | .tsl z id 0 len _,.sl s' els _=>match h.objs id with
   |some (.cells cs)=>if z=sz∧s'=sz∧cs.length=len*sz∧els.all shaped=true∧(len+els.length)*bytes≤140737488355328∧len+els.length<4611686018427387904 then
     some (.tsl sz h.n 0 (len+els.length) none,{h with objs:=upd (fun j=>if j=id then none else h.objs j) h.n (some (.cells (cs++els.flatMap cellsOf))),n:=h.n+1},⟨[],[id,h.n],[]⟩) else none
   |_=>none
  |_,_=>none
 |_=>none
theorem By {op:AOp} {x:AV} {h':H} (hc:cOp P o=some op) (hx:mz (ev t) h op=some (x,h',en)):Loc P o t h x h' en:=by
 cases op<;>(try (simp [mz] at hx;done))
 case app str sz bytes s x0=>
  cases str<;>(try (simp [mz] at hx;done))
  obtain ⟨c,zs,zx,T,U,e,e',i,hop,hcal,ha,hta,hys,hyx,hT,hU,hi,hs1,hs2,rfl,rfl⟩:=xC hc
  simp only[mz] at hx
  split at hx
  ·split at hx
   ·split at hx
    ·rename_i hq
     obtain ⟨q1,q2,q3,q4,q5,q6⟩:=hq
     subst q1
     cases hx
     exact Bx hop hcal ha hta hT hU (.inl ⟨_,rfl⟩) hi hs2 hs1 hys hyx ‹_› ‹_› q3 ⟨_,_,‹_›,q2⟩ q4 q5 q6
    ·cases hx
   ·cases hx
  ·cases hx
theorem vS {ρ ρ':Opd→AV} {op:AOp} (hx:∀y∈bT op,ρ y=ρ' y):mz ρ h op=mz ρ' h op:=by
 cases op<;>(try rfl)
 case app str sz bytes s x0=>
  cases str
  ·simp only[mz,hx s (by simp[bT]),hx x0 (by simp[bT])]
  ·rfl
theorem zA {ops:Array Oper} {i:Nat} {o:Oper} {it:aP} {t:Tm} {h h':H} {x:AV} {en:Ent} (ho:ops[i]? =some o) (hit:bR P N ops o=some it) (hg:guardOf t it.guard=some true) (hx:mz (ev t) h it.op=some (x,h',en)):
  ∃h1 h1',Touch h h1 h1' h' en∧gz P ops i o t h1 x h1':=by
 unfold bR at hit
 split at hit
 ·rename_i op g hop hgd
  split at hit<;>cases hit
  rename_i hcond
  simp only[Bool.and_eq_true] at hcond
  have hop:=fk hop (by rintro rfl;simp[mz] at hx) (by cases op<;>first|rfl|(simp [mz] at hx))
  have hx':mz (ev (jb (names ops o) t)) h op=some (x,h',en):=by
   rw[vS (jC hcond.2)];exact hx
  obtain ⟨h1,h1',tc,loc⟩:=By hop hx'
  refine ⟨h1,h1',tc,fun G w a ht R F K Q hK ro=>?_⟩
  obtain ⟨nx,v,w',G',e1,e2,T1,R1,V⟩:=loc G w a (fz ht) R F
  unfold wpOpIn
  rw[ho]
  simp only[dc hgd ht hg,if_true]
  refine ⟨fun _ _=>trivial,?_⟩
  rw[Oper.semAt_eq _ _ _ (eQ hop),e1]
  rcases e2 with rfl|⟨rfl,rfl⟩
  ·rw[Oper.uponIn_value];exact hK G' w' v T1 R1 V
  ·rw[Oper.uponIn_skip];exact hK G' w' undef T1 R1 V
 ·cases hit
theorem ao.opK {dst:Option Nat} {g:Option (Nat × Bool)} {op:AOp} {its:List aP} {t:Tm} {h h':H} {log:List Ent} {en:Ent} {K:Tm→H→List Ent→Prop} {x:AV} (hg:guardOf t g=some true) (hx:mz (ev t) h op=some (x,h',en)) (ht:cy op=true)
  (rest:ao P N its (cg t dst x) h' (en::log) K):ao P N (⟨dst,g,op⟩::its) t h log K:=by
 intro ops i hi hc
 obtain ⟨o,ho,hit,hi',hc'⟩:=cS hi hc
 obtain ⟨h1,h1',tc,run⟩:=zA ho hit hg hx
 obtain ⟨recs,t',hh',ch,hk,hen⟩:=rest ops (i+1) hi' hc'
 have hdst:dst=o.dst:=by
  unfold bR at hit
  split at hit
  ·split at hit<;>cases hit;rfl
  ·cases hit
 refine ⟨⟨t,h,h1,h1',h',x,en⟩::recs,t',hh',.cons ho rfl rfl tc (fun _=>run) (by rw[←hdst];exact ch),by simpa using hk,?_⟩
 intro k r it' hr hit' ht'
 cases k with
 |zero=>
  simp at hr hit';subst hr hit'
  rw[ht] at ht';cases ht'
 |succ k=>simp at hr hit';exact hen k r it' hr hit' ht'
end
end Go.Av
end
section
namespace Go.Av
theorem je {d:List (Nat × List UInt8)} (ok:∀x∈d,x.2.length=128) (i:Nat):(dU d i).length=128:=by
 induction d with
 |nil=>simp[dU]
 |cons x d ih=>
  simp only[dU]
  split
  ·exact ok x af
  ·exact ih fun y hy=>ok y (by simp[hy])
theorem jg (d:List (Nat × List UInt8)) (i j:Nat) (l:List UInt8):dU ((i,l)::d) j=if j=i then l else dU d j:=by
 simp only[dU]
 by_cases h:j=i
 ·subst h;simp
 ·rw[if_neg h]
  have:Nat.beq i j=false:=by
   cases e:Nat.beq i j with
   |false=>rfl
   |true=>exact absurd (Nat.eq_of_beq_eq_true e).symm h
  rw[this]
def iE (n:Nat) (f:Nat→List AV):List AV:=((List.range n).map f).flatten
theorem gh {n i:Nat} (f:Nat→List AV) (h:i<n):iE n f=iE i f++f i++((List.range' (i+1) (n - (i+1))).map f).flatten:=by
 have e:List.range n=List.range i++[i]++List.range' (i+1) (n - (i+1)):=by
  rw[List.range_eq_range',List.range_eq_range']
  have:n=i+(1+(n - (i+1))):=by omega
  conv=>lhs;rw[this,←List.range'_append_1,←List.range'_append_1]
  simp
 unfold iE
 rw[e]
 simp
theorem kG {f:Nat→List AV} {k:Nat} (hf:∀i,(f i).length=k) (n:Nat):(iE n f).length=n*k:=by
 induction n with
 |zero=>simp[iE]
 |succ n ih=>
  rw[gh f (Nat.lt_succ_self n)]
  simp[ih,hf,Nat.succ_mul]
theorem vT {f:Nat→List AV} {k n i:Nat} (hf:∀i,(f i).length=k) (h:i<n):part (i*k) (some k) (iE n f)=some (.agg (f i)):=by
 have hl:=kG hf n
 have hi:i*k+k≤n*k:=by rw[←Nat.succ_mul];exact Nat.mul_le_mul_right _ h
 unfold part
 simp only[hl,if_pos hi]
 have h1:=kG hf i
 rw[gh f h,List.append_assoc,List.drop_append_of_le_length ab,List.drop_eq_nil_of_le ab,List.nil_append,List.take_append_of_le_length (by rw[hf];omega),List.take_of_length_le (by rw[hf];omega)]
theorem DE {A F g B:List AV} (h:g.length=F.length):setAt (A++F++B) A.length g=A++g++B:=by
 unfold setAt
 rw[h,←List.length_append,List.drop_left,List.append_assoc A F B,List.take_left]
theorem zB {f g:Nat→List AV} {k n i:Nat} (hf:∀i,(f i).length=k) (h:i<n) (hl:(g i).length=k) (hg:∀j,j≠i→g j=f j):setAt (iE n f) (i*k) (g i)=iE n g:=by
 have h1:=kG hf i
 rw[gh f h,gh g h]
 have e1:iE i g=iE i f:=by
  unfold iE
  congr 1
  exact List.map_congr_left fun j hj=>hg j (by have:=List.mem_range.1 hj;omega)
 have e2:(List.range' (i+1) (n - (i+1))).map g=(List.range' (i+1) (n - (i+1))).map f:=List.map_congr_left fun j hj=>hg j (by have:=List.mem_range'_1.1 hj;omega)
 rw[e1,e2,←h1,DE (by rw[hl,hf])]
theorem mA (b:BK):dW b=iE b.n fun i=>ar (dU b.d i):=by
 unfold dW bkI iE tD
 rw[List.map_flatten,List.map_map]
 congr 1
 refine List.map_congr_left fun i _=>?_
 simp[u8I,ar,byte]
theorem vU {b:BK} (ok:lz b) (i:Nat):(ar (dU b.d i)).length=128:=by simp[ar,je ok i]
theorem DF {b:BK} (ok:lz b) {i:Nat} (h:i<b.n):part (i*128) (some 128) (dW b)=some (.agg (ar (dU b.d i))):=by
 rw[mA];exact vT (vU ok) h
theorem E6 {b:BK} (ok:lz b) {i:Nat} (h:i<b.n) {l:List UInt8} (hl:l.length=128):setAt (dW b) (i*128) (ar l)=dW ⟨b.n,(i,l)::b.d⟩:=by
 rw[mA,mA]
 have e:=zB (f:=fun i=>ar (dU b.d i)) (g:=fun j=>ar (dU ((i,l)::b.d) j)) (vU ok) h (by simp[jg,ar,hl]) fun j hj=>by simp[jg,hj]
 have e2:ar (dU ((i,l)::b.d) i)=ar l:=by simp[jg]
 rw[e2] at e
 exact e
theorem Gn {b:BK} (ok:lz b) {i:Nat} {l:List UInt8} (hl:l.length=128):lz ⟨b.n,(i,l)::b.d⟩:=by
 intro x hx
 simp only[List.mem_cons] at hx
 rcases hx with rfl|hx
 ·exact hl
 ·exact ok x hx
theorem Bz {b:BK} (ok:lz b):(dW b).length=b.n*128:=by rw[mA];exact kG (vU ok) _
theorem E7 (n:Nat):(List.replicate n (AV.agg (List.replicate 128 (.int .u8 0)))).flatMap cellsOf=dW ⟨n,[]⟩:=by
 rw[mA]
 induction n with
 |zero=>simp[iE]
 |succ n ih=>
  rw[List.replicate_succ',List.flatMap_append,ih,gh _ (Nat.lt_succ_self n)]
  simp[cellsOf,dU,ar,byte]
theorem E8 {G:aM} {w:World} {objs:Nat→Option Obj} {n m:Nat} {T:List Nat} {id:Nat} {b:BK} (R:aX G ⟨upd objs id (some (.bk b)),n,T,m⟩ w):lz b∧aX G ⟨upd objs id (some (.cells (dW b))),n,T,m⟩ w:=by
 have ok:lz b:=by
  have:=(R.obj id (.bk b) (by simp[upd])).2.2.2
  exact this.1
 refine ⟨ok,R.le ⟨fun j o' hj=>?_,fun t ht=>ht⟩⟩
 simp only[upd] at hj ⊢
 by_cases e:j=id
 ·rw[if_pos e] at hj ⊢
  cases hj
  exact ⟨_,rfl,by simp[dN]⟩
 ·rw[if_neg e] at hj ⊢
  exact ⟨o',hj,dN.refl _⟩
theorem xD {G:aM} {w:World} {objs:Nat→Option Obj} {n m:Nat} {T:List Nat} {id:Nat} {b:BK} (ok:lz b) (R:aX G ⟨upd objs id (some (.cells (dW b))),n,T,m⟩ w):aX G ⟨upd objs id (some (.bk b)),n,T,m⟩ w:=by
 refine R.le ⟨fun j o' hj=>?_,fun t ht=>ht⟩
 simp only[upd] at hj ⊢
 by_cases e:j=id
 ·rw[if_pos e] at hj ⊢
  cases hj
  exact ⟨_,rfl,by simp[dN,ok]⟩
 ·rw[if_neg e] at hj ⊢
  exact ⟨o',hj,dN.refl _⟩
theorem Trans.EE {G G':aM} {w w':World} {h1 h1' h2 h2':H} (T:Trans G w h1 G' w' h1') (e1:h1.n=h2.n) (e2:h1.m=h2.m) (e3:h1.toks=h2.toks) (e4:∀j,(h1.objs j).isSome=(h2.objs j).isSome) (f1:h1'.n=h2'.n) (f2:h1'.m=h2'.m) (f3:h1'.toks=h2'.toks) (f4:∀j,(h1'.objs j).isSome=(h2'.objs j).isSome):Trans G w h2 G' w' h2':=by
 have hO:∀G B,h1.O G B↔h2.O G B:=by
  intro G B
  constructor
  ·rintro ⟨id,o,ho,e⟩
   have:=e4 id;rw[ho] at this
   obtain ⟨o2,h⟩:=Option.isSome_iff_exists.1 this.symm
   exact ⟨id,o2,h,e⟩
  ·rintro ⟨id,o,ho,e⟩
   have:=e4 id;rw[ho] at this
   obtain ⟨o2,h⟩:=Option.isSome_iff_exists.1 this
   exact ⟨id,o2,h,e⟩
 have hO':∀G B,h1'.O G B↔h2'.O G B:=by
  intro G B
  constructor
  ·rintro ⟨id,o,ho,e⟩
   have:=f4 id;rw[ho] at this
   obtain ⟨o2,h⟩:=Option.isSome_iff_exists.1 this.symm
   exact ⟨id,o2,h,e⟩
  ·rintro ⟨id,o,ho,e⟩
   have:=f4 id;rw[ho] at this
   obtain ⟨o2,h⟩:=Option.isSome_iff_exists.1 this
   exact ⟨id,o2,h,e⟩
 have hT:∀G B,h1.T G B↔h2.T G B:=fun G B=>by unfold H.T;rw[e3]
 have hT':∀G B,h1'.T G B↔h2'.T G B:=fun G B=>by unfold H.T;rw[f3]
 exact {
  dom_le:=T.dom_le
  dom_new:=by rw[←e1,←f1];exact T.dom_new
  ι_eq:=T.ι_eq
  tdom_le:=T.tdom_le
  tdom_new:=by rw[←e2,←f2];exact T.tdom_new
  τ_eq:=T.τ_eq
  n_le:=by rw[←e1,←f1];exact T.n_le
  m_le:=by rw[←e2,←f2];exact T.m_le
  size_le:=T.size_le
  os:=T.os
  output:=T.output
  form:=T.form
  keep:=fun B hB a b=>T.keep B hB (fun x=>a ((hO _ _).1 x)) (fun x=>b ((hT _ _).1 x))
  own_keep:=fun B hB a=>T.own_keep B hB fun x=>a ((hO _ _).1 x)
  lim_keep:=fun B hB a b=>T.lim_keep B hB (fun x=>a ((hO _ _).1 x)) (fun x=>b ((hT _ _).1 x))
  tok_keep:=fun B hB a b=>T.tok_keep B hB ((hT _ _).2 a) fun x=>b ((hO _ _).1 x)
  O_new:=fun B hB a=>(hO _ _).1 (T.O_new B hB ((hO' _ _).2 a))
  T_new:=fun B hB a=>(hT _ _).1 (T.T_new B hB ((hT' _ _).2 a))
  objs_new:=fun j o ho=>by
   have:=f4 j;rw[ho] at this
   obtain ⟨o2,h⟩:=Option.isSome_iff_exists.1 this
   rcases T.objs_new j o2 h with ⟨o3,h3⟩|h3
   ·have:=e4 j;rw[h3] at this
    obtain ⟨o4,h⟩:=Option.isSome_iff_exists.1 this.symm
    exact .inl ⟨o4,h⟩
   ·rw[e1,f1] at h3;exact .inr h3
  toks_new:=by rw[←e3,←f3,←e2,←f2];exact T.toks_new}
theorem Local.bk {P:Program} {o:Oper} {t:Tm} {x:AV} {id n m:Nat} {b b':BK} (ok':lz b→lz b') (L:lz b→Local P o t (.only (upd az id (some (.cells (dW b)))) [] n m) x (.only (upd az id (some (.cells (dW b')))) [] n m)):
  Local P o t (.only (upd az id (some (.bk b))) [] n m) x (.only (upd az id (some (.bk b'))) [] n m):=by
 intro G w a ht R F
 obtain ⟨ok,R1⟩:=E8 R
 obtain ⟨nx,v,w',G',e1,e2,T,R2,V⟩:=L ok G w a ht R1 F
 have is:∀{o1 o2:Obj} (j:Nat),((upd az id (some o1)) j).isSome=((upd az id (some o2)) j).isSome:=by
  intro o1 o2 j
  simp only[upd]
  split<;>rfl
 exact ⟨nx,v,w',G',e1,e2,T.EE rfl rfl rfl is rfl rfl rfl is,xD (ok' ok) R2,V⟩
theorem Local.Gp {P:Program} {o:Oper} {t:Tm} {x:AV} {n m:Nat} {b:BK} (ok:lz b) (L:Local P o t (.only az [] n m) x (.only (upd az n (some (.cells (dW b)))) [] (n+1) m)):
  Local P o t (.only az [] n m) x (.only (upd az n (some (.bk b))) [] (n+1) m):=by
 intro G w a ht R F
 obtain ⟨nx,v,w',G',e1,e2,T,R2,V⟩:=L G w a ht R F
 refine ⟨nx,v,w',G',e1,e2,T.EE rfl rfl rfl (fun _=>rfl) rfl rfl rfl (fun j=>?_),xD ok R2,V⟩
 simp only[H.only,upd]
 split<;>rfl
end Go.Av
end
section
namespace Go.Av
section
variable {P:Program} {N:Nat} {o:Oper} {t:Tm} {h:H} {en:Ent} {G:aM} {w:World} {a:Act}
theorem BA (h:H) {id id':Nat} {ob ob' ob2:Obj} (hne:id'≠id) (ho:h.objs id=some ob) (ho2:h.objs id'=some ob2):
  Touch h (.only (upd (upd az id' (some ob2)) id (some ob)) [] h.n h.m) (.only (upd (upd az id' (some ob2)) id (some ob')) [] h.n h.m) {h with objs:=upd h.objs id (some ob')} ⟨[id'],[id],[]⟩ where
 sub:=⟨(fun j o x=>by
  simp only[H.only,upd,az] at x
  split at x
  ·rename_i e;subst e;rw[ho];exact x
  ·split at x
   ·rename_i e;subst e;rw[ho2];exact x
   ·cases x),fun t x=>by simp[H.only] at x⟩
 n:=rfl
 m:=rfl
 eq:=H.ext (fun j=>by
  simp only[H.patch,H.only,upd,az]
  by_cases e:j=id
  ·subst e;simp
  ·by_cases e2:j=id'
   ·subst e2;simp[e,ho2]
   ·simp[e,e2];omega) rfl (by simp[H.patch,H.only,eP]) rfl
 rd j x:=by
  simp only[H.only,upd,az] at x
  split at x
  ·rename_i e;subst e;simp
  ·split at x
   ·rename_i e;subst e;simp
   ·cases x
 wr j a b:=by simp only[H.only] at a b;omega
 chg j x hj:=by
  simp only[H.only,upd,az] at x ⊢
  split at x
  ·rename_i e;subst e;simp at hj
  ·rename_i e;simp[e]
 tk t x:=by simp[H.only] at x
 tn t x:=by simp[H.only] at x
 le:=Nat.le_refl _
 lem:=Nat.le_refl _
theorem DG {sz n:Nat} {xs:List Opd} (hc:dY P o=some (.raw (.slp sz n) xs)):∃ty z zlo zhi e y l h,o.op= .slice ty z zlo zhi none∧P.underlying ty=some (.array n e)∧(P.info? e).isSome=true∧sz=P.cellsOf e∧opd P 0 z=some y∧ir P zlo=some l∧ir P zhi=some h∧
  xs=[y,l.getD (.c (.int .i64 0)),h.getD (.c (.int .i64 n))]:=by
 unfold dY at hc
 repeat' split at hc
 all_goals first
  |(cases hc;done)
  |(simp at hc;done)
  |(rename_i hq;cases hc;exact ⟨_,_,_,_,_,_,_,_,‹_›,‹_›,hq,rfl,‹_›,‹_›,‹_›,rfl⟩)
theorem xE (ht:cK G w t a) {l:Option Operand} {yl:Option Opd} (hl:ir P l=some yl) {d:Int} {k:IntKind} {r:Int} (hr:ev t (yl.getD (.c (.int .i64 d)))= .int k r):(l.map a.eval=none∧r=d)∨l.map a.eval=some (.int k r):=by
 cases l with
 |none=>
  simp[ir] at hl
  subst hl
  simp only[Option.getD_none,ev] at hr
  cases hr
  exact .inl ⟨rfl,rfl⟩
 |some q=>
  simp only[ir,Option.map_eq_some_iff] at hl
  obtain ⟨b,hb,rfl⟩:=hl
  have rr:=aG hb ht
  simp only[Option.getD_some] at hr
  rw[hr] at rr
  simp only[aw] at rr
  exact .inr (by simp[rr])
theorem DH {sz n id off:Nat} {xs:List Opd} {cs:List AV} {k k':IntKind} {l u:Int} (hc:dY P o=some (.raw (.slp sz n) xs)) (hx:xs.map (ev t)=[.ptr id off,.int k l,.int k' u]) (ho:h.objs id=some (.cells cs)) (h0:0≤l) (h1:l≤u) (h2:u≤n) (hfit:off+n*sz≤cs.length) (hn:n≤9223372036854775807):
  Loc P o t h (.tsl sz id (off+l.toNat*sz) (u.toNat - l.toNat) (some (n - l.toNat))) h ⟨[id],[],[]⟩:=by
 obtain ⟨ty,z,zlo,zhi,e,y,lo,hi,hop,hu,hinf,rfl,hy,hlo,hhi,rfl⟩:=DG hc
 simp only[List.map_cons,List.map_nil,List.cons.injEq,and_true] at hx
 obtain ⟨x1,x2,x3⟩:=hx
 refine ⟨_,_,eG h ho,fun G w a ht R F=>?_⟩
 have r1:=aG hy ht
 rw[x1] at r1
 simp only[aw] at r1
 obtain ⟨hd,hv⟩:=r1
 have hme:(H.only (upd az id (some (.cells cs))) [] h.n h.m).objs id=some (.cells cs):=by simp[H.only,upd]
 obtain ⟨vs,rest,T0,fr,hg,hvs,hfr,hone⟩:=fq R hme
 have hvl:=hvs.length
 have hb:(Instr.sliceBounds false n n (zlo.map a.eval) (zhi.map a.eval) none).run P w= .ok (l.toNat,u.toNat,n) w:=by
  have eu:(u.toNat:Int)=u:=Int.toNat_of_nonneg ab
  unfold Instr.sliceBounds
  rcases xE ht hlo x2 with ⟨e1,rfl⟩|e1<;>rcases xE ht hhi x3 with ⟨e2,rfl⟩|e2<;>rw[e1,e2]
  ·simp
  ·simp[dp P w (show 0≤u by omega) h2]
  ·simp[dp P w h0 h1]
  ·simp[dp P w (show 0≤u by omega) h2,dp P w h0 (show l≤(u.toNat:Int) by omega)]
 have hrun:(execOp a.eval o).run P w= .ok (.value (.slice (some (if n=l.toNat then ⟨G.ι id,off,none⟩ else ⟨G.ι id,off+l.toNat*P.cellsOf e,none⟩)) (u.toNat - l.toNat) (n - l.toNat))) w:=by
  simp[execOp,hop,Instr.sliceAt,run_underlying hu,hv,Instr.sureAddr,hb,cJ P w e hinf,add_plain]
 refine ⟨_,_,w,G,hrun,.inl rfl,Trans.refl _ _ _,R,?_⟩
 unfold aw
 refine ⟨hd,?_⟩
 by_cases e1:n=l.toNat
 ·right
  rw[if_pos e1]
  refine ⟨ab,⟨⟨G.ι id,off,none⟩,?_⟩,fun k hk=>?_⟩
  ·have a1:u.toNat - l.toNat=0:=by omega
   have a2:n - l.toNat=0:=by omega
   rw[a1,a2]
  ·cases hk;omega
 ·left
  rw[if_neg e1]
  refine ⟨n - l.toNat,_,_,_,rfl,⟨ab,ab⟩,fun k hk=>by cases hk;rfl,hg,?_⟩
  have:l.toNat*P.cellsOf e+(n - l.toNat)*P.cellsOf e=n*P.cellsOf e:=by rw[←Nat.add_mul];congr 1;omega
  simp;omega
theorem xF {xs:List Opd} (hc:dY P o=some (.raw .cpy xs)):∃c x y T U e b1 b2,o.op= .call c∧c.callee= .builtin .copy∧c.args.toList=[x,y]∧c.argTypes.toList=[T,U]∧opd P T x=some b1∧opd P U y=some b2∧P.underlying T=some (.slice e)∧P.cellsOf e=1∧(P.info? e).isSome=true∧xs=[b1,b2]:=by
 unfold dY at hc
 repeat' split at hc
 all_goals first
  |(cases hc;done)
  |(simp at hc;done)
  |(rename_i hq;cases hc;exact ⟨_,_,_,_,_,_,_,_,‹_›,‹_›,‹_›,‹_›,‹_›,‹_›,‹_›,hq.1,hq.2,rfl⟩)
theorem DI {s k:Nat} {xs:List AV} {c:Cap} {v:Value} (hs:s=1∨xs=[]) (hall:xs.all aO=true) (hv:aw G w (.sl s xs c) v) (hk:k≤xs.length):
  (Builtin.lenOf v).run P w= .ok xs.length w∧∃news,(Builtin.firstCells 1 k v).run P w= .ok news.toArray w∧aA G w (xs.take k) news∧∀u∈news,One u:=by
 obtain ⟨news,⟨n1,n1'⟩,n2,n3⟩:=gF (P:=P) hs hv
 refine ⟨n1,news.take k,?_,(sn n2 hall).take k,fun u hu=>n3 u (List.mem_of_mem_take hu)⟩
 have hl:=(sn n2 hall).length
 simp only[aw] at hv
 rcases hv with ⟨rfl,⟨a0,rfl⟩,-⟩|⟨B,off,C,vs,rfl,hC,hvl,he,him,-⟩
 ·have:k=0:=by simpa using hk
  subst this
  simpa using (iX (P:=P) (w:=w) (sz:=1) a0).2 w rfl
 ·rcases hs with rfl|rfl
  ·have hev:news=vs:=by
    have:=n1' w rfl
    have h2:=run_loadCells_list (P:=P) w ⟨B,off,none⟩ vs (fun j u hu=>by rw[add_plain];exact (him j u hu).1)
    simp only[Builtin.firstCells] at this
    rw[←hvl,h2] at this
    injection this with e
    exact (congrArg Array.toList e).symm
   subst hev
   have:=run_loadCells_list (P:=P) w ⟨B,off,none⟩ (news.take k) (fun j u hu=>by
    rw[add_plain]
    exact (him j u (by
     have hj:=(List.getElem?_eq_some_iff.1 hu).1
     simp at hj
     rw[List.getElem?_take_of_lt ab] at hu
     exact hu)).1)
   simp only[Builtin.firstCells]
   rw[Nat.mul_one]
   have e2:(news.take k).length=k:=by simp;omega
   rw[e2] at this
   exact this
  ·have:k=0:=by simpa using hk
   subst this
   have:=run_loadCells_list (P:=P) w ⟨B,off,none⟩ [] (fun j u hu=>by simp at hu)
   simpa [Builtin.firstCells] using this
theorem BB {hh:H} {id off len k:Nat} {cap:Option Nat} {ds:List AV} {v:Value} (R:aX G hh w) (ho:hh.objs id=some (.cells ds)) (hl:off+len≤ds.length) (hv:aw G w (.tsl 1 id off len cap) v) (hk:k≤len):
  (Builtin.lenOf v).run P w= .ok len w∧∃news,(Builtin.firstCells 1 k v).run P w= .ok news.toArray w∧aA G w ((ds.drop off).take k) news∧∀u∈news,One u:=by
 obtain ⟨vs,rest,T0,fr,hg,hvs,hfr,hone⟩:=fq R ho
 have hvl:=hvs.length
 simp only[aw] at hv
 obtain ⟨-,⟨C,c0,T1,fr1,rfl,-⟩|⟨rfl,⟨a0,rfl⟩,-⟩⟩:=hv
 ·refine ⟨by simp[Builtin.lenOf],(vs.drop off).take k,?_,(hvs.drop off).take k,fun u hu=>hone u (List.mem_of_mem_drop (List.mem_of_mem_take hu))⟩
  have:=run_loadCells_list (P:=P) w ⟨G.ι id,off,none⟩ ((vs.drop off).take k) (fun j u hu=>by
   rw[add_plain]
   unfold World.cell?
   simp only[hg]
   have hj:=(List.getElem?_eq_some_iff.1 hu).1
   simp at hj
   rw[List.getElem?_take_of_lt ab,List.getElem?_drop] at hu
   simp[List.getElem?_append_left (show off+j<vs.length by omega),hu])
  simp only[Builtin.firstCells]
  rw[Nat.mul_one]
  have e2:((vs.drop off).take k).length=k:=by simp;omega
  rw[e2] at this
  exact this
 ·have:k=0:=by omega
  subst this
  refine ⟨by simp[Builtin.lenOf],[],?_,by simp[aA],by simp⟩
  simpa using (iX (P:=P) (w:=w) (sz:=1) (some a0)).2 w rfl
def stO (base:Option Addr) (news:List Value):Sem Unit:=match base with
 |some a=>storeCells a news
 |none=>pure ()
theorem ra {id n m off len k:Nat} {cap:Option Nat} {cs xs:List AV} {news:List Value} {v:Value} (R:aX G (.only (upd az id (some (.cells cs))) [] n m) w) (hv:aw G w (.tsl 1 id off len cap) v) (hr:aA G w xs news) (h1:∀u∈news,One u) (hk:xs.length=k) (hkl:k≤len) (hl:off+len≤cs.length):
  ∃base C w',v= .slice base len C∧(stO base news).run P w= .ok () w'∧Trans G w (.only (upd az id (some (.cells cs))) [] n m) G w' (.only (upd az id (some (.cells (setAt cs off xs)))) [] n m)∧aX G (.only (upd az id (some (.cells (setAt cs off xs)))) [] n m) w':=by
 simp only[aw] at hv
 obtain ⟨-,⟨C,c0,T1,fr1,rfl,-⟩|⟨rfl,⟨a0,rfl⟩,-⟩⟩:=hv
 ·obtain ⟨w',s1,T,R'⟩:=m8 (P:=P) (off:=off) R hr h1 ab
  exact ⟨_,_,w',rfl,s1,T,R'⟩
 ·have:xs=[]:=List.eq_nil_of_length_eq_zero ab
  subst this
  have:news=[]:=by simpa [aA] using hr
  subst this
  have e:setAt cs off []=cs:=by simp[setAt]
  rw[e]
  exact ⟨_,_,w,rfl,by simp[stO,storeCells],Trans.refl _ _ _,R⟩
theorem xG {c:Call} {x y:Operand} {T U e:TypeId} {base:Option Addr} {len C n k:Nat} {news:List Value} {w':World} (hop:o.op= .call c) (hcal:c.callee= .builtin .copy) (ha:c.args.toList=[x,y]) (hta:c.argTypes.toList=[T,U]) (hT:P.underlying T=some (.slice e)) (he:P.cellsOf e=1) (hinf:(P.info? e).isSome=true)
  (hx:a.eval x= .slice base len C) (hn:(Builtin.lenOf (a.eval y)).run P w= .ok n w) (hk:k=min n len) (hf:(Builtin.firstCells 1 k (a.eval y)).run P w= .ok news.toArray w) (hs:(stO base news).run P w= .ok () w'):
  (execOp a.eval o).run P w= .ok (.value (.int .i64 k)) w':=by
 have ha':c.args= #[x,y]:=by rw[←Array.toArray_toList (xs:=c.args),ha]
 have hta':c.argTypes= #[T,U]:=by rw[←Array.toArray_toList (xs:=c.argTypes),hta]
 have hk':Nat.min n len=k:=hk.symm
 cases base with
 |none=>
  simp[stO] at hs
  subst hs
  simp[execOp,hop,resolve,hcal,ha',hta',invoke,builtin,Builtin.copy_,run_underlying hT,hx,hn,hk',cJ P _ e hinf,he,hf,goInt]
 |some b=>
  simp only[stO] at hs
  simp[execOp,hop,resolve,hcal,ha',hta',invoke,builtin,Builtin.copy_,run_underlying hT,hx,hn,hk',cJ P _ e hinf,he,hf,goInt,hs]
theorem BC {xs:List Opd} {id off len:Nat} {cap:Option Nat} {s:Nat} {ys cs:List AV} {c:Cap} (hc:dY P o=some (.raw .cpy xs)) (hx:xs.map (ev t)=[.tsl 1 id off len cap,.sl s ys c]) (ho:h.objs id=some (.cells cs)) (hl:off+len≤cs.length) (hs:s=1∨ys=[]) (hall:ys.all aO=true):
  Loc P o t h (.int .i64 (min ys.length len:Nat)) {h with objs:=upd h.objs id (some (.cells (setAt cs off (ys.take (min ys.length len)))))} ⟨[],[id],[]⟩:=by
 obtain ⟨c0,x,y,T,U,e,b1,b2,hop,hcal,ha,hta,h1,h2,hT,he,hinf,rfl⟩:=xF hc
 simp only[List.map_cons,List.map_nil,List.cons.injEq,and_true] at hx
 obtain ⟨x1,x2⟩:=hx
 refine ⟨_,_,bV h ho,fun G w a ht R F=>?_⟩
 have r1:=aG h1 ht
 have r2:=aG h2 ht
 rw[x1] at r1
 rw[x2] at r2
 obtain ⟨n1,news,n2,n3,n4⟩:=DI (P:=P) (k:=min ys.length len) hs hall r2 (Nat.min_le_left _ _)
 obtain ⟨base,C,w',hv,hst,T1,R1⟩:=ra (P:=P) R r1 n3 n4 af (Nat.min_le_right ys.length len) hl
 exact ⟨_,_,w',G,xG hop hcal ha hta hT he hinf hv n1 rfl n2 hst,.inl rfl,T1,R1,by simp[aw]⟩
theorem BD {xs:List Opd} {id id' off off' len len':Nat} {cap cap':Option Nat} {ds cs:List AV} (hc:dY P o=some (.raw .cpy xs)) (hx:xs.map (ev t)=[.tsl 1 id off len cap,.tsl 1 id' off' len' cap']) (ho:h.objs id=some (.cells cs)) (ho2:h.objs id'=some (.cells ds)) (hne:id'≠id) (hl:off+len≤cs.length) (hl2:off'+len'≤ds.length):
  Loc P o t h (.int .i64 (min len' len:Nat)) {h with objs:=upd h.objs id (some (.cells (setAt cs off ((ds.drop off').take (min len' len)))))} ⟨[id'],[id],[]⟩:=by
 obtain ⟨c0,x,y,T,U,e,b1,b2,hop,hcal,ha,hta,h1,h2,hT,he,hinf,rfl⟩:=xF hc
 simp only[List.map_cons,List.map_nil,List.cons.injEq,and_true] at hx
 obtain ⟨x1,x2⟩:=hx
 refine ⟨_,_,BA h hne ho ho2,fun G w a ht R F=>?_⟩
 have r1:=aG h1 ht
 have r2:=aG h2 ht
 rw[x1] at r1
 rw[x2] at r2
 have hme2:(H.only (upd (upd az id' (some (.cells ds))) id (some (.cells cs))) [] h.n h.m).objs id'=some (.cells ds):=by simp[H.only,upd,hne]
 obtain ⟨n1,news,n2,n3,n4⟩:=BB (P:=P) (k:=min len' len) R hme2 hl2 r2 (Nat.min_le_left _ _)
 have hsub:(H.only (upd az id (some (.cells cs))) [] h.n h.m).sub (.only (upd (upd az id' (some (.cells ds))) id (some (.cells cs))) [] h.n h.m):=by
  refine ⟨fun j o hj=>?_,fun t ht=>by simp[H.only] at ht⟩
  obtain ⟨rfl,rfl⟩:=py hj
  simp[H.only,upd]
 obtain ⟨base,C,w',hv,hst,T1,R1⟩:=ra (P:=P) (R.sub hsub) r1 n3 n4 ak (Nat.min_le_right len' len) hl
 obtain ⟨R2,T2⟩:=frame R hsub rfl rfl R1 T1 (F.sub (Nat.le_refl _) (Nat.le_refl _) (Nat.le_refl _) (Nat.le_refl _))
 have e2:(H.only (upd (upd az id' (some (.cells ds))) id (some (.cells cs))) [] h.n h.m).patch (.only (upd az id (some (.cells cs))) [] h.n h.m) (.only (upd az id (some (.cells (setAt cs off ((ds.drop off').take (min len' len)))))) [] h.n h.m)= .only (upd (upd az id' (some (.cells ds))) id (some (.cells (setAt cs off ((ds.drop off').take (min len' len)))))) [] h.n h.m:=by
  refine H.ext (fun j=>?_) rfl (by simp[H.patch,H.only]) rfl
  simp only[H.patch,H.only,upd,az]
  by_cases e:j=id
  ·subst e;simp
  ·simp[e];omega
 rw[e2] at R2 T2
 exact ⟨_,_,w',G,xG hop hcal ha hta hT he hinf hv n1 rfl n2 hst,.inl rfl,T2,R2,by simp[aw]⟩
theorem Loc.full {x:AV} {h':H} (L:Loc P o t h x h' en):Local P o t h x h':=by
 obtain ⟨h1,h1',tc,loc⟩:=L
 intro G w a ht R F
 have e3:h'.n=h1'.n:=by rw[tc.eq];rfl
 have e4:h'.m=h1'.m:=by rw[tc.eq];rfl
 have e1:=tc.n
 have e2:=tc.m
 have l1:=tc.le
 have l2:=tc.lem
 have F1:cR G h1 h1':=F.sub ab ab ab ab
 obtain ⟨nx,v,w',G',q1,q2,T1,R1,V⟩:=loc G w a ht (R.sub tc.sub) F1
 obtain ⟨R2,T2⟩:=frame R tc.sub tc.n tc.m R1 T1 F1
 rw[←tc.eq] at R2 T2
 exact ⟨nx,v,w',G',q1,q2,T2,R2,V⟩
def unB:AV→Option UInt8
 | .int .u8 (.ofNat n)=>match Nat.ble n 255 with
  |true=>some (UInt8.ofNat n)
  |false=>none
 |_=>none
def sC:List AV→Option (List UInt8)
 |[]=>some []
 |x::l=>match unB x,sC l with
  |some b,some r=>some (b::r)
  |_,_=>none
theorem E9 {x:AV} {b:UInt8} (h:unB x=some b):x=byte b:=by
 unfold unB at h
 split at h
 ·split at h
  ·rename_i hn
   cases h
   have:=Nat.le_of_ble_eq_true hn
   simp[byte];omega
  ·cases h
 ·cases h
theorem sD:∀{l:List AV} {r:List UInt8},sC l=some r→l=ar r
 |[],r,h=>by simp[sC] at h;subst h;rfl
 |x::l,r,h=>by
  simp only[sC] at h
  split at h
  ·rename_i h1 h2
   cases h
   rw[E9 h1,sD h2];rfl
  ·cases h
def jJ (ρ:Opd→AV) (h:H):AOp→Option (AV × H × Ent)
 | .load (some 128) x=>match ρ x with
  | .ptr id off=>match h.objs id with
   |some (.bk b)=>if off%128=0∧off/128<b.n then some (.agg (ar (dU b.d (off/128))),h,⟨[id],[],[]⟩) else none
   |_=>none
  |_=>none
 | .store 128 x v=>match ρ x,ρ v with
  | .ptr id off,.agg cs=>match h.objs id,sC cs with
   |some (.bk b),some l=>if off%128=0∧off/128<b.n∧l.length=128 then some (.any,{h with objs:=upd h.objs id (some (.bk ⟨b.n,(off/128,l)::b.d⟩))},⟨[],[id],[]⟩) else none
   |_,_=>none
  |_,_=>none
 | .mksl sz bytes (.agg zs) len cap=>match ρ len,ρ cap with
  | .int _ l,.int _ c=>if sz=128∧0≤l∧l≤c∧c*bytes≤140737488355328∧c<9223372036854775808∧sC zs=some (List.replicate 128 0) then
    some (.tsl 128 h.n 0 l.toNat none,{h with objs:=upd h.objs h.n (some (.bk ⟨l.toNat,[]⟩)),n:=h.n+1},⟨[],[h.n],[]⟩) else none
  |_,_=>none
 |_=>none
theorem pB {op:AOp} {x:AV} {h':H} (hc:so P o=some op) (hx:jJ (ev t) h op=some (x,h',en)):Loc P o t h x h' en:=by
 unfold jJ at hx
 split at hx
 ·rename_i y
  have hc:=fk hc (by rintro ⟨⟩) rfl
  split at hx
  ·rename_i id off hy
   split at hx
   ·rename_i b hb
    split at hx
    ·rename_i hq
     cases hx
     refine ⟨_,_,eG h hb,Local.bk (fun x=>x) fun ok=>Loc.full (en:=⟨[id],[],[]⟩) (sj hc ?_)⟩
     have hp:=DF ok hq.2
     have ho:off/128*128=off:=by omega
     rw[ho] at hp
     simp only[aop,hy,H.only,upd,if_true,hp,Option.map_some]
    ·cases hx
   ·cases hx
  ·cases hx
 ·rename_i y z
  have hc:=fk hc (by rintro ⟨⟩) rfl
  split at hx
  ·rename_i id off cs hy hz
   split at hx
   ·rename_i b l hb hl
    split at hx
    ·rename_i hq
     obtain ⟨q1,q2,q3⟩:=hq
     cases hx
     have hl:=sD hl
     subst hl
     refine ⟨_,_,bV h hb,Local.bk (fun ok=>Gn ok q3) fun ok=>Loc.full (en:=⟨[],[id],[]⟩) (sj hc ?_)⟩
     have hp:=E6 ok q2 q3
     have ho:off/128*128=off:=by omega
     rw[ho] at hp
     have h1:(ar l).length=128:=by simp[ar,q3]
     have h2:off+128≤(dW b).length:=by rw[Bz ok];omega
     have h3:(ar l).all aO=true:=by simp[ar,byte,aO]
     have hz':cellsOf (ev t z)=ar l:=by rw[hz];rfl
     simp only[aop,hy,H.only,upd,if_true,hz',h1,h2,h3,and_self,hp,Option.some.injEq,Prod.mk.injEq,true_and,and_true]
     refine H.ext (fun j=>?_) rfl rfl rfl
     simp only[upd]
     split<;>rfl
    ·cases hx
   ·cases hx
  ·cases hx
 ·rename_i sz bytes zs len cap
  have hc:=fk hc (by rintro ⟨⟩) rfl
  split at hx
  ·rename_i kl l kc c hl hcc
   split at hx
   ·rename_i hq
    obtain ⟨rfl,q1,q2,q3,q4,q5⟩:=hq
    cases hx
    have q5:=sD q5
    have e0:ar (List.replicate 128 0)=List.replicate 128 (AV.int .u8 0):=by simp[ar,byte]
    rw[e0] at q5
    subst q5
    have sh:shaped (.agg (List.replicate 128 (.int .u8 0)))=true:=by simp[shaped,aO]
    refine ⟨_,_,ew h _,Local.Gp (fun x hx=>by simp at hx) (Loc.full (en:=⟨[],[h.n],[]⟩) (uk hc ?_))⟩
    rw[←E7]
    simp only[jI,hl,hcc,q1,q2,q3,q4,sh,and_self,if_true,H.only]
   ·cases hx
  ·cases hx
 ·cases hx
theorem lN {ρ ρ':Opd→AV} {op:AOp} (hx:∀y∈bT op,ρ y=ρ' y):jJ ρ h op=jJ ρ' h op:=by
 unfold jJ
 split
 ·rw[hx _ (by simp[bT])]
 ·rw[hx _ (by simp[bT]),hx _ (by simp[bT])]
 ·rw[hx _ (by simp[bT]),hx _ (by simp[bT])]
 ·rfl
def fB (ρ:Opd→AV) (h:H) (op:AOp):Option (AV × H × Ent):=
 match op with
 | .raw (.slp sz n) xs=>match xs.map ρ with
  |[.ptr id off,.int _ l,.int _ u]=>match h.objs id with
   |some (.cells cs)=>if 0≤l∧l≤u∧u≤n∧off+n*sz≤cs.length∧n≤9223372036854775807 then some (.tsl sz id (off+l.toNat*sz) (u.toNat - l.toNat) (some (n - l.toNat)),h,⟨[id],[],[]⟩) else none
   |_=>none
  |_=>none
 | .raw .cpy xs=>match xs.map ρ with
  |[.tsl s id off len _,.sl s' ys _]=>match h.objs id with
   |some (.cells cs)=>if s=1∧off+len≤cs.length∧(s'=1∨ys=[])∧ys.all aO then some (.int .i64 (min ys.length len:Nat),{h with objs:=upd h.objs id (some (.cells (setAt cs off (ys.take (min ys.length len)))))},⟨[],[id],[]⟩) else none
   |_=>none
  |[.tsl s id off len _,.tsl s' id' off' len' _]=>match h.objs id,h.objs id' with
   |some (.cells cs),some (.cells ds)=>if s=1∧s'=1∧id'≠id∧off+len≤cs.length∧off'+len'≤ds.length then some (.int .i64 (min len' len:Nat),{h with objs:=upd h.objs id (some (.cells (setAt cs off ((ds.drop off').take (min len' len)))))},⟨[id'],[id],[]⟩) else none
   |_,_=>none
  |_=>none
 | .mksl sz bytes zero len cap=>match jJ ρ h (.mksl sz bytes zero len cap) with
  |some r=>some r
  |none=>jI ρ h (.mksl sz bytes zero len cap)
 | .load n x=>jJ ρ h (.load n x)
 | .store n x v=>jJ ρ h (.store n x v)
 |_=>none
theorem BE {op:AOp} {x:AV} {h':H} {en:Ent} (hc:so P o=some op) (hx:fB (ev t) h op=some (x,h',en)):Loc P o t h x h' en:=by
 cases op<;>(try (simp [fB] at hx;done))
 case load n y=>exact pB hc hx
 case store n y z=>exact pB hc hx
 case mksl sz bytes zero len cap=>
  simp only[fB] at hx
  split at hx
  ·rename_i r hr
   cases hx
   exact pB hc hr
  ·exact uk (fk hc (by rintro ⟨⟩) rfl) hx
 case raw k xs=>
  have hc:=tX hc
  cases k<;>(try (simp [fB] at hx;done))
  case slp sz n=>
   simp only[fB] at hx
   split at hx
   ·split at hx
    ·split at hx
     ·rename_i hq
      cases hx
      exact DH hc ‹_› ‹_› hq.1 hq.2.1 hq.2.2.1 hq.2.2.2.1 hq.2.2.2.2
     ·cases hx
    ·cases hx
   ·cases hx
  case cpy=>
   simp only[fB] at hx
   split at hx
   ·split at hx
    ·split at hx
     ·rename_i hq
      obtain ⟨rfl,q2,q3,q4⟩:=hq
      cases hx
      exact BC hc ‹_› ‹_› q2 q3 q4
     ·cases hx
    ·cases hx
   ·split at hx
    ·split at hx
     ·rename_i hq
      obtain ⟨rfl,rfl,q3,q4,q5⟩:=hq
      cases hx
      exact BD hc ‹_› ‹_› ‹_› q3 q4 q5
     ·cases hx
    ·cases hx
   ·cases hx
theorem vV {ρ ρ':Opd→AV} {op:AOp} (hx:∀y∈bT op,ρ y=ρ' y):fB ρ h op=fB ρ' h op:=by
 cases op<;>(try rfl)
 case load n y=>exact lN hx
 case store n y z=>exact lN hx
 case mksl sz bytes zero len cap=>simp only[fB,vQ hx,lN hx]
 case raw k xs=>
  have e:xs.map ρ=xs.map ρ':=List.map_congr_left fun y hy=>hx y (by simpa [bT] using hy)
  cases k<;>(try rfl)<;>simp only[fB,e]
theorem um {ρ:Opd→AV} {op:AOp} {r:AV × H × Ent} (hx:fB ρ h op=some r):cy op=true:=by
 cases op<;>(try (simp [fB] at hx;done))<;>(try rfl)
 case raw k xs=>cases k<;>first|rfl|(simp [fB] at hx)
theorem vW {op:AOp} (h:so P o=some op) (hd:op≠ .dead):∀c,o.op≠ .defer c:=by
 simp only[so,Option.some.injEq] at h
 cases hc:cOp P o with
 |some q=>exact eQ hc
 |none=>
  rw[hc] at h
  simp only at h
  cases hb:dY P o with
  |some q=>exact pd hb
  |none=>rw[hb] at h;exact absurd h.symm hd
theorem rf {ops:Array Oper} {i:Nat} {o:Oper} {it:aP} {t:Tm} {h h':H} {x:AV} {en:Ent} (ho:ops[i]? =some o) (hit:bR P N ops o=some it) (hg:guardOf t it.guard=some true) (hx:fB (ev t) h it.op=some (x,h',en)):
  ∃h1 h1',Touch h h1 h1' h' en∧gz P ops i o t h1 x h1':=by
 unfold bR at hit
 split at hit
 ·rename_i op g hop hgd
  split at hit<;>cases hit
  rename_i hcond
  simp only[Bool.and_eq_true] at hcond
  have hx':fB (ev (jb (names ops o) t)) h op=some (x,h',en):=by
   rw[vV (jC hcond.2)];exact hx
  obtain ⟨h1,h1',tc,loc⟩:=BE hop hx'
  refine ⟨h1,h1',tc,fun G w a ht R F K Q hK ro=>?_⟩
  obtain ⟨nx,v,w',G',e1,e2,T1,R1,V⟩:=loc G w a (fz ht) R F
  unfold wpOpIn
  rw[ho]
  simp only[dc hgd ht hg,if_true]
  refine ⟨fun _ _=>trivial,?_⟩
  rw[Oper.semAt_eq _ _ _ (vW hop (by rintro rfl;simp[fB] at hx)),e1]
  rcases e2 with rfl|⟨rfl,rfl⟩
  ·rw[Oper.uponIn_value];exact hK G' w' v T1 R1 V
  ·rw[Oper.uponIn_skip];exact hK G' w' undef T1 R1 V
 ·cases hit
end
end Go.Av
end
section
namespace Go.Av
section
variable {P:Program} {N:Nat}
end
end Go.Av
end
section
namespace Go.Av
section
variable {P:Program} {N:Nat} {Q:aQ→St→Prop}
structure On (l0:List Fr) (n0 m0:Nat) (l:List Fr) (n:Nat) (T:List Nat) (m:Nat):Prop where
 gn:n0≤n
 gm:m0≤m
 ok:Ok l n T m
 wi:Wi l0 n0 l
 ki:Ki l0 m0 l
end
end Go.Av
end
section
namespace Go.Av
section
variable {P:Program} {N:Nat} {o:Oper} {t:Tm} {h:H} {en:Ent} {G:aM} {w:World}
end
end Go.Av
end
section
namespace Go.Av
section
variable {P:Program} {T:FT}
end
end Go.Av
end
section
namespace Go.Av
structure Hid (p:Prop):Prop where
 o:p
theorem cj2 {A0 A1:Prop} (a0:A0) (a1:A1):A0∧A1:=⟨a0,a1⟩
theorem cj3 {A0 A1 A2:Prop} (a0:A0) (a1:A1) (a2:A2):A0∧A1∧A2:=⟨a0,a1,a2⟩
theorem cj4 {A0 A1 A2 A3:Prop} (a0:A0) (a1:A1) (a2:A2) (a3:A3):A0∧A1∧A2∧A3:=⟨a0,a1,a2,a3⟩
theorem cj5 {A0 A1 A2 A3 A4:Prop} (a0:A0) (a1:A1) (a2:A2) (a3:A3) (a4:A4):A0∧A1∧A2∧A3∧A4:=⟨a0,a1,a2,a3,a4⟩
theorem cj6 {A0 A1 A2 A3 A4 A5:Prop} (a0:A0) (a1:A1) (a2:A2) (a3:A3) (a4:A4) (a5:A5):A0∧A1∧A2∧A3∧A4∧A5:=⟨a0,a1,a2,a3,a4,a5⟩
theorem cj7 {A0 A1 A2 A3 A4 A5 A6:Prop} (a0:A0) (a1:A1) (a2:A2) (a3:A3) (a4:A4) (a5:A5) (a6:A6):A0∧A1∧A2∧A3∧A4∧A5∧A6:=⟨a0,a1,a2,a3,a4,a5,a6⟩
theorem cj8 {A0 A1 A2 A3 A4 A5 A6 A7:Prop} (a0:A0) (a1:A1) (a2:A2) (a3:A3) (a4:A4) (a5:A5) (a6:A6) (a7:A7):A0∧A1∧A2∧A3∧A4∧A5∧A6∧A7:=⟨a0,a1,a2,a3,a4,a5,a6,a7⟩
theorem cj9 {A0 A1 A2 A3 A4 A5 A6 A7 A8:Prop} (a0:A0) (a1:A1) (a2:A2) (a3:A3) (a4:A4) (a5:A5) (a6:A6) (a7:A7) (a8:A8):A0∧A1∧A2∧A3∧A4∧A5∧A6∧A7∧A8:=⟨a0,a1,a2,a3,a4,a5,a6,a7,a8⟩
theorem oz {A0 A1 A2 A3 A4 A5 A6 A7 A8 A9:Prop} (a0:A0) (a1:A1) (a2:A2) (a3:A3) (a4:A4) (a5:A5) (a6:A6) (a7:A7) (a8:A8) (a9:A9):A0∧A1∧A2∧A3∧A4∧A5∧A6∧A7∧A8∧A9:=⟨a0,a1,a2,a3,a4,a5,a6,a7,a8,a9⟩
theorem sE {A0 A1 A2 A3 A4 A5 A6 A7 A8 A9 A10:Prop} (a0:A0) (a1:A1) (a2:A2) (a3:A3) (a4:A4) (a5:A5) (a6:A6) (a7:A7) (a8:A8) (a9:A9) (a10:A10):A0∧A1∧A2∧A3∧A4∧A5∧A6∧A7∧A8∧A9∧A10:=⟨a0,a1,a2,a3,a4,a5,a6,a7,a8,a9,a10⟩
theorem cP {A0 A1 A2 A3 A4 A5 A6 A7 A8 A9 A10 A11:Prop} (a0:A0) (a1:A1) (a2:A2) (a3:A3) (a4:A4) (a5:A5) (a6:A6) (a7:A7) (a8:A8) (a9:A9) (a10:A10) (a11:A11):A0∧A1∧A2∧A3∧A4∧A5∧A6∧A7∧A8∧A9∧A10∧A11:=⟨a0,a1,a2,a3,a4,a5,a6,a7,a8,a9,a10,a11⟩
theorem rn0 {F X Y:Prop} (f:F) (y:Y) (h:F→Hid Y→X:=by
 intro f y
 repeat (first
  |((first|apply Wp.zt|apply Wp.E5);(· simp only[go_sem,reduceIte,Nat.reduceEqDiff,Nat.reduceAdd,bx,ax,if_true,if_false,Nat.reduceMul,Nat.reduceLeDiff,f];exact rfl))
  |(refine ao.nil ⟨?_,?_⟩;(· first|trivial|simp[bg,aS,apart,aV]))
  |(apply Wp.cu;(· simp only[go_sem,reduceIte,Nat.reduceEqDiff,Nat.reduceAdd,bx,ax,if_true,if_false,Nat.reduceMul,Nat.reduceLeDiff,f];exact rfl);(· rfl))
  |refine Wp.skip ?_
  |refine Wp.label ?_
  |refine Wp.block ?_
  |refine Wp.exit ?_
  |refine Wp.seq ?_
  |exact y.1)):X:=h f ⟨y⟩
theorem an0 {F X Y:Prop} (f:F) (y:Y) (h:F→Hid Y→X:=by
 intro f y
 repeat (first
  |((first|apply Wp.seqItems|apply Wp.items);(· simp only[go_sem,reduceIte,Nat.reduceEqDiff,Nat.reduceAdd,bx,ax,if_true,if_false,Nat.reduceMul,Nat.reduceLeDiff,f];exact rfl))
  |(refine ao.nil ⟨?_,?_⟩;(· first|trivial|simp[bg,aS,apart,aV]))
  |(apply Wp.cu;(· simp only[go_sem,reduceIte,Nat.reduceEqDiff,Nat.reduceAdd,bx,ax,if_true,if_false,Nat.reduceMul,Nat.reduceLeDiff,f];exact rfl);(· rfl))
  |refine Wp.skip ?_
  |refine Wp.label ?_
  |refine Wp.block ?_
  |refine Wp.exit ?_
  |refine Wp.seq ?_
  |exact y.1)):X:=h f ⟨y⟩
theorem Gq {X Y:Prop} (y:Y) (h:Hid Y→X:=by
 intro y
 repeat (first
  |((first|apply Wp.seqItems|apply Wp.items);(· simp only[go_sem,reduceIte,Nat.reduceEqDiff,Nat.reduceAdd,bx,ax,if_true,if_false,Nat.reduceMul,Nat.reduceLeDiff];exact rfl))
  |(refine ao.nil ⟨?_,?_⟩;(· first|trivial|simp[bg,aS,apart,aV]))
  |(apply Wp.cu;(· simp only[go_sem,reduceIte,Nat.reduceEqDiff,Nat.reduceAdd,bx,ax,if_true,if_false,Nat.reduceMul,Nat.reduceLeDiff];exact rfl);(· rfl))
  |refine Wp.skip ?_
  |refine Wp.label ?_
  |refine Wp.block ?_
  |refine Wp.exit ?_
  |refine Wp.seq ?_
  |exact y.1)):X:=h ⟨y⟩
theorem an1 {F C0 X Y:Prop} (f:F) (c0:C0) (y:Y) (h:F→C0→Hid Y→X:=by
 intro f c0 y
 repeat (first
  |((first|apply Wp.seqItems|apply Wp.items|((first
   |(refine ao.bW ?_ ?_ c0 ?_;(· simp only[go_sem,reduceIte,Nat.reduceEqDiff,Nat.reduceAdd,bx]);(· simp only[go_sem,reduceIte,Nat.reduceEqDiff,Nat.reduceAdd,bx,List.map];first|exact ay.refl _|assumption|(repeat (first|exact ay.nil|refine ay.cons (by first|exact av.refl _|assumption|exact av.cap|exact av.any _) ?_)))));apply ao.eval));(· simp only[go_sem,reduceIte,Nat.reduceEqDiff,Nat.reduceAdd,bx,ax,if_true,if_false,Nat.reduceMul,Nat.reduceLeDiff,f];exact rfl))
  |(refine ao.nil ⟨?_,?_⟩;(· first|trivial|simp[bg,aS,apart,aV]))
  |(apply Wp.cu;(· simp only[go_sem,reduceIte,Nat.reduceEqDiff,Nat.reduceAdd,bx,ax,if_true,if_false,Nat.reduceMul,Nat.reduceLeDiff,f];exact rfl);(· rfl))
  |refine Wp.skip ?_
  |refine Wp.label ?_
  |refine Wp.block ?_
  |refine Wp.exit ?_
  |refine Wp.seq ?_
  |exact y.1)):X:=h f c0 ⟨y⟩
theorem an2 {F C0 C1 X Y:Prop} (f:F) (c0:C0) (c1:C1) (y:Y) (h:F→C0→C1→Hid Y→X:=by
 intro f c0 c1 y
 repeat (first
  |((first|apply Wp.seqItems|apply Wp.items|((first
   |(refine ao.bW ?_ ?_ c0 ?_;(· simp only[go_sem,reduceIte,Nat.reduceEqDiff,Nat.reduceAdd,bx]);(· simp only[go_sem,reduceIte,Nat.reduceEqDiff,Nat.reduceAdd,bx,List.map];first|exact ay.refl _|assumption|(repeat (first|exact ay.nil|refine ay.cons (by first|exact av.refl _|assumption|exact av.cap|exact av.any _) ?_))))
   |(refine ao.bW ?_ ?_ c1 ?_;(· simp only[go_sem,reduceIte,Nat.reduceEqDiff,Nat.reduceAdd,bx]);(· simp only[go_sem,reduceIte,Nat.reduceEqDiff,Nat.reduceAdd,bx,List.map];first|exact ay.refl _|assumption|(repeat (first|exact ay.nil|refine ay.cons (by first|exact av.refl _|assumption|exact av.cap|exact av.any _) ?_)))));apply ao.eval));(· simp only[go_sem,reduceIte,Nat.reduceEqDiff,Nat.reduceAdd,bx,ax,if_true,if_false,Nat.reduceMul,Nat.reduceLeDiff,f];exact rfl))
  |(refine ao.nil ⟨?_,?_⟩;(· first|trivial|simp[bg,aS,apart,aV]))
  |(apply Wp.cu;(· simp only[go_sem,reduceIte,Nat.reduceEqDiff,Nat.reduceAdd,bx,ax,if_true,if_false,Nat.reduceMul,Nat.reduceLeDiff,f];exact rfl);(· rfl))
  |refine Wp.skip ?_
  |refine Wp.label ?_
  |refine Wp.block ?_
  |refine Wp.exit ?_
  |refine Wp.seq ?_
  |exact y.1)):X:=h f c0 c1 ⟨y⟩
theorem an4 {F C0 C1 C2 C3 X Y:Prop} (f:F) (c0:C0) (c1:C1) (c2:C2) (c3:C3) (y:Y) (h:F→C0→C1→C2→C3→Hid Y→X:=by
 intro f c0 c1 c2 c3 y
 repeat (first
  |((first|apply Wp.seqItems|apply Wp.items|((first
   |(refine ao.bW ?_ ?_ c0 ?_;(· simp only[go_sem,reduceIte,Nat.reduceEqDiff,Nat.reduceAdd,bx]);(· simp only[go_sem,reduceIte,Nat.reduceEqDiff,Nat.reduceAdd,bx,List.map];first|exact ay.refl _|assumption|(repeat (first|exact ay.nil|refine ay.cons (by first|exact av.refl _|assumption|exact av.cap|exact av.any _) ?_))))
   |(refine ao.bW ?_ ?_ c1 ?_;(· simp only[go_sem,reduceIte,Nat.reduceEqDiff,Nat.reduceAdd,bx]);(· simp only[go_sem,reduceIte,Nat.reduceEqDiff,Nat.reduceAdd,bx,List.map];first|exact ay.refl _|assumption|(repeat (first|exact ay.nil|refine ay.cons (by first|exact av.refl _|assumption|exact av.cap|exact av.any _) ?_))))
   |(refine ao.bW ?_ ?_ c2 ?_;(· simp only[go_sem,reduceIte,Nat.reduceEqDiff,Nat.reduceAdd,bx]);(· simp only[go_sem,reduceIte,Nat.reduceEqDiff,Nat.reduceAdd,bx,List.map];first|exact ay.refl _|assumption|(repeat (first|exact ay.nil|refine ay.cons (by first|exact av.refl _|assumption|exact av.cap|exact av.any _) ?_))))
   |(refine ao.bW ?_ ?_ c3 ?_;(· simp only[go_sem,reduceIte,Nat.reduceEqDiff,Nat.reduceAdd,bx]);(· simp only[go_sem,reduceIte,Nat.reduceEqDiff,Nat.reduceAdd,bx,List.map];first|exact ay.refl _|assumption|(repeat (first|exact ay.nil|refine ay.cons (by first|exact av.refl _|assumption|exact av.cap|exact av.any _) ?_)))));apply ao.eval));(· simp only[go_sem,reduceIte,Nat.reduceEqDiff,Nat.reduceAdd,bx,ax,if_true,if_false,Nat.reduceMul,Nat.reduceLeDiff,f];exact rfl))
  |(refine ao.nil ⟨?_,?_⟩;(· first|trivial|simp[bg,aS,apart,aV]))
  |(apply Wp.cu;(· simp only[go_sem,reduceIte,Nat.reduceEqDiff,Nat.reduceAdd,bx,ax,if_true,if_false,Nat.reduceMul,Nat.reduceLeDiff,f];exact rfl);(· rfl))
  |refine Wp.skip ?_
  |refine Wp.label ?_
  |refine Wp.block ?_
  |refine Wp.exit ?_
  |refine Wp.seq ?_
  |exact y.1)):X:=h f c0 c1 c2 c3 ⟨y⟩
end Go.Av
end
section
namespace Go.Av
section
variable {P:Program}
end
end Go.Av
end
section
namespace Go.Av
section
variable {P:Program} {N:Nat}
end
end Go.Av
end
section
namespace Go.Av
theorem xOp {F Y X:Prop} (f:F) (y:Y) (h:F→Hid Y→X:=by
 intro f y
 refine bH.op (by simp only[go_sem,reduceIte,Nat.reduceEqDiff,Nat.reduceAdd,bx]) (by simp only[go_sem,reduceIte,Nat.reduceEqDiff,Nat.reduceAdd,bx,f];exact rfl) y.1):X:=h f ⟨y⟩
theorem sF {Y X:Prop} (y:Y) (h:Hid Y→X:=by
 intro y
 refine bH.op (by simp only[go_sem,reduceIte,Nat.reduceEqDiff,Nat.reduceAdd,bx]) (by simp only[go_sem,reduceIte,Nat.reduceEqDiff,Nat.reduceAdd,bx];exact rfl) y.1):X:=h ⟨y⟩
theorem cI {Y X:Prop} (y:Y) (h:Hid Y→X:=by
 intro y
 refine Wp.ret ⟨trivial,_,rfl,?_⟩
 simp only[go_sem,reduceIte,Nat.reduceEqDiff,Nat.reduceAdd,bx]
 exact y.1):X:=h ⟨y⟩
theorem xSu {X:Prop} (h:X:=by
 refine aK.tm (by simp only[aY,go_sem,reduceIte,Nat.reduceEqDiff,Nat.reduceAdd,bx];and_intros<;>first|exact trivial|exact av.refl _|exact av.any _|(refine av.int ?_;omega))):X:=h
theorem xSb {X:Prop} (h:X:=by
 simp only[aY,go_sem,reduceIte,Nat.reduceEqDiff,Nat.reduceAdd,bx];and_intros<;>first|exact trivial|exact av.refl _|exact av.any _|(refine av.int ?_;omega)):X:=h
theorem xA1 {X:Prop} (h:X:=by simp only[go_sem,reduceIte,Nat.reduceEqDiff,Nat.reduceAdd,bx];exact rfl):X:=h
theorem xA2 {X:Prop} (h:X:=by simp only[go_sem,reduceIte,Nat.reduceEqDiff,Nat.reduceAdd,bx]):X:=h
theorem xA4 {X:Prop} (h:X:=by simp only[go_sem,reduceIte,Nat.reduceEqDiff,List.map];exact ay.refl _):X:=h
theorem xA5 {X:Prop} (h:X:=by first|exact av.refl _|assumption|exact av.cap|exact av.any _):X:=h
theorem xA6 {X:Prop} (h:X:=by simp only[go_sem,reduceIte,Nat.reduceEqDiff,Nat.reduceAdd,bx,List.map];exact rfl):X:=h
theorem xA7 {X:Prop} (h:X:=by simp only[go_sem,reduceIte,Nat.reduceEqDiff,List.map];exact rfl):X:=h
theorem xAb {X:Prop} (h:X:=by simp only[go_sem,reduceIte,Nat.reduceEqDiff,Nat.reduceAdd,bx,List.map];exact ay.refl _):X:=h
theorem xAc {X:Prop} (h:X:=by simp only[go_sem,reduceIte,Nat.reduceEqDiff,Nat.reduceAdd,bx,ax,if_true,if_false,Nat.reduceMul,Nat.reduceLeDiff];exact rfl):X:=h
theorem xAd {F X:Prop} (f:F) (h:F→X:=by intro f;simp only[go_sem,reduceIte,Nat.reduceEqDiff,Nat.reduceAdd,bx,ax,if_true,if_false,Nat.reduceMul,Nat.reduceLeDiff,f];exact rfl):X:=h f
theorem xAe {F X:Prop} (f:F) (h:F→X:=by intro f;simp only[go_sem,reduceIte,Nat.reduceEqDiff,Nat.reduceAdd,bx,f];exact rfl):X:=h f
theorem ixF {j n:Nat} (h:j<n) (hn:n≤9223372036854775806):decide ((j:Int)<(n:Int))=true∧(0:Int)≤(j:Int)∧(j:Int)<(n:Int)∧IntKind.i64.wrap ((j:Int)+1)=((j+1:Nat):Int):=
 ⟨decide_eq_true ab,ab,ab,by rw[IntWalk.i64_in _ ab];omega⟩
theorem ixE (n:Nat):decide ((n:Int)<(n:Int))=false:=decide_eq_false ab
end Go.Av
end
section
namespace Go.Av
section
variable {P:Program} {N:Nat} {Q:aQ→St→Prop}
end
end Go.Av
end
section
namespace Go.Av
section
variable {P:Program} {G:aM} {h:H} {w:World}
end
end Go.Av
end
section
namespace Go.Av
section
variable {P:Program} {N:Nat} {Q:aQ→St→Prop}
theorem Trans.Gr {G G':aM} {w w':World} {h h':H} (T:Trans G w h G' w' h') {f:Nat→Option Obj} (hf:∀j o,f j=some o→∃o',h'.objs j=some o'):Trans G w h G' w' {h' with objs:=f}:=
 {T with
  O_new:=fun B hB x=>T.O_new B hB (by obtain ⟨id,o,ho,e⟩:=x;obtain ⟨o',ho'⟩:=hf _ _ ho;exact ⟨id,o',ho',e⟩)
  T_new:=fun B hB x=>T.T_new B hB x
  objs_new:=fun j o hj=>by obtain ⟨o',ho'⟩:=hf _ _ hj;exact T.objs_new j o' ho'
  n_le:=T.n_le
  m_le:=T.m_le
  dom_new:=T.dom_new
  tdom_new:=T.tdom_new
  toks_new:=T.toks_new}
end
end Go.Av
end
section
namespace Go.Av
namespace TR
variable {α:Type}
end TR
end Go.Av
end
section
namespace Go.Av
section
variable {P:Program} {N:Nat} {ops:Array Oper}
def mB (P:Program) (ops:Array Oper) (i:Nat) (o:Oper) (t:Tm) (h:H) (x:AV) (h':H):Prop:=
 (h.n≤h'.n∧h.m≤h'.m)∧∀G w a,cK G w t a→aX G h w→cR G h h'→∀(K:Act→World→Prop) Q,
  (∀G' w' v,Trans G w h G' w' h'→aX G' h' w'→aw G' w' x v→K (a.put o.dst v) w')→∀ro,wpOpIn (rd ro) 0 P ops Q i K a w
theorem mB.of {i:Nat} {o:Oper} {t:Tm} {h h1 h1' h':H} {x:AV} {en:Ent} (tc:Touch h h1 h1' h' en) (run:gz P ops i o t h1 x h1'):mB P ops i o t h x h':=by
 have e3:h'.n=h1'.n:=by rw[tc.eq];rfl
 have e4:h'.m=h1'.m:=by rw[tc.eq];rfl
 have e1:=tc.n
 have e2:=tc.m
 have l1:=tc.le
 have l2:=tc.lem
 refine ⟨⟨ab,ab⟩,fun G w a ht R U K Q hK ro=>?_⟩
 have F:cR G h1 h1':=U.sub ab ab ab ab
 refine run G w a (fun k _=>ht k) (R.sub tc.sub) F _ Q (fun G' w' v T1 R1 V=>?_) ro
 obtain ⟨R2,T2⟩:=frame R tc.sub tc.n tc.m R1 T1 F
 rw[←tc.eq] at R2 T2
 exact hK G' w' v T2 R2 V
theorem mB.full {i:Nat} {o:Oper} {t:Tm} {h h':H} {x:AV} (hn:h.n≤h'.n∧h.m≤h'.m) (run:gz P ops i o t h x h'):mB P ops i o t h x h':=
 ⟨hn,fun G w a ht R U K Q hK ro=>run G w a (fun k _=>ht k) R U K Q hK ro⟩
inductive lO (P:Program) (ops:Array Oper):Nat→Tm→H→Tm→H→Prop where
 |nil {i:Nat} {t:Tm} {h:H} (hi:i=ops.size):lO P ops i t h t h
 |cons {i:Nat} {o:Oper} {t t':Tm} {h h2 h':H} {x:AV} (ho:ops[i]? =some o) (run:mB P ops i o t h x h2) (rest:lO P ops (i+1) (cg t o.dst x) h2 t' h'):lO P ops i t h t' h'
theorem lO.nm {i:Nat} {t t':Tm} {h h':H} (c:lO P ops i t h t' h'):h.n≤h'.n∧h.m≤h'.m:=by
 induction c with
 |nil _=>exact ⟨Nat.le_refl _,Nat.le_refl _⟩
 |cons ho run rest ih=>have:=run.1;omega
theorem vX (ro:Option Nat) {Q:Exit→Act→World→Prop} (hN:∀(i:Nat) o d,ops[i]? =some o→o.dst=some d→d<N):∀{i:Nat} {t t':Tm} {h h':H},lO P ops i t h t' h'→
  ∀(G:aM) (w:World) (a:Act),a.tmps.size=N→cK G w t a→aX G h w→cR G h h'→
   (∀G' w' a',Trans G w h G' w' h'→cK G' w' t' a'→aX G' h' w'→a'.tmps.size=N→a'.defers=a.defers→Q .normal a' w')→wpOpsIn (rd ro) 0 P ops Q (List.range' i (ops.size - i)) a w:=by
 intro i t t' h h' hc
 induction hc with
 |nil hi=>
  intro G w a hs ht R U hq
  subst hi
  simp only[Nat.sub_self,List.range'_zero,wpOpsIn]
  exact hq G w a (Trans.refl _ _ _) ht R hs rfl
 | @cons i o t t' h h2 h' x ho run rest ih=>
  intro G w a hs ht R U hq
  have hi:i<ops.size:=(Array.getElem?_eq_some_iff.1 ho).1
  have:ops.size - i=(ops.size - (i+1))+1:=by omega
  rw[this,List.range'_succ,wpOpsIn_cons]
  have nm:=rest.nm
  have nm2:=run.1
  refine run.2 G w a ht R (U.sub (Nat.le_refl _) nm.1 (Nat.le_refl _) nm.2) _ Q (fun G' w' v T2 R2 V=>?_) ro
  refine ih G' w' _ (by rw[gN];exact hs) (mo (ht.mono R T2) V fun k hk=>by rw[hs];exact hN i o k ho hk) R2 (U.step T2) fun G'' w'' a'' T3 h1 h2 h3 h4=>?_
  exact hq G'' w'' a'' (T2.trans R R2 T3) h1 h2 h3 (h4.trans (put_defers _ _ _))
def an (P:Program) (N:Nat) (items:List aP) (t:Tm) (h:H) (K:Tm→H→Prop):Prop:=
 ∀ops i,i≤ops.size→dH P N ops (ops.toList.drop i)=some items→∃t' h',lO P ops i t h t' h'∧K t' h'
theorem an.nil {t:Tm} {h:H} {K:Tm→H→Prop} (hk:K t h):an P N [] t h K:=by
 intro ops i hi hc
 have:i=ops.size:=by
  cases hd:ops.toList.drop i with
  |nil=>have:=List.drop_eq_nil_iff.1 hd;simp at this;omega
  |cons a l=>rw[hd] at hc;simp only[dH] at hc;split at hc<;>cases hc
 exact ⟨t,h,.nil this,hk⟩
theorem rh {it:aP} {o:Oper} (hit:bR P N ops o=some it):it.dst=o.dst:=by
 unfold bR at hit
 split at hit
 ·split at hit<;>cases hit;rfl
 ·cases hit
theorem an.step {it:aP} {its:List aP} {t:Tm} {h h':H} {x:AV} {K:Tm→H→Prop}
  (run:∀(ops:Array Oper) i o,ops[i]? =some o→bR P N ops o=some it→mB P ops i o t h x h') (rest:an P N its (cg t it.dst x) h' K):an P N (it::its) t h K:=by
 intro ops i hi hc
 obtain ⟨o,ho,hit,hi',hc'⟩:=cS hi hc
 obtain ⟨t',hh',ch,hk⟩:=rest ops (i+1) hi' hc'
 exact ⟨t',hh',.cons ho (run ops i o ho hit) (by rw[←rh hit];exact ch),hk⟩
theorem Wp.DJ {items:List aP} {s:St} {Q:aQ→St→Prop} (h:an P N items s.t s.h fun t' h'=>Q .normal ⟨t',h'⟩):Wp P N (.reg items none) s Q:=by
 intro code hc
 obtain ⟨id,ops,draw,rfl,hi,hd⟩:=kb hc
 obtain ⟨t',h',ch,hq⟩:=h ops 0 (Nat.zero_le _) (by simpa using hi)
 have nm:=ch.nm
 obtain ⟨cl,ci⟩:=fO hi
 have hN:∀(i:Nat) o d,ops[i]? =some o→o.dst=some d→d<N:=by
  intro i o d ho hdd
  have hlt:i<ops.size:=(Array.getElem?_eq_some_iff.1 ho).1
  have hit:i<items.length:=by rw[cl];simpa using hlt
  have:=ci i o items[i] (by simpa using ho) (List.getElem?_eq_getElem hit)
  generalize items[i]=it at this
  unfold bR at this
  split at this
  ·split at this<;>cases this
   rename_i hcond
   simp only[Bool.and_eq_true] at hcond
   have:=hcond.1
   rw[hdd] at this
   simpa using this
  ·cases this
 refine ⟨.normal,⟨t',h'⟩,⟨nm,fun ro okc G w a r F=>?_⟩,hq⟩
 rcases hd with ⟨rfl,-⟩|⟨-,-,-,hn⟩
 ·refine wpIn_region ?_
  rw[List.range_eq_range']
  have:=vX ro (Q:=fun e' a' w'=>aQ.normal.fm e'∧kT w a.defers a'.defers∧∃G',Trans G w s.h G' w' h'∧Rel N ⟨t',h'⟩ G' w' a') hN ch G w a r.size r.t r.h F
   (fun G' w' a' T1 t1 R1 s1 d1=>⟨trivial,by rw[d1];exact .refl,G',T1,⟨s1,t1,R1,by rw[d1];exact r.df.mono T1⟩⟩)
  simpa using this
 ·cases hn
end
section
variable {P:Program} {T:FT}
def pC (full:Bool) (h h1 h1' h':H) (en:Ent):Prop:=Touch h h1 h1' h' en∨(full=true∧h1=h∧h1'=h'∧h.n≤h'.n∧h.m≤h'.m)
theorem pC.sG {N:Nat} {ops:Array Oper} {full:Bool} {i:Nat} {o:Oper} {t:Tm} {h h1 h1' h':H} {x:AV} {en:Ent} (hn:pC full h h1 h1' h' en) (run:gz P ops i o t h1 x h1'):mB P ops i o t h x h':=by
 rcases hn with tc|⟨-,rfl,rfl,a,b⟩
 ·exact mB.of tc run
 ·exact mB.full ⟨a,b⟩ run
end
end Go.Av
end
section
namespace Go.Av
section
variable {P:Program} {N:Nat}
theorem an.evA:∀{items its:List aP} {t t':Tm} {h h':H} {log log':List Ent} {K:Tm→H→Prop},cO items t h log=(its,t',h',log')→an P N its t' h' K→an P N items t h K
 |[],its,t,t',h,h',log,log',K,he,hw=>by simp only[cO,Prod.mk.injEq] at he;obtain ⟨rfl,rfl,rfl,rfl⟩:=he;exact hw
 |it::items,its,t,t',h,h',log,log',K,he,hw=>by
  simp only[cO] at he
  split at he
  ·rename_i hg
   split at he
   ·rename_i x h2 en hx
    refine an.step (fun ops i o ho hit=>?_) (an.evA he hw)
    obtain ⟨h1,h1',tc,run⟩:=gO ho hit hg hx
    exact (pC.sG (N:=N) (full:=false) (.inl tc) run)
   ·simp only[Prod.mk.injEq] at he;obtain ⟨rfl,rfl,rfl,rfl⟩:=he;exact hw
  ·rename_i hg
   exact an.step (fun ops i o ho hit=>pC.sG (N:=N) (full:=false) (.inl (bO h)) (gP ho hit hg)) (an.evA he hw)
  ·simp only[Prod.mk.injEq] at he;obtain ⟨rfl,rfl,rfl,rfl⟩:=he;exact hw
theorem an.evF {items its:List aP} {t t':Tm} {h h':H} {log:List Ent} {K:Tm→H→Prop} (he:jc items t h []=some (its,t',h',log)) (hw:an P N its t' h' K):an P N items t h K:=an.evA (dO he) hw
theorem Wp.da {items its:List aP} {s:St} {Q:aQ→St→Prop} {t':Tm} {h':H} {log:List Ent} (he:jc items s.t s.h []=some (its,t',h',log)) (h:an P N its t' h' fun t h=>Q .normal ⟨t,h⟩):Wp P N (.reg items none) s Q:=Wp.DJ (an.evF he h)
theorem Wp.bw {items its:List aP} {y:AC} {s:St} {Q:aQ→St→Prop} {t':Tm} {h':H} {log:List Ent} (he:jc items s.t s.h []=some (its,t',h',log)) (h:an P N its t' h' fun t h=>Wp P N y ⟨t,h⟩ Q):Wp P N (.seq (.reg items none) y) s Q:=Wp.seq (Wp.da he h)
theorem an.cF {dst:Option Nat} {g:Option (Nat × Bool)} {f:FuncId} {l:List Opd} {its:List aP} {t:Tm} {h h':H} {K:Tm→H→Prop} {vals:List AV} {r:AV} (hg:guardOf t g=some true) (hs:ay (l.map (ev t)) vals) (hn:h.n≤h'.n∧h.m≤h'.m) (hc:aJ P f vals h r h')
  (rest:an P N its (cg t dst r) h' K):an P N (⟨dst,g,.call f l⟩::its) t h K:=
 an.step (fun ops i o ho hit=>mB.full hn (fN ho hit hg rfl hs hc)) rest
theorem an.bW {dst:Option Nat} {g:Option (Nat × Bool)} {f:FuncId} {l:List Opd} {its:List aP} {t:Tm} {h:H} {K:Tm→H→Prop} {vals:List AV} {r:AV} (hg:guardOf t g=some true) (hs:ay (l.map (ev t)) vals) (hc:aZ P f vals r)
  (rest:an P N its (cg t dst r) h K):an P N (⟨dst,g,.call f l⟩::its) t h K:=
 an.step (fun ops i o ho hit=>pC.sG (N:=N) (full:=false) (.inl (bO h)) (fN ho hit hg rfl hs (hc h.n h.m))) rest
theorem aJ.frame {f:FuncId} {args:List AV} {h h1 h1':H} {r:AV} (hs:h1.sub h) (hn:h1.n=h.n) (hm:h1.m=h.m) (ln:h1.n≤h1'.n) (lm:h1.m≤h1'.m) (hc:aJ P f args h1 r h1'):aJ P f args h r (h.patch h1 h1'):=by
 intro G w vs hv R F
 have F1:cR G h1 h1':=⟨fun id a b=>F.1 id ab b,fun t a b=>F.2 t ab b⟩
 refine (hc G w vs hv (R.sub hs) F1).mono ?_
 rintro e w' ⟨v,G',rfl,T,R',V⟩
 obtain ⟨R2,T2⟩:=Av.frame R hs hn hm R' T F1
 exact ⟨v,G',rfl,T2,R2,V⟩
theorem aU.bP {f:FuncId} {ac:AC} {args:List AV} {h h':H} {ds:List RV} {r:AV} (hF:aU P f N ac ds) (hl:args.length≤N) (hw:Wp P N ac ⟨gA args,h⟩ fun e s'=>kY e∧∃q,de ds s'.t s'.h=some q∧av q r∧s'.h=h'):aJ P f args h r h':=by
 obtain ⟨q,h2,hc,hs,rfl⟩:=hF.fA (Q:=fun q h2=>av q r∧h2=h') hl hw
 intro G w vs hv R F
 refine (hc G w vs hv R F).mono ?_
 rintro e w' ⟨v,G',rfl,T,R',V⟩
 exact ⟨v,G',rfl,T,R',hs G' w' v V⟩
end
end Go.Av
end
section
namespace Go.Av
section
variable {P:Program} {N:Nat}
def sH (P:Program) (id:Nat) (args:List AV) (h:H) (Q:AV→H→Prop):Prop:=∃r h',vO P id args h r h'∧h.n≤h'.n∧h.m≤h'.m∧Q r h'
theorem an.yield {dst:Option Nat} {g:Option (Nat × Bool)} {id:Nat} {y:Opd} {l:List Opd} {its:List aP} {t:Tm} {h:H} {K:Tm→H→Prop} {vals:List AV} {Q:AV→H→Prop}
  (hg:guardOf t g=some true) (hy:ev t y= .yld id) (hs:ay (l.map (ev t)) vals) (hc:sH P id vals h Q)
  (rest:∀r h',Q r h'→h.n≤h'.n→h.m≤h'.m→an P N its (cg t dst r) h' K):an P N (⟨dst,g,.callv y l⟩::its) t h K:=by
 obtain ⟨r,h',hc,hn,hm,hq⟩:=hc
 exact an.step (fun ops i o ho hit=>mB.full ⟨hn,hm⟩ (uj ho hit hg rfl hy hs hc)) (rest r h' hq hn hm)
def aI (P:Program) (f:FuncId) (args:List AV) (h:H) (Q:AV→H→Prop):Prop:=∃r h',aJ P f args h r h'∧h.n≤h'.n∧h.m≤h'.m∧Q r h'
theorem aU.bu {f:FuncId} {ac:AC} {args:List AV} {ds:List RV} {h:H} {Q:AV→H→Prop} (hF:aU P f N ac ds) (hl:args.length≤N)
  (hw:Wp P N ac ⟨gA args,h⟩ fun e s'=>kY e∧∃q,de ds s'.t s'.h=some q∧Q q s'.h):aI P f args h Q:=by
 obtain ⟨q,h',hc,hq,hn,hm⟩:=hF.fA (Q:=fun q h'=>Q q h'∧h.n≤h'.n∧h.m≤h'.m) hl (hw.nm.mono fun e s' ⟨⟨h1,q,h2,h3⟩,h4,h5⟩=>⟨h1,q,h2,h3,h4,h5⟩)
 exact ⟨q,h',hc,hn,hm,hq⟩
theorem aI.mono {f:FuncId} {args:List AV} {h:H} {Q Q':AV→H→Prop} (hc:aI P f args h Q) (hq:∀r h',Q r h'→Q' r h'):aI P f args h Q':=by
 obtain ⟨r,h',a,b,c,d⟩:=hc
 exact ⟨r,h',a,b,c,hq _ _ d⟩
theorem an.aT {dst:Option Nat} {g:Option (Nat × Bool)} {f:FuncId} {l:List Opd} {its:List aP} {t:Tm} {h:H} {K:Tm→H→Prop} {vals:List AV} {Q:AV→H→Prop}
  (hg:guardOf t g=some true) (hs:ay (l.map (ev t)) vals) (hc:aI P f vals h Q)
  (rest:∀r h',Q r h'→h.n≤h'.n→h.m≤h'.m→an P N its (cg t dst r) h' K):an P N (⟨dst,g,.call f l⟩::its) t h K:=by
 obtain ⟨r,h',hc,hn,hm,hq⟩:=hc
 exact an.cF hg hs ⟨hn,hm⟩ hc (rest r h' hq hn hm)
theorem Wp.Gs {g:Opd} {ps:List Nat} {x y:AC} {t:Tm} {h:H} {Q:aQ→St→Prop} {fi:FuncId} {fn:Func} {first caps:List AV} (hg:ev t g= .clo (.func fi) first caps) (hf:P.funcs[fi]? =some fn) (hfb:fn.body.isSome=true) (hfn:fn.name≠ "runtime.NumGoroutine")
  (hfresh:h.objs h.n=none)
  (hw:∀asg body,cCode P N asg=some x→cCode P N body=some y→fM asg=true→fM body=true→
   aI P fi (first++[.yld h.n]++caps) ⟨upd h.objs h.n (some (.loop N t ps asg body .ready none)),h.n+1,h.toks,h.m⟩ fun r h'=>∃t2 st pend e,h'.objs h.n=some (.loop N t2 ps asg body st pend)∧st≠ .busy∧kF pend e∧
    Q e ⟨t,{h' with objs:=fun j=>if j=h.n then none else h'.objs j}⟩):Wp P N (.vE g ps x y) ⟨t,h⟩ Q:=by
 obtain ⟨f,n,T,m⟩:=h
 refine Wp.vE hg hf hfb hfn hfresh fun asg body h1 h2 h3 h4=>?_
 obtain ⟨r,⟨f2,n2,T2,m2⟩,k1,k2,k3,t2,st,pend,e,k4,k5,k6,k7⟩:=hw asg body h1 h2 h3 h4
 exact ⟨r,f2,n2,T2,m2,t2,st,pend,e,k1,k2,k3,k4,k5,k6,k7⟩
theorem vY {id M:Nat} {h:H} {t:Tm} {ps:List Nat} {asg body:Code} {x y:AC} {args:List AV} {Q:AV→H→Prop} (ho:h.objs id=some (.loop M t ps asg body .ready none)) (ha:cCode P M asg=some x) (hb:cCode P M body=some y) (hna:fM asg=true) (hnb:fM body=true)
  (hl:args.length=ps.length) (hps:∀p∈ps,p<M)
  (hw:Wp P M x ⟨my t ps args,h⟩ fun e s=>e= .normal∧∃t1,s.h.objs id=some (.loop M t1 ps asg body .ready none)∧
   Wp P M y ⟨s.t,{s.h with objs:=upd s.h.objs id (some (.loop M t1 ps asg body .busy none))}⟩ fun e2 s2=>∃t2 b st pend,s2.h.objs id=some (.loop M t2 ps asg body .busy none)∧jd e2 b st pend∧
    (h.n≤s2.h.n→h.m≤s2.h.m→Q (.bool b) {s2.h with objs:=upd s2.h.objs id (some (.loop M t2 ps asg body st pend))})):sH P id args h Q:=by
 obtain ⟨f,n,T,m⟩:=h
 obtain ⟨r,h',hy,hn,hm,hq⟩:=zu (P:=P) (Q:=fun r h'=>n≤h'.n∧m≤h'.m∧Q r h') ho ha hb hna hnb hl hps (by
  refine hw.nm.mono ?_
  rintro e s ⟨⟨rfl,t1,k1,k2⟩,k3,k4⟩
  refine ⟨rfl,t1,k1,k2.nm.mono ?_⟩
  rintro e2 s2 ⟨⟨t2,b,st,pend,q1,q2,q3⟩,q4,q5⟩
  have e4:n≤s2.h.n:=Nat.le_trans k3 q4
  have e5:m≤s2.h.m:=Nat.le_trans k4 q5
  exact ⟨t2,b,st,pend,q1,q2,e4,e5,q3 e4 e5⟩)
 exact ⟨r,h',hy,hn,hm,hq⟩
end
end Go.Av
end
section
namespace Go.Av
section
variable {P:Program} {N:Nat}
end
end Go.Av
end
section
namespace Go.Av
theorem bn {α:Type} (f:Nat→α) (i:Nat) (a b:α):upd (upd f i a) i b=upd f i b:=by
 funext j
 simp only[upd]
 split<;>rfl
theorem kf {α:Type} (f:Nat→α) {i k:Nat} (a b:α) (h:i≠k):upd (upd f i a) k b=upd (upd f k b) i a:=by
 funext j
 simp only[upd]
 split
 ·rename_i e
  rw[if_neg (fun q=>h (q.symm.trans e))]
 ·rfl
section
variable {P:Program} {N:Nat}
theorem an.opA {dst:Option Nat} {g:Option (Nat × Bool)} {op:AOp} {its:List aP} {t:Tm} {h h':H} {en:Ent} {K:Tm→H→Prop} {x:AV} (hg:guardOf t g=some true) (hx:fB (ev t) h op=some (x,h',en))
  (rest:an P N its (cg t dst x) h' K):an P N (⟨dst,g,op⟩::its) t h K:=
 an.step (it:=⟨dst,g,op⟩) (fun ops i o ho hit=>by
  obtain ⟨h1,h1',tc,run⟩:=rf ho hit hg hx
  exact pC.sG (N:=N) (full:=false) (.inl tc) run) rest
theorem ao.opA {dst:Option Nat} {g:Option (Nat × Bool)} {op:AOp} {its:List aP} {t:Tm} {h h':H} {log:List Ent} {en:Ent} {K:Tm→H→List Ent→Prop} {x:AV} (hg:guardOf t g=some true) (hx:fB (ev t) h op=some (x,h',en))
  (rest:ao P N its (cg t dst x) h' (en::log) K):ao P N (⟨dst,g,op⟩::its) t h log K:=by
 intro ops i hi hc
 obtain ⟨o,ho,hit,hi',hc'⟩:=cS hi hc
 obtain ⟨h1,h1',tc,run⟩:=rf ho hit hg hx
 obtain ⟨recs,t',hh',ch,hk,hen⟩:=rest ops (i+1) hi' hc'
 have hdst:dst=o.dst:=by
  unfold bR at hit
  split at hit
  ·split at hit<;>cases hit;rfl
  ·cases hit
 have ht:=um hx
 refine ⟨⟨t,h,h1,h1',h',x,en⟩::recs,t',hh',.cons ho rfl rfl tc (fun _=>run) (by rw[←hdst];exact ch),by simpa using hk,?_⟩
 intro k r it' hr hit' ht'
 cases k with
 |zero=>
  simp at hr hit';subst hr hit'
  rw[ht] at ht';cases ht'
 |succ k=>simp at hr hit';exact hen k r it' hr hit' ht'
def aq (h h':H):Prop:=∀j,(h'.objs j).isSome=true→(h.objs j).isSome=true∨(h.n≤j∧j<h'.n)
theorem gl {h h':H} (hb:∀j,(h.objs j).isSome=true→j<h.n) (hn:h.n≤h'.n) (hm:h.m≤h'.m) (no:aq h h'):Touch h h h' h' ⟨[],List.range h'.n,h.toks++h'.toks⟩ where
 sub:=⟨fun _ _ x=>x,fun _ x=>x⟩
 n:=rfl
 m:=rfl
 eq:=by
  refine H.ext (fun j=>?_) rfl ?_ rfl
  ·simp only[H.patch]
   by_cases hj:(h.objs j).isSome=true∨h.n≤j∧j<h'.n
   ·rw[if_pos hj]
   ·rw[if_neg hj]
    have h1:h.objs j=none:=by
     cases e:h.objs j with
     |none=>rfl
     |some o=>exact absurd (.inl (by rw[e];rfl)) hj
    rw[h1]
    cases e:h'.objs j with
    |none=>rfl
    |some o=>exact absurd (no j (by rw[e];rfl)) hj
  ·simp only[H.patch]
   rw[List.filter_eq_nil_iff.2 (fun x hx=>by simp[hx])]
   simp
 rd j hj:= .inr (List.mem_range.2 (Nat.lt_of_lt_of_le (hb j hj) hn))
 wr j _ b:=List.mem_range.2 b
 chg j hj hw:=absurd (List.mem_range.2 (Nat.lt_of_lt_of_le (hb j hj) hn)) hw
 tk t ht:=List.mem_append.2 (.inl ht)
 tn t ht:=List.mem_append.2 (.inr ht)
 le:=hn
 lem:=hm
theorem ao.aT {dst:Option Nat} {g:Option (Nat × Bool)} {f:FuncId} {l:List Opd} {its:List aP} {t:Tm} {h:H} {log:List Ent} {K:Tm→H→List Ent→Prop} {vals:List AV} {Q:AV→H→Prop}
  (hg:guardOf t g=some true) (hs:ay (l.map (ev t)) vals) (hb:∀j,(h.objs j).isSome=true→j<h.n) (hc:aI P f vals h Q) (no:∀r h',Q r h'→aq h h')
  (rest:∀r h',Q r h'→h.n≤h'.n→h.m≤h'.m→ao P N its (cg t dst r) h' (⟨[],List.range h'.n,h.toks++h'.toks⟩::log) K):ao P N (⟨dst,g,.call f l⟩::its) t h log K:=by
 obtain ⟨r,h',hc,hn,hm,hq⟩:=hc
 exact ao.cF hg hs hc (gl hb hn hm (no r h' hq)) (rest r h' hq hn hm)
end
end Go.Av
end
section
namespace Go.Av
theorem rf0 {F X Y:Prop} (f:F) (y:Y) (h:F→Hid Y→X:=by
 intro f y
 repeat (first
  |refine an.nil ?_
  |((first|apply Wp.bw|apply Wp.da);(· simp only[go_sem,reduceIte,Nat.reduceEqDiff,Nat.reduceAdd,bx,ax,if_true,if_false,Nat.reduceMul,Nat.reduceLeDiff,f];exact rfl))
  |(apply Wp.cu;(· simp only[go_sem,reduceIte,Nat.reduceEqDiff,Nat.reduceAdd,bx,ax,if_true,if_false,Nat.reduceMul,Nat.reduceLeDiff,f];exact rfl);(· rfl))
  |refine Wp.skip ?_
  |refine Wp.label ?_
  |refine Wp.block ?_
  |refine Wp.exit ?_
  |refine Wp.seq ?_
  |exact y.1)):X:=h f ⟨y⟩
theorem vZ {X Y:Prop} (y:Y) (h:Hid Y→X:=by
 intro y
 repeat (first
  |refine an.nil ?_
  |((first|apply Wp.bw|apply Wp.da);(· simp only[go_sem,reduceIte,Nat.reduceEqDiff,Nat.reduceAdd,bx,ax,if_true,if_false,Nat.reduceMul,Nat.reduceLeDiff];exact rfl))
  |(apply Wp.cu;(· simp only[go_sem,reduceIte,Nat.reduceEqDiff,Nat.reduceAdd,bx,ax,if_true,if_false,Nat.reduceMul,Nat.reduceLeDiff];exact rfl);(· rfl))
  |refine Wp.skip ?_
  |refine Wp.label ?_
  |refine Wp.block ?_
  |refine Wp.exit ?_
  |refine Wp.seq ?_
  |exact y.1)):X:=h ⟨y⟩
theorem rf1 {F C0 X Y:Prop} (f:F) (c0:C0) (y:Y) (h:F→C0→Hid Y→X:=by
 intro f c0 y
 repeat (first
  |refine an.nil ?_
  |((first|apply Wp.bw|apply Wp.da|((first
   |(refine an.bW ?_ ?_ c0 ?_;(· simp only[go_sem,reduceIte,Nat.reduceEqDiff,Nat.reduceAdd,bx]);(· simp only[go_sem,reduceIte,Nat.reduceEqDiff,Nat.reduceAdd,bx,List.map,go_sem,reduceIte,Nat.reduceEqDiff,Nat.reduceAdd,bx,ax,if_true,if_false,Nat.reduceMul,Nat.reduceLeDiff,f];first|exact ay.refl _|assumption|(repeat (first|exact ay.nil|refine ay.cons (by first|exact av.refl _|assumption|exact av.cap|exact av.any _) ?_)))));apply an.evF));(· simp only[go_sem,reduceIte,Nat.reduceEqDiff,Nat.reduceAdd,bx,ax,if_true,if_false,Nat.reduceMul,Nat.reduceLeDiff,f];exact rfl))
  |(apply Wp.cu;(· simp only[go_sem,reduceIte,Nat.reduceEqDiff,Nat.reduceAdd,bx,ax,if_true,if_false,Nat.reduceMul,Nat.reduceLeDiff,f];exact rfl);(· rfl))
  |refine Wp.skip ?_
  |refine Wp.label ?_
  |refine Wp.block ?_
  |refine Wp.exit ?_
  |refine Wp.seq ?_
  |exact y.1)):X:=h f c0 ⟨y⟩
theorem rf2 {F C0 C1 X Y:Prop} (f:F) (c0:C0) (c1:C1) (y:Y) (h:F→C0→C1→Hid Y→X:=by
 intro f c0 c1 y
 repeat (first
  |refine an.nil ?_
  |((first|apply Wp.bw|apply Wp.da|((first
   |(refine an.bW ?_ ?_ c0 ?_;(· simp only[go_sem,reduceIte,Nat.reduceEqDiff,Nat.reduceAdd,bx]);(· simp only[go_sem,reduceIte,Nat.reduceEqDiff,Nat.reduceAdd,bx,List.map,go_sem,reduceIte,Nat.reduceEqDiff,Nat.reduceAdd,bx,ax,if_true,if_false,Nat.reduceMul,Nat.reduceLeDiff,f];first|exact ay.refl _|assumption|(repeat (first|exact ay.nil|refine ay.cons (by first|exact av.refl _|assumption|exact av.cap|exact av.any _) ?_))))
   |(refine an.bW ?_ ?_ c1 ?_;(· simp only[go_sem,reduceIte,Nat.reduceEqDiff,Nat.reduceAdd,bx]);(· simp only[go_sem,reduceIte,Nat.reduceEqDiff,Nat.reduceAdd,bx,List.map,go_sem,reduceIte,Nat.reduceEqDiff,Nat.reduceAdd,bx,ax,if_true,if_false,Nat.reduceMul,Nat.reduceLeDiff,f];first|exact ay.refl _|assumption|(repeat (first|exact ay.nil|refine ay.cons (by first|exact av.refl _|assumption|exact av.cap|exact av.any _) ?_)))));apply an.evF));(· simp only[go_sem,reduceIte,Nat.reduceEqDiff,Nat.reduceAdd,bx,ax,if_true,if_false,Nat.reduceMul,Nat.reduceLeDiff,f];exact rfl))
  |(apply Wp.cu;(· simp only[go_sem,reduceIte,Nat.reduceEqDiff,Nat.reduceAdd,bx,ax,if_true,if_false,Nat.reduceMul,Nat.reduceLeDiff,f];exact rfl);(· rfl))
  |refine Wp.skip ?_
  |refine Wp.label ?_
  |refine Wp.block ?_
  |refine Wp.exit ?_
  |refine Wp.seq ?_
  |exact y.1)):X:=h f c0 c1 ⟨y⟩
theorem rf3 {F C0 C1 C2 X Y:Prop} (f:F) (c0:C0) (c1:C1) (c2:C2) (y:Y) (h:F→C0→C1→C2→Hid Y→X:=by
 intro f c0 c1 c2 y
 repeat (first
  |refine an.nil ?_
  |((first|apply Wp.bw|apply Wp.da|((first
   |(refine an.bW ?_ ?_ c0 ?_;(· simp only[go_sem,reduceIte,Nat.reduceEqDiff,Nat.reduceAdd,bx]);(· simp only[go_sem,reduceIte,Nat.reduceEqDiff,Nat.reduceAdd,bx,List.map,go_sem,reduceIte,Nat.reduceEqDiff,Nat.reduceAdd,bx,ax,if_true,if_false,Nat.reduceMul,Nat.reduceLeDiff,f];first|exact ay.refl _|assumption|(repeat (first|exact ay.nil|refine ay.cons (by first|exact av.refl _|assumption|exact av.cap|exact av.any _) ?_))))
   |(refine an.bW ?_ ?_ c1 ?_;(· simp only[go_sem,reduceIte,Nat.reduceEqDiff,Nat.reduceAdd,bx]);(· simp only[go_sem,reduceIte,Nat.reduceEqDiff,Nat.reduceAdd,bx,List.map,go_sem,reduceIte,Nat.reduceEqDiff,Nat.reduceAdd,bx,ax,if_true,if_false,Nat.reduceMul,Nat.reduceLeDiff,f];first|exact ay.refl _|assumption|(repeat (first|exact ay.nil|refine ay.cons (by first|exact av.refl _|assumption|exact av.cap|exact av.any _) ?_))))
   |(refine an.bW ?_ ?_ c2 ?_;(· simp only[go_sem,reduceIte,Nat.reduceEqDiff,Nat.reduceAdd,bx]);(· simp only[go_sem,reduceIte,Nat.reduceEqDiff,Nat.reduceAdd,bx,List.map,go_sem,reduceIte,Nat.reduceEqDiff,Nat.reduceAdd,bx,ax,if_true,if_false,Nat.reduceMul,Nat.reduceLeDiff,f];first|exact ay.refl _|assumption|(repeat (first|exact ay.nil|refine ay.cons (by first|exact av.refl _|assumption|exact av.cap|exact av.any _) ?_)))));apply an.evF));(· simp only[go_sem,reduceIte,Nat.reduceEqDiff,Nat.reduceAdd,bx,ax,if_true,if_false,Nat.reduceMul,Nat.reduceLeDiff,f];exact rfl))
  |(apply Wp.cu;(· simp only[go_sem,reduceIte,Nat.reduceEqDiff,Nat.reduceAdd,bx,ax,if_true,if_false,Nat.reduceMul,Nat.reduceLeDiff,f];exact rfl);(· rfl))
  |refine Wp.skip ?_
  |refine Wp.label ?_
  |refine Wp.block ?_
  |refine Wp.exit ?_
  |refine Wp.seq ?_
  |exact y.1)):X:=h f c0 c1 c2 ⟨y⟩
theorem rg1 {F C0 X Y:Prop} (f:F) (c0:C0) (y:Y) (h:F→C0→Hid Y→X:=by
 intro f c0 y
 repeat (first
  |refine an.nil ?_
  |((first|apply Wp.bw|apply Wp.da|((first
   |(refine an.bW ?_ ?_ c0 ?_;(· simp only[go_sem,reduceIte,Nat.reduceEqDiff,Nat.reduceAdd,bx]);(· simp only[go_sem,reduceIte,Nat.reduceEqDiff,Nat.reduceAdd,bx,List.map,go_sem,reduceIte,Nat.reduceEqDiff,Nat.reduceAdd,bx,ax,if_true,if_false,Nat.reduceMul,Nat.reduceLeDiff,f];first|exact ay.refl _|assumption|(repeat (first|exact ay.nil|refine ay.cons (by first|exact av.refl _|assumption|exact av.cap|exact av.any _) ?_))))
   |(refine an.cF ?_ ?_ (by constructor<;>first|exact Nat.le_refl _|assumption) c0 ?_;(· simp only[go_sem,reduceIte,Nat.reduceEqDiff,Nat.reduceAdd,bx]);(· simp only[go_sem,reduceIte,Nat.reduceEqDiff,Nat.reduceAdd,bx,List.map,go_sem,reduceIte,Nat.reduceEqDiff,Nat.reduceAdd,bx,ax,if_true,if_false,Nat.reduceMul,Nat.reduceLeDiff,f];first|exact ay.refl _|assumption|(repeat (first|exact ay.nil|refine ay.cons (by first|exact av.refl _|assumption|exact av.cap|exact av.any _) ?_)))));apply an.evF));(· simp only[go_sem,reduceIte,Nat.reduceEqDiff,Nat.reduceAdd,bx,ax,if_true,if_false,Nat.reduceMul,Nat.reduceLeDiff,f];exact rfl))
  |(apply Wp.cu;(· simp only[go_sem,reduceIte,Nat.reduceEqDiff,Nat.reduceAdd,bx,ax,if_true,if_false,Nat.reduceMul,Nat.reduceLeDiff,f];exact rfl);(· rfl))
  |refine Wp.skip ?_
  |refine Wp.label ?_
  |refine Wp.block ?_
  |refine Wp.exit ?_
  |refine Wp.seq ?_
  |exact y.1)):X:=h f c0 ⟨y⟩
theorem G5 {C0 X Y:Prop} (c0:C0) (y:Y) (h:C0→Hid Y→X:=by
 intro c0 y
 repeat (first
  |refine an.nil ?_
  |((first|apply Wp.bw|apply Wp.da|((first
   |(refine an.bW ?_ ?_ c0 ?_;(· simp only[go_sem,reduceIte,Nat.reduceEqDiff,Nat.reduceAdd,bx]);(· simp only[go_sem,reduceIte,Nat.reduceEqDiff,Nat.reduceAdd,bx,List.map,go_sem,reduceIte,Nat.reduceEqDiff,Nat.reduceAdd,bx,ax,if_true,if_false,Nat.reduceMul,Nat.reduceLeDiff];first|exact ay.refl _|assumption|(repeat (first|exact ay.nil|refine ay.cons (by first|exact av.refl _|assumption|exact av.cap|exact av.any _) ?_))))
   |(refine an.cF ?_ ?_ (by constructor<;>first|exact Nat.le_refl _|assumption) c0 ?_;(· simp only[go_sem,reduceIte,Nat.reduceEqDiff,Nat.reduceAdd,bx]);(· simp only[go_sem,reduceIte,Nat.reduceEqDiff,Nat.reduceAdd,bx,List.map,go_sem,reduceIte,Nat.reduceEqDiff,Nat.reduceAdd,bx,ax,if_true,if_false,Nat.reduceMul,Nat.reduceLeDiff];first|exact ay.refl _|assumption|(repeat (first|exact ay.nil|refine ay.cons (by first|exact av.refl _|assumption|exact av.cap|exact av.any _) ?_)))));apply an.evF));(· simp only[go_sem,reduceIte,Nat.reduceEqDiff,Nat.reduceAdd,bx,ax,if_true,if_false,Nat.reduceMul,Nat.reduceLeDiff];exact rfl))
  |(apply Wp.cu;(· simp only[go_sem,reduceIte,Nat.reduceEqDiff,Nat.reduceAdd,bx,ax,if_true,if_false,Nat.reduceMul,Nat.reduceLeDiff];exact rfl);(· rfl))
  |refine Wp.skip ?_
  |refine Wp.label ?_
  |refine Wp.block ?_
  |refine Wp.exit ?_
  |refine Wp.seq ?_
  |exact y.1)):X:=h c0 ⟨y⟩
theorem rg2 {F C0 C1 X Y:Prop} (f:F) (c0:C0) (c1:C1) (y:Y) (h:F→C0→C1→Hid Y→X:=by
 intro f c0 c1 y
 repeat (first
  |refine an.nil ?_
  |((first|apply Wp.bw|apply Wp.da|((first
   |(refine an.bW ?_ ?_ c0 ?_;(· simp only[go_sem,reduceIte,Nat.reduceEqDiff,Nat.reduceAdd,bx]);(· simp only[go_sem,reduceIte,Nat.reduceEqDiff,Nat.reduceAdd,bx,List.map,go_sem,reduceIte,Nat.reduceEqDiff,Nat.reduceAdd,bx,ax,if_true,if_false,Nat.reduceMul,Nat.reduceLeDiff,f];first|exact ay.refl _|assumption|(repeat (first|exact ay.nil|refine ay.cons (by first|exact av.refl _|assumption|exact av.cap|exact av.any _) ?_))))
   |(refine an.cF ?_ ?_ (by constructor<;>first|exact Nat.le_refl _|assumption) c0 ?_;(· simp only[go_sem,reduceIte,Nat.reduceEqDiff,Nat.reduceAdd,bx]);(· simp only[go_sem,reduceIte,Nat.reduceEqDiff,Nat.reduceAdd,bx,List.map,go_sem,reduceIte,Nat.reduceEqDiff,Nat.reduceAdd,bx,ax,if_true,if_false,Nat.reduceMul,Nat.reduceLeDiff,f];first|exact ay.refl _|assumption|(repeat (first|exact ay.nil|refine ay.cons (by first|exact av.refl _|assumption|exact av.cap|exact av.any _) ?_))))
   |(refine an.bW ?_ ?_ c1 ?_;(· simp only[go_sem,reduceIte,Nat.reduceEqDiff,Nat.reduceAdd,bx]);(· simp only[go_sem,reduceIte,Nat.reduceEqDiff,Nat.reduceAdd,bx,List.map,go_sem,reduceIte,Nat.reduceEqDiff,Nat.reduceAdd,bx,ax,if_true,if_false,Nat.reduceMul,Nat.reduceLeDiff,f];first|exact ay.refl _|assumption|(repeat (first|exact ay.nil|refine ay.cons (by first|exact av.refl _|assumption|exact av.cap|exact av.any _) ?_))))
   |(refine an.cF ?_ ?_ (by constructor<;>first|exact Nat.le_refl _|assumption) c1 ?_;(· simp only[go_sem,reduceIte,Nat.reduceEqDiff,Nat.reduceAdd,bx]);(· simp only[go_sem,reduceIte,Nat.reduceEqDiff,Nat.reduceAdd,bx,List.map,go_sem,reduceIte,Nat.reduceEqDiff,Nat.reduceAdd,bx,ax,if_true,if_false,Nat.reduceMul,Nat.reduceLeDiff,f];first|exact ay.refl _|assumption|(repeat (first|exact ay.nil|refine ay.cons (by first|exact av.refl _|assumption|exact av.cap|exact av.any _) ?_)))));apply an.evF));(· simp only[go_sem,reduceIte,Nat.reduceEqDiff,Nat.reduceAdd,bx,ax,if_true,if_false,Nat.reduceMul,Nat.reduceLeDiff,f];exact rfl))
  |(apply Wp.cu;(· simp only[go_sem,reduceIte,Nat.reduceEqDiff,Nat.reduceAdd,bx,ax,if_true,if_false,Nat.reduceMul,Nat.reduceLeDiff,f];exact rfl);(· rfl))
  |refine Wp.skip ?_
  |refine Wp.label ?_
  |refine Wp.block ?_
  |refine Wp.exit ?_
  |refine Wp.seq ?_
  |exact y.1)):X:=h f c0 c1 ⟨y⟩
theorem rg3 {F C0 C1 C2 X Y:Prop} (f:F) (c0:C0) (c1:C1) (c2:C2) (y:Y) (h:F→C0→C1→C2→Hid Y→X:=by
 intro f c0 c1 c2 y
 repeat (first
  |refine an.nil ?_
  |((first|apply Wp.bw|apply Wp.da|((first
   |(refine an.bW ?_ ?_ c0 ?_;(· simp only[go_sem,reduceIte,Nat.reduceEqDiff,Nat.reduceAdd,bx]);(· simp only[go_sem,reduceIte,Nat.reduceEqDiff,Nat.reduceAdd,bx,List.map,go_sem,reduceIte,Nat.reduceEqDiff,Nat.reduceAdd,bx,ax,if_true,if_false,Nat.reduceMul,Nat.reduceLeDiff,f];first|exact ay.refl _|assumption|(repeat (first|exact ay.nil|refine ay.cons (by first|exact av.refl _|assumption|exact av.cap|exact av.any _) ?_))))
   |(refine an.cF ?_ ?_ (by constructor<;>first|exact Nat.le_refl _|assumption) c0 ?_;(· simp only[go_sem,reduceIte,Nat.reduceEqDiff,Nat.reduceAdd,bx]);(· simp only[go_sem,reduceIte,Nat.reduceEqDiff,Nat.reduceAdd,bx,List.map,go_sem,reduceIte,Nat.reduceEqDiff,Nat.reduceAdd,bx,ax,if_true,if_false,Nat.reduceMul,Nat.reduceLeDiff,f];first|exact ay.refl _|assumption|(repeat (first|exact ay.nil|refine ay.cons (by first|exact av.refl _|assumption|exact av.cap|exact av.any _) ?_))))
   |(refine an.bW ?_ ?_ c1 ?_;(· simp only[go_sem,reduceIte,Nat.reduceEqDiff,Nat.reduceAdd,bx]);(· simp only[go_sem,reduceIte,Nat.reduceEqDiff,Nat.reduceAdd,bx,List.map,go_sem,reduceIte,Nat.reduceEqDiff,Nat.reduceAdd,bx,ax,if_true,if_false,Nat.reduceMul,Nat.reduceLeDiff,f];first|exact ay.refl _|assumption|(repeat (first|exact ay.nil|refine ay.cons (by first|exact av.refl _|assumption|exact av.cap|exact av.any _) ?_))))
   |(refine an.cF ?_ ?_ (by constructor<;>first|exact Nat.le_refl _|assumption) c1 ?_;(· simp only[go_sem,reduceIte,Nat.reduceEqDiff,Nat.reduceAdd,bx]);(· simp only[go_sem,reduceIte,Nat.reduceEqDiff,Nat.reduceAdd,bx,List.map,go_sem,reduceIte,Nat.reduceEqDiff,Nat.reduceAdd,bx,ax,if_true,if_false,Nat.reduceMul,Nat.reduceLeDiff,f];first|exact ay.refl _|assumption|(repeat (first|exact ay.nil|refine ay.cons (by first|exact av.refl _|assumption|exact av.cap|exact av.any _) ?_))))
   |(refine an.bW ?_ ?_ c2 ?_;(· simp only[go_sem,reduceIte,Nat.reduceEqDiff,Nat.reduceAdd,bx]);(· simp only[go_sem,reduceIte,Nat.reduceEqDiff,Nat.reduceAdd,bx,List.map,go_sem,reduceIte,Nat.reduceEqDiff,Nat.reduceAdd,bx,ax,if_true,if_false,Nat.reduceMul,Nat.reduceLeDiff,f];first|exact ay.refl _|assumption|(repeat (first|exact ay.nil|refine ay.cons (by first|exact av.refl _|assumption|exact av.cap|exact av.any _) ?_))))
   |(refine an.cF ?_ ?_ (by constructor<;>first|exact Nat.le_refl _|assumption) c2 ?_;(· simp only[go_sem,reduceIte,Nat.reduceEqDiff,Nat.reduceAdd,bx]);(· simp only[go_sem,reduceIte,Nat.reduceEqDiff,Nat.reduceAdd,bx,List.map,go_sem,reduceIte,Nat.reduceEqDiff,Nat.reduceAdd,bx,ax,if_true,if_false,Nat.reduceMul,Nat.reduceLeDiff,f];first|exact ay.refl _|assumption|(repeat (first|exact ay.nil|refine ay.cons (by first|exact av.refl _|assumption|exact av.cap|exact av.any _) ?_)))));apply an.evF));(· simp only[go_sem,reduceIte,Nat.reduceEqDiff,Nat.reduceAdd,bx,ax,if_true,if_false,Nat.reduceMul,Nat.reduceLeDiff,f];exact rfl))
  |(apply Wp.cu;(· simp only[go_sem,reduceIte,Nat.reduceEqDiff,Nat.reduceAdd,bx,ax,if_true,if_false,Nat.reduceMul,Nat.reduceLeDiff,f];exact rfl);(· rfl))
  |refine Wp.skip ?_
  |refine Wp.label ?_
  |refine Wp.block ?_
  |refine Wp.exit ?_
  |refine Wp.seq ?_
  |exact y.1)):X:=h f c0 c1 c2 ⟨y⟩
end Go.Av
end
section
namespace Go.Av
section
variable {P:Program} {N:Nat} {ops:Array Oper}
def BF (P:Program) (ops:Array Oper) (i:Nat) (o:Oper) (t:Tm) (h:H) (v:Value) (h':H):Prop:=
 (h.n≤h'.n∧h.m≤h'.m)∧∀G w a,cK G w t a→aX G h w→cR G h h'→∀(K:Act→World→Prop) Q,
  (∀G' w',Trans G w h G' w' h'→aX G' h' w'→Q (.panic [{v:=v,recovered:=false}]) a w')→∀ro,wpOpIn (rd ro) 0 P ops Q i K a w
theorem BF.full {i:Nat} {o:Oper} {t:Tm} {h h':H} {v:Value} (hn:h.n≤h'.n∧h.m≤h'.m) (run:lG P ops i o t h v h'):BF P ops i o t h v h':=
 ⟨hn,fun G w a ht R U K Q hK ro=>run G w a (fun k _=>ht k) R U K Q hK ro⟩
inductive lP (P:Program) (ops:Array Oper):Nat→Tm→H→Value→H→Prop where
 |here {i:Nat} {o:Oper} {t:Tm} {h h':H} {v:Value} (ho:ops[i]? =some o) (run:BF P ops i o t h v h'):lP P ops i t h v h'
 |cons {i:Nat} {o:Oper} {t:Tm} {h h2 h':H} {x:AV} {v:Value} (ho:ops[i]? =some o) (run:mB P ops i o t h x h2) (rest:lP P ops (i+1) (cg t o.dst x) h2 v h'):lP P ops i t h v h'
theorem lP.nm {i:Nat} {t:Tm} {h h':H} {v:Value} (c:lP P ops i t h v h'):h.n≤h'.n∧h.m≤h'.m:=by
 induction c with
 |here ho run=>exact run.1
 |cons ho run rest ih=>have:=run.1;omega
theorem v7 (ro:Option Nat) {Q:Exit→Act→World→Prop} (hN:∀(i:Nat) o d,ops[i]? =some o→o.dst=some d→d<N):∀{i:Nat} {t:Tm} {h h':H} {v:Value},lP P ops i t h v h'→
  ∀(G:aM) (w:World) (a:Act),a.tmps.size=N→cK G w t a→aX G h w→cR G h h'→
   (∀G' w' a',Trans G w h G' w' h'→aX G' h' w'→a'.tmps.size=N→a'.defers=a.defers→Q (.panic [{v:=v,recovered:=false}]) a' w')→wpOpsIn (rd ro) 0 P ops Q (List.range' i (ops.size - i)) a w:=by
 intro i t h h' v hc
 induction hc with
 | @here i o t h h' v ho run=>
  intro G w a hs ht R U hq
  have hi:i<ops.size:=(Array.getElem?_eq_some_iff.1 ho).1
  have:ops.size - i=(ops.size - (i+1))+1:=by omega
  rw[this,List.range'_succ,wpOpsIn_cons]
  exact run.2 G w a ht R U _ Q (fun G' w' T R'=>hq G' w' a T R' hs rfl) ro
 | @cons i o t h h2 h' x v ho run rest ih=>
  intro G w a hs ht R U hq
  have hi:i<ops.size:=(Array.getElem?_eq_some_iff.1 ho).1
  have:ops.size - i=(ops.size - (i+1))+1:=by omega
  rw[this,List.range'_succ,wpOpsIn_cons]
  have nm:=rest.nm
  have nm2:=run.1
  refine run.2 G w a ht R (U.sub (Nat.le_refl _) nm.1 (Nat.le_refl _) nm.2) _ Q (fun G' w' y T2 R2 V=>?_) ro
  refine ih G' w' _ (by rw[gN];exact hs) (mo (ht.mono R T2) V fun k hk=>by rw[hs];exact hN i o k ho hk) R2 (U.step T2) fun G'' w'' a'' T3 h2 h3 h4=>?_
  exact hq G'' w'' a'' (T2.trans R R2 T3) h2 h3 (h4.trans (put_defers _ _ _))
def dr (P:Program) (N:Nat) (items:List aP) (t:Tm) (h:H) (v:Value) (h':H):Prop:=
 ∀ops i,i≤ops.size→dH P N ops (ops.toList.drop i)=some items→lP P ops i t h v h'
theorem dr.step {it:aP} {its:List aP} {t:Tm} {h h2 h':H} {x:AV} {v:Value}
  (run:∀(ops:Array Oper) i o,ops[i]? =some o→bR P N ops o=some it→mB P ops i o t h x h2) (rest:dr P N its (cg t it.dst x) h2 v h'):dr P N (it::its) t h v h':=by
 intro ops i hi hc
 obtain ⟨o,ho,hit,hi',hc'⟩:=cS hi hc
 have ch:=rest ops (i+1) hi' hc'
 exact .cons ho (run ops i o ho hit) (by rw[←rh hit];exact ch)
theorem dr.here {it:aP} {its:List aP} {t:Tm} {h h':H} {v:Value}
  (run:∀(ops:Array Oper) i o,ops[i]? =some o→bR P N ops o=some it→BF P ops i o t h v h'):dr P N (it::its) t h v h':=by
 intro ops i hi hc
 obtain ⟨o,ho,hit,hi',hc'⟩:=cS hi hc
 exact .here ho (run ops i o ho hit)
theorem Wp.G6 {items:List aP} {s:St} {Q:aQ→St→Prop} {v:Value} {h':H} (h:dr P N items s.t s.h v h') (hq:Q (.panic v) ⟨fun _=> .any,h'⟩):Wp P N (.reg items none) s Q:=by
 intro code hc
 obtain ⟨id,ops,draw,rfl,hi,hd⟩:=kb hc
 have ch:=h ops 0 (Nat.zero_le _) (by simpa using hi)
 have nm:=ch.nm
 obtain ⟨cl,ci⟩:=fO hi
 have hN:∀(i:Nat) o d,ops[i]? =some o→o.dst=some d→d<N:=by
  intro i o d ho hdd
  have hlt:i<ops.size:=(Array.getElem?_eq_some_iff.1 ho).1
  have hit:i<items.length:=by rw[cl];simpa using hlt
  have:=ci i o items[i] (by simpa using ho) (List.getElem?_eq_getElem hit)
  generalize items[i]=it at this
  unfold bR at this
  split at this
  ·split at this<;>cases this
   rename_i hcond
   simp only[Bool.and_eq_true] at hcond
   have:=hcond.1
   rw[hdd] at this
   simpa using this
  ·cases this
 refine ⟨.panic v,⟨fun _=> .any,h'⟩,⟨nm,fun ro okc G w a r F=>?_⟩,hq⟩
 rcases hd with ⟨rfl,-⟩|⟨-,-,-,hn⟩
 ·refine wpIn_region ?_
  rw[List.range_eq_range']
  have:=v7 ro (Q:=fun e' a' w'=>(aQ.panic v).fm e'∧kT w a.defers a'.defers∧∃G',Trans G w s.h G' w' h'∧Rel N ⟨fun _=> .any,h'⟩ G' w' a') hN ch G w a r.size r.t r.h F
   (fun G' w' a' T1 R1 s1 d1=>⟨rfl,by rw[d1];exact .refl,G',T1,⟨s1,fun _=>by simp[aw],R1,by rw[d1];exact r.df.mono T1⟩⟩)
  simpa using this
 ·cases hn
end
section
variable {P:Program} {T:FT}
end
end Go.Av
end
section
namespace Go.Av
section
variable {P:Program} {N:Nat}
theorem bL.eval {p:Option (List (Nat × Nat))}:∀{items its:List aP} {t t':Tm} {h h':H} {log log':List Ent} {R:Value→H→Prop},cO items t h log=(its,t',h',log')→bL P N p its t' h' log' R→bL P N p items t h log R
 |[],its,t,t',h,h',log,log',R,he,hw=>by simp only[cO,Prod.mk.injEq] at he;obtain ⟨rfl,rfl,rfl,rfl⟩:=he;exact hw
 |it::items,its,t,t',h,h',log,log',R,he,hw=>by
  simp only[cO] at he
  split at he
  ·rename_i hg
   split at he
   ·rename_i x h2 en hx
    have rest:=bL.eval he hw
    intro ops i hi hl hc
    obtain ⟨o,ho,hit,hi',hc'⟩:=cS hi hc
    obtain ⟨h1,h1',tc,run⟩:=gO ho hit hg hx
    obtain ⟨D,recs,t',hh',j,rj,oj,itj,v,A,hR⟩:=rest ops (i+1) hi' (by simp[hl]) hc'
    have hdst:it.dst=o.dst:=by
     unfold bR at hit
     split at hit
     ·split at hit<;>cases hit;rfl
     ·cases hit
    have hij:=A.ij
    refine ⟨D,⟨t,h,h1,h1',h2,x,en⟩::recs,t',hh',j,rj,oj,itj,v,⟨.cons ho rfl rfl tc (fun _=>run) (by rw[←hdst];exact A.ch),?_,ab,A.hoj,A.it,A.tj,A.run,A.Dj,A.Dk,?_,?_⟩,hR⟩
    ·have e:=A.hrj
     rw[show j - i=(j - (i+1))+1 by omega]
     simpa using e
    ·intro k r it' hr hit' ht
     cases k with
     |zero=>
      simp at hr hit';subst hr hit'
      rcases xv ht hx with h|⟨n,y,h⟩
      ·exact h
      ·rw[h] at ht;simp[cy] at ht
     |succ k=>simp at hr hit';exact A.e0 k r it' hr hit' ht
    ·intro l hl'
     have:=A.aN l hl'
     simpa using this
   ·simp only[Prod.mk.injEq] at he;obtain ⟨rfl,rfl,rfl,rfl⟩:=he;exact hw
  ·rename_i hg
   exact bL.step (bO h) (fun ops i o ho hit=>gP ho hit hg) (fun _=>rfl) (bL.eval he hw)
  ·simp only[Prod.mk.injEq] at he;obtain ⟨rfl,rfl,rfl,rfl⟩:=he;exact hw
theorem dr.eval:∀{items its:List aP} {t t':Tm} {h h2 h':H} {log log':List Ent} {v:Value},cO items t h log=(its,t',h2,log')→dr P N its t' h2 v h'→dr P N items t h v h'
 |[],its,t,t',h,h2,h',log,log',v,he,hw=>by simp only[cO,Prod.mk.injEq] at he;obtain ⟨rfl,rfl,rfl,rfl⟩:=he;exact hw
 |it::items,its,t,t',h,h2,h',log,log',v,he,hw=>by
  simp only[cO] at he
  split at he
  ·rename_i hg
   split at he
   ·rename_i x h3 en hx
    have rest:=dr.eval he hw
    refine dr.step (fun ops i o ho hit=>?_) rest
    obtain ⟨h1,h1',tc,run⟩:=gO ho hit hg hx
    exact pC.sG (N:=N) (full:=false) (.inl tc) run
   ·simp only[Prod.mk.injEq] at he;obtain ⟨rfl,rfl,rfl,rfl⟩:=he;exact hw
  ·rename_i hg
   exact dr.step (fun ops i o ho hit=>pC.sG (N:=N) (full:=false) (.inl (bO h)) (gP ho hit hg)) (dr.eval he hw)
  ·simp only[Prod.mk.injEq] at he;obtain ⟨rfl,rfl,rfl,rfl⟩:=he;exact hw
theorem Wp.BG {items its:List aP} {s:St} {Q:aQ→St→Prop} {t':Tm} {h2 h':H} {log:List Ent} {dst:Option Nat} {f:FuncId} {l:List Opd} {vals:List AV} {v:Value}
  (he:jc items s.t s.h []=some (⟨dst,none,.call f l⟩::its,t',h2,log)) (hs:ay (l.map (ev t')) vals) (hn:h2.n≤h'.n∧h2.m≤h'.m) (hc:eg P f vals h2 v h') (hq:Q (.panic v) ⟨fun _=> .any,h'⟩):Wp P N (.reg items none) s Q:=
 Wp.G6 (dr.eval (dO he) (dr.here fun ops i o ho hit=>BF.full hn (nZ ho hit rfl rfl hs hc))) hq
theorem Wp.uo {items its:List aP} {y:AC} {s:St} {Q:aQ→St→Prop} {t':Tm} {h2 h':H} {log:List Ent} {dst:Option Nat} {f:FuncId} {l:List Opd} {vals:List AV} {v:Value}
  (he:jc items s.t s.h []=some (⟨dst,none,.call f l⟩::its,t',h2,log)) (hs:ay (l.map (ev t')) vals) (hn:h2.n≤h'.n∧h2.m≤h'.m) (hc:eg P f vals h2 v h') (hq:Q (.panic v) ⟨fun _=> .any,h'⟩):Wp P N (.seq (.reg items none) y) s Q:=
 Wp.seq (Wp.BG he hs hn hc (by simpa [aQ.andThen] using hq))
theorem Wp.nmQ {c:AC} {s:St} {Q:aQ→St→Prop} (h:Wp P N c s Q):Wp P N c s (fun e s'=>(s.h.n≤s'.h.n∧s.h.m≤s'.h.m)∧Q e s'):=
 fun code hc=>let ⟨e,s',r,q⟩:=h code hc;⟨e,s',r,r.1,q⟩
theorem aU.pE {f:FuncId} {ac:AC} {args:List AV} {h:H} {ds:List RV} {Q:Value→H→Prop} (hF:aU P f N ac ds) (hl:args.length≤N) (hw:Wp P N ac ⟨gA args,h⟩ fun e s'=>∃v,e= .panic v∧Q v s'.h):∃v h',eg P f args h v h'∧(h.n≤h'.n∧h.m≤h'.m)∧Q v h':=
 hF.GR (Q:=fun v h'=>(h.n≤h'.n∧h.m≤h'.m)∧Q v h') hl (hw.nmQ.mono fun e s' ⟨a,v,b,c⟩=>⟨v,b,a,c⟩)
end
end Go.Av
end
section
namespace Go.Av
section
variable {P:Program} {N:Nat} {o:Oper} {t:Tm} {h:H} {G:aM} {w:World}
theorem an.op1 {it:aP} {its:List aP} {t:Tm} {h h':H} {en:Ent} {K:Tm→H→Prop} {x:AV} (hg:guardOf t it.guard=some true) (hx:aop (ev t) h it.op=some (x,h',en))
  (rest:an P N its (cg t it.dst x) h' K):an P N (it::its) t h K:=
 an.step (it:=it) (fun ops i o ho hit=>by
  obtain ⟨h1,h1',tc,run⟩:=gO ho hit hg hx
  exact pC.sG (N:=N) (full:=false) (.inl tc) run) rest
variable {dst:Option Nat} {g:Option (Nat × Bool)} {its:List aP} {K:Tm→H→Prop} {y x:Opd} {l:List UInt8} {id off:Nat}
end
end Go.Av
end
section
namespace Go.Av
section
variable {P:Program} {N:Nat}
theorem an.opT {dst:Option Nat} {g:Option (Nat × Bool)} {op:AOp} {its:List aP} {t:Tm} {h h':H} {en:Ent} {K:Tm→H→Prop} {x:AV} (hg:guardOf t g=some true) (hx:gE (ev t) h op=some (x,h',en))
  (rest:an P N its (cg t dst x) h' K):an P N (⟨dst,g,op⟩::its) t h K:=
 an.step (it:=⟨dst,g,op⟩) (fun ops i o ho hit=>by
  obtain ⟨h1,h1',tc,run⟩:=nu ho hit hg hx
  exact pC.sG (N:=N) (full:=false) (.inl tc) run) rest
end
end Go.Av
end
section
namespace Go.Av
section
variable {P:Program} {N:Nat}
theorem mC (h:H) {id:Nat} {ob ob':Obj} {m':Nat} (ho:h.objs id=some ob) (hm:h.m≤m'):Touch h (.only (upd az id (some ob)) [] h.n h.m) (.only (upd az id (some ob')) [] h.n m') {h with objs:=upd h.objs id (some ob'),m:=m'} ⟨[],[id],[]⟩ where
 sub:=(eG h ho).sub
 n:=rfl
 m:=rfl
 eq:=H.ext (fun j=>by
  simp only[H.patch,H.only,upd,az]
  by_cases e:j=id
  ·subst e;simp
  ·simp[e];omega) rfl (by simp[H.patch,H.only,eP]) rfl
 rd j x:=by
  simp only[H.only,upd,az] at x
  split at x
  ·rename_i e;subst e;simp
  ·cases x
 wr id a b:=by simp only[H.only] at a b;omega
 chg j x hj:=by
  simp only[H.only,upd,az] at x
  split at x
  ·rename_i e;subst e;simp at hj
  ·cases x
 tk t x:=by simp[H.only] at x
 tn t x:=by simp[H.only] at x
 le:=Nat.le_refl _
 lem:=hm
def sI (P:Program) (f:FuncId) (args:List AV) (id:Nat) (ob:Obj) (r:AV) (ob':Obj):Prop:=
 ∀n m,∃m',m≤m'∧aJ P f args (.only (upd az id (some ob)) [] n m) r (.only (upd az id (some ob')) [] n m')
theorem ao.uq {dst:Option Nat} {g:Option (Nat × Bool)} {f:FuncId} {l:List Opd} {its:List aP} {t:Tm} {h:H} {log:List Ent} {K:Tm→H→List Ent→Prop} {vals:List AV} {r:AV} {id:Nat} {ob ob':Obj} (hg:guardOf t g=some true) (hs:ay (l.map (ev t)) vals)
  (ho:h.objs id=some ob) (hc:sI P f vals id ob r ob') (rest:∀m',h.m≤m'→ao P N its (cg t dst r) {h with objs:=upd h.objs id (some ob'),m:=m'} (⟨[],[id],[]⟩::log) K):ao P N (⟨dst,g,.call f l⟩::its) t h log K:=by
 obtain ⟨m',hm,hc⟩:=hc h.n h.m
 exact ao.cF hg hs hc (mC h ho hm) (rest m' hm)
theorem an.uq {dst:Option Nat} {g:Option (Nat × Bool)} {f:FuncId} {l:List Opd} {its:List aP} {t:Tm} {h:H} {K:Tm→H→Prop} {vals:List AV} {r:AV} {id:Nat} {ob ob':Obj} (hg:guardOf t g=some true) (hs:ay (l.map (ev t)) vals)
  (ho:h.objs id=some ob) (hc:sI P f vals id ob r ob') (rest:∀m',h.m≤m'→an P N its (cg t dst r) {h with objs:=upd h.objs id (some ob'),m:=m'} K):an P N (⟨dst,g,.call f l⟩::its) t h K:=by
 obtain ⟨m',hm,hc⟩:=hc h.n h.m
 exact an.step (fun ops i o ho' hit=>pC.sG (N:=N) (full:=false) (.inl (mC h ho hm)) (fN ho' hit hg rfl hs hc)) (rest m' hm)
end
end Go.Av
end
section
namespace Go.Av
section
variable {P:Program} {N:Nat}
theorem sJ {h h':H} {b:Nat} (hb:∀j,(h.objs j).isSome=true→j<h.n) (hn:h.n≤h'.n) (hm:h.m≤h'.m) (no:aq h h') (hB:b<h.n) (sm:h'.objs b=h.objs b):Touch h h h' h' ⟨[b],(List.range h'.n).filter (fun j=> !(j == b)),h.toks++h'.toks⟩ where
 sub:=(gl hb hn hm no).sub
 n:=rfl
 m:=rfl
 eq:=(gl hb hn hm no).eq
 rd j hj:=by
  by_cases e:j=b
  ·left;simp[e]
  ·right
   exact List.mem_filter.2 ⟨List.mem_range.2 (Nat.lt_of_lt_of_le (hb j hj) hn),by simpa using e⟩
 wr j a c:=List.mem_filter.2 ⟨List.mem_range.2 c,by
  have:j≠b:=by omega
  simpa using this⟩
 chg j hj hw:=by
  by_cases e:j=b
  ·rw[e];exact sm
  ·exact absurd (List.mem_filter.2 ⟨List.mem_range.2 (Nat.lt_of_lt_of_le (hb j hj) hn),by simpa using e⟩) hw
 tk t ht:=List.mem_append.2 (.inl ht)
 tn t ht:=List.mem_append.2 (.inr ht)
 le:=hn
 lem:=hm
theorem ao.Fa {dst:Option Nat} {g:Option (Nat × Bool)} {f:FuncId} {l:List Opd} {its:List aP} {t:Tm} {h:H} {log:List Ent} {K:Tm→H→List Ent→Prop} {vals:List AV} {Q:AV→H→Prop} {b:Nat}
  (hg:guardOf t g=some true) (hs:ay (l.map (ev t)) vals) (hb:∀j,(h.objs j).isSome=true→j<h.n) (hB:b<h.n) (hc:aI P f vals h Q) (no:∀r h',Q r h'→aq h h'∧h'.objs b=h.objs b)
  (rest:∀r h',Q r h'→h.n≤h'.n→h.m≤h'.m→ao P N its (cg t dst r) h' (⟨[b],(List.range h'.n).filter (fun j=> !(j == b)),h.toks++h'.toks⟩::log) K):ao P N (⟨dst,g,.call f l⟩::its) t h log K:=by
 obtain ⟨r,h',hc,hn,hm,hq⟩:=hc
 exact ao.cF hg hs hc (sJ hb hn hm (no r h' hq).1 hB (no r h' hq).2) (rest r h' hq hn hm)
theorem bL.E0 {l:List (Nat × Nat)} {dst:Option Nat} {f:FuncId} {aa:List Opd} {its:List aP} {t:Tm} {h h':H} {log ents:List Ent} {R:Value→H→Prop} {vals:List AV} {v:Value} (hs:ay (aa.map (ev t)) vals) (hb:∀j,(h.objs j).isSome=true→j<h.n) (hn:h.n≤h'.n∧h.m≤h'.m) (hc:eg P f vals h v h') (no:aq h h')
  (hr:mr l log.length its (log.length+1) dst.toList (cg t dst .any) h'=some ents) (hp:aS l (log.reverse++⟨[],List.range h'.n,h.toks++h'.toks⟩::ents)) (hP:Bq l log.length (log.reverse++⟨[],List.range h'.n,h.toks++h'.toks⟩::ents)=true) (hq:R v h'):bL P N (some l) (⟨dst,none,.call f aa⟩::its) t h log R:=
 bL.here rfl (gl hb hn.1 hn.2 no) (fun ops i o ho hit=>nZ ho hit rfl rfl hs hc) (fun l' hl=>by cases hl;exact ⟨ents,hr,hp,hP⟩) hq
end
end Go.Av
end
section
set_option maxRecDepth 10000
namespace Go.Proofs.YtbgmofhgfnmaiaaGreat.Page
open Go Go.Av Go.Proofs Go.Proofs.YtbgmofhgfnmaiaaGreat.C
structure Node where
 leaf:Bool
 keys:List (List UInt8)
 vals:List (List UInt8)
 kids:List Int
def aD (n:Node):AV:= .agg [.bool n.leaf,.sl 1 (strs n.keys) .any,.sl 1 (strs n.vals) .any,.sl 1 (ints n.kids) .any]
theorem cT (n:Node):bf (aD n)=true:=by simp[aD,bf,aR,cG,gG,kE]
theorem kH (n:Node):aR [aD n]=true:=by simp[aR,cT]
def tot (l:List (List UInt8)):Nat:=(l.map List.length).sum
theorem gq (l:List (List UInt8)) (k:Nat) (h:k<l.length):tot (l.take (k+1))=tot (l.take k)+(l.getD k []).length:=by
 rw[List.take_succ_eq_append_getElem h,List.getD_eq_getElem?_getD,List.getElem?_eq_getElem h]
 simp only[tot,List.map_append,List.sum_append,List.map_cons,List.map_nil,List.sum_cons,List.sum_nil,Option.getD_some,Nat.add_zero]
theorem gT (l:List (List UInt8)) (k:Nat):tot (l.take k)≤tot l:=by
 have:l=l.take k++l.drop k:=by simp
 conv=>rhs;rw[this]
 simp only[tot,List.map_append,List.sum_append];omega
def size (n:Node):Nat:=if n.leaf then 3+3*n.keys.length+tot n.keys+tot n.vals else 7+5*n.keys.length+tot n.keys
structure Nb (n:Node):Prop where
 k:n.keys.length≤17592186044416
 v:n.vals.length≤17592186044416
 i:n.kids.length≤17592186044416
 tk:tot n.keys≤1152921504606846976
 tv:tot n.vals≤1152921504606846976
theorem pF (n:Node) (hn:Nb n):aZ Tryz.prog 118 [aD n] (.int .i64 (size n)):=by
 refine f118.eY af (bE _ (kH n)) (ct _ rfl) fun k m=>?_
 obtain ⟨hk,hv,hi,htk,htv⟩:=hn
 unfold F9 zz
 refine Wp.aF (by simp only[go_sem,aD];exact rfl) ag ?_
 refine Wp.aF (by simp only[go_sem];exact rfl) ag ?_
 refine Wp.po [(1,.ptr k 0),(3,.int .i64 (if n.leaf then 3 else 7:Nat)),(4,.int .i64 (if n.leaf then 3 else 5:Nat))] ?_ ?_
 ·refine Wp.aF al ag ?_
  refine Wp.bG (b:= !n.leaf) (by simp only[go_sem,reduceIte]) (fun h=>?_) (fun h=>?_)
  ·refine Wp.ke al ag (aK.tm ?_)
   have hl:n.leaf=false:=by simpa using h
   simp only[aY,go_sem,reduceIte,Nat.reduceEqDiff,hl]
   exact ⟨av.refl _,av.refl _,av.refl _,trivial⟩
  ·refine Wp.skip (aK.tm ?_)
   have hl:n.leaf=true:=by simpa using h
   simp only[aY,go_sem,reduceIte,Nat.reduceEqDiff,hl]
   exact ⟨av.refl _,av.refl _,av.refl _,trivial⟩
 ·generalize hB:(if n.leaf then 3 else 7:Nat)=B
  generalize hE:(if n.leaf then 3 else 5:Nat)=E
  have hEb:E≤5∧B≤7:=by split at hE<;>split at hB<;>omega
  refine Wp.po [(1,.ptr k 0),(3,.int .i64 (B+E*n.keys.length+tot n.keys:Nat))] ?_ ?_
  ·refine Wp.aF al ag ?_
   refine Wp.block (Wp.Bm (fun j:Nat=>[(1,.ptr k 0),(4,.int .i64 E),(13,.sl 1 (strs n.keys) .any),(14,.int .i64 n.keys.length),(15,.int .i64 j),(3,.int .i64 (B+E*j+tot (n.keys.take j):Nat))]) (fun j=>j≤n.keys.length) (fun j=>n.keys.length - j) 0 (Nat.zero_le _) ?_ ?_)
   ·simp only[aY,go_sem,reduceIte,Nat.reduceEqDiff]
    exact ⟨av.refl _,av.refl _,av.refl _,av.refl _,av.refl _,av.int (by simp[tot]),trivial⟩
   ·intro j hj
    refine Wp.aF al ag ?_
    refine Wp.seq (Wp.bG (b:=decide ((j:Int)<n.keys.length)) (by simp only[go_sem,reduceIte]) (fun h=>?_) (fun h=>?_))
    ·have hlt:j<n.keys.length:=by simpa using h
     have h1:(0:Int)≤(j:Int):=by omega
     have h2:(j:Int)<(n.keys.length:Int):=by omega
     have hts:=gq n.keys j hlt
     have htt:=gT n.keys (j+1)
     have hEj:E*(j+1)=E*j+E:=by rw[Nat.mul_add];omega
     have hEj2:E*j≤5*j:=Nat.mul_le_mul_right j hEb.1
     generalize E*j=F at*
     refine Wp.skip (Wp.seq (Wp.block ?_))
     refine Wp.aF (by simp only[go_sem,reduceIte,Nat.reduceEqDiff,Int.toNat_natCast,dD _ _ _ hlt,h1,h2,and_self,if_true];exact rfl) ag ?_
     refine Wp.ke (by simp only[go_sem,reduceIte,Nat.reduceEqDiff];simp (disch:=omega) only[IntWalk.i64_in];exact rfl) ag ?_
     refine Wp.ke (by simp only[go_sem,reduceIte,Nat.reduceEqDiff];simp (disch:=omega) only[IntWalk.i64_in];exact rfl) ag ?_
     refine ⟨j+1,hlt,ab,aK.tm ?_⟩
     simp only[aY,go_sem,reduceIte,Nat.reduceEqDiff]
     exact ⟨av.refl _,av.refl _,av.refl _,av.refl _,av.refl _,av.int (by rw[hts,hEj];omega),trivial⟩
    ·have he:j=n.keys.length:=by
      have:¬((j:Int)<n.keys.length):=by simpa using h
      omega
     subst he
     refine Wp.exit (aK.tm ?_)
     simp only[aY,go_sem,reduceIte,Nat.reduceEqDiff]
     exact ⟨av.refl _,av.int af,trivial⟩
  ·
   refine Wp.po [(3,.int .i64 (size n))] ?_ ?_
   ·refine Wp.aF al ag ?_
    refine Wp.bG (b:=n.leaf) (by simp only[go_sem,reduceIte]) (fun hl=>?_) (fun hl=>?_)
    ·rw[hl] at hB hE
     simp only[if_true] at hB hE
     subst hB hE
     refine Wp.aF al ag ?_
     refine Wp.block (Wp.Bm (fun j:Nat=>[(29,.sl 1 (strs n.vals) .any),(30,.int .i64 n.vals.length),(31,.int .i64 j),(3,.int .i64 (3+3*n.keys.length+tot n.keys+tot (n.vals.take j):Nat))]) (fun j=>j≤n.vals.length) (fun j=>n.vals.length - j) 0 (Nat.zero_le _) ?_ ?_)
     ·simp only[aY,go_sem,reduceIte,Nat.reduceEqDiff]
      exact ⟨av.refl _,av.refl _,av.refl _,av.int (by simp[tot]),trivial⟩
     ·intro j hj
      refine Wp.aF al ag ?_
      refine Wp.seq (Wp.bG (b:=decide ((j:Int)<n.vals.length)) (by simp only[go_sem,reduceIte]) (fun h=>?_) (fun h=>?_))
      ·have hlt:j<n.vals.length:=by simpa using h
       have h1:(0:Int)≤(j:Int):=by omega
       have h2:(j:Int)<(n.vals.length:Int):=by omega
       have hts:=gq n.vals j hlt
       have htt:=gT n.vals (j+1)
       refine Wp.skip (Wp.seq (Wp.block ?_))
       refine Wp.aF (by simp only[go_sem,reduceIte,Nat.reduceEqDiff,Int.toNat_natCast,dD _ _ _ hlt,h1,h2,and_self,if_true];exact rfl) ag ?_
       refine Wp.ke (by simp only[go_sem,reduceIte,Nat.reduceEqDiff];simp (disch:=omega) only[IntWalk.i64_in];exact rfl) ag ?_
       refine Wp.ke (by simp only[go_sem,reduceIte,Nat.reduceEqDiff];simp (disch:=omega) only[IntWalk.i64_in];exact rfl) ag ?_
       refine ⟨j+1,hlt,ab,aK.tm ?_⟩
       simp only[aY,go_sem,reduceIte,Nat.reduceEqDiff]
       exact ⟨av.refl _,av.refl _,av.refl _,av.int (by rw[hts];omega),trivial⟩
      ·have he:j=n.vals.length:=by
        have:¬((j:Int)<n.vals.length):=by simpa using h
        omega
       subst he
       refine Wp.exit (aK.tm ?_)
       simp only[aY,go_sem,reduceIte,Nat.reduceEqDiff]
       exact ⟨av.int (by simp[size,hl]),trivial⟩
    ·rw[hl] at hB hE
     simp only[if_false,Bool.false_eq_true] at hB hE
     subst hB hE
     refine Wp.skip (aK.tm ?_)
     simp only[aY,go_sem,reduceIte,Nat.reduceEqDiff]
     exact ⟨av.int (by simp[size,hl]),trivial⟩
   ·refine Wp.aF al ag ?_
    refine Wp.ret ⟨trivial,_,rfl,?_⟩
    simp only[go_sem,reduceIte,Nat.reduceEqDiff]
    exact av.refl _
theorem lQ (b:List UInt8):Op.bytesLess [] b=decide (0<b.length):=by cases b<;>simp[Op.bytesLess]
theorem db (a:List UInt8):Op.bytesLess a []=false:=by cases a<;>simp[Op.bytesLess]
theorem sK {a b:List UInt8} {j:Nat} (ha:j<a.length) (hb:j<b.length):Op.bytesLess (a.drop j) (b.drop j)=(decide (a.getD j 0<b.getD j 0)||(a.getD j 0 == b.getD j 0&&Op.bytesLess (a.drop (j+1)) (b.drop (j+1)))):=by
 rw[List.drop_eq_getElem_cons ha,List.drop_eq_getElem_cons hb]
 simp[Op.bytesLess,List.getD,List.getElem?_eq_getElem ha,List.getElem?_eq_getElem hb]
theorem kg {a b:List UInt8} {j:Nat} (ha:j≤a.length) (hb:j≤b.length) (h:¬(j<a.length∧j<b.length)):Op.bytesLess (a.drop j) (b.drop j)=decide ((a.length:Int)<(b.length:Int)):=by
 by_cases h1:j<a.length
 ·have:b.drop j=[]:=List.drop_eq_nil_of_le ab
  rw[this,db];symm;simp;omega
 ·have:a.drop j=[]:=List.drop_eq_nil_of_le ab
  rw[this,lQ];simp;omega
def Ls (l:List UInt8):Prop:=l.length≤9223372036854775806
theorem xH (a b:List UInt8) (la:Ls a) (lb:Ls b):aZ Tryz.prog 43 [.str a,.str b] (.bool (Op.bytesLess a b)):=by
 refine f43.eY af (bE _ rfl) (ct _ rfl) fun k m=>?_
 unfold Ls at la lb
 unfold c43 zz
 refine Wp.aF xA1 ag ?_
 refine Wp.seq ?_
 refine Wp.aF xA1 ag ?_
 refine Wp.block ?_
 refine Wp.kZ [0,1] xA6 (fun j:Nat=>[(5,.int .i64 j)]) (fun j=>j≤a.length∧j≤b.length∧Op.bytesLess (a.drop j) (b.drop j)=Op.bytesLess a b) (fun j=>a.length - j) 0 ⟨Nat.zero_le _,Nat.zero_le _,rfl⟩ ?_ ?_
 ·exact xSb
 ·intro j hj
  obtain ⟨h1,h2,h3⟩:=hj
  refine Wp.seq ?_
  by_cases hc:j<a.length∧j<b.length
  ·have ha:decide ((j:Int)<(a.length:Int))=true:=by simp;omega
   have hb:decide ((j:Int)<(b.length:Int))=true:=by simp;omega
   have h4:(0:Int)≤(j:Int):=by omega
   have h5:(j:Int)<(a.length:Int):=by omega
   have h6:(j:Int)<(b.length:Int):=by omega
   refine Wp.aF (xAe (cj2 ha hb)) ag ?_
   refine Wp.cond_true (by simp only[go_sem,reduceIte,Nat.reduceEqDiff,Bool.false_eq_true]) ?_
   refine Wp.skip ?_
   refine Wp.seq ?_
   refine Wp.block ?_
   refine Wp.aF (xAd (cj6 h4 h5 h6 @and_self @Int.toNat_natCast @byte.eq_1)) ag ?_
   have hs:=sK hc.1 hc.2
   refine Wp.bG (b:= !decide (((a.getD j 0).toNat:Int)=((b.getD j 0).toNat:Int))) xA2 (fun hd=>?_) (fun hd=>?_)
   ·refine Wp.aF (xAd (cj6 h4 h5 h6 @and_self @Int.toNat_natCast @byte.eq_1)) ag ?_
    refine cI ?_
    refine av.of_eq ?_
    congr 1
    rw[←h3,hs]
    have hne:¬(a.getD j 0=b.getD j 0):=fun he=>by rw[he] at hd;simp at hd
    have:(a.getD j 0 == b.getD j 0)=false:=by simpa using hne
    rw[this,Bool.false_and,Bool.or_false]
    congr 1
    rw[UInt8.lt_iff_toNat_lt]
    simp
   ·refine Wp.skip ?_
    refine Wp.ke (by simp only[go_sem,reduceIte,Nat.reduceEqDiff,Nat.reduceAdd,bx];simp (disch:=omega) only[IntWalk.i64_in];exact rfl) ag ?_
    have he:a.getD j 0=b.getD j 0:=by
     apply UInt8.toNat_inj.1
     have:((a.getD j 0).toNat:Int)=((b.getD j 0).toNat:Int):=by simpa using hd
     omega
    refine ⟨j+1,⟨ab,ab,?_⟩,ab,?_⟩
    ·rw[←h3,hs,he];simp[UInt8.lt_irrefl]
    ·exact xSu
  ·have hx:(decide ((j:Int)<(a.length:Int))&&decide ((j:Int)<(b.length:Int)))=false:=by
    by_cases h:j<a.length
    ·have:¬j<b.length:=fun h'=>hc ⟨h,h'⟩
     simp;omega
    ·simp;omega
   by_cases ha:j<a.length
   ·have h7:decide ((j:Int)<(a.length:Int))=true:=by simp;omega
    have h8:decide ((j:Int)<(b.length:Int))=false:=by rw[h7,Bool.true_and] at hx;exact hx
    refine Wp.aF (xAe (cj2 h7 h8)) ag ?_
    refine Wp.cond_false (by simp only[go_sem,reduceIte,Nat.reduceEqDiff,Bool.false_eq_true]) ?_
    refine Wp.exit ?_
    refine Wp.aF xA1 ag ?_
    refine cI ?_
    rw[←h3,kg h1 h2 hc]
    exact av.refl _
   ·have h7:decide ((j:Int)<(a.length:Int))=false:=by simp;omega
    refine Wp.aF (xAe h7) ag ?_
    refine Wp.cond_false (by simp only[go_sem,reduceIte,Nat.reduceEqDiff,Bool.false_eq_true]) ?_
    refine Wp.exit ?_
    refine Wp.aF xA1 ag ?_
    refine cI ?_
    rw[←h3,kg h1 h2 hc]
    exact av.refl _
def ix {α:Type} (p:α→Bool) (l:List α):Int:=if l.any p then (l.findIdx p:Nat) else -1
theorem BH {α:Type} {p:α→Bool} {l:List α} {j:Nat} (hj:j<l.length) (h:p l[j]=true) (hs:∀i (hi:i<l.length),i<j→p l[i]=false):ix p l=j:=by
 have h1:l.any p=true:=List.any_eq_true.2 ⟨l[j],List.getElem_mem hj,h⟩
 have h2:l.findIdx p=j:=(List.findIdx_eq hj).2 ⟨h,fun i hi=>hs i ab hi⟩
 simp[ix,h1,h2]
theorem DK {α:Type} {p:α→Bool} {l:List α} (hs:∀i (hi:i<l.length),p l[i]=false):ix p l= -1:=by
 have h1:l.any p=false:=by
  rw[List.any_eq_false]
  intro x hx
  obtain ⟨i,hi,rfl⟩:=List.mem_iff_getElem.1 hx
  simp[hs i hi]
 simp[ix,h1]
theorem zD {α:Type} {p:α→Bool} {l:List α}:decide (0≤ix p l)=l.any p:=by
 unfold ix
 cases l.any p<;>simp
theorem qz {x:AV} (h:aO x=true):cellsOf x=[x]:=by cases x<;>simp_all [aO,cellsOf]
theorem nv {f:FuncId} (hF:aU Tryz.prog f 19 E3 [.tmp 4]) {α:Type} (enc:α→AV) (hpure:∀x,bf (enc x)=true) (hcell:∀x,aO (enc x)=true) (l:List α) (hl:l.length≤4611686018427387904)
  (p:α→Bool) {g:FuncId} {fn:Func} (hf:Tryz.prog.funcs[g]? =some fn) (hb:fn.body.isSome=true) (hn:fn.name≠ "runtime.NumGoroutine") (hp:∀x∈l,aZ Tryz.prog g [enc x] (.bool (p x))):
  aZ Tryz.prog f [.sl 1 (l.map enc) .any,.clo (.func g) [] []] (.int .i64 (ix p l)):=by
 refine hF.eY af (bE _ (by simp[aR,bf,cG,cW hpure])) (ct _ rfl) fun k m=>?_
 unfold E3 zz
 refine Wp.aF xA1 ag ?_
 refine Wp.seq ?_
 refine Wp.aF (xAe @List.length_map.{0,0}) ag ?_
 refine Wp.block ?_
 refine Wp.kZ [0,1,7] xA6 (fun j:Nat=>[(8,.int .i64 j)]) (fun j=>j≤l.length∧∀i (hi:i<l.length),i<j→p l[i]=false) (fun j=>l.length - j) 0 ⟨Nat.zero_le _,fun i hi h=>absurd h ab⟩ ?_ ?_
 ·exact xSb
 ·intro j hj
  obtain ⟨hj,hs⟩:=hj
  refine Wp.aF xA1 ag ?_
  refine Wp.seq ?_
  refine Wp.bG (b:=decide ((j:Int)<(l.length:Int))) xA2 (fun hc=>?_) (fun hc=>?_)
  ·have h1:(0:Int)≤(j:Int):=by omega
   have h2:(j:Int)<(l.length:Int):=by simpa using hc
   have h3:j<l.length:=by omega
   have h4:(l.map enc).getD j .any=enc l[j]:=by simp[List.getD,h3]
   have hI:=hcell l[j]
   have hC:=qz hI
   simp only[aO] at hI
   simp only[cellsOf] at hC
   refine Wp.skip ?_
   refine Wp.seq ?_
   refine Wp.block ?_
   refine Wp.aF xA1 ag ?_
   refine Wp.seqItems (xAd (cj8 @List.length_map.{0,0} h1 h2 @and_self @Int.toNat_natCast h4 hI hC)) ?_
   refine ao.EW (r:= .bool (p l[j])) ae al hf hb hn xA4 (hp _ (List.getElem_mem h3)) ?_
   refine ao.eval xA1 ?_
   refine ao.nil ⟨by trivial,?_⟩
   refine Wp.bG (b:=p l[j]) xA2 (fun hd=>?_) (fun hd=>?_)
   ·refine Wp.aF xA1 ag ?_
    refine cI ?_
    rw[BH h3 hd hs]
    exact av.refl _
   ·refine Wp.skip ?_
    refine Wp.ke (by simp only[go_sem,reduceIte,Nat.reduceEqDiff,Nat.reduceAdd,bx];simp (disch:=omega) only[IntWalk.i64_in];exact rfl) ag ?_
    refine ⟨j+1,⟨ab,fun i hi h=>?_⟩,ab,?_⟩
    ·by_cases he:i=j
     ·subst he;exact hd
     ·exact hs i hi ab
    ·exact xSu
  ·have:¬(j:Int)<(l.length:Int):=by simpa using hc
   refine Wp.exit ?_
   refine Wp.aF xA1 ag ?_
   refine cI ?_
   rw[DK fun i hi=>hs i hi ab]
   exact av.refl _
theorem jK {f f':FuncId} (hF:aU Tryz.prog f 9 (.seq (.reg [⟨some 4,none,.mov (.c (.bool false))⟩] none) (.seq (.reg [⟨some 5,none,.mov (.t 0)⟩,⟨some 6,none,.mov (.t 1)⟩,⟨some 7,none,.call f' [(.t 5),(.t 6)]⟩,⟨some 8,none,.bin .geq (.t 7) (.c (.int .i64 0))⟩,⟨some 4,none,.mov (.t 8)⟩] none) .ret)) [.tmp 4])
  {α:Type} (enc:α→AV) (hpure:∀x,bf (enc x)=true) (l:List α) (p:α→Bool) {g:FuncId} (hi:aZ Tryz.prog f' [.sl 1 (l.map enc) .any,.clo (.func g) [] []] (.int .i64 (ix p l))):
  aZ Tryz.prog f [.sl 1 (l.map enc) .any,.clo (.func g) [] []] (.bool (l.any p)):=by
 refine hF.eY af (bE _ (by simp[aR,bf,cG,cW hpure])) (ct _ rfl) fun k m=>?_
 refine Wp.aF xA1 ag ?_
 refine Wp.seqItems xA1 ?_
 refine ao.bW xA2 xAb (hi) ?_
 refine ao.eval xA1 ?_
 refine ao.nil ⟨by trivial,?_⟩
 refine cI ?_
 rw[←zD]
 exact av.refl _
def gU (l:List (List UInt8)) (i:Nat):Bool:=decide ((l.getD i []).length≤128)&&(decide (i=0)||Op.bytesLess (l.getD (i - 1) []) (l.getD i []))
def gy (l:List (List UInt8)):Bool:=(List.range l.length).all (gU l)
theorem oe {l:List (List UInt8)} (h:∀i,i<l.length→gU l i=true):gy l=true:=by
 simp only[gy,List.all_eq_true,List.mem_range];exact h
theorem mD {l:List (List UInt8)} {i:Nat} (hi:i<l.length) (h:gU l i=false):gy l=false:=by
 rw[gy,List.all_eq_false]
 exact ⟨i,List.mem_range.2 hi,by simp[h]⟩
theorem ny {l:List (List UInt8)} (h:gy l=true) {i:Nat} (hi:i<l.length):gU l i=true:=by
 simp only[gy,List.all_eq_true,List.mem_range] at h;exact h i hi
def sL (v:List UInt8):Bool:=decide (200<v.length)
def lf (k:Int):Bool:=decide (k<0)||decide (16384≤k)
def right (n:Node):Bool:=gy n.keys&&(if n.leaf then decide (n.vals.length=n.keys.length)&&decide (n.kids.length=0)&& !n.vals.any sL
 else decide (n.vals.length=0)&&decide (n.kids.length=n.keys.length+1)&& !n.kids.any lf)
theorem Fb (v:List UInt8):aZ Tryz.prog 105 [.str v] (.bool (sL v)):=by
 refine f105.eY af (bE _ rfl) (ct _ rfl) fun k m=>?_
 unfold FW zz
 refine Wp.aF xA1 ag ?_
 refine Wp.aF xA1 ag ?_
 refine cI ?_
 refine av.of_eq ?_
 unfold sL
 congr 1
 exact decide_eq_decide.2 ab
theorem DL (x:Int):aZ Tryz.prog 107 [.int .i64 x] (.bool (lf x)):=by
 refine f107.eY af (bE _ rfl) (ct _ rfl) fun k m=>?_
 unfold FX zz
 unfold lf
 by_cases h:x<0
 ·have h':decide (x<0)=true:=by simpa using h
  refine Wp.aF xA1 ag ?_
  refine Wp.aF (xAe h') ag ?_
  refine cI ?_
  rw[h']
  exact av.refl _
 ·have h':decide (x<0)=false:=by simpa using h
  refine Wp.aF xA1 ag ?_
  refine Wp.aF (xAe h') ag ?_
  refine cI ?_
  rw[h']
  exact av.refl _
theorem zE (l:List (List UInt8)) (hl:l.length≤4611686018427387904):aZ Tryz.prog 106 [.sl 1 (strs l) .any,.clo (.func 105) [] []] (.bool (l.any sL)):=
 jK f106 .str (fun _=>rfl) l sL (nv f141 .str (fun _=>rfl) (fun _=>rfl) l hl sL Tryz.func105 rfl (of_decide_eq_true (by kernel_rfl)) fun x _=>Fb x)
theorem v8 (l:List Int) (hl:l.length≤4611686018427387904):aZ Tryz.prog 90 [.sl 1 (ints l) .any,.clo (.func 107) [] []] (.bool (l.any lf)):=
 jK f90 (.int .i64) (fun _=>rfl) l lf (nv f124 (.int .i64) (fun _=>rfl) (fun _=>rfl) l hl lf Tryz.func107 rfl (of_decide_eq_true (by kernel_rfl)) fun x _=>DL x)
theorem fe (n:Node) (hn:Nb n):aZ Tryz.prog 73 [aD n] (.bool (right n)):=by
 refine f73.eY af (bE _ (kH n)) (ct _ rfl) fun k m=>?_
 obtain ⟨hk,hv,hi,htk,htv⟩:=hn
 unfold c73 zz
 refine Wp.aF (xAe @aD.eq_1) ag ?_
 refine Wp.seq ?_
 refine Wp.aF xA1 ag ?_
 refine Wp.block ?_
 refine Wp.kZ [1,8,9] xA6 (fun j:Nat=>[(10,.int .i64 j)]) (fun j=>j≤n.keys.length∧∀i,i<j→gU n.keys i=true) (fun j=>n.keys.length - j) 0 ⟨Nat.zero_le _,fun i h=>absurd h ab⟩ ?_ ?_
 ·exact xSb
 ·intro j hj
  obtain ⟨hj,hs⟩:=hj
  refine Wp.aF xA1 ag ?_
  refine Wp.seq ?_
  refine Wp.bG (b:=decide ((j:Int)<(n.keys.length:Int))) xA2 (fun hc=>?_) (fun hc=>?_)
  ·have h1:(0:Int)≤(j:Int):=by omega
   have h2:(j:Int)<(n.keys.length:Int):=by simpa using hc
   have h3:j<n.keys.length:=by omega
   refine Wp.skip ?_
   refine Wp.seq ?_
   refine Wp.block ?_
   refine Wp.aF (xAd (cj5 @Int.toNat_natCast (fun d=>dD _ _ d h3) h1 h2 @and_self)) ag ?_
   by_cases hl:(n.keys.getD j []).length≤128
   ·have hl':decide ((128:Int)<((n.keys.getD j []).length:Int))=false:=decide_eq_false ab
    by_cases h0:j=0
    ·subst h0
     refine Wp.aF (by simp only[go_sem,reduceIte,Nat.reduceEqDiff,Nat.reduceAdd,bx,hl',Int.lt_irrefl,decide_false,Int.natCast_zero];exact rfl) ag ?_
     refine Wp.cond_false (by simp only[go_sem,reduceIte,Nat.reduceEqDiff,Bool.false_eq_true,Bool.and_false]) ?_
     refine Wp.skip ?_
     refine Wp.ke (by simp only[go_sem,reduceIte,Nat.reduceEqDiff,Nat.reduceAdd,bx];simp (disch:=omega) only[IntWalk.i64_in];exact rfl) ag ?_
     refine ⟨1,⟨ab,fun i h=>?_⟩,ab,?_⟩
     ·obtain rfl:i=0:=by omega
      simp only[gU,decide_true,Bool.true_or,Bool.and_true,decide_eq_true_eq];exact hl
     ·exact xSu
    ·have h0':decide ((0:Int)<(j:Int))=true:=decide_eq_true ab
     have hw:IntKind.i64.wrap ((j:Int) - 1)=((j - 1:Nat):Int):=by rw[IntWalk.i64_in _ ab];omega
     have h5:(0:Int)≤((j - 1:Nat):Int):=by omega
     have h6:((j - 1:Nat):Int)<(n.keys.length:Int):=by omega
     have h7:j - 1<n.keys.length:=by omega
     refine Wp.aF (xAd (cj8 hl' h0' hw @Int.toNat_natCast (fun d=>dD _ _ d h7) h5 h6 @and_self)) ag ?_
     refine Wp.bG (b:= !Op.bytesLess (n.keys.getD (j - 1) []) (n.keys.getD j [])) xA2 (fun hd=>?_) (fun hd=>?_)
     ·have hko:gU n.keys j=false:=by simp only[gU];simp at hd;simp[h0];intro;exact hd
      refine Wp.aF xA1 ag ?_
      refine cI ?_
      rw[right,mD h3 hko,Bool.false_and]
      exact av.refl _
     ·refine Wp.skip ?_
      refine Wp.ke (by simp only[go_sem,reduceIte,Nat.reduceEqDiff,Nat.reduceAdd,bx];simp (disch:=omega) only[IntWalk.i64_in];exact rfl) ag ?_
      refine ⟨j+1,⟨ab,fun i h=>?_⟩,ab,?_⟩
      ·by_cases he:i=j
       ·subst he
        simp at hd
        simp only[gU,Bool.and_eq_true,decide_eq_true_eq,Bool.or_eq_true]
        exact ⟨hl,.inr hd⟩
       ·exact hs i ab
      ·exact xSu
   ·have hl':decide ((128:Int)<((n.keys.getD j []).length:Int))=true:=decide_eq_true ab
    refine Wp.aF (xAe hl') ag ?_
    refine Wp.cond_true (by simp only[go_sem,reduceIte,Nat.reduceEqDiff,Bool.false_eq_true]) ?_
    refine Wp.aF xA1 ag ?_
    refine cI ?_
    have hko:gU n.keys j=false:=by simp only[gU];rw[decide_eq_false ab,Bool.false_and]
    rw[right,mD h3 hko,Bool.false_and]
    exact av.refl _
  ·have hc':¬(j:Int)<(n.keys.length:Int):=by simpa using hc
   have hko:=oe fun i h=>hs i ab
   refine Wp.exit ?_
   refine Wp.seq ?_
   refine Wp.aF xA1 ag ?_
   refine Wp.bG (b:=n.leaf) xA2 (fun hf=>?_) (fun hf=>?_)
   ·refine Wp.aF xA1 ag ?_
    rw[right,hko,hf]
    simp only[Bool.true_and,if_true]
    by_cases e1:n.vals.length=n.keys.length
    ·have e1':decide ((n.vals.length:Int)=(n.keys.length:Int))=true:=decide_eq_true ab
     by_cases e2:n.kids.length=0
     ·have e2':decide ((n.kids.length:Int)=0)=true:=decide_eq_true ab
      refine Wp.seqItems (xAe (cj2 e1' e2')) ?_
      refine ao.bW xA2 xAb (zE n.vals ab) ?_
      refine ao.eval xA1 ?_
      refine ao.nil ⟨by trivial,?_⟩
      refine cI ?_
      refine av.of_eq ?_
      simp[e1,e2]
     ·have e2':decide ((n.kids.length:Int)=0)=false:=decide_eq_false ab
      refine Wp.aF (xAe (cj2 e1' e2')) ag ?_
      refine cI ?_
      refine av.of_eq ?_
      simp[e1,e2]
    ·have e1':decide ((n.vals.length:Int)=(n.keys.length:Int))=false:=decide_eq_false ab
     refine Wp.aF (xAe e1') ag ?_
     refine cI ?_
     refine av.of_eq ?_
     simp[e1]
   ·refine Wp.skip ?_
    refine Wp.aF xA1 ag ?_
    rw[right,hko,hf]
    simp only[Bool.true_and,Bool.false_eq_true,if_false]
    have hw:IntKind.i64.wrap ((n.keys.length:Int)+1)=((n.keys.length+1:Nat):Int):=by rw[IntWalk.i64_in _ ab];omega
    by_cases e1:n.vals.length=0
    ·have e1':decide ((n.vals.length:Int)=0)=true:=decide_eq_true ab
     by_cases e2:n.kids.length=n.keys.length+1
     ·have e2':decide ((n.kids.length:Int)=((n.keys.length+1:Nat):Int))=true:=decide_eq_true ab
      refine Wp.seqItems (xAe (cj3 e1' hw e2')) ?_
      refine ao.bW xA2 xAb (v8 n.kids ab) ?_
      refine ao.eval xA1 ?_
      refine ao.nil ⟨by trivial,?_⟩
      refine cI ?_
      refine av.of_eq ?_
      simp[e1,e2]
     ·have e2':decide ((n.kids.length:Int)=((n.keys.length+1:Nat):Int))=false:=decide_eq_false ab
      refine Wp.aF (xAe (cj3 e1' hw e2')) ag ?_
      refine cI ?_
      refine av.of_eq ?_
      simp[e1,e2]
    ·have e1':decide ((n.vals.length:Int)=0)=false:=decide_eq_false ab
     refine Wp.aF (xAe e1') ag ?_
     refine cI ?_
     refine av.of_eq ?_
     simp[e1]
def check (n:Node):Nat:=if right n then (if size n≤1024 then 0 else 5) else 2
theorem mE (n:Node) (hn:Nb n):aZ Tryz.prog 103 [aD n] (.int .i64 (check n)):=by
 refine f103.eY af (bE _ (kH n)) (ct _ rfl) fun k m=>?_
 unfold FV zz
 refine Wp.aF (xAe @aD.eq_1) ag ?_
 refine Wp.seq ?_
 refine Wp.block ?_
 refine Wp.seqItems xA1 ?_
 refine ao.bW xA2 xAb (fe n hn) ?_
 refine ao.eval xA1 ?_
 refine ao.nil ⟨by trivial,?_⟩
 refine Wp.bG (b:= !right n) xA2 (fun hd=>?_) (fun hd=>?_)
 ·refine Wp.aF xA1 ag ?_
  refine cI ?_
  refine av.int ?_
  have:right n=false:=by simpa using hd
  simp[check,this]
 ·have hr:right n=true:=by simpa using hd
  refine Wp.seqItems xA1 ?_
  refine ao.bW xA2 xAb (pF n hn) ?_
  refine ao.eval xA1 ?_
  refine ao.nil ⟨by trivial,?_⟩
  refine Wp.bG (b:=decide ((1024:Int)<(size n:Int))) xA2 (fun he=>?_) (fun he=>?_)
  ·have he':(1024:Int)<(size n:Int):=by simpa using he
   refine Wp.aF xA1 ag ?_
   refine cI ?_
   refine av.int ?_
   rw[check,if_pos hr,if_neg ab]
   rfl
  ·have he':¬(1024:Int)<(size n:Int):=by simpa using he
   refine Wp.skip ?_
   refine Wp.aF xA1 ag ?_
   refine cI ?_
   refine av.int ?_
   rw[check,if_pos hr,if_pos ab]
   rfl
def be:Nat→Nat→List UInt8
 |0,_=>[]
 |b+1,v=>UInt8.ofNat (v/256^b)::be b v
theorem bY:∀b v,(be b v).length=b
 |0,_=>rfl
 |b+1,v=>by simp[be,bY b v]
theorem BI (v i:Nat) (hi:i≤7):AV.int .u8 (IntKind.u8.wrap ((v:Int).fdiv (2^(min ((8*i:Nat):Int).toNat 64))))=byte (UInt8.ofNat (v/256^i)):=by
 have h1:min ((8*i:Nat):Int).toNat 64=8*i:=by rw[Int.toNat_natCast];omega
 have h2:(2:Int)^(8*i)=((256^i:Nat):Int):=by
  rw[Int.pow_mul];norm_cast
 rw[h1,h2,byte,Int.fdiv_eq_ediv_of_nonneg _ (Int.natCast_nonneg _),←Int.natCast_ediv,IntKind.wrap_u8]
 congr 1
theorem mF (l m:List UInt8):ar (l++m)=ar l++ar m:=by simp[ar]
theorem sM {f:FuncId} (hF:aU Tryz.prog f 24 E4 [.tmp 6]) (K:IntKind) (v:Nat) (hv:v<18446744073709551616) (b:Nat) (hb:b≤8) (xs:List UInt8) (hx:xs.length≤1099511627776):
  pt Tryz.prog f (fun t=>[.sl 1 (ar xs) (.own t),.int K v,.int .i64 b]) (fun t=> .sl 1 (ar (xs++be b v)) (.own t)):=by
 intro t n m
 suffices h:∃r h',aJ Tryz.prog f [.sl 1 (ar xs) (.own t),.int K v,.int .i64 b] (.only az [t] n m) r h'∧∃t' m',m≤m'∧r= .sl 1 (ar (xs++be b v)) (.own t')∧h'= .only az [t'] n m' by
  obtain ⟨r,h',ha,t',m',hm,rfl,rfl⟩:=h
  exact ⟨t',m',hm,ha⟩
 refine hF.fA af ?_
 unfold E4 zz
 refine Wp.aF xA1 ag ?_
 refine Wp.seq ?_
 refine Wp.aF (by simp only[go_sem,reduceIte,Nat.reduceEqDiff,Nat.reduceAdd,bx];simp (disch:=omega) only[IntWalk.i64_in];exact rfl) ag ?_
 refine Wp.block ?_
 refine Wp.eH [1] xA7 (fun j:Nat × List UInt8 × Nat × Nat=>[(0,.sl 1 (ar (xs++j.2.1)) (.own j.2.2.1)),(7,.int .i64 ((j.1:Int) - 1))]) (fun j=> .only az [j.2.2.1] n j.2.2.2)
  (fun j=>j.1≤b∧m≤j.2.2.2∧j.2.1++be j.1 v=be b v) (fun j=>j.1) (b,[],t,m) ⟨Nat.le_refl _,Nat.le_refl _,rfl⟩ rfl ?_ ?_
 ·simp only[aY,go_sem,reduceIte,Nat.reduceEqDiff,Nat.reduceAdd,bx,List.append_nil];and_intros<;>first|exact trivial|exact av.refl _|exact av.any _|(refine av.int ?_;omega)
 ·intro j hj
  obtain ⟨r,dn,tk,m'⟩:=j
  obtain ⟨h1,h2,h3⟩:=hj
  simp only at h1 h2 h3
  have hdl:dn.length+r=b:=by have:=congrArg List.length h3;simp only[List.length_append,bY] at this;exact this
  refine Wp.seq ?_
  refine Wp.aF xA1 ag ?_
  refine Wp.bG (b:=decide ((0:Int)≤(r:Int) - 1)) xA2 (fun hc=>?_) (fun hc=>?_)
  ·have hc':(0:Int)≤(r:Int) - 1:=by simpa using hc
   obtain ⟨i,rfl⟩:∃i,r=i+1:=⟨r - 1,ab⟩
   have e1:((i+1:Nat):Int) - 1=(i:Int):=by omega
   have e2:IntKind.i64.wrap (8*(i:Int))=((8*i:Nat):Int):=by rw[IntWalk.i64_in _ ab];omega
   have e3:IntKind.u64.wrap (v:Int)=(v:Int):=IntWalk.u64_in _ ab
   have e4:¬((8*i:Nat):Int)<0:=by omega
   have e5:=BI v i ab
   have e6:(ar (xs++dn)).length+1≤140737488355328:=by rw[jF,List.length_append];omega
   have e7:(ar (xs++dn)).length+1<4611686018427387904:=by omega
   rw[jF] at e6 e7
   refine Wp.skip ?_
   refine Wp.seq ?_
   refine Wp.block ?_
   rw[e1]
   refine Wp.ke (by simp only[go_sem,reduceIte,Nat.reduceEqDiff,Nat.reduceAdd,bx,e2,e3,e4,e5,Nat.mul_one,Nat.one_mul,IntKind.bits,e6,e7,true_and,and_self,if_true,ne_eq,byte,decide_true,Nat.reduceMul,Nat.reduceLeDiff];exact rfl) ag ?_
   refine Wp.ke (by simp only[go_sem,reduceIte,Nat.reduceEqDiff,Nat.reduceAdd,bx];simp (disch:=omega) only[IntWalk.i64_in];exact rfl) ag ?_
   refine ⟨(i,dn++[UInt8.ofNat (v/256^i)],m',m'+1),⟨by simp only;omega,by simp only;omega,by rw[←h3];simp[be]⟩,by simp,?_⟩
   refine aK.tm (by simp only[aY,go_sem,reduceIte,Nat.reduceEqDiff,Nat.reduceAdd,bx];and_intros<;>first|exact trivial|exact av.refl _|exact av.any _|exact av.of_eq (by simp[ar,byte])|(refine av.int ?_;omega))
  ·skip
   refine Wp.exit ?_
   refine Wp.aF xA1 ag ?_
   have hr:r=0:=by
    have:¬(0:Int)≤(r:Int) - 1:=by simpa using hc
    omega
   subst hr
   have h4:dn=be b v:=by simpa [be] using h3
   subst h4
   refine Wp.ret ⟨trivial,_,rfl,tk,m',h2,?_,rfl⟩
   simp only[go_sem,reduceIte,Nat.reduceEqDiff]
theorem sN (v:Nat) (hv:v<65536) (xs:List UInt8) (hx:xs.length≤1099511627776):pt Tryz.prog 111 (fun t=>[.sl 1 (ar xs) (.own t),.int .i64 v]) (fun t=> .sl 1 (ar (xs++be 2 v)) (.own t)):=by
 intro t n m
 suffices h:∃r h',aJ Tryz.prog 111 [.sl 1 (ar xs) (.own t),.int .i64 v] (.only az [t] n m) r h'∧∃t' m',m≤m'∧r= .sl 1 (ar (xs++be 2 v)) (.own t')∧h'= .only az [t'] n m' by
  obtain ⟨r,h',ha,t',m',hm,rfl,rfl⟩:=h
  exact ⟨t',m',hm,ha⟩
 refine f111.fA af ?_
 unfold F3 zz
 have e1:IntKind.u16.wrap (v:Int)=(v:Int):=IntWalk.u16_in _ ab
 refine Wp.aF xA1 ag ?_
 refine Wp.seqItems (xAe e1) ?_
 refine ao.mq t ae xA4 ae (sM f142 .u16 v ab 2 ab xs hx) fun t' m' hm=>?_
 refine ao.eval xA1 ?_
 refine ao.nil ⟨by trivial,?_⟩
 refine Wp.ret ⟨trivial,_,rfl,t',m',hm,?_,rfl⟩
 simp only[go_sem,reduceIte,Nat.reduceEqDiff]
theorem xI (v:Nat) (hv:v<4294967296) (xs:List UInt8) (hx:xs.length≤1099511627776):pt Tryz.prog 112 (fun t=>[.sl 1 (ar xs) (.own t),.int .i64 v]) (fun t=> .sl 1 (ar (xs++be 4 v)) (.own t)):=by
 intro t n m
 suffices h:∃r h',aJ Tryz.prog 112 [.sl 1 (ar xs) (.own t),.int .i64 v] (.only az [t] n m) r h'∧∃t' m',m≤m'∧r= .sl 1 (ar (xs++be 4 v)) (.own t')∧h'= .only az [t'] n m' by
  obtain ⟨r,h',ha,t',m',hm,rfl,rfl⟩:=h
  exact ⟨t',m',hm,ha⟩
 refine f112.fA af ?_
 unfold F4 zz
 have e1:IntKind.u32.wrap (v:Int)=(v:Int):=IntWalk.u32_in _ ab
 refine Wp.aF xA1 ag ?_
 refine Wp.seqItems (xAe e1) ?_
 refine ao.mq t ae xA4 ae (sM f143 .u32 v ab 4 ab xs hx) fun t' m' hm=>?_
 refine ao.eval xA1 ?_
 refine ao.nil ⟨by trivial,?_⟩
 refine Wp.ret ⟨trivial,_,rfl,t',m',hm,?_,rfl⟩
 simp only[go_sem,reduceIte,Nat.reduceEqDiff]
theorem Fc (v:Nat) (hv:v<256) (xs:List UInt8) (hx:xs.length≤1099511627776):pt Tryz.prog 113 (fun t=>[.sl 1 (ar xs) (.own t),.int .i64 v]) (fun t=> .sl 1 (ar (xs++be 1 v)) (.own t)):=by
 intro t n m
 suffices h:∃r h',aJ Tryz.prog 113 [.sl 1 (ar xs) (.own t),.int .i64 v] (.only az [t] n m) r h'∧∃t' m',m≤m'∧r= .sl 1 (ar (xs++be 1 v)) (.own t')∧h'= .only az [t'] n m' by
  obtain ⟨r,h',ha,t',m',hm,rfl,rfl⟩:=h
  exact ⟨t',m',hm,ha⟩
 refine f113.fA af ?_
 unfold F5 zz
 have e1:IntKind.u8.wrap (v:Int)=(v:Int):=IntWalk.u8_in _ ab
 refine Wp.aF xA1 ag ?_
 refine Wp.seqItems (xAe e1) ?_
 refine ao.mq t ae xA4 ae (sM f144 .u8 v ab 1 ab xs hx) fun t' m' hm=>?_
 refine ao.eval xA1 ?_
 refine ao.nil ⟨by trivial,?_⟩
 refine Wp.ret ⟨trivial,_,rfl,t',m',hm,?_,rfl⟩
 simp only[go_sem,reduceIte,Nat.reduceEqDiff]
def row (n:Node) (i:Nat):List UInt8:=
 be 1 (n.keys.getD i []).length++n.keys.getD i []++(if n.leaf then be 2 (n.vals.getD i []).length++n.vals.getD i [] else be 4 (n.kids.getD (i+1) 0).toNat)
def rows (n:Node):Nat→List UInt8
 |0=>[]
 |j+1=>rows n j++row n j
def head (n:Node):List UInt8:=(if n.leaf then [76] else [73])++be 2 n.keys.length++(if n.leaf then [] else be 4 (n.kids.getD 0 0).toNat)
def text (n:Node):List UInt8:=head n++rows n n.keys.length
def bytesOf (n:Node):List UInt8:=text n++List.replicate (1024 - size n) 0
theorem wa (n:Node) (i:Nat):(row n i).length=(if n.leaf then 3 else 5)+(n.keys.getD i []).length+(if n.leaf then (n.vals.getD i []).length else 0):=by
 unfold row
 cases n.leaf<;>simp[bY] <;>omega
theorem kh (n:Node) (hv:n.leaf=true→n.vals.length=n.keys.length):∀j,j≤n.keys.length→(rows n j).length=(if n.leaf then 3 else 5)*j+tot (n.keys.take j)+(if n.leaf then tot (n.vals.take j) else 0)
 |0,_=>by simp[rows,tot]
 |j+1,h=>by
  rw[rows,List.length_append,kh n hv j ab,wa,gq n.keys j h]
  cases hl:n.leaf
  ·simp only[Bool.false_eq_true,if_false];omega
  ·simp only[if_true]
   rw[gq n.vals j (by rw[hv hl];omega)]
   omega
theorem iF (n:Node):(head n).length=if n.leaf then 3 else 7:=by
 unfold head
 cases n.leaf<;>simp[bY]
theorem kj (n:Node) (hv:n.leaf=true→n.vals.length=n.keys.length):(text n).length=size n:=by
 rw[text,List.length_append,iF,kh n hv _ (Nat.le_refl _),List.take_length]
 unfold size
 cases hl:n.leaf
 ·simp only[Bool.false_eq_true,if_false];omega
 ·simp only[if_true]
  rw[←hv hl,List.take_length];omega
structure EF (n:Node):Prop where
 keys:∀i,i<n.keys.length→(n.keys.getD i []).length≤128
 vals:n.leaf=true→n.vals.length=n.keys.length
 kids:n.leaf=false→n.kids.length=n.keys.length+1
 val:n.leaf=true→∀i,i<n.keys.length→(n.vals.getD i []).length≤200
 kid:n.leaf=false→∀i,i<n.keys.length+1→0≤n.kids.getD i 0∧n.kids.getD i 0<16384
theorem BJ {α:Type} {p:α→Bool} {l:List α} {d:α} (h:l.any p=false) {i:Nat} (hi:i<l.length):p (l.getD i d)=false:=by
 rw[List.getD_eq_getElem?_getD,List.getElem?_eq_getElem hi]
 rw[List.any_eq_false] at h
 simpa using h _ (List.getElem_mem hi)
theorem fu {n:Node} (h:right n=true):EF n:=by
 rw[right,Bool.and_eq_true] at h
 obtain ⟨hk,h⟩:=h
 refine ⟨fun i hi=>?_,fun hl=>?_,fun hl=>?_,fun hl i hi=>?_,fun hl i hi=>?_⟩
 ·have:=ny hk hi
  rw[gU,Bool.and_eq_true] at this
  exact of_decide_eq_true this.1
 all_goals rw[hl] at h;simp only[if_true,if_false,Bool.false_eq_true,Bool.and_eq_true,decide_eq_true_eq,Bool.not_eq_true'] at h
 ·exact h.1.1
 ·exact h.1.2
 ·have:=BJ (d:=[]) h.2 (i:=i) ab
  have:=of_decide_eq_false this
  omega
 ·have:=BJ (d:=0) h.2 (i:=i) ab
  rw[lf,Bool.or_eq_false_iff] at this
  have h1:=of_decide_eq_false this.1
  have h2:=of_decide_eq_false this.2
  omega
theorem zF (n:Node) (hr:EF n) (j:Nat) (hj:j≤n.keys.length):(head n++rows n j).length≤size n:=by
 rw[List.length_append,iF,kh n hr.vals j hj]
 have h1:=gT n.keys j
 have h2:=gT n.vals j
 unfold size
 have h3:(if n.leaf then 3 else 5)*j≤(if n.leaf then 3 else 5)*n.keys.length:=Nat.mul_le_mul_left _ hj
 cases hl:n.leaf<;>rw[hl] at h3<;>simp only[if_true,if_false,Bool.false_eq_true] at h3 ⊢ <;>omega
def bB (n:Node):List UInt8:=if check n=0 then bytesOf n else []
theorem gV {n:Node} (h:check n=0):right n=true∧size n≤1024:=by
 unfold check at h
 split at h
 ·rename_i hr
  refine ⟨hr,?_⟩
  split at h
  ·assumption
  ·omega
 ·omega
theorem sO (n:Node) (hn:Nb n):aZ Tryz.prog 83 [aD n] (.tup [.sl 1 (ar (bB n)) .any,.int .i64 (check n)]):=by
 refine f83.eY af (bE _ (kH n)) (ct _ (by simp[bf,aR,cG,pq])) fun k m=>?_
 unfold c83 zz
 refine Wp.aF (by simp only[go_sem,reduceIte,Nat.reduceEqDiff,Nat.reduceAdd,bx,aD];exact rfl) ag ?_
 refine Wp.seq ?_
 refine Wp.seqItems xA1 ?_
 refine ao.bW xA2 xAb (mE n hn) ?_
 refine ao.eval xA1 ?_
 refine ao.nil ⟨by trivial,?_⟩
 refine Wp.aF xA1 ag ?_
 refine Wp.bG (b:= !decide ((check n:Int)=0)) xA2 (fun hd=>?_) (fun hd=>?_)
 ·have h0:¬check n=0:=by intro h;rw[h] at hd;simp at hd
  refine Wp.aF xA1 ag ?_
  refine Wp.ret ⟨trivial,_,rfl,?_⟩
  simp only[go_sem,reduceIte,Nat.reduceEqDiff,Nat.reduceAdd,bx]
  rw[bB,if_neg h0]
  exact av.tup (ay.cons av.nil (ay.refl _))
 ·have h0:check n=0:=by simpa using hd
  obtain ⟨h1,h2⟩:=gV h0
  have hr:=fu h1
  obtain ⟨hk,hv,hi,htk,htv⟩:=hn
  have hks:n.keys.length≤1024:=by unfold size at h2;split at h2<;>omega
  refine Wp.skip ?_
  refine Wp.aF xA1 ag ?_
  refine Wp.pw [1] xA7 (fun tk=>[(5,.sl 1 (ar (head n)) (.own tk))]) ?_ fun tk m1=>?_
  ·refine Wp.aF xA1 ag ?_
   refine Wp.bG (b:=n.leaf) xA2 (fun hl=>?_) (fun hl=>?_)
   ·rw[hl]
    refine Wp.items (by simp only[go_sem,reduceIte,Nat.reduceEqDiff,Nat.reduceAdd,bx,Nat.mul_one,Nat.reduceLeDiff,Nat.reduceLT,true_and,and_self,if_true,decide_true];exact rfl) ?_
    refine ao.mq m ae xA4 ae (sN n.keys.length ab [76] af) fun t1 m1 _=>?_
    refine ao.eval xA1 ?_
    refine ao.nil ⟨by simp[bg,aS,apart,aV],?_⟩
    refine ⟨t1,m1,?_⟩
    refine aK.tm (by simp only[aY,go_sem,reduceIte,Nat.reduceEqDiff,Nat.reduceAdd,bx];and_intros<;>first|exact trivial|exact av.refl _|exact av.any _|exact av.of_eq (by simp[head,hl])|(refine av.int ?_;omega))
   ·rw[hl]
    have g0:=hr.kid hl 0 ab
    have g1:=hr.kids hl
    have g2:(0:Int)<(n.kids.length:Int):=by omega
    have g3:0<n.kids.length:=by omega
    refine Wp.items (by simp only[go_sem,reduceIte,Nat.reduceEqDiff,Nat.reduceAdd,bx,Nat.mul_one,Nat.reduceLeDiff,Nat.reduceLT,true_and,and_self,if_true,decide_true];exact rfl) ?_
    refine ao.mq m ae xA4 ae (sN n.keys.length ab [73] af) fun t1 m1 _=>?_
    refine ao.eval (by simp only[go_sem,reduceIte,Nat.reduceEqDiff,Nat.reduceAdd,bx,Int.toNat_zero,qV _ _ _ g3,g2,and_self,if_true,Int.le_refl];exact rfl) ?_
    refine ao.mq t1 ae (by simp only[go_sem,reduceIte,Nat.reduceEqDiff,List.map];exact ay.cons (av.refl _) (ay.cons (av.int ab) ay.nil)) ae (xI (n.kids.getD 0 0).toNat ab ([73]++be 2 n.keys.length) (by simp[bY])) fun t2 m2 _=>?_
    refine ao.eval xA1 ?_
    refine ao.nil ⟨by simp[bg,aS,apart,aV],?_⟩
    refine ⟨t2,m2,?_⟩
    refine aK.tm (by simp only[aY,go_sem,reduceIte,Nat.reduceEqDiff,Nat.reduceAdd,bx];and_intros<;>first|exact trivial|exact av.refl _|exact av.any _|exact av.of_eq (by simp[head,hl])|(refine av.int ?_;omega))
  ·refine Wp.seq ?_
   refine Wp.aF xA1 ag ?_
   refine Wp.block ?_
   refine Wp.su [1,35,36] xA7 (fun (j:Nat) tk=>[(5,.sl 1 (ar (head n++rows n j)) (.own tk)),(37,.int .i64 j)]) (fun j=>j≤n.keys.length) (fun j=>n.keys.length - j) 0 tk (Nat.zero_le _) rfl ?_ ?_
   ·simp only[aY,go_sem,reduceIte,Nat.reduceEqDiff,Nat.reduceAdd,bx,rows,List.append_nil];and_intros<;>first|exact trivial|exact av.refl _|exact av.any _|(refine av.int ?_;omega)
   ·intro j tk m1 hj
    refine Wp.aF xA1 ag ?_
    refine Wp.seq ?_
    refine Wp.bG (b:=decide ((j:Int)<(n.keys.length:Int))) xA2 (fun hc=>?_) (fun hc=>?_)
    ·have h1:(0:Int)≤(j:Int):=by omega
     have h2':(j:Int)<(n.keys.length:Int):=by simpa using hc
     have h3:j<n.keys.length:=by omega
     have hz:=zF n hr j hj
     have hkl:=hr.keys j h3
     refine Wp.skip ?_
     refine Wp.pw [1,35,36,37] xA7 (fun tk=>[(5,.sl 1 (ar (head n++rows n (j+1))) (.own tk))]) ?_ fun tk m1=>?_
     ·refine Wp.block ?_
      refine Wp.aF (by simp only[go_sem,reduceIte,Nat.reduceEqDiff,Nat.reduceAdd,bx,Int.toNat_natCast,dD _ _ _ h3,h1,h2',and_self,if_true];exact rfl) ag ?_
      refine Wp.seqItems xA1 ?_
      refine ao.mq tk ae xA4 ae (Fc (n.keys.getD j []).length ab (head n++rows n j) ab) fun t1 m2 _=>?_
      have e1:(head n++rows n j++be 1 (n.keys.getD j []).length).length+(n.keys.getD j []).length≤140737488355328:=by rw[List.length_append,bY];omega
      have e2:(head n++rows n j++be 1 (n.keys.getD j []).length).length+(n.keys.getD j []).length<4611686018427387904:=by omega
      refine ao.eval (by simp only[go_sem,reduceIte,Nat.reduceEqDiff,Nat.reduceAdd,bx,Nat.mul_one,e1,e2,true_and,and_self,if_true,decide_true,true_or];exact rfl) ?_
      refine ao.nil ⟨by trivial,?_⟩
      refine Wp.aF xA1 ag ?_
      rw[←mF]
      refine Wp.bG (b:=n.leaf) xA2 (fun hl=>?_) (fun hl=>?_)
      ·have hvl:=hr.vals hl
       have h4:(j:Int)<(n.vals.length:Int):=by omega
       have h5:j<n.vals.length:=by omega
       have hvv:=hr.val hl j h3
       refine Wp.items (by simp only[go_sem,reduceIte,Nat.reduceEqDiff,Nat.reduceAdd,bx,Int.toNat_natCast,dD _ _ _ h5,h1,h4,and_self,if_true];exact rfl) ?_
       refine ao.mq m2 ae xA4 ae (sN (n.vals.getD j []).length ab (head n++rows n j++be 1 (n.keys.getD j []).length++n.keys.getD j []) (by rw[List.length_append,List.length_append,bY];omega)) fun t3 m3 _=>?_
       have e3:(head n++rows n j++be 1 (n.keys.getD j []).length++n.keys.getD j []++be 2 (n.vals.getD j []).length).length+(n.vals.getD j []).length≤140737488355328:=by rw[List.length_append,List.length_append,List.length_append,bY,bY];omega
       have e4:(head n++rows n j++be 1 (n.keys.getD j []).length++n.keys.getD j []++be 2 (n.vals.getD j []).length).length+(n.vals.getD j []).length<4611686018427387904:=by omega
       refine ao.eval (by simp only[go_sem,reduceIte,Nat.reduceEqDiff,Nat.reduceAdd,bx,Int.toNat_natCast,dD _ _ _ h5,h1,h4,Nat.mul_one,e3,e4,true_and,and_self,if_true,decide_true,true_or];exact rfl) ?_
       refine ao.nil ⟨by simp[bg,aS,apart,aV],?_⟩
       refine ⟨m3,m3+1,?_⟩
       refine aK.tm (by simp only[aY,go_sem,reduceIte,Nat.reduceEqDiff,Nat.reduceAdd,bx];and_intros<;>first|exact trivial|exact av.refl _|exact av.any _|exact av.of_eq (by simp[rows,row,hl,ar])|(refine av.int ?_;omega))
      ·have hkl':=hr.kids hl
       have hkk:=hr.kid hl (j+1) ab
       have hw:IntKind.i64.wrap ((j:Int)+1)=((j+1:Nat):Int):=by rw[IntWalk.i64_in _ ab];omega
       have h4:((j+1:Nat):Int)<(n.kids.length:Int):=by omega
       have h4a:(0:Int)≤((j+1:Nat):Int):=by omega
       have h5:j+1<n.kids.length:=by omega
       refine Wp.items (by simp only[go_sem,reduceIte,Nat.reduceEqDiff,Nat.reduceAdd,bx,hw,Int.toNat_natCast,qV _ _ _ h5,h4a,h4,and_self,if_true];exact rfl) ?_
       refine ao.mq m2 ae (by simp only[go_sem,reduceIte,Nat.reduceEqDiff,List.map];exact ay.cons (av.refl _) (ay.cons (av.int ab) ay.nil)) ae (xI (n.kids.getD (j+1) 0).toNat ab (head n++rows n j++be 1 (n.keys.getD j []).length++n.keys.getD j []) (by rw[List.length_append,List.length_append,bY];omega)) fun t3 m3 _=>?_
       refine ao.eval xA1 ?_
       refine ao.nil ⟨by trivial,?_⟩
       refine ⟨t3,m3,?_⟩
       refine aK.tm (by simp only[aY,go_sem,reduceIte,Nat.reduceEqDiff,Nat.reduceAdd,bx];and_intros<;>first|exact trivial|exact av.refl _|exact av.any _|exact av.of_eq (by simp[rows,row,hl])|(refine av.int ?_;omega))
     ·refine Wp.ke (by simp only[go_sem,reduceIte,Nat.reduceEqDiff,Nat.reduceAdd,bx];simp (disch:=omega) only[IntWalk.i64_in];exact rfl) ag ?_
      refine ⟨j+1,tk,m1,ab,ab,?_⟩
      refine aK.tm (by simp only[aY,go_sem,reduceIte,Nat.reduceEqDiff,Nat.reduceAdd,bx];and_intros<;>first|exact trivial|exact av.refl _|exact av.any _|(refine av.int ?_;omega))
    ·have hc':¬(j:Int)<(n.keys.length:Int):=by simpa using hc
     obtain rfl:j=n.keys.length:=by omega
     have htl:=kj n hr.vals
     have ht:head n++rows n n.keys.length=text n:=rfl
     rw[ht]
     refine Wp.exit ?_
     have hw:IntKind.i64.wrap (1024 - ((text n).length:Int))=((1024 - size n:Nat):Int):=by rw[IntWalk.i64_in _ ab];omega
     have g1:(0:Int)≤((1024 - size n:Nat):Int):=by omega
     have hrep:List.replicate (1024 - size n) (AV.int .u8 0)=ar (List.replicate (1024 - size n) 0):=by simp[ar,byte]
     have e1:(text n).length+(1024 - size n)≤140737488355328:=by omega
     have e2:(text n).length+(1024 - size n)<4611686018427387904:=by omega
     refine Wp.aF (by simp only[go_sem,reduceIte,Nat.reduceEqDiff,Nat.reduceAdd,bx,hw,g1,Int.toNat_natCast,Nat.mul_one,e1,e2,and_self,true_and,if_true,hrep,true_or,Nat.reduceLT,Nat.lt_add_one,Nat.zero_lt_one];exact rfl) ag ?_
     refine Wp.ret ⟨trivial,_,rfl,?_⟩
     simp only[go_sem,reduceIte,Nat.reduceEqDiff,Nat.reduceAdd,bx]
     rw[bB,if_pos h0,h0,←mF]
     exact av.tup (ay.cons av.cap (ay.refl _))
theorem pG (len:Nat) (hlen:len≤1152921504606846976) {g:FuncId} {fn:Func} (hf:Tryz.prog.funcs[g]? =some fn) (hb:fn.body.isSome=true) (hn:fn.name≠ "runtime.NumGoroutine") (caps:List AV) (objs:Nat→Option Av.Obj) (ids:List Nat) (hi:∀id,(objs id).isSome→id∈ids)
  (r:Nat) (hr:r≤len) (h0:∀i,i<r→iM Tryz.prog g (.int .i64 (i:Nat)::caps) objs (.bool false)) (h1:∀i,r≤i→i<len→iM Tryz.prog g (.int .i64 (i:Nat)::caps) objs (.bool true)):
  iM Tryz.prog 74 [.int .i64 len,.clo (.func g) [] caps] objs (.int .i64 r):=by
 refine f74.sw af fun n m=>?_
 unfold c74 zz
 refine Wp.aF xA1 ag ?_
 refine Wp.aF xA1 ag ?_
 refine Wp.seq ?_
 refine Wp.block ?_
 refine Wp.kZ [1] xA6 (fun j:Nat × Nat=>[(5,.int .i64 j.1),(6,.int .i64 j.2)]) (fun j=>j.1≤r∧r≤j.2∧j.2≤len) (fun j=>j.2 - j.1) (0,len) ⟨Nat.zero_le _,hr,Nat.le_refl _⟩ ?_ ?_
 ·exact xSb
 ·rintro ⟨i,j⟩ ⟨a1,a2,a3⟩
  simp only at a1 a2 a3
  refine Wp.seq ?_
  refine Wp.aF xA1 ag ?_
  refine Wp.bG (b:=decide ((i:Int)<(j:Int))) xA2 (fun hc=>?_) (fun hc=>?_)
  ·have hc':(i:Int)<(j:Int):=by simpa using hc
   have e1:IntKind.i64.wrap ((i:Int)+(j:Int))=((i+j:Nat):Int):=by rw[IntWalk.i64_in _ ab];omega
   have e2:IntKind.u64.wrap ((i+j:Nat):Int)=((i+j:Nat):Int):=IntWalk.u64_in _ ab
   have e3:((i+j:Nat):Int).fdiv (2^(min (Int.toNat 1) 64))=(((i+j)/2:Nat):Int):=by
    rw[show min (Int.toNat 1) 64=1 from rfl,Int.fdiv_eq_ediv_of_nonneg _ ab]
    omega
   have e4:IntKind.i64.wrap (((i+j)/2:Nat):Int)=(((i+j)/2:Nat):Int):=IntWalk.i64_in _ ab
   have e5:¬(1:Int)<0:=by omega
   refine Wp.skip ?_
   refine Wp.block ?_
   refine Wp.aF (by simp only[go_sem,reduceIte,Nat.reduceEqDiff,Nat.reduceAdd,bx,e1,e2,IntKind.bits,e3,e4,e5];exact rfl) ag ?_
   refine Wp.seqItems xA1 ?_
   by_cases hh:(i+j)/2<r
   ·refine ao.Bn ids ae al hf hb hn xA4 (fun id o h=>h) hi (h0 _ hh) ?_
    refine ao.eval xA1 ?_
    refine ao.nil ⟨by trivial,?_⟩
    refine Wp.cond_true xA2 ?_
    refine Wp.ke (by simp only[go_sem,reduceIte,Nat.reduceEqDiff,Nat.reduceAdd,bx];simp (disch:=omega) only[IntWalk.i64_in];exact rfl) ag ?_
    refine ⟨((i+j)/2+1,j),⟨by simp only;omega,by simp only;omega,by simp only;omega⟩,by simp only;omega,?_⟩
    exact xSu
   ·refine ao.Bn ids ae al hf hb hn xA4 (fun id o h=>h) hi (h1 _ ab ab) ?_
    refine ao.eval xA1 ?_
    refine ao.nil ⟨by trivial,?_⟩
    refine Wp.cond_false xA2 ?_
    refine Wp.ke xA1 ag ?_
    refine ⟨(i,(i+j)/2),⟨by simp only;omega,by simp only;omega,by simp only;omega⟩,by simp only;omega,?_⟩
    exact xSu
  ·have hc':¬(i:Int)<(j:Int):=by simpa using hc
   obtain rfl:i=r:=by omega
   refine Wp.exit ?_
   refine Wp.aF xA1 ag ?_
   refine Wp.ret ⟨trivial,_,rfl,?_,rfl⟩
   simp only[go_sem,reduceIte,Nat.reduceEqDiff]
def dh (n:Node):List AV:=[.bool n.leaf,.sl 1 (strs n.keys) .any,.sl 1 (strs n.vals) .any,.sl 1 (ints n.kids) .any]
theorem xJ (n:Node) (key:List UInt8) (i:Nat) (hi:i<n.keys.length) (objs:Nat→Option Av.Obj) (a b:Nat) (ha:objs a=some (.cells (dh n))) (hb:objs b=some (.cells [.str key])):
  iM Tryz.prog 75 [.int .i64 i,.ptr a 0,.ptr b 0] objs (.bool (!(Op.bytesLess (n.keys.getD i []) key||decide (n.keys.getD i []=key)))):=by
 refine f75.sw af fun k m=>?_
 unfold c75 zz
 unfold dh at ha
 have h1:(0:Int)≤(i:Int):=by omega
 have h2:(i:Int)<(n.keys.length:Int):=by omega
 refine Wp.aF xA1 ag ?_
 refine Wp.aF (xAd (cj7 ha hb @Int.toNat_natCast (fun d=>dD _ _ d hi) h1 h2 @and_self)) (by simp[bg,aS,apart,aV]) ?_
 refine Wp.ret ⟨trivial,_,rfl,?_,rfl⟩
 simp only[go_sem,reduceIte,Nat.reduceEqDiff]
theorem xK (n:Node) (key:List UInt8) (i:Nat) (hi:i<n.keys.length) (objs:Nat→Option Av.Obj) (a b:Nat) (ha:objs a=some (.cells (dh n))) (hb:objs b=some (.cells [.str key])):
  iM Tryz.prog 76 [.int .i64 i,.ptr a 0,.ptr b 0] objs (.bool (!Op.bytesLess (n.keys.getD i []) key)):=by
 refine f76.sw af fun k m=>?_
 unfold c76 zz
 unfold dh at ha
 have h1:(0:Int)≤(i:Int):=by omega
 have h2:(i:Int)<(n.keys.length:Int):=by omega
 refine Wp.aF xA1 ag ?_
 refine Wp.aF (xAd (cj7 ha hb @Int.toNat_natCast (fun d=>dD _ _ d hi) h1 h2 @and_self)) (by simp[bg,aS,apart,aV]) ?_
 refine Wp.ret ⟨trivial,_,rfl,?_,rfl⟩
 simp only[go_sem,reduceIte,Nat.reduceEqDiff]
theorem cL:∀a,Op.bytesLess a a=false
 |[]=>rfl
 |x::a=>by simp[Op.bytesLess,cL a,UInt8.lt_irrefl]
theorem dt:∀{a b c},Op.bytesLess a b=true→Op.bytesLess b c=true→Op.bytesLess a c=true
 |a,b,[],_,h=>by rw[db] at h;cases h
 |a,[],c::cs,h,_=>by rw[db] at h;cases h
 |[],b::bs,c::cs,_,_=>rfl
 |a::x,b::y,c::z,h1,h2=>by
  simp only[Op.bytesLess,Bool.or_eq_true,decide_eq_true_eq,Bool.and_eq_true,beq_iff_eq] at h1 h2 ⊢
  rcases h1 with h1|⟨rfl,h1⟩
  ·rcases h2 with h2|⟨rfl,h2⟩
   ·exact .inl (UInt8.lt_trans h1 h2)
   ·exact .inl h1
  ·rcases h2 with h2|⟨rfl,h2⟩
   ·exact .inl h2
   ·exact .inr ⟨rfl,dt h1 h2⟩
theorem du:∀a b,Op.bytesLess a b=true∨a=b∨Op.bytesLess b a=true
 |[],[]=> .inr (.inl rfl)
 |[],_::_=> .inl rfl
 |_::_,[]=> .inr (.inr rfl)
 |x::a,y::b=>by
  simp only[Op.bytesLess,Bool.or_eq_true,decide_eq_true_eq,Bool.and_eq_true,beq_iff_eq,List.cons.injEq]
  rcases Nat.lt_trichotomy x.toNat y.toNat with h|h|h
  ·exact .inl (.inl (UInt8.lt_iff_toNat_lt.2 h))
  ·have:=UInt8.toNat_inj.1 h
   subst this
   rcases du a b with h|h|h
   ·exact .inl (.inr ⟨rfl,h⟩)
   ·exact .inr (.inl ⟨rfl,h⟩)
   ·exact .inr (.inr (.inr ⟨rfl,h⟩))
  ·exact .inr (.inr (.inl (UInt8.lt_iff_toNat_lt.2 h)))
theorem gW {a b} (h:Op.bytesLess a b=true):Op.bytesLess b a=false:=by
 cases h':Op.bytesLess b a
 ·rfl
 ·have:=dt h h'
  rw[cL] at this;cases this
theorem rising {l:List (List UInt8)} (h:gy l=true) {i:Nat}:∀{j},i<j→j<l.length→Op.bytesLess (l.getD i []) (l.getD j [])=true
 |j+1,hij,hj=>by
  have h1:=ny h hj
  simp only[gU,Nat.add_sub_cancel,Bool.and_eq_true,Bool.or_eq_true,decide_eq_true_eq] at h1
  have h2:Op.bytesLess (l.getD j []) (l.getD (j+1) [])=true:=by
   rcases h1.2 with h|h
   ·omega
   ·exact h
  by_cases he:i=j
  ·subst he;exact h2
  ·exact dt (rising h (j:=j) ab ab) h2
def least (key k:List UInt8):Bool:= !Op.bytesLess k key
def iG (key k:List UInt8):Bool:= !(Op.bytesLess k key||decide (k=key))
def place (n:Node) (key:List UInt8):Nat:=if n.leaf then n.keys.findIdx (least key) else n.keys.findIdx (iG key)
def found (n:Node) (key:List UInt8):Bool:=n.leaf&&decide (place n key<n.keys.length)&&decide (n.keys.getD (place n key) []=key)
theorem findIdx_le (p:List UInt8→Bool) (l:List (List UInt8)):l.findIdx p≤l.length:=List.findIdx_le_length
theorem jL {p:List UInt8→Bool} {l:List (List UInt8)} {i:Nat} (h:i<l.findIdx p):p (l.getD i [])=false:=by
 have hl:i<l.length:=Nat.lt_of_lt_of_le h (findIdx_le p l)
 have:=List.not_of_lt_findIdx h
 rw[List.getD_eq_getElem?_getD,List.getElem?_eq_getElem hl]
 simpa using this
theorem pH {p:List UInt8→Bool} {l:List (List UInt8)} (mono:∀i j,i<j→j<l.length→p (l.getD i [])=true→p (l.getD j [])=true) {i:Nat} (h:l.findIdx p≤i) (hi:i<l.length):p (l.getD i [])=true:=by
 have hl:l.findIdx p<l.length:=by omega
 have h0:p (l.getD (l.findIdx p) [])=true:=by
  rw[List.getD_eq_getElem?_getD,List.getElem?_eq_getElem hl]
  simpa using List.findIdx_getElem (w:=hl)
 by_cases he:i=l.findIdx p
 ·rw[he];exact h0
 ·exact mono _ _ ab hi h0
theorem wb {l:List (List UInt8)} (h:gy l=true) (key:List UInt8) (i j:Nat) (hij:i<j) (hj:j<l.length) (hp:least key (l.getD i [])=true):least key (l.getD j [])=true:=by
 have hr:=rising h hij hj
 unfold least at hp ⊢
 cases hx:Op.bytesLess (l.getD j []) key
 ·rfl
 ·rw[dt hr hx] at hp;cases hp
theorem pI {l:List (List UInt8)} (h:gy l=true) (key:List UInt8) (i j:Nat) (hij:i<j) (hj:j<l.length) (hp:iG key (l.getD i [])=true):iG key (l.getD j [])=true:=by
 have hr:=rising h hij hj
 unfold iG at hp ⊢
 cases hx:Op.bytesLess (l.getD j []) key
 ·by_cases he:l.getD j []=key
  ·rw[he] at hr;rw[hr] at hp;cases hp
  ·rw[decide_eq_false he];rfl
 ·rw[dt hr hx] at hp;cases hp
theorem oN {k:Nat} {x y:Av.Obj}:∀id,(upd (upd az k (some x)) (k+1) (some y) id).isSome→id∈[k,k+1]:=by
 intro id h
 simp only[upd] at h
 split at h
 ·simp;omega
 ·split at h
  ·simp;omega
  ·simp[az] at h
def dP (n:Node) (key:List UInt8):Nat:=if right n then place n key else 0
def bC (n:Node) (key:List UInt8):Bool:=right n&&found n key
theorem nz (n:Node) (hn:Nb n) (key:List UInt8):aZ Tryz.prog 42 [aD n,.str key] (.tup [.int .i64 (dP n key),.bool (bC n key)]):=by
 refine f42.eY af (bE _ (by simp[aR,cT,bf])) (ct _ rfl) fun k m=>?_
 unfold c42 zz
 refine Wp.aF (xAe @aD.eq_1) ag ?_
 refine Wp.seq ?_
 refine Wp.seqItems xA1 ?_
 refine ao.bW xA2 xAb (fe n hn) ?_
 refine ao.eval xA1 ?_
 refine ao.nil ⟨by trivial,?_⟩
 refine Wp.bG (b:= !right n) xA2 (fun hd=>?_) (fun hd=>?_)
 ·have hr:right n=false:=by simpa using hd
  refine Wp.aF xA1 ag ?_
  refine cI ?_
  simp only[dP,bC,hr,Bool.false_eq_true,if_false,Bool.false_and]
  exact av.refl _
 ·have hr:right n=true:=by simpa using hd
  have hk:gy n.keys=true:=by rw[right,Bool.and_eq_true] at hr;exact hr.1
  simp only[dP,bC,hr,if_true,Bool.true_and]
  refine Wp.skip ?_
  refine Wp.seq ?_
  refine Wp.aF xA1 ag ?_
  refine Wp.bG (b:= !n.leaf) xA2 (fun hl=>?_) (fun hl=>?_)
  ·have hl':n.leaf=false:=by simpa using hl
   refine Wp.seqItems xA1 ?_
   refine ao.ue [k,k+1] ae xA4 (fun id o h=>h) oN (pG n.keys.length (by have:=hn.k;omega) Tryz.func75 rfl (of_decide_eq_true (by kernel_rfl)) [.ptr k 0,.ptr (k+1) 0] _ [k,k+1] oN (n.keys.findIdx (iG key)) (findIdx_le _ _)
    (fun i hi=>by have:=xJ n key i (Nat.lt_of_lt_of_le hi (findIdx_le _ _)) (upd (upd az k (some (.cells (dh n)))) (k+1) (some (.cells [.str key]))) k (k+1) (by simp[upd]) (by simp[upd]);have h2:=jL hi;unfold iG at h2;rw[h2] at this;exact this)
    (fun i h1 hi=>by have:=xJ n key i hi (upd (upd az k (some (.cells (dh n)))) (k+1) (some (.cells [.str key]))) k (k+1) (by simp[upd]) (by simp[upd]);have h2:=pH (pI hk key) h1 hi;unfold iG at h2;rw[h2] at this;exact this)) ?_
   refine ao.eval xA1 ?_
   refine ao.nil ⟨by trivial,?_⟩
   refine cI ?_
   simp only[place,found,hl',Bool.false_eq_true,if_false,Bool.false_and]
   exact av.refl _
  ·have hl':n.leaf=true:=by simpa using hl
   have hfl:=findIdx_le (least key) n.keys
   refine Wp.skip ?_
   refine Wp.seqItems xA1 ?_
   refine ao.ue [k,k+1] ae xA4 (fun id o h=>h) oN (pG n.keys.length (by have:=hn.k;omega) Tryz.func76 rfl (of_decide_eq_true (by kernel_rfl)) [.ptr k 0,.ptr (k+1) 0] _ [k,k+1] oN (n.keys.findIdx (least key)) hfl
    (fun i hi=>by have:=xK n key i (Nat.lt_of_lt_of_le hi (findIdx_le _ _)) (upd (upd az k (some (.cells (dh n)))) (k+1) (some (.cells [.str key]))) k (k+1) (by simp[upd]) (by simp[upd]);have h2:=jL hi;unfold least at h2;rw[h2] at this;exact this)
    (fun i h1 hi=>by have:=xK n key i hi (upd (upd az k (some (.cells (dh n)))) (k+1) (some (.cells [.str key]))) k (k+1) (by simp[upd]) (by simp[upd]);have h2:=pH (wb hk key) h1 hi;unfold least at h2;rw[h2] at this;exact this)) ?_
   refine ao.eval xA1 ?_
   refine ao.nil ⟨by trivial,?_⟩
   have hp:place n key=n.keys.findIdx (least key):=by simp only[place,hl',if_true]
   rw[←hp] at hfl ⊢
   by_cases hlt:place n key<n.keys.length
   ·have h1:decide ((place n key:Int)<(n.keys.length:Int))=true:=decide_eq_true ab
    have h2:(0:Int)≤(place n key:Int):=by omega
    have h3:(place n key:Int)<(n.keys.length:Int):=by omega
    refine Wp.aF (xAd (cj6 h1 @Int.toNat_natCast (fun d=>dD _ _ d hlt) h2 h3 @and_self)) (by simp[bg,aS,apart,aV]) ?_
    refine cI ?_
    refine av.of_eq ?_
    simp[found,hl',hlt]
   ·have h1:decide ((place n key:Int)<(n.keys.length:Int))=false:=decide_eq_false ab
    refine Wp.aF (xAe h1) (by simp[bg,aS,apart,aV]) ?_
    refine cI ?_
    refine av.of_eq ?_
    simp[found,hl',hlt]
theorem ri (l:List (List UInt8)) (k:Nat):(strs l).take k=strs (l.take k):=by simp[strs]
theorem rl (l:List (List UInt8)) (k:Nat):(strs l).drop k=strs (l.drop k):=by simp[strs]
theorem zH (l:List Int) (k:Nat):(ints l).take k=ints (l.take k):=by simp[ints]
theorem zJ (l:List Int) (k:Nat):(ints l).drop k=ints (l.drop k):=by simp[ints]
theorem pJ (l:List (List UInt8)) (hl:l.length≤4398046511104):aZ Tryz.prog 116 [.sl 1 (strs l) .any] (.sl 1 (strs l) .any):=
 qX f116 _ (gG l) (by rw[cX];omega) (by rw[cX];omega)
theorem BM (l:List Int) (hl:l.length≤4398046511104):aZ Tryz.prog 160 [.sl 1 (ints l) .any] (.sl 1 (ints l) .any):=
 qX f160 _ (kE l) (by rw[gg];omega) (by rw[gg];omega)
def part (n:Node) (a b:Nat):Node:=⟨n.leaf,(n.keys.take b).drop a,if n.leaf then (n.vals.take b).drop a else [],if n.leaf then [] else (n.kids.take (b+1)).drop a⟩
structure Ns (n:Node):Prop where
 k:n.keys.length≤1000
 v:n.vals.length≤1000
 i:n.kids.length≤1001
theorem we (n:Node) (hs:Ns n) (a b:Nat) (hab:a≤b) (hb:b≤n.keys.length) (hl:n.leaf=true→b≤n.vals.length) (hi:n.leaf=false→b+1≤n.kids.length):aZ Tryz.prog 148 [aD n,.int .i64 a,.int .i64 b] (aD (part n a b)):=by
 refine f148.dw af (by simp[aR,cT,bf]) (cT _) ?_
 obtain ⟨sk,sv,si⟩:=hs
 unfold Gj zz
 have h0:(0:Int)≤(a:Int):=by omega
 have h1:(0:Int)≤(b:Int):=by omega
 have h2:(a:Int)≤(b:Int):=by omega
 have h3:(b:Int)≤(n.keys.length:Int):=by omega
 refine Wp.aF (xAe @aD.eq_1) ag ?_
 refine Wp.seqItems (xAd (cj9 @Int.toNat_natCast h0 h1 h2 h3 @and_self @true_or @ri @rl)) ?_
 refine ao.bW xA2 (by simp only[go_sem,reduceIte,Nat.reduceEqDiff,Nat.reduceAdd,bx,List.map];exact ay.cons av.cap ay.nil) (pJ ((n.keys.take b).drop a) ak) ?_
 refine ao.eval xA1 ?_
 refine ao.nil ⟨by simp[bg,aS,apart,aV],?_⟩
 refine Wp.seq ?_
 cases hlf:n.leaf with
 |true=>
  have h4:(b:Int)≤(n.vals.length:Int):=by have:=hl hlf;omega
  refine Wp.aF xA1 ag ?_
  refine Wp.cond_true (by simp only[go_sem,reduceIte,Nat.reduceEqDiff,Nat.reduceAdd,bx,hlf]) ?_
  refine Wp.items (xAd (oz @Int.toNat_natCast h0 h1 h2 h3 h4 @and_self @true_or @ri @rl)) ?_
  refine ao.bW xA2 (by simp only[go_sem,reduceIte,Nat.reduceEqDiff,Nat.reduceAdd,bx,List.map];exact ay.cons av.cap ay.nil) (pJ ((n.vals.take b).drop a) ak) ?_
  refine ao.eval xA1 ?_
  refine ao.nil ⟨by simp[bg,aS,apart,aV],?_⟩
  refine Wp.aF xA1 ag ?_
  refine cI ?_
  simp only[part,aD,hlf,if_true]
  exact av.agg (ay.cons (av.refl _) (ay.cons (av.refl _) (ay.cons (av.refl _) (ay.cons av.cap ay.nil))))
 |false=>
  have h4:((b+1:Nat):Int)≤(n.kids.length:Int):=by have:=hi hlf;omega
  have h5:(0:Int)≤((b+1:Nat):Int):=by omega
  have h6:(a:Int)≤((b+1:Nat):Int):=by omega
  have e1:IntKind.i64.wrap ((b:Int)+1)=((b+1:Nat):Int):=by rw[IntWalk.i64_in _ ab];omega
  refine Wp.aF xA1 ag ?_
  refine Wp.cond_false (by simp only[go_sem,reduceIte,Nat.reduceEqDiff,Nat.reduceAdd,bx,hlf]) ?_
  refine Wp.items (xAd (cP e1 @Int.toNat_natCast h0 h1 h2 h3 h4 h5 h6 @and_self @true_or (cj2 @zH @zJ))) ?_
  refine ao.bW xA2 (by simp only[go_sem,reduceIte,Nat.reduceEqDiff,Nat.reduceAdd,bx,List.map];exact ay.cons av.cap ay.nil) (BM ((n.kids.take (b+1)).drop a) ak) ?_
  refine ao.eval xA1 ?_
  refine ao.nil ⟨by simp[bg,aS,apart,aV],?_⟩
  refine Wp.aF xA1 ag ?_
  refine cI ?_
  simp only[part,aD,hlf,if_false,Bool.false_eq_true]
  exact av.agg (ay.cons (av.refl _) (ay.cons (av.refl _) (ay.cons av.cap (ay.cons (av.refl _) ay.nil))))
def bet (n:Node):Nat:=if n.leaf then 0 else 1
def most (n:Node):Nat:=n.keys.length - 1 - bet n
def fits (n:Node) (i:Nat):Bool:=decide (size n/2≤size (part n 0 (1+i)))
def cut (n:Node):Nat:=1+(List.range (most n - 1)).findIdx (fits n)
def splits (n:Node):Bool:=right n&&decide (1≤most n)
theorem BN (n:Node):bet n≤1:=by unfold bet;split<;>omega
theorem pK {n:Node} (h:1≤most n):1≤cut n∧cut n≤most n:=by
 have:(List.range (most n - 1)).findIdx (fits n)≤(List.range (most n - 1)).length:=List.findIdx_le_length
 rw[List.length_range] at this
 unfold cut;omega
theorem lR {n:Node} {i:Nat} (h:1+i<cut n):fits n i=false:=by
 unfold cut at h
 have h':i<(List.range (most n - 1)).findIdx (fits n):=by omega
 have hl:(List.range (most n - 1)).findIdx (fits n)≤(List.range (most n - 1)).length:=List.findIdx_le_length
 have:=List.not_of_lt_findIdx h'
 simpa using this
theorem wg {n:Node} (h:cut n<most n):fits n (cut n - 1)=true:=by
 unfold cut at h ⊢
 have hl:(List.range (most n - 1)).findIdx (fits n)<(List.range (most n - 1)).length:=by rw[List.length_range];omega
 have:=List.findIdx_getElem (w:=hl)
 simpa using this
theorem lg (l:List (List UInt8)) {a b:Nat} (h:a≤b):tot (l.take a)≤tot (l.take b):=by
 have:=gT (l.take b) a
 rw[List.take_take,Nat.min_eq_left h] at this
 exact this
theorem eI (n:Node) (k:Nat) (hk:k≤n.keys.length):size (part n 0 k)=if n.leaf then 3+3*k+tot (n.keys.take k)+tot (n.vals.take k) else 7+5*k+tot (n.keys.take k):=by
 unfold size part
 simp only[List.drop_zero]
 split<;>simp<;>omega
theorem zK {n:Node} {i j:Nat} (h:i≤j) (hj:1+j≤n.keys.length) (hf:fits n i=true):fits n j=true:=by
 simp only[fits,decide_eq_true_eq] at hf ⊢
 rw[eI n _ ab] at hf
 rw[eI n _ hj]
 have h1:=lg n.keys (show 1+i≤1+j by omega)
 have h2:=lg n.vals (show 1+i≤1+j by omega)
 split<;>rename_i hl<;>simp only[hl,if_true,if_false,Bool.false_eq_true] at hf<;>omega
theorem pL (l:List (List UInt8)) (k:Nat):tot (l.drop k)≤tot l:=by
 have:l=l.take k++l.drop k:=by simp
 conv=>rhs;rw[this]
 simp only[tot,List.map_append,List.sum_append];omega
theorem DM {n:Node} (hn:Nb n) (a b:Nat):Nb (part n a b):=by
 have h1:=gT n.keys b
 have h2:=pL (n.keys.take b) a
 have h3:=gT n.vals b
 have h4:=pL (n.vals.take b) a
 have:=hn.k;have:=hn.v;have:=hn.i;have:=hn.tk;have:=hn.tv
 refine ⟨?_,?_,?_,?_,?_⟩
 ·simp[part];omega
 ·simp only[part];split<;>simp<;>omega
 ·simp only[part];split<;>simp<;>omega
 ·simp only[part];omega
 ·simp only[part];split
  ·omega
  ·simp[tot]
theorem size_le {n:Node} (hn:Nb n):size n≤4611686018427387904:=by
 have:=hn.k;have:=hn.tk;have:=hn.tv
 unfold size;split<;>omega
theorem av.bD {b:Bool} {ks vs:List (List UInt8)} {is:List Int} {c1 c2 c3:Cap}:av (.agg [.bool b,.sl 1 (strs ks) c1,.sl 1 (strs vs) c2,.sl 1 (ints is) c3]) (aD ⟨b,ks,vs,is⟩):=
 av.agg (ay.cons (av.refl _) (ay.cons av.cap (ay.cons av.cap (ay.cons av.cap ay.nil))))
theorem av.lh:av (.agg [.bool false,.sl 1 [] (.exact 0),.sl 1 [] (.exact 0),.sl 1 [] (.exact 0)]) (aD ⟨false,[],[],[]⟩):=av.agg (ay.cons (av.refl _) (ay.cons av.cap (ay.cons av.cap (ay.cons av.cap ay.nil))))
structure Split where
 l:Node
 k:List UInt8
 r:Node
 ok:Bool
def lh:Node:=⟨false,[],[],[]⟩
def split (n:Node):Split:=if splits n then ⟨part n 0 (cut n),n.keys.getD (cut n) [],part n (cut n+bet n) n.keys.length,true⟩ else ⟨lh,[],lh,false⟩
def mG (s:Split):AV:= .tup [aD s.l,.str s.k,aD s.r,.bool s.ok]
theorem qA (s:Split):bf (mG s)=true:=by simp[mG,bf,aR,cT]
theorem BO (n:Node) (hn:Nb n) (hs:Ns n) (i:Nat) (hi:1+i≤n.keys.length) (hl:n.leaf=true→1+i≤n.vals.length) (hk:n.leaf=false→1+i+1≤n.kids.length) (objs:Nat→Option Av.Obj) (a b:Nat) (hab:a≠b) (ha:objs a=some (.cells (dh n))) (hb:objs b=some (.cells [.int .i64 (size n/2:Nat)])):
  iM Tryz.prog 147 [.int .i64 i,.ptr a 0,.ptr b 0] objs (.bool (fits n i)):=by
 refine f147.sw af fun k m=>?_
 have e1:IntKind.i64.wrap (1+(i:Int))=((1+i:Nat):Int):=by have:=hs.k;rw[IntWalk.i64_in _ ab];omega
 have e2:decide (((size n/2:Nat):Int)≤((size (part n 0 (1+i)):Nat):Int))=fits n i:=by
  unfold fits;exact decide_eq_decide.2 ab
 unfold Gi zz
 unfold dh at ha
 refine Wp.aF xA1 ag ?_
 refine Wp.seqItems (xAe (cj2 ha e1)) ?_
 refine ao.bW xA2 xAb (we n hs 0 (1+i) (Nat.zero_le _) hi hl hk) ?_
 refine ao.eval xA1 ?_
 refine ao.bW xA2 xAb (pF _ (DM hn 0 (1+i))) ?_
 refine ao.eval (xAe (cj2 hb e2)) ?_
 refine ao.nil ⟨by simp[bg,aS,apart,aV,hab],?_⟩
 refine Wp.ret ⟨trivial,_,rfl,?_,rfl⟩
 simp only[go_sem,reduceIte,Nat.reduceEqDiff]
theorem BP (n:Node) (hs:Ns n):IntKind.i64.wrap (IntKind.i64.wrap ((n.keys.length:Int) - 1) - (bet n:Int))=(n.keys.length:Int) - 1 - (bet n:Int):=by
 have:=hs.k;have:=BN n
 rw[IntWalk.i64_in ((n.keys.length:Int) - 1) ab,IntWalk.i64_in _ ab]
end Go.Proofs.YtbgmofhgfnmaiaaGreat.Page
end
section
set_option maxRecDepth 100000
namespace Go.Proofs.YtbgmofhgfnmaiaaGreat.Page
open Go Go.Av Go.Proofs Go.Proofs.YtbgmofhgfnmaiaaGreat.C
end Go.Proofs.YtbgmofhgfnmaiaaGreat.Page
end
section
set_option maxRecDepth 10000
namespace Go.Proofs.YtbgmofhgfnmaiaaGreat.Page
open Go Go.Av Go.Proofs Go.Proofs.YtbgmofhgfnmaiaaGreat.C
theorem DN (n:Node) (hn:Nb n) (hs:Ns n):aZ Tryz.prog 119 [aD n] (mG (split n)):=by
 refine f119.dw af (by simp[aR,cT]) (qA _) ?_
 have em:=BP n hs
 have hb:=BN n
 have sk:=hs.k
 unfold Ga zz
 refine Wp.aF (xAe @aD.eq_1) ag ?_
 refine Wp.aF xA1 ag ?_
 refine Wp.ud [1,2,4] xA6 [(6,.int .i64 (bet n))] ?_ ?_
 ·cases hl:n.leaf with
  |true=>
   have hbt:bet n=0:=by simp[bet,hl]
   refine an0 hl ?_
   exact xSu
  |false=>
   have hbt:bet n=1:=by simp[bet,hl]
   refine an0 hl ?_
   exact xSu
 ·refine Wp.aF (xAe em) ag ?_
  refine Wp.seq ?_
  by_cases hm:1≤most n
  ·have hd:decide ((n.keys.length:Int) - 1 - (bet n:Int)<1)=false:=decide_eq_false (by unfold most at hm;omega)
   by_cases hr:right n=true
   ·have hsp:splits n=true:=by simp[splits,hr,hm]
    obtain ⟨c1,c2⟩:=pK hm
    have hR:=fu hr
    have hmk:most n+1+bet n≤n.keys.length:=by unfold most at hm ⊢;omega
    have hvl:∀x,x≤n.keys.length→n.leaf=true→x≤n.vals.length:=fun x hx hl=>by rw[hR.vals hl];exact hx
    have hkl:∀x,x≤n.keys.length→n.leaf=false→x+1≤n.kids.length:=fun x hx hl=>by rw[hR.kids hl];omega
    have eh:IntKind.i64.wrap ((size n:Int).tdiv 2)=((size n/2:Nat):Int):=by
     rw[Int.tdiv_eq_ediv_of_nonneg ab,IntWalk.i64_in _ (by have:=size_le hn;omega)];omega
    have e2:IntKind.i64.wrap ((n.keys.length:Int) - 1 - (bet n:Int) - 1)=((most n - 1:Nat):Int):=by rw[IntWalk.i64_in _ ab];unfold most at hm ⊢;omega
    have e3:IntKind.i64.wrap (1+((cut n - 1:Nat):Int))=((cut n:Nat):Int):=by rw[IntWalk.i64_in _ ab];omega
    have ek:IntKind.i64.wrap ((cut n:Int)+(bet n:Int))=((cut n+bet n:Nat):Int):=by rw[IntWalk.i64_in _ ab];omega
    have x1:(0:Int)≤(cut n:Int):=by omega
    have x2:(cut n:Int)<(n.keys.length:Int):=by omega
    have x3:cut n<n.keys.length:=by omega
    refine an2 (cj4 hd hr eh e2) (fe n hn) (pF n hn) ?_
    refine ao.ue [0,3] ae xA4 (objs:=upd (upd az 0 (some (.cells (dh n)))) 3 (some (.cells [.int .i64 (size n/2:Nat)]))) ?_ ?_
     (pG (most n - 1) ab Tryz.func147 rfl (of_decide_eq_true (by kernel_rfl)) [.ptr 0 0,.ptr 3 0] _ [0,3] ?_ (cut n - 1) ab
      (fun i hi=>by have:=BO n hn hs i ab (hvl _ ab) (hkl _ ab) (upd (upd az 0 (some (.cells (dh n)))) 3 (some (.cells [.int .i64 (size n/2:Nat)]))) 0 3 ab (by simp[upd]) (by simp[upd]);rw[lR ab] at this;exact this)
      (fun i h1 hi=>by have:=BO n hn hs i ab (hvl _ ab) (hkl _ ab) (upd (upd az 0 (some (.cells (dh n)))) 3 (some (.cells [.int .i64 (size n/2:Nat)]))) 0 3 ab (by simp[upd]) (by simp[upd]);rw[zK h1 ab (wg ab)] at this;exact this)) ?_
    ·intro id o ho
     simp only[upd,az,dh] at ho ⊢
     (repeat' split at ho)<;>simp_all
    ·intro id h
     simp only[upd,az] at h
     (repeat' split at h)<;>simp_all
    ·intro id h
     simp only[upd,az] at h
     (repeat' split at h)<;>simp_all
    ·refine ao.eval (xAe e3) ?_
     repeat (first
      |((first|apply Wp.seqItems|apply Wp.items|((first
        |(refine ao.bW ?_ ?_ (we n hs 0 (cut n) (Nat.zero_le _) ab (hvl _ ab) (hkl _ ab)) ?_;(· simp only[go_sem,reduceIte,Nat.reduceEqDiff,Nat.reduceAdd,bx]);(· simp only[go_sem,reduceIte,Nat.reduceEqDiff,Nat.reduceAdd,bx,List.map];first|exact ay.refl _|(repeat (first|exact ay.nil|refine ay.cons xA5 ?_))))
        |(refine ao.bW ?_ ?_ (we n hs (cut n+bet n) n.keys.length ab ab (hvl _ ab) (hkl _ ab)) ?_;(· simp only[go_sem,reduceIte,Nat.reduceEqDiff,Nat.reduceAdd,bx]);(· simp only[go_sem,reduceIte,Nat.reduceEqDiff,Nat.reduceAdd,bx,List.map];first|exact ay.refl _|(repeat (first|exact ay.nil|refine ay.cons xA5 ?_)))));apply ao.eval));(· simp only[go_sem,reduceIte,Nat.reduceEqDiff,Nat.reduceAdd,bx,ax,if_true,if_false,Nat.reduceMul,Nat.reduceLeDiff,ek,x1,x2,Int.toNat_natCast,and_self,if_true,dD _ _ _ x3];exact rfl))
      |(refine ao.nil ⟨?_,?_⟩;(· first|trivial|simp[bg,aS,apart,aV]))
      |(apply Wp.cu;(· simp only[go_sem,reduceIte,Nat.reduceEqDiff,Nat.reduceAdd,bx,ax,if_true,if_false,Nat.reduceMul,Nat.reduceLeDiff,ek,x1,x2,Int.toNat_natCast,and_self,if_true,dD _ _ _ x3];exact rfl);(· rfl))
      |refine Wp.skip ?_
      |refine Wp.label ?_
      |refine Wp.block ?_
      |refine Wp.exit ?_
      |refine Wp.seq ?_)
     refine cI ?_
     rw[split,if_pos hsp];exact av.refl _
   ·have hr':right n=false:=by simpa using hr
    have hsp:splits n=false:=by simp[splits,hr']
    refine an1 (cj2 hr' hd) (fe n hn) ?_
    refine cI ?_
    rw[split,if_neg (by simp[hsp])]
    exact av.tup (ay.cons av.lh (ay.cons (av.refl _) (ay.cons av.lh (ay.cons (av.refl _) ay.nil))))
  ·have hd:decide ((n.keys.length:Int) - 1 - (bet n:Int)<1)=true:=decide_eq_true (by unfold most at hm;omega)
   have hsp:splits n=false:=by simp[splits,hm]
   refine an0 hd ?_
   refine cI ?_
   rw[split,if_neg (by simp[hsp])]
   exact av.tup (ay.cons av.lh (ay.cons (av.refl _) (ay.cons av.lh (ay.cons (av.refl _) ay.nil))))
theorem bA {α:Type} {l:List α} {i:Nat} {d:α} (h:i<l.length):l.getD i d=l[i]:=by
 rw[List.getD_eq_getElem?_getD,List.getElem?_eq_getElem h];rfl
def mH (l:List (List UInt8)):Prop:=(∀s∈l,s.length≤128)∧l.Pairwise (fun a b=>Op.bytesLess a b=true)
theorem gX (l:List (List UInt8)):gy l=true↔mH l:=by
 constructor
 ·intro h
  refine ⟨fun s hs=>?_,List.pairwise_iff_getElem.2 fun i j hi hj hij=>?_⟩
  ·obtain ⟨i,hi,rfl⟩:=List.getElem_of_mem hs
   have:=ny h hi
   simp only[gU,Bool.and_eq_true,decide_eq_true_eq] at this
   have h1:=this.1
   rwa [bA hi] at h1
  ·have:=rising h hij hj
   rwa [bA hi,bA hj] at this
 ·rintro ⟨h1,h2⟩
  refine oe fun i hi=>?_
  simp only[gU,Bool.and_eq_true,Bool.or_eq_true,decide_eq_true_eq]
  rw[bA hi]
  refine ⟨h1 _ (List.getElem_mem hi),?_⟩
  rcases Nat.eq_zero_or_pos i with h|h
  ·exact .inl h
  ·right
   rw[bA (show i - 1<l.length by omega)]
   exact List.pairwise_iff_getElem.1 h2 _ _ _ _ ab
theorem mH.sub {l m:List (List UInt8)} (h:mH l) (hs:m.Sublist l):mH m:=⟨fun s hm=>h.1 s (hs.subset hm),h.2.sublist hs⟩
theorem cM {n:Node} (hl:n.leaf=false):right n=true↔mH n.keys∧n.vals=[]∧n.kids.length=n.keys.length+1∧∀k∈n.kids,0≤k∧k<16384:=by
 have e:∀l:List Int,(l.any lf=false)↔∀k∈l,0≤k∧k<16384:=by
  intro l
  rw[List.any_eq_false]
  constructor
  ·intro h k hk
   have:=h k hk
   simp only[lf,Bool.or_eq_true,decide_eq_true_eq,not_or] at this
   omega
  ·intro h k hk
   have:=h k hk
   simp only[lf,Bool.or_eq_true,decide_eq_true_eq,not_or]
   omega
 rw[right,hl,Bool.and_eq_true,gX]
 simp only[Bool.false_eq_true,if_false,Bool.and_eq_true,decide_eq_true_eq,Bool.not_eq_true',e,List.length_eq_zero_iff,and_assoc]
theorem bq {n:Node} (hl:n.leaf=true):right n=true↔mH n.keys∧n.vals.length=n.keys.length∧n.kids=[]∧∀v∈n.vals,v.length≤200:=by
 have e:∀l:List (List UInt8),(l.any sL=false)↔∀k∈l,k.length≤200:=by
  intro l
  rw[List.any_eq_false]
  constructor
  ·intro h k hk
   have:=h k hk
   simp only[sL,decide_eq_true_eq] at this
   omega
  ·intro h k hk
   have:=h k hk
   simp only[sL,decide_eq_true_eq]
   omega
 rw[right,hl,Bool.and_eq_true,gX]
 simp only[if_true,Bool.and_eq_true,decide_eq_true_eq,Bool.not_eq_true',e,List.length_eq_zero_iff,and_assoc]
theorem mI {α:Type} (l:List α) (a b:Nat):((l.take b).drop a).Sublist l:=(List.drop_sublist _ _).trans (List.take_sublist _ _)
theorem jM {n:Node} (h:right n=true) (a b:Nat) (hab:a≤b) (hb:b≤n.keys.length):right (part n a b)=true:=by
 cases hl:n.leaf with
 |true=>
  obtain ⟨h1,h2,h3,h4⟩:=(bq hl).1 h
  refine (bq (n:=part n a b) hl).2 ⟨h1.sub (mI _ _ _),?_,?_,?_⟩
  ·simp[part,hl,h2]
  ·simp[part,hl]
  ·intro v hv
   simp only[part,hl,if_true] at hv
   exact h4 v ((mI _ _ _).subset hv)
 |false=>
  obtain ⟨h1,h2,h3,h4⟩:=(cM hl).1 h
  refine (cM (n:=part n a b) hl).2 ⟨h1.sub (mI _ _ _),?_,?_,?_⟩
  ·simp[part,hl]
  ·simp[part,hl,h3];omega
  ·intro v hv
   simp only[part,hl,if_false,Bool.false_eq_true] at hv
   exact h4 v ((mI _ _ _).subset hv)
def ins {α:Type} (l:List α) (i:Nat) (x:α):List α:=l.take i++x::l.drop i
theorem fo (a b:List (List UInt8)):tot (a++b)=tot a+tot b:=by simp[tot]
theorem gr (x:List UInt8) (b:List (List UInt8)):tot (x::b)=x.length+tot b:=by simp[tot]
theorem BQ {l:List (List UInt8)} {key:List UInt8} {i:Nat} (h:mH l) (hk:key.length≤128) (h1:∀s∈l.take i,Op.bytesLess s key=true) (h2:∀s∈l.drop i,Op.bytesLess key s=true):mH (ins l i key):=by
 refine ⟨fun s hs=>?_,?_⟩
 ·rw[ins,List.mem_append,List.mem_cons] at hs
  rcases hs with hs|rfl|hs
  ·exact h.1 s ((List.take_sublist _ _).subset hs)
  ·exact hk
  ·exact h.1 s ((List.drop_sublist _ _).subset hs)
 ·rw[ins,List.pairwise_append]
  refine ⟨h.2.sublist (List.take_sublist _ _),List.pairwise_cons.2 ⟨h2,h.2.sublist (List.drop_sublist _ _)⟩,fun a ha b hb=>?_⟩
  rcases List.mem_cons.1 hb with rfl|hb
  ·exact h1 a ha
  ·exact dt (h1 a ha) (h2 b hb)
theorem BR {key k:List UInt8} (h:iG key k=false):Op.bytesLess k key=true∨k=key:=by
 unfold iG at h
 cases hx:Op.bytesLess k key
 ·rw[hx] at h;right;simpa using h
 ·exact .inl rfl
theorem zM {key k:List UInt8} (h:iG key k=true):Op.bytesLess key k=true:=by
 unfold iG at h
 simp only[Bool.not_eq_true',Bool.or_eq_false_iff,decide_eq_false_iff_not] at h
 rcases du k key with g|g|g
 ·rw[h.1] at g;cases g
 ·exact absurd g h.2
 ·exact g
theorem km {l:List (List UInt8)} {i:Nat} {s:List UInt8} (h:s∈l.take i):∃j,j<i∧j<l.length∧s=l.getD j []:=by
 obtain ⟨j,hj,rfl⟩:=List.getElem_of_mem h
 rw[List.length_take] at hj
 exact ⟨j,ab,ab,by rw[bA ab,List.getElem_take]⟩
theorem iH {l:List (List UInt8)} {i:Nat} {s:List UInt8} (h:s∈l.drop i):∃j,i≤j∧j<l.length∧s=l.getD j []:=by
 obtain ⟨j,hj,rfl⟩:=List.getElem_of_mem h
 rw[List.length_drop] at hj
 exact ⟨i+j,ab,ab,by rw[bA ab,List.getElem_drop]⟩
theorem ur {n:Node} (hl:n.leaf=false) (key:List UInt8):place n key=n.keys.findIdx (iG key):=by simp only[place,hl,Bool.false_eq_true,if_false]
theorem fw (l:List (List UInt8)) (k:Nat):tot l=tot (l.take k)+tot (l.drop k):=by rw[←fo,List.take_append_drop]
theorem sP {m:Node} (hl:m.leaf=false) (hr:right m=true) (hm:1≤most m) (hs:size m≤1157):size (part m 0 (cut m))≤1024∧size (part m (cut m+bet m) m.keys.length)≤1024:=by
 obtain ⟨c1,c2⟩:=pK hm
 have hbt:bet m=1:=by simp[bet,hl]
 obtain ⟨r1,-,-,-⟩:=(cM hl).1 hr
 have hmost:most m+2=m.keys.length:=by unfold most at hm ⊢;omega
 have k128:∀j,j<m.keys.length→(m.keys.getD j []).length≤128:=fun j hj=>by rw[bA hj];exact r1.1 _ (List.getElem_mem hj)
 have hsz:size m=7+5*m.keys.length+tot m.keys:=by simp[size,hl]
 constructor
 ·rw[eI m _ ab,hl]
  simp only[Bool.false_eq_true,if_false]
  have h1:=gq m.keys (cut m - 1) ab
  have h2:=k128 (cut m - 1) ab
  rw[show cut m - 1+1=cut m by omega] at h1
  by_cases hc:cut m=1
  ·rw[hc] at h1 h2 ⊢
   simp[tot] at h1 h2 ⊢
   omega
  ·have hf:=lR (n:=m) (i:=cut m - 2) ab
   unfold fits at hf
   have hf:=of_decide_eq_false hf
   rw[show 1+(cut m - 2)=cut m - 1 by omega,eI m _ ab,hl] at hf
   simp only[Bool.false_eq_true,if_false] at hf
   omega
 ·have hb:size (part m (cut m+1) m.keys.length)=7+5*(m.keys.length - (cut m+1))+tot (m.keys.drop (cut m+1)):=by
   simp[size,part,hl]
  rw[hbt,hb]
  have h1:=fw m.keys (cut m+1)
  have h2:=gq m.keys (cut m) ab
  by_cases hc:cut m<most m
  ·have hf:=wg hc
   unfold fits at hf
   have hf:=of_decide_eq_true hf
   rw[show 1+(cut m - 1)=cut m by omega,eI m _ ab,hl] at hf
   simp only[Bool.false_eq_true,if_false] at hf
   omega
  ·have hd:m.keys.drop (cut m+1)=[m.keys.getD (cut m+1) []]:=by
    rw[List.drop_eq_getElem_cons (show cut m+1<m.keys.length by omega),List.drop_eq_nil_of_le ab,bA ab]
   have:=k128 (cut m+1) ab
   rw[hd,gr]
   simp only[tot,List.map_nil,List.sum_nil]
   omega
def val (l:List UInt8):Nat:=l.foldl (fun n c=>n*256+c.toNat) 0
theorem BS (l:List UInt8) (c:UInt8):val (l++[c])=val l*256+c.toNat:=by simp[val]
theorem sQ (l:List UInt8):val l<256^l.length:=by
 have key:∀(l:List UInt8) (a:Nat),l.foldl (fun n c=>n*256+c.toNat) a<(a+1)*256^l.length:=by
  intro l
  induction l with
  |nil=>intro a;simp
  |cons c l ih=>
   intro a
   rw[List.foldl_cons,List.length_cons,Nat.pow_succ,Nat.mul_comm (256^l.length) 256,←Nat.mul_assoc]
   refine Nat.lt_of_lt_of_le (ih _) (Nat.mul_le_mul_right _ ?_)
   have:=c.toNat_lt
   omega
 simpa [val] using key l 0
theorem DP (v c:Nat) (hv:v<1099511627776) (hc:c<256):((BitVec.ofInt 64 ((v*256:Nat):Int)) ||| (BitVec.ofInt 64 (c:Int))).toNat=v*256+c:=by
 rw[BitVec.toNat_or,BitVec.ofInt_natCast,BitVec.ofInt_natCast,BitVec.toNat_ofNat,BitVec.toNat_ofNat,Nat.mod_eq_of_lt ab,Nat.mod_eq_of_lt ab]
 have:=Nat.two_pow_add_eq_or_of_lt (i:=8) (b:=c) hc v
 rw[Nat.mul_comm v 256]
 exact this.symm
structure Scan where
 pos:Nat
 ok:Bool
def dv (b:List UInt8) (s:Scan) (w:Nat):Nat × Scan:=if s.ok&&decide (s.pos+w≤b.length) then (val ((b.drop s.pos).take w),⟨s.pos+w,true⟩) else (0,⟨s.pos,false⟩)
def bI (b:List UInt8) (s:Scan) (w:Nat):List UInt8 × Scan:=
 if (dv b s w).2.ok&&decide ((dv b s w).2.pos+(dv b s w).1≤b.length) then ((b.drop (dv b s w).2.pos).take (dv b s w).1,⟨(dv b s w).2.pos+(dv b s w).1,true⟩) else ([],⟨(dv b s w).2.pos,false⟩)
def bX (b:List UInt8) (s:Scan):Av.Obj:= .cells [.sl 1 (ar b) .any,.int .i64 s.pos,.bool s.ok]
theorem oO {b:List UInt8} {s:Scan} {w:Nat} (h:s.pos≤b.length):(dv b s w).2.pos≤b.length:=by
 unfold dv;split
 ·rename_i hc;simp only[Bool.and_eq_true,decide_eq_true_eq] at hc;exact hc.2
 ·exact h
theorem BT {b:List UInt8} {s:Scan} {w:Nat}:(dv b s w).1<256^w:=by
 unfold dv;split
 ·refine Nat.lt_of_lt_of_le (sQ _) (Nat.pow_le_pow_right ab ?_)
  simp;omega
 ·exact Nat.pow_pos ab
theorem kJ {b:List UInt8} {s:Scan} {w:Nat} (h:s.pos≤b.length):(bI b s w).2.pos≤b.length:=by
 unfold bI;split
 ·rename_i hc;simp only[Bool.and_eq_true,decide_eq_true_eq] at hc;exact hc.2
 ·exact oO h
theorem BU (l:List UInt8) (k:Nat) (h:k<l.length):val (l.take (k+1))=val (l.take k)*256+(l.getD k 0).toNat:=by
 rw[List.take_succ_eq_append_getElem h,BS,bA h]
theorem ko (b:List UInt8) (s:Scan) (w:Nat) (hb:b.length≤1099511627776) (hs:s.pos≤b.length) (hw:w≤4) (id n m:Nat):
  aJ Tryz.prog 100 [.ptr id 0,.int .i64 w] (.only (upd az id (some (bX b s))) [] n m) (.int .i64 (dv b s w).1) (.only (upd az id (some (bX b (dv b s w).2))) [] n m):=by
 suffices h:∃r h',aJ Tryz.prog 100 [.ptr id 0,.int .i64 w] (.only (upd az id (some (bX b s))) [] n m) r h'∧r=(.int .i64 (dv b s w).1)∧h'=(.only (upd az id (some (bX b (dv b s w).2))) [] n m) by
  obtain ⟨r,h',ha,rfl,rfl⟩:=h;exact ha
 refine f100.fA af ?_
 unfold FQ zz
 obtain ⟨at0,ok⟩:=s
 simp only at hs
 have eu:∀(x y:Av.Obj),upd (upd az id (some x)) id (some y)=upd az id (some y):=by intro x y;funext j;simp only[upd];split<;>rfl
 have g1:IntKind.i64.wrap ((b.length:Int) - (at0:Int))=(b.length:Int) - (at0:Int):=IntWalk.i64_in _ ab
 simp only[bX]
 refine Wp.aF xA1 ag ?_
 refine Wp.seq ?_
 by_cases hc:(ok&&decide (at0+w≤b.length))=true
 ·have hc':=hc
  simp only[Bool.and_eq_true,decide_eq_true_eq] at hc'
  obtain ⟨rfl,hc2⟩:=hc'
  have g2:decide ((w:Int)≤(b.length:Int) - (at0:Int))=true:=decide_eq_true ab
  have g3:IntKind.i64.wrap ((at0:Int)+(w:Int))=((at0+w:Nat):Int):=by rw[IntWalk.i64_in _ ab];omega
  have x1:(0:Int)≤(at0:Int):=by omega
  have x2:(at0:Int)≤((at0+w:Nat):Int):=by omega
  have x3:(0:Int)≤((at0+w:Nat):Int):=by omega
  have x4:((at0+w:Nat):Int)≤(b.length:Int):=by omega
  have lp:(((ar b).take (at0+w)).drop at0)=ar ((b.drop at0).take w):=by
   simp only[ar,←List.map_take,←List.map_drop]
   rw[List.drop_take];congr 2;congr 1;omega
  have lw:((b.drop at0).take w).length=w:=by simp;omega
  have hv:∀j,j≤w→val (((b.drop at0).take w).take j)<256^j:=fun j hj=>by
   have:=sQ (((b.drop at0).take w).take j)
   rwa [List.length_take,lw,Nat.min_eq_left hj] at this
  rw[dv,if_pos (by simpa using hc2)]
  generalize hP:(b.drop at0).take w=P at*
  refine an0 (oz g1 g2 g3 x1 x2 x3 x4 lp lw eu) ?_
  refine Wp.kZ [0,1,48,49] xA6 (fun j:Nat=>[(5,.int .i64 (val (P.take j))),(50,.int .i64 j)]) (fun j=>j≤w) (fun j=>w - j) 0 (Nat.zero_le _) ?_ ?_
  ·exact xSb
  ·intro j hj
   by_cases hlt:j<w
   ·have d1:decide ((j:Int)<(w:Int))=true:=decide_eq_true ab
    have h1:(0:Int)≤(j:Int):=by omega
    have h2:(j:Int)<(w:Int):=by omega
    have h3:j<P.length:=by omega
    have hvj:=hv j hj
    have hpw:(256:Nat)^j≤256^3:=Nat.pow_le_pow_right ab ab
    have hc:=(P.getD j 0).toNat_lt
    have e1:IntKind.i64.wrap (((val (P.take j):Nat):Int)*2^(min (Int.toNat 8) 64))=((val (P.take j)*256:Nat):Int):=by
     rw[show min (Int.toNat 8) 64=8 from rfl,IntWalk.i64_in _ ab];omega
    have e2:¬(8:Int)<0:=by omega
    have e3:IntKind.i64.wrap (((P.getD j 0).toNat:Nat):Int)=(((P.getD j 0).toNat:Nat):Int):=IntWalk.i64_in _ ab
    have e4:IntKind.i64.wrap (((((BitVec.ofInt (IntKind.bits .i64) ((val (P.take j)*256:Nat):Int)) ||| (BitVec.ofInt (IntKind.bits .i64) (((P.getD j 0).toNat:Nat):Int))).toNat:Nat)):Int)=((val (P.take (j+1)):Nat):Int):=by
     rw[show ((BitVec.ofInt (IntKind.bits .i64) ((val (P.take j)*256:Nat):Int)) ||| (BitVec.ofInt (IntKind.bits .i64) (((P.getD j 0).toNat:Nat):Int))).toNat=_ from DP _ _ ab hc,BU P j h3,IntWalk.i64_in _ ab]
    have e5:IntKind.i64.wrap ((j:Int)+1)=((j+1:Nat):Int):=by rw[IntWalk.i64_in _ ab];omega
    repeat (first
     |((first|apply Wp.seqItems|apply Wp.items);(· simp only[go_sem,reduceIte,Nat.reduceEqDiff,Nat.reduceAdd,bx,ax,if_true,if_false,Nat.reduceMul,Nat.reduceLeDiff,d1,h1,h2,lw,jG P j _ h3,byte,IntKind.bits,e1,e2,e3,e5];exact rfl))
     |(refine ao.nil ⟨?_,?_⟩;(· first|trivial|simp[bg,aS,apart,aV]))
     |(apply Wp.cu;(· simp only[go_sem,reduceIte,Nat.reduceEqDiff,Nat.reduceAdd,bx,ax,if_true,if_false,Nat.reduceMul,Nat.reduceLeDiff,d1,h1,h2,lw,jG P j _ h3,byte,IntKind.bits,e1,e2,e3,e5];exact rfl);(· rfl))
     |refine Wp.skip ?_
     |refine Wp.label ?_
     |refine Wp.block ?_
     |refine Wp.exit ?_
     |refine Wp.seq ?_)
    refine ⟨j+1,ab,ab,?_⟩
    refine aK.tm (by simp only[aY,go_sem,reduceIte,Nat.reduceEqDiff,Nat.reduceAdd,bx];and_intros<;>first|exact trivial|exact av.refl _|exact av.any _|exact av.of_eq (congrArg (AV.int .i64) e4)|(refine av.int ?_;omega))
   ·have hjw:j=w:=by omega
    subst hjw
    have d1:decide ((j:Int)<(j:Int))=false:=decide_eq_false ab
    have hPt:P.take j=P:=List.take_of_length_le ab
    rw[hPt]
    refine an0 (cj3 d1 g3 eu) ?_
    refine Wp.ret ⟨trivial,_,rfl,?_,?_⟩
    ·first|rfl|simp only[go_sem,reduceIte,Nat.reduceEqDiff]
    ·first|rfl|simp only[go_sem,reduceIte,Nat.reduceEqDiff]
 ·rw[dv,if_neg (by simpa using hc)]
  cases ok with
  |false=>
   refine an0 (cj2 g1 eu) ?_
   refine Wp.ret ⟨trivial,_,rfl,?_,?_⟩
   ·first|rfl|simp only[go_sem,reduceIte,Nat.reduceEqDiff]
   ·first|rfl|simp only[go_sem,reduceIte,Nat.reduceEqDiff]
  |true=>
   have hlt:¬at0+w≤b.length:=by simpa using hc
   have g2:decide ((w:Int)≤(b.length:Int) - (at0:Int))=false:=decide_eq_false ab
   refine an0 (cj3 g1 g2 eu) ?_
   refine Wp.ret ⟨trivial,_,rfl,?_,?_⟩
   ·first|rfl|simp only[go_sem,reduceIte,Nat.reduceEqDiff]
   ·first|rfl|simp only[go_sem,reduceIte,Nat.reduceEqDiff]
theorem cH (id:Nat) (f:Nat→Option Av.Obj) (x y:Option Av.Obj):upd (upd f id x) id y=upd f id y:=by funext j;simp only[upd];split<;>rfl
theorem sR (b:List UInt8) (s:Scan) (w:Nat) (hb:b.length≤1099511627776) (hs:s.pos≤b.length) (hw:w≤4) (id n m:Nat):
  aJ Tryz.prog 101 [.ptr id 0,.int .i64 w] (.only (upd az id (some (bX b s))) [] n m) (.str (bI b s w).1) (.only (upd az id (some (bX b (bI b s w).2))) [] n m):=by
 suffices h:∃r h',aJ Tryz.prog 101 [.ptr id 0,.int .i64 w] (.only (upd az id (some (bX b s))) [] n m) r h'∧r=(.str (bI b s w).1)∧h'=(.only (upd az id (some (bX b (bI b s w).2))) [] n m) by
  obtain ⟨r,h',ha,rfl,rfl⟩:=h;exact ha
 refine f101.fA af ?_
 unfold FR zz
 refine Wp.aF xA1 ag ?_
 refine Wp.seqItems xA1 ?_
 refine ao.cF ae xA4 (ko b s w hb hs hw id n m) (bV _ (id:=id) (ob:=bX b s) (ob':=bX b (dv b s w).2) (by simp[upd])) ?_
 have hv:=BT (b:=b) (s:=s) (w:=w)
 have hp:=oO (b:=b) (w:=w) hs
 have hpw:(256:Nat)^w≤256^4:=Nat.pow_le_pow_right ab ab
 unfold bI
 generalize (dv b s w).1=V at*
 generalize (dv b s w).2=s1 at*
 obtain ⟨p,ok⟩:=s1
 simp only at hp
 have g1:IntKind.i64.wrap ((b.length:Int) - (p:Int))=(b.length:Int) - (p:Int):=IntWalk.i64_in _ ab
 simp only[bX]
 refine ao.eval (xAe @cH) ?_
 refine ao.nil ⟨by trivial,?_⟩
 refine Wp.seq ?_
 by_cases hc:(ok&&decide (p+V≤b.length))=true
 ·have hc':=hc
  simp only[Bool.and_eq_true,decide_eq_true_eq] at hc'
  obtain ⟨rfl,hc2⟩:=hc'
  have g2:decide ((V:Int)≤(b.length:Int) - (p:Int))=true:=decide_eq_true ab
  have g3:IntKind.i64.wrap ((p:Int)+(V:Int))=((p+V:Nat):Int):=by rw[IntWalk.i64_in _ ab];omega
  have g4:IntKind.i64.wrap (((p+V:Nat):Int) - (V:Int))=(p:Int):=by rw[IntWalk.i64_in _ ab];omega
  have x1:(0:Int)≤(p:Int):=by omega
  have x2:(p:Int)≤((p+V:Nat):Int):=by omega
  have x3:(0:Int)≤((p+V:Nat):Int):=by omega
  have x4:((p+V:Nat):Int)≤(b.length:Int):=by omega
  have lp:(((ar b).take (p+V)).drop p)=ar ((b.drop p).take V):=by
   simp only[ar,←List.map_take,←List.map_drop]
   rw[List.drop_take];congr 2;congr 1;omega
  rw[if_pos (by simpa using hc2)]
  refine an0 (sE g1 g2 g3 g4 x1 x2 x3 x4 lp @cH @qx) ?_
  refine Wp.ret ⟨trivial,_,rfl,?_,?_⟩
  ·first|rfl|simp only[go_sem,reduceIte,Nat.reduceEqDiff]
  ·first|rfl|simp only[go_sem,reduceIte,Nat.reduceEqDiff]
 ·rw[if_neg (by simpa using hc)]
  cases ok with
  |false=>
   refine an0 (cj2 g1 @cH) ?_
   refine Wp.ret ⟨trivial,_,rfl,?_,?_⟩
   ·first|rfl|simp only[go_sem,reduceIte,Nat.reduceEqDiff]
   ·first|rfl|simp only[go_sem,reduceIte,Nat.reduceEqDiff]
  |true=>
   have hlt:¬p+V≤b.length:=by simpa using hc
   have g2:decide ((V:Int)≤(b.length:Int) - (p:Int))=false:=decide_eq_false ab
   refine an0 (cj3 g1 g2 @cH) ?_
   refine Wp.ret ⟨trivial,_,rfl,?_,?_⟩
   ·first|rfl|simp only[go_sem,reduceIte,Nat.reduceEqDiff]
   ·first|rfl|simp only[go_sem,reduceIte,Nat.reduceEqDiff]
structure Acc where
 keys:List (List UInt8)
 vals:List (List UInt8)
 kids:List Int
 s:Scan
def eB (leaf:Bool) (b:List UInt8) (a:Acc):Acc:=
 if leaf then ⟨a.keys++[(bI b a.s 1).1],a.vals++[(bI b (bI b a.s 1).2 2).1],a.kids,(bI b (bI b a.s 1).2 2).2⟩
 else ⟨a.keys++[(bI b a.s 1).1],a.vals,a.kids++[((dv b (bI b a.s 1).2 4).1:Int)],(dv b (bI b a.s 1).2 4).2⟩
def eV (leaf:Bool) (b:List UInt8):Nat→Acc→Acc
 |0,a=>a
 |c+1,a=>if a.s.ok then eV leaf b c (eB leaf b a) else a
def dI (leaf:Bool) (b:List UInt8):Acc:=if leaf then ⟨[],[],[],⟨3,true⟩⟩ else ⟨[],[],[((dv b ⟨3,true⟩ 4).1:Int)],(dv b ⟨3,true⟩ 4).2⟩
def bM (b:List UInt8):Bool:=decide (b.getD 0 0=76)
def br (b:List UInt8):Acc:=eV (bM b) b (val ((b.drop 1).take 2)) (dI (bM b) b)
def cz (b:List UInt8):Node:=⟨bM b,(br b).keys,(br b).vals,(br b).kids⟩
def fQ (b:List UInt8):Bool:=decide (b.length=1024)&&(br b).s.ok&&decide (check (cz b)=0)&&decide (bytesOf (cz b)=b)
def fC (b:List UInt8):Node:=if fQ b then cz b else lh
def lj (b:List UInt8):Nat:=if fQ b then 0 else 4
theorem kK (b:List UInt8):decide ((((b.getD 0 0).toNat:Nat):Int)=76)=bM b:=by
 unfold bM
 refine decide_eq_decide.2 ⟨fun h=>?_,fun h=>by rw[h];rfl⟩
 have:(b.getD 0 0).toNat=76:=by omega
 exact UInt8.toNat_inj.1 this
structure Inv (leaf:Bool) (b:List UInt8) (i:Nat) (a:Acc):Prop where
 pos:a.s.pos≤b.length
 k:a.keys.length≤i
 v:a.vals.length≤i
 d:a.kids.length≤i+1
 tk:tot a.keys≤i*b.length
 tv:tot a.vals≤i*b.length
theorem mJ (b:List UInt8) (s:Scan) (w:Nat):(bI b s w).1.length≤b.length:=by
 unfold bI;split
 ·simp;omega
 ·simp
theorem Inv.step {leaf:Bool} {b:List UInt8} {i:Nat} {a:Acc} (h:Inv leaf b i a):Inv leaf b (i+1) (eB leaf b a):=by
 obtain ⟨h1,h2,h3,h4,h5,h6⟩:=h
 have p1:=kJ (w:=1) h1
 have l1:=mJ b a.s 1
 have l2:=mJ b (bI b a.s 1).2 2
 unfold eB
 split
 ·refine ⟨kJ p1,by simp;omega,by simp;omega,by simp only;omega,?_,?_⟩
  ·simp only[fo,gr,Nat.add_mul];simp only[tot,List.map_nil,List.sum_nil] at h5 ⊢;omega
  ·simp only[fo,gr,Nat.add_mul];simp only[tot,List.map_nil,List.sum_nil] at h6 ⊢;omega
 ·refine ⟨oO p1,by simp;omega,by simp only;omega,by simp;omega,?_,by simp only[Nat.add_mul];omega⟩
  simp only[fo,gr,Nat.add_mul];simp only[tot,List.map_nil,List.sum_nil] at h5 ⊢;omega
theorem Inv.start (leaf:Bool) (b:List UInt8) (hb:3≤b.length):Inv leaf b 0 (dI leaf b):=by
 unfold dI;split
 ·exact ⟨hb,by simp,by simp,by simp,by simp[tot],by simp[tot]⟩
 ·exact ⟨oO hb,by simp,by simp,by simp,by simp[tot],by simp[tot]⟩
theorem Inv.loop {leaf:Bool} {b:List UInt8}:∀{c i:Nat} {a:Acc},Inv leaf b i a→Inv leaf b (i+c) (eV leaf b c a)
 |0,i,a,h=>h
 |c+1,i,a,h=>by
  unfold eV
  split
  ·have:=Inv.loop (c:=c) h.step
   rwa [Nat.add_assoc,Nat.add_comm 1 c] at this
  ·exact ⟨h.pos,by have:=h.k;omega,by have:=h.v;omega,by have:=h.d;omega,Nat.le_trans h.tk (Nat.mul_le_mul_right _ ab),Nat.le_trans h.tv (Nat.mul_le_mul_right _ ab)⟩
theorem pM (b:List UInt8):val ((b.drop 1).take 2)<65536:=by
 refine Nat.lt_of_lt_of_le (sQ _) ?_
 have:((b.drop 1).take 2).length≤2:=by simp;omega
 exact Nat.pow_le_pow_right ab this
theorem xL {b:List UInt8} (hb:b.length=1024):Nb (cz b):=by
 have h:=(Inv.start (bM b) b ab).loop (c:=val ((b.drop 1).take 2))
 have hc:=pM b
 rw[Nat.zero_add] at h
 obtain ⟨h1,h2,h3,h4,h5,h6⟩:=h
 rw[hb] at h5 h6
 exact ⟨by show (br b).keys.length≤_;unfold br;omega,by show (br b).vals.length≤_;unfold br;omega,by show (br b).kids.length≤_;unfold br;omega,by show tot (br b).keys≤_;unfold br;omega,by show tot (br b).vals≤_;unfold br;omega⟩
theorem kL (a:List (List UInt8)) (x:List UInt8):strs a++[.str x]=strs (a++[x]):=by simp[strs]
theorem kM (a:List Int) (x:Int):ints a++[.int .i64 x]=ints (a++[x]):=by simp[ints]
theorem dS {a b:Nat} (h:a≠b):(a=b)=False:=eq_false h
def dg:List AV:=[.bool false,.sl 1 [] (.exact 0),.sl 1 [] (.exact 0),.sl 1 [] (.exact 0)]
def kV (l:Bool) (a:Acc) (c1 c2 c3:Cap):List AV:=[.bool l,.sl 1 (strs a.keys) c1,.sl 1 (strs a.vals) c2,.sl 1 (ints a.kids) c3]
theorem uu (c:UInt8) (l:List UInt8):val (c::l)=c.toNat*256^l.length+val l:=by
 have key:∀(l:List UInt8) (a:Nat),l.foldl (fun n c=>n*256+c.toNat) a=a*256^l.length+val l:=by
  intro l
  induction l with
  |nil=>intro a;simp[val]
  |cons c l ih=>
   intro a
   rw[List.foldl_cons,ih,List.length_cons,Nat.pow_succ]
   have:val (c::l)=c.toNat*256^l.length+val l:=by
    show List.foldl _ (0*256+c.toNat) l=_
    rw[ih];simp
   rw[this,Nat.add_mul,Nat.mul_assoc,Nat.mul_comm 256 (256^l.length)]
   omega
 show List.foldl _ (0*256+c.toNat) l=_
 rw[key];simp
theorem wj:∀(n v k:Nat),be n (k*256^n+v)=be n v
 |0,v,k=>rfl
 |n+1,v,k=>by
  have e:k*256^(n+1)=(k*256)*256^n:=by rw[Nat.pow_succ,Nat.mul_comm (256^n) 256,Nat.mul_assoc]
  rw[be,be,e,wj n v (k*256)]
  congr 1
  have hp:0<256^n:=Nat.pow_pos ab
  rw[Nat.add_comm,Nat.add_mul_div_right _ _ hp]
  apply UInt8.toNat_inj.1
  simp only[UInt8.toNat_ofNat']
  omega
theorem wk:∀(l:List UInt8),be l.length (val l)=l
 |[]=>rfl
 |c::l=>by
  rw[List.length_cons,be,uu,wj,wk l]
  congr 1
  have hp:0<256^l.length:=Nat.pow_pos ab
  rw[Nat.add_comm,Nat.add_mul_div_right _ _ hp,Nat.div_eq_of_lt (sQ l),Nat.zero_add]
  exact UInt8.ofNat_toNat
theorem sS {b:List UInt8} {s:Scan} {w:Nat} (h:(dv b s w).2.ok=true):s.ok=true∧(dv b s w).2.pos=s.pos+w∧s.pos+w≤b.length∧b.take (s.pos+w)=b.take s.pos++be w (dv b s w).1:=by
 unfold dv at h ⊢
 split at h
 ·rename_i hc
  rw[if_pos hc]
  simp only[Bool.and_eq_true,decide_eq_true_eq] at hc
  refine ⟨hc.1,rfl,hc.2,?_⟩
  have hl:((b.drop s.pos).take w).length=w:=by simp;omega
  have:=wk ((b.drop s.pos).take w)
  rw[hl] at this
  rw[this,←List.take_add]
 ·cases h
theorem nA {b:List UInt8} {s:Scan} {w:Nat} (h:(bI b s w).2.ok=true):s.ok=true∧(bI b s w).2.pos≤b.length∧b.take (bI b s w).2.pos=b.take s.pos++(be w (bI b s w).1.length++(bI b s w).1):=by
 unfold bI at h ⊢
 split at h
 ·rename_i hc
  rw[if_pos hc]
  simp only[Bool.and_eq_true,decide_eq_true_eq] at hc
  obtain ⟨h1,h2,h3,h4⟩:=sS hc.1
  refine ⟨h1,hc.2,?_⟩
  have hl:((b.drop (dv b s w).2.pos).take (dv b s w).1).length=(dv b s w).1:=by simp;omega
  simp only
  rw[hl,List.take_add,h2,h4,List.append_assoc]
 ·cases h
structure Reads (leaf:Bool) (b:List UInt8) (i:Nat) (a:Acc):Prop where
 k:a.keys.length=i
 v:if leaf then a.vals.length=i∧a.kids=[] else a.vals=[]∧a.kids.length=i+1
 pos:a.s.pos≤b.length
 eq:b.take a.s.pos=b.take 3++((if leaf then [] else be 4 (a.kids.getD 0 0).toNat)++rows ⟨leaf,a.keys,a.vals,a.kids⟩ i)
theorem mK {α:Type} (l m:List α) (i:Nat) (d:α) (h:i<l.length):(l++m).getD i d=l.getD i d:=by
 rw[bA ak,bA h,List.getElem_append_left h]
theorem pN (leaf:Bool) (ks vs ks' vs':List (List UInt8)) (is is':List Int):∀i,i≤ks.length→(leaf=true→i≤vs.length)→(leaf=false→i+1≤is.length)→rows ⟨leaf,ks++ks',vs++vs',is++is'⟩ i=rows ⟨leaf,ks,vs,is⟩ i
 |0,_,_,_=>rfl
 |i+1,h1,h2,h3=>by
  rw[rows,rows,pN leaf ks vs ks' vs' is is' i ab (fun h=>by have:=h2 h;omega) (fun h=>by have:=h3 h;omega)]
  congr 1
  unfold row
  simp only
  rw[mK _ _ _ _ h1]
  cases leaf
  ·simp only[Bool.false_eq_true,if_false];rw[mK _ _ _ _ (h3 rfl)]
  ·simp only[if_true];rw[mK _ _ _ _ (h2 rfl)]
theorem kN {α:Type} (l:List α) (x d:α):(l++[x]).getD l.length d=x:=by
 rw[bA af,List.getElem_append_right ab];simp
theorem Reads.step {leaf:Bool} {b:List UInt8} {i:Nat} {a:Acc} (h:a.s.ok=true→Reads leaf b i a) (hok:(eB leaf b a).s.ok=true):Reads leaf b (i+1) (eB leaf b a):=by
 cases leaf with
 |true=>
  simp only[eB,if_true] at hok ⊢
  obtain ⟨o1,p1,e1⟩:=nA hok
  obtain ⟨o2,p2,e2⟩:=nA o1
  obtain ⟨hk,hv,hp,he⟩:=h o2
  simp only[if_true] at hv
  obtain ⟨hv,hd⟩:=hv
  refine ⟨by simp[hk],by simp[hv,hd],p1,?_⟩
  have hr:=pN true a.keys a.vals [(bI b a.s 1).1] [(bI b (bI b a.s 1).2 2).1] a.kids [] i ab (fun _=>by omega) (fun h=>by cases h)
  rw[List.append_nil] at hr
  simp only[if_true] at he ⊢
  rw[e1,e2,he,rows,hr]
  unfold row
  simp only[if_true]
  have l1:=kN a.keys (bI b a.s 1).1 []
  have l2:=kN a.vals (bI b (bI b a.s 1).2 2).1 []
  rw[hk] at l1
  rw[hv] at l2
  rw[l1,l2]
  simp[List.append_assoc]
 |false=>
  simp only[eB,Bool.false_eq_true,if_false] at hok ⊢
  obtain ⟨o1,p1,q1,e1⟩:=sS hok
  obtain ⟨o2,p2,e2⟩:=nA o1
  obtain ⟨hk,hv,hp,he⟩:=h o2
  simp only[Bool.false_eq_true,if_false] at hv
  obtain ⟨hv,hd⟩:=hv
  refine ⟨by simp[hk],by simp[hv,hd],by simp only;omega,?_⟩
  have hr:=pN false a.keys a.vals [(bI b a.s 1).1] [] a.kids [((dv b (bI b a.s 1).2 4).1:Int)] i ab (fun h=>by cases h) (fun _=>by omega)
  rw[List.append_nil] at hr
  simp only[Bool.false_eq_true,if_false] at he ⊢
  rw[p1,e1,e2,he,rows,hr,mK _ _ _ _ ab]
  unfold row
  simp only[Bool.false_eq_true,if_false]
  have l1:=kN a.keys (bI b a.s 1).1 []
  have l2:=kN a.kids ((dv b (bI b a.s 1).2 4).1:Int) 0
  rw[hk] at l1
  rw[hd] at l2
  rw[l1,l2]
  simp[List.append_assoc]
theorem Reads.loop {leaf:Bool} {b:List UInt8}:∀{c i:Nat} {a:Acc},(a.s.ok=true→Reads leaf b i a)→(eV leaf b c a).s.ok=true→Reads leaf b (i+c) (eV leaf b c a)
 |0,i,a,h,hok=>h hok
 |c+1,i,a,h,hok=>by
  unfold eV at hok ⊢
  split at hok
  ·rename_i ha
   rw[if_pos ha]
   have:=Reads.loop (c:=c) (i:=i+1) (fun hs=>Reads.step h hs) hok
   rwa [Nat.add_assoc,Nat.add_comm 1 c] at this
  ·rename_i ha;exact absurd hok ha
theorem Reads.start (leaf:Bool) (b:List UInt8) (hb:3≤b.length):(dI leaf b).s.ok=true→Reads leaf b 0 (dI leaf b):=by
 intro hok
 cases leaf with
 |true=>simp only[dI,if_true];exact ⟨rfl,by simp,hb,by simp[rows]⟩
 |false=>
  simp only[dI,Bool.false_eq_true,if_false] at hok ⊢
  obtain ⟨o1,p1,q1,e1⟩:=sS hok
  refine ⟨rfl,by simp,by simp only;omega,?_⟩
  simp only[Bool.false_eq_true,if_false] at p1 e1 ⊢
  rw[p1,e1]
  simp[rows]
def pO (b:List UInt8):Bool:=decide (b.getD 0 0=76)||decide (b.getD 0 0=73)
def jh (b:List UInt8) (p:Nat):Bool:= !(b.drop p).any (fun c=>decide (c≠0))
theorem zS (l:List UInt8) (n:Nat) (h:l.length=n):(!l.any (fun c=>decide (c≠0)))=true↔List.replicate n 0=l:=by
 rw[Bool.not_eq_true',List.any_eq_false]
 constructor
 ·intro hz
  symm
  rw[List.eq_replicate_iff]
  exact ⟨h,fun x hx=>by have:=hz x hx;simpa using this⟩
 ·intro e x hx
  rw[←e] at hx
  have:=List.eq_of_mem_replicate hx
  simp[this]
theorem pP {b:List UInt8} (hb:b.length=1024) (hok:(br b).s.ok=true) (hc:check (cz b)=0):bytesOf (cz b)=b↔(pO b=true∧jh b (br b).s.pos=true):=by
 obtain ⟨r1,r2⟩:=gV hc
 have hR:=Reads.loop (Reads.start (bM b) b ab) (c:=val ((b.drop 1).take 2)) hok
 rw[Nat.zero_add] at hR
 change Reads (bM b) b _ (br b) at hR
 obtain ⟨hk,-,hp,he⟩:=hR
 have hl2:((b.drop 1).take 2).length=2:=by simp;omega
 have hb2:=wk ((b.drop 1).take 2)
 rw[hl2,←hk] at hb2
 rw[←hk] at he
 have h3:b.take 3=b.take 1++be 2 (br b).keys.length:=by rw[hb2,←List.take_add]
 have htl:=kj (cz b) (fu r1).vals
 have htx:text (cz b)=(if bM b then [76] else [73])++(be 2 (br b).keys.length++((if bM b then [] else be 4 ((br b).kids.getD 0 0).toNat)++rows (cz b) (br b).keys.length)):=by
  unfold text head
  simp only[cz,List.append_assoc]
  rfl
 have hbt:b.take (br b).s.pos=b.take 1++(be 2 (br b).keys.length++((if bM b then [] else be 4 ((br b).kids.getD 0 0).toNat)++rows (cz b) (br b).keys.length)):=by
  rw[he,h3,List.append_assoc];rfl
 generalize hT:be 2 (br b).keys.length++((if bM b then [] else be 4 ((br b).kids.getD 0 0).toNat)++rows (cz b) (br b).keys.length)=T at*
 have hTl:(br b).s.pos=1+T.length:=by
  have:=congrArg List.length hbt
  rw[List.length_take,List.length_append,List.length_take] at this
  omega
 have hsz:size (cz b)=1+T.length:=by
  rw[←htl,htx];cases bM b<;>simp<;>omega
 have hsplit:b=b.take 1++(T++b.drop (br b).s.pos):=by
  conv=>lhs;rw[←List.take_append_drop (br b).s.pos b]
  rw[hbt,List.append_assoc]
 have h1:b.take 1=[b.getD 0 0]:=by
  rw[bA ab]
  match b,hb with
  |x::l,_=>simp
 have hdl:(b.drop (br b).s.pos).length=1024 - size (cz b):=by rw[List.length_drop,hsz,hTl,hb]
 have hbl:=zS (b.drop (br b).s.pos) _ hdl
 have htag:(if bM b then [76] else [73])=b.take 1↔pO b=true:=by
  rw[h1]
  unfold pO bM
  by_cases h76:b.getD 0 0=76
  ·simp only[h76,decide_true,if_true,Bool.true_or]
  ·simp only[h76,decide_false,Bool.false_eq_true,if_false,Bool.false_or,decide_eq_true_eq,List.cons.injEq,and_true]
   exact eq_comm
 unfold jh
 rw[hbl,←htag]
 unfold bytesOf
 rw[htx]
 constructor
 ·intro h
  have h:=h.trans hsplit
  rw[List.append_assoc] at h
  have hlen:(if bM b then [76] else [73]:List UInt8).length=(b.take 1).length:=by rw[h1];split<;>rfl
  obtain ⟨a1,a2⟩:=List.append_inj h hlen
  exact ⟨a1,(List.append_inj a2 rfl).2⟩
 ·rintro ⟨a1,a2⟩
  rw[a1,a2,List.append_assoc];exact hsplit.symm
theorem DQ (c:UInt8):aZ Tryz.prog 102 [byte c] (.bool (decide (c≠0))):=by
 refine f102.dw af rfl rfl ?_
 unfold FU zz
 have e:decide (((c.toNat:Nat):Int)=0)=decide (c=0):=decide_eq_decide.2 ⟨fun h=>UInt8.toNat_inj.1 (by omega:c.toNat=0),fun h=>by rw[h];rfl⟩
 refine an0 (cj2 @byte.eq_1 e) ?_
 refine cI ?_
 refine av.of_eq ?_
 simp
theorem pQ (l:List UInt8) (hl:l.length≤4611686018427387904):aZ Tryz.prog 104 [.sl 1 (ar l) .any,.clo (.func 102) [] []] (.bool (l.any (fun c=>decide (c≠0)))):=
 jK f104 byte (fun _=>rfl) l _ (nv f140 byte (fun _=>rfl) (fun _=>rfl) l hl _ Tryz.func102 rfl (of_decide_eq_true (by kernel_rfl)) fun x _=>DQ x)
theorem gY (l:List UInt8) (k:Nat):(ar l).take k=ar (l.take k):=by simp[ar]
theorem gZ (l:List UInt8) (k:Nat):(ar l).drop k=ar (l.drop k):=by simp[ar]
theorem mL (b:List UInt8):decide ((((b.getD 0 0).toNat:Nat):Int)=73)=decide (b.getD 0 0=73):=
 decide_eq_decide.2 ⟨fun h=>UInt8.toNat_inj.1 (by omega:(b.getD 0 0).toNat=73),fun h=>by rw[h];rfl⟩
theorem Fe (b:List UInt8):aZ Tryz.prog 72 [.sl 1 (ar b) .any] (.tup [aD (fC b),.int .i64 (lj b)]):=by
 refine f72.dw af (by simp[aR,bf,cG,pq]) (by simp[aR,bf,cT]) ?_
 unfold c72 zz
 have fin:av (.tup [.agg dg,.int .i64 4]) (.tup [aD lh,.int .i64 ((4:Nat):Int)]):=av.tup (ay.cons av.lh (ay.cons (av.refl _) ay.nil))
 refine Wp.aF xA1 ag ?_
 refine Wp.seq ?_
 by_cases hb:b.length=1024
 ·have d0:decide ((b.length:Int)=1024)=true:=decide_eq_true ab
  have x0:(0:Int)<(b.length:Int):=by omega
  have y0:(0:Int)≤(0:Int):=by omega
  have z0:(0:Int).toNat=0:=rfl
  have b0:=jG b 0 .any ab
  by_cases ht:pO b=true
  ·have en:dv b ⟨1,true⟩ 2=(val ((b.drop 1).take 2),⟨3,true⟩):=by rw[dv,if_pos ak]
   have hnum:=fun n m=>ko b ⟨1,true⟩ 2 ab ak ab 1 n m
   rw[en] at hnum
   have hcn:=pM b
   have hI0:=Inv.start (bM b) b ab
   have hacc:br b=eV (bM b) b (val ((b.drop 1).take 2)) (dI (bM b) b):=rfl
   simp only at hnum
   generalize val ((b.drop 1).take 2)=C at*
   have hcond:(!bM b&& !decide (b.getD 0 0=73))=false:=by
    unfold pO at ht;unfold bM
    cases h1:decide (b.getD 0 0=76)<;>cases h2:decide (b.getD 0 0=73)<;>simp_all
   refine Wp.meet ⟨tm [(0,.sl 1 (ar b) .any),(2,.ptr 0 0)],⟨upd az 0 (some (.cells dg)),1,[],0⟩⟩ ?_ ?_
   ·cases hl:bM b with
    |true=>
     refine an0 (cj9 d0 x0 y0 z0 b0 @byte.eq_1 @kK @mL hl) ?_
     refine aK.of (bp ?_) (OLe.upd (OLe.none _) (dN.refl _)) af (Nat.le_refl _) (Nat.le_refl _)
     exact xSb
    |false=>
     have h73:decide (b.getD 0 0=73)=true:=by simpa [hl] using hcond
     refine an0 (oz d0 x0 y0 z0 b0 @byte.eq_1 @kK @mL hl h73) ?_
     refine aK.of (bp ?_) (OLe.upd (OLe.none _) (dN.refl _)) af (Nat.le_refl _) (Nat.le_refl _)
     exact xSb
   ·repeat (first
     |((first|apply Wp.seqItems|apply Wp.items|((first
       |(refine ao.cF ?_ ?_ (hnum _ _) (bV _ ?_) ?_;(· simp only[go_sem,reduceIte,Nat.reduceEqDiff,Nat.reduceAdd,bx]);(· simp only[go_sem,reduceIte,Nat.reduceEqDiff,Nat.reduceAdd,bx,List.map];first|exact ay.refl _|(repeat (first|exact ay.nil|refine ay.cons xA5 ?_)));(· first|rfl|simp only[go_sem,reduceIte,Nat.reduceEqDiff]|simp[upd])));apply ao.eval));(· simp only[go_sem,reduceIte,Nat.reduceEqDiff,Nat.reduceAdd,bx,ax,if_true,if_false,Nat.reduceMul,Nat.reduceLeDiff,x0,y0,z0,b0,byte,kK,cH,bX];exact rfl))
     |(refine ao.nil ⟨?_,?_⟩;(· first|trivial|simp[bg,aS,apart,aV]))
     |(apply Wp.cu;(· simp only[go_sem,reduceIte,Nat.reduceEqDiff,Nat.reduceAdd,bx,ax,if_true,if_false,Nat.reduceMul,Nat.reduceLeDiff,x0,y0,z0,b0,byte,kK,cH,bX];exact rfl);(· rfl))
     |refine Wp.skip ?_
     |refine Wp.label ?_
     |refine Wp.block ?_
     |refine Wp.exit ?_
     |refine Wp.seq ?_)
    refine Wp.meet ⟨tm [(0,.sl 1 (ar b) .any),(2,.ptr 0 0),(4,.ptr 1 0),(5,.ptr 2 0),(6,.int .i64 C)],⟨upd (upd (upd az 0 (some (.cells dg))) 1 (some (bX b (dI (bM b) b).s))) 2 (some (.cells (kV (bM b) (dI (bM b) b) (.own 1) (.own 2) (.own 0)))),3,[2,1,0],3⟩⟩ ?_ ?_
    ·cases hl:bM b with
     |true=>
      refine Gq ?_
      refine aK.trans (aK.tok _ _) (aK.trans (aK.tok _ _) (aK.trans (aK.tok _ _) (aK.of (bp ?_) (OLe.put (OLe.put (OLe.put (OLe.none _) rfl (dN.refl _)) rfl (dN.refl _)) rfl (ay.G4 rfl rfl rfl)) (fun _ h=>h) (Nat.le_refl _) (Nat.le_refl _))))
      exact xSb
     |false=>
      have hk:=fun n m=>ko b ⟨3,true⟩ 4 ab ak ab 1 n m
      simp only[bX] at hk
      repeat (first
       |((first|apply Wp.seqItems|apply Wp.items|((first
         |(refine ao.cF ?_ ?_ (hk _ _) (bV _ ?_) ?_;(· simp only[go_sem,reduceIte,Nat.reduceEqDiff,Nat.reduceAdd,bx]);(· simp only[go_sem,reduceIte,Nat.reduceEqDiff,Nat.reduceAdd,bx,List.map];first|exact ay.refl _|(repeat (first|exact ay.nil|refine ay.cons xA5 ?_)));(· first|rfl|simp only[go_sem,reduceIte,Nat.reduceEqDiff]|simp[upd])));apply ao.eval));(· simp only[go_sem,reduceIte,Nat.reduceEqDiff,Nat.reduceAdd,bx,ax,if_true,if_false,Nat.reduceMul,Nat.reduceLeDiff,cH];exact rfl))
       |(refine ao.nil ⟨?_,?_⟩;(· first|trivial|simp[bg,aS,apart,aV]))
       |(apply Wp.cu;(· simp only[go_sem,reduceIte,Nat.reduceEqDiff,Nat.reduceAdd,bx,ax,if_true,if_false,Nat.reduceMul,Nat.reduceLeDiff,cH];exact rfl);(· rfl))
       |refine Wp.skip ?_
       |refine Wp.label ?_
       |refine Wp.block ?_
       |refine Wp.exit ?_
       |refine Wp.seq ?_)
      refine aK.trans (aK.tok _ _) (aK.trans (aK.tok _ _) (aK.of (bp ?_) (OLe.put (OLe.put (OLe.put (OLe.none _) rfl (dN.refl _)) rfl (dN.refl _)) rfl (ay.cons (av.refl _) (ay.cons (av.lL rfl) (ay.cons (av.lL rfl) (ay.cons (av.refl _) ay.nil))))) af (Nat.le_refl _) (Nat.le_refl _)))
      exact xSb
    ·refine Wp.jE ⟨tm [(0,.sl 1 (ar b) .any),(2,.ptr 0 0),(4,.ptr 1 0),(5,.ptr 2 0)],⟨upd (upd (upd az 0 (some (.cells dg))) 1 (some (bX b (br b).s))) 2 (some (.cells (kV (bM b) (br b) .any .any .any))),3,[],131075⟩⟩ ?_ ?_
     ·refine Wp.block ?_
      refine Wp.loop (β:=Nat × Acc × Nat × Nat × Nat × Nat) (fun j=>⟨tm [(0,.sl 1 (ar b) .any),(2,.ptr 0 0),(4,.ptr 1 0),(5,.ptr 2 0),(6,.int .i64 ((C - j.1:Nat):Int))],⟨upd (upd (upd az 0 (some (.cells dg))) 1 (some (bX b j.2.1.s))) 2 (some (.cells (kV (bM b) j.2.1 (.own j.2.2.1) (.own j.2.2.2.1) (.own j.2.2.2.2.1)))),3,[j.2.2.1,j.2.2.2.1,j.2.2.2.2.1],j.2.2.2.2.2⟩⟩)
       (fun j=>j.1≤C∧Inv (bM b) b j.1 j.2.1∧eV (bM b) b (C - j.1) j.2.1=br b∧j.2.2.1≠j.2.2.2.1∧j.2.2.1≠j.2.2.2.2.1∧j.2.2.2.1≠j.2.2.2.2.1∧j.2.2.1<j.2.2.2.2.2∧j.2.2.2.1<j.2.2.2.2.2∧j.2.2.2.2.1<j.2.2.2.2.2∧j.2.2.2.2.2≤3+2*j.1)
       (fun j=>C - j.1) (0,dI (bM b) b,1,2,0,3) ⟨Nat.zero_le _,hI0,hacc.symm,by simp,by simp,by simp,by simp,by simp,by simp,by simp⟩ (aK.of (bp ?_) (OLe.refl _) af (Nat.le_refl _) (Nat.le_refl _)) ?_
      ·exact xSb
      ·rintro ⟨i,a,tk,tv,td,m⟩ ⟨hi,hI,hL,n1,n2,n3,m1,m2,m3,hm⟩
       simp only at hi hI hL n1 n2 n3 m1 m2 m3 hm
       have hpos:=hI.pos
       have hpos1:=kJ (w:=1) hpos
       have hp:=fun n m=>sR b a.s 1 ab hpos ab 1 n m
       have hp2:=fun n m=>sR b (bI b a.s 1).2 2 ab hpos1 ab 1 n m
       have hk2:=fun n m=>ko b (bI b a.s 1).2 4 ab hpos1 ab 1 n m
       simp only[bX] at hp hp2 hk2
       have lk:=hI.k
       have lv:=hI.v
       have ld:=hI.d
       by_cases hc:i<C∧a.s.ok=true
       ·obtain ⟨hlt,hok⟩:=hc
        have hst:eV (bM b) b (C - (i+1)) (eB (bM b) b a)=br b:=by
         rw[←hL,show C - i=(C - (i+1))+1 by omega,eV,if_pos hok]
        have hI':=hI.step
        have e1:IntKind.i64.wrap (((C - i:Nat):Int) - 1)=((C - (i+1):Nat):Int):=by rw[IntWalk.i64_in _ ab];omega
        have d1:decide ((0:Int)<((C - i:Nat):Int))=true:=decide_eq_true ab
        have r0:(a.keys.length+1)*16≤140737488355328:=by omega
        have r0':a.keys.length+1<4611686018427387904:=by omega
        have v0:(a.vals.length+1)*16≤140737488355328:=by omega
        have v0':a.vals.length+1<4611686018427387904:=by omega
        have d0:(a.kids.length+1)*8≤140737488355328:=by omega
        have d0':a.kids.length+1<4611686018427387904:=by omega
        cases hl:bM b with
        |true=>
         rw[hl] at hst hI'
         rw[hok] at hp
         repeat (first
          |((first|apply Wp.seqItems|apply Wp.items|((first
            |(refine ao.cF ?_ ?_ (hp _ _) (bV _ ?_) ?_;(· simp only[go_sem,reduceIte,Nat.reduceEqDiff,Nat.reduceAdd,bx]);(· simp only[go_sem,reduceIte,Nat.reduceEqDiff,Nat.reduceAdd,bx,List.map];first|exact ay.refl _|(repeat (first|exact ay.nil|refine ay.cons xA5 ?_)));(· first|rfl|simp only[go_sem,reduceIte,Nat.reduceEqDiff]|simp[upd]))
            |(refine ao.cF ?_ ?_ (hp2 _ _) (bV _ ?_) ?_;(· simp only[go_sem,reduceIte,Nat.reduceEqDiff,Nat.reduceAdd,bx]);(· simp only[go_sem,reduceIte,Nat.reduceEqDiff,Nat.reduceAdd,bx,List.map];first|exact ay.refl _|(repeat (first|exact ay.nil|refine ay.cons xA5 ?_)));(· first|rfl|simp only[go_sem,reduceIte,Nat.reduceEqDiff]|simp[upd]))
            |(refine ao.cF ?_ ?_ (hk2 _ _) (bV _ ?_) ?_;(· simp only[go_sem,reduceIte,Nat.reduceEqDiff,Nat.reduceAdd,bx]);(· simp only[go_sem,reduceIte,Nat.reduceEqDiff,Nat.reduceAdd,bx,List.map];first|exact ay.refl _|(repeat (first|exact ay.nil|refine ay.cons xA5 ?_)));(· first|rfl|simp only[go_sem,reduceIte,Nat.reduceEqDiff]|simp[upd])));apply ao.eval));(· simp only[go_sem,reduceIte,Nat.reduceEqDiff,Nat.reduceAdd,bx,ax,if_true,if_false,Nat.reduceMul,Nat.reduceLeDiff,d1,hok,bX,kV,cH,kL,kM,e1,r0,r0',v0,v0',d0,d0',List.mem_cons,dS n1,dS n1.symm,dS n2,dS n2.symm,dS n3,dS n3.symm,dS (Nat.ne_of_gt m2),dS (Nat.ne_of_gt m3),dS (Nat.ne_of_lt m2),dS (Nat.ne_of_lt m3),eq_self];exact rfl))
          |(refine ao.nil ⟨?_,?_⟩;(· first|trivial|simp[bg,aS,apart,aV]))
          |(apply Wp.cu;(· simp only[go_sem,reduceIte,Nat.reduceEqDiff,Nat.reduceAdd,bx,ax,if_true,if_false,Nat.reduceMul,Nat.reduceLeDiff,d1,hok,bX,kV,cH,kL,kM,e1,r0,r0',v0,v0',d0,d0',List.mem_cons,dS n1,dS n1.symm,dS n2,dS n2.symm,dS n3,dS n3.symm,dS (Nat.ne_of_gt m2),dS (Nat.ne_of_gt m3),dS (Nat.ne_of_lt m2),dS (Nat.ne_of_lt m3),eq_self];exact rfl);(· rfl))
          |refine Wp.skip ?_
          |refine Wp.label ?_
          |refine Wp.block ?_
          |refine Wp.exit ?_
          |refine Wp.seq ?_)
         refine ⟨(i+1,eB true b a,m,m+1,td,m+2),⟨by simp only;omega,hI',hst,by simp only;omega,by simp only;omega,by simp only;omega,by simp only;omega,by simp only;omega,by simp only;omega,by simp only;omega⟩,by simp only;omega,?_⟩
         refine aK.of (bp ?_) (OLe.put (OLe.put (OLe.put (OLe.none _) rfl (dN.refl _)) rfl (dN.refl _)) rfl (ay.refl _)) af (Nat.le_refl _) af
         simp only[aY,go_sem,reduceIte,Nat.reduceEqDiff,Nat.reduceAdd,bx,eB];and_intros<;>first|exact trivial|exact av.refl _|exact av.any _|(refine av.int ?_;omega)
        |false=>
         rw[hl] at hst hI'
         rw[hok] at hp
         repeat (first
          |((first|apply Wp.seqItems|apply Wp.items|((first
            |(refine ao.cF ?_ ?_ (hp _ _) (bV _ ?_) ?_;(· simp only[go_sem,reduceIte,Nat.reduceEqDiff,Nat.reduceAdd,bx]);(· simp only[go_sem,reduceIte,Nat.reduceEqDiff,Nat.reduceAdd,bx,List.map];first|exact ay.refl _|(repeat (first|exact ay.nil|refine ay.cons xA5 ?_)));(· first|rfl|simp only[go_sem,reduceIte,Nat.reduceEqDiff]|simp[upd]))
            |(refine ao.cF ?_ ?_ (hp2 _ _) (bV _ ?_) ?_;(· simp only[go_sem,reduceIte,Nat.reduceEqDiff,Nat.reduceAdd,bx]);(· simp only[go_sem,reduceIte,Nat.reduceEqDiff,Nat.reduceAdd,bx,List.map];first|exact ay.refl _|(repeat (first|exact ay.nil|refine ay.cons xA5 ?_)));(· first|rfl|simp only[go_sem,reduceIte,Nat.reduceEqDiff]|simp[upd]))
            |(refine ao.cF ?_ ?_ (hk2 _ _) (bV _ ?_) ?_;(· simp only[go_sem,reduceIte,Nat.reduceEqDiff,Nat.reduceAdd,bx]);(· simp only[go_sem,reduceIte,Nat.reduceEqDiff,Nat.reduceAdd,bx,List.map];first|exact ay.refl _|(repeat (first|exact ay.nil|refine ay.cons xA5 ?_)));(· first|rfl|simp only[go_sem,reduceIte,Nat.reduceEqDiff]|simp[upd])));apply ao.eval));(· simp only[go_sem,reduceIte,Nat.reduceEqDiff,Nat.reduceAdd,bx,ax,if_true,if_false,Nat.reduceMul,Nat.reduceLeDiff,d1,hok,bX,kV,cH,kL,kM,e1,r0,r0',v0,v0',d0,d0',List.mem_cons,dS n1,dS n1.symm,dS n2,dS n2.symm,dS n3,dS n3.symm,dS (Nat.ne_of_gt m2),dS (Nat.ne_of_gt m3),dS (Nat.ne_of_lt m2),dS (Nat.ne_of_lt m3),eq_self];exact rfl))
          |(refine ao.nil ⟨?_,?_⟩;(· first|trivial|simp[bg,aS,apart,aV]))
          |(apply Wp.cu;(· simp only[go_sem,reduceIte,Nat.reduceEqDiff,Nat.reduceAdd,bx,ax,if_true,if_false,Nat.reduceMul,Nat.reduceLeDiff,d1,hok,bX,kV,cH,kL,kM,e1,r0,r0',v0,v0',d0,d0',List.mem_cons,dS n1,dS n1.symm,dS n2,dS n2.symm,dS n3,dS n3.symm,dS (Nat.ne_of_gt m2),dS (Nat.ne_of_gt m3),dS (Nat.ne_of_lt m2),dS (Nat.ne_of_lt m3),eq_self];exact rfl);(· rfl))
          |refine Wp.skip ?_
          |refine Wp.label ?_
          |refine Wp.block ?_
          |refine Wp.exit ?_
          |refine Wp.seq ?_)
         refine ⟨(i+1,eB false b a,m,tv,m+1,m+2),⟨by simp only;omega,hI',hst,by simp only;omega,by simp only;omega,by simp only;omega,by simp only;omega,by simp only;omega,by simp only;omega,by simp only;omega⟩,by simp only;omega,?_⟩
         refine aK.of (bp ?_) (OLe.put (OLe.put (OLe.put (OLe.none _) rfl (dN.refl _)) rfl (dN.refl _)) rfl (ay.refl _)) af (Nat.le_refl _) af
         simp only[aY,go_sem,reduceIte,Nat.reduceEqDiff,Nat.reduceAdd,bx,eB];and_intros<;>first|exact trivial|exact av.refl _|exact av.any _|(refine av.int ?_;omega)
       ·have ha:a=br b:=by
         rw[←hL]
         by_cases hlt:i<C
         ·have hok:a.s.ok=false:=by
           cases h:a.s.ok
           ·rfl
           ·exact absurd ⟨hlt,h⟩ hc
          rw[show C - i=(C - (i+1))+1 by omega,eV,if_neg (by simp[hok])]
         ·rw[show C - i=0 by omega,eV]
        subst ha
        by_cases hlt:i<C
        ·have hok:(br b).s.ok=false:=by
          cases h:(br b).s.ok
          ·rfl
          ·exact absurd ⟨hlt,h⟩ hc
         have d1:decide ((0:Int)<((C - i:Nat):Int))=true:=decide_eq_true ab
         refine an0 (cj3 d1 hok @bX.eq_1) ?_
         refine aK.of (bp ?_) (OLe.put (OLe.put (OLe.put (OLe.none _) rfl (dN.refl _)) rfl (by rw[bX,hok];exact dN.refl _)) rfl (ay.cons (av.refl _) (ay.cons av.cap (ay.cons av.cap (ay.cons av.cap ay.nil))))) af (Nat.le_refl _) ab
         exact xSb
        ·have d1:decide ((0:Int)<((C - i:Nat):Int))=false:=decide_eq_false ab
         refine an0 (cj2 d1 @bX.eq_1) ?_
         refine aK.of (bp ?_) (OLe.put (OLe.put (OLe.put (OLe.none _) rfl (dN.refl _)) rfl (dN.refl _)) rfl (ay.cons (av.refl _) (ay.cons av.cap (ay.cons av.cap (ay.cons av.cap ay.nil))))) af (Nat.le_refl _) ab
         exact xSb
     ·have hn:=xL hb
      have hposE:(br b).s.pos≤b.length:=by
       have:=(Inv.start (bM b) b ab).loop (c:=val ((b.drop 1).take 2))
       exact this.pos
      have hE:∀c1 c2 c3,av (.agg (kV (bM b) (br b) c1 c2 c3)) (aD (cz b)):=fun c1 c2 c3=>av.bD
      unfold kV at hE
      have hpi:= @pP b hb
      have hp:fQ b=((br b).s.ok&&decide (check (cz b)=0)&&decide (bytesOf (cz b)=b)):=by simp[fQ,hb]
      unfold fC lj
      rw[hp]
      clear hacc hI0 hp
      have x1:(0:Int)≤((br b).s.pos:Int):=by omega
      have x2:((br b).s.pos:Int)≤(b.length:Int):=by omega
      have hblank:=pQ (b.drop (br b).s.pos) ak
      cases hok:(br b).s.ok with
      |false=>
       refine an0 (cj5 hok @kV.eq_1 @dg.eq_1 @cH @bX.eq_1) ?_
       refine cI ?_
       exact fin
      |true=>
       have hpi:=hpi hok
       by_cases hc:check (cz b)=0
       ·have d1:decide ((check (cz b):Int)=0)=true:=by rw[hc];rfl
        have hpi:=hpi hc
        cases hbl:(b.drop (br b).s.pos).any (fun c=>decide (c≠0)) with
        |false=>
         rw[hbl] at hblank
         have hbb:bytesOf (cz b)=b:=hpi.2 ⟨ht,by rw[jh,hbl];rfl⟩
         repeat (first
          |((first|apply Wp.seqItems|apply Wp.items|((first
            |(refine ao.bW ?_ ?_ (mE _ hn) ?_;(· simp only[go_sem,reduceIte,Nat.reduceEqDiff,Nat.reduceAdd,bx]);(· simp only[go_sem,reduceIte,Nat.reduceEqDiff,Nat.reduceAdd,bx,List.map];exact ay.cons (hE _ _ _) ay.nil))
            |(refine ao.bW ?_ ?_ (hblank) ?_;(· simp only[go_sem,reduceIte,Nat.reduceEqDiff,Nat.reduceAdd,bx]);(· simp only[go_sem,reduceIte,Nat.reduceEqDiff,Nat.reduceAdd,bx,List.map];first|exact ay.refl _|(repeat (first|exact ay.nil|refine ay.cons xA5 ?_)))));apply ao.eval));(· simp only[go_sem,reduceIte,Nat.reduceEqDiff,Nat.reduceAdd,bx,ax,if_true,if_false,Nat.reduceMul,Nat.reduceLeDiff,hok,d1,x1,x2,kV,dg,cH,bX,gY,gZ,List.take_length];exact rfl))
          |(refine ao.nil ⟨?_,?_⟩;(· first|trivial|simp[bg,aS,apart,aV]))
          |(apply Wp.cu;(· simp only[go_sem,reduceIte,Nat.reduceEqDiff,Nat.reduceAdd,bx,ax,if_true,if_false,Nat.reduceMul,Nat.reduceLeDiff,hok,d1,x1,x2,kV,dg,cH,bX,gY,gZ,List.take_length];exact rfl);(· rfl))
          |refine Wp.skip ?_
          |refine Wp.label ?_
          |refine Wp.block ?_
          |refine Wp.exit ?_
          |refine Wp.seq ?_)
         refine cI ?_
         simp only[hc,hbb,decide_true,Bool.and_self,if_true]
         exact av.tup (ay.cons (hE _ _ _) (ay.cons (av.refl _) ay.nil))
        |true=>
         rw[hbl] at hblank
         have hbb:¬bytesOf (cz b)=b:=fun h=>by
          have:=(hpi.1 h).2
          rw[jh,hbl] at this;cases this
         repeat (first
          |((first|apply Wp.seqItems|apply Wp.items|((first
            |(refine ao.bW ?_ ?_ (mE _ hn) ?_;(· simp only[go_sem,reduceIte,Nat.reduceEqDiff,Nat.reduceAdd,bx]);(· simp only[go_sem,reduceIte,Nat.reduceEqDiff,Nat.reduceAdd,bx,List.map];exact ay.cons (hE _ _ _) ay.nil))
            |(refine ao.bW ?_ ?_ (hblank) ?_;(· simp only[go_sem,reduceIte,Nat.reduceEqDiff,Nat.reduceAdd,bx]);(· simp only[go_sem,reduceIte,Nat.reduceEqDiff,Nat.reduceAdd,bx,List.map];first|exact ay.refl _|(repeat (first|exact ay.nil|refine ay.cons xA5 ?_)))));apply ao.eval));(· simp only[go_sem,reduceIte,Nat.reduceEqDiff,Nat.reduceAdd,bx,ax,if_true,if_false,Nat.reduceMul,Nat.reduceLeDiff,hok,d1,x1,x2,kV,dg,cH,bX,gY,gZ,List.take_length];exact rfl))
          |(refine ao.nil ⟨?_,?_⟩;(· first|trivial|simp[bg,aS,apart,aV]))
          |(apply Wp.cu;(· simp only[go_sem,reduceIte,Nat.reduceEqDiff,Nat.reduceAdd,bx,ax,if_true,if_false,Nat.reduceMul,Nat.reduceLeDiff,hok,d1,x1,x2,kV,dg,cH,bX,gY,gZ,List.take_length];exact rfl);(· rfl))
          |refine Wp.skip ?_
          |refine Wp.label ?_
          |refine Wp.block ?_
          |refine Wp.exit ?_
          |refine Wp.seq ?_)
         refine cI ?_
         simp only[hc,hbb,decide_true,decide_false,Bool.and_false,Bool.false_eq_true,if_false]
         exact fin
       ·have d1:decide ((check (cz b):Int)=0)=false:=decide_eq_false ab
        repeat (first
         |((first|apply Wp.seqItems|apply Wp.items|((first
           |(refine ao.bW ?_ ?_ (mE _ hn) ?_;(· simp only[go_sem,reduceIte,Nat.reduceEqDiff,Nat.reduceAdd,bx]);(· simp only[go_sem,reduceIte,Nat.reduceEqDiff,Nat.reduceAdd,bx,List.map];exact ay.cons (hE _ _ _) ay.nil)));apply ao.eval));(· simp only[go_sem,reduceIte,Nat.reduceEqDiff,Nat.reduceAdd,bx,ax,if_true,if_false,Nat.reduceMul,Nat.reduceLeDiff,hok,d1,kV,dg,cH,bX];exact rfl))
         |(refine ao.nil ⟨?_,?_⟩;(· first|trivial|simp[bg,aS,apart,aV]))
         |(apply Wp.cu;(· simp only[go_sem,reduceIte,Nat.reduceEqDiff,Nat.reduceAdd,bx,ax,if_true,if_false,Nat.reduceMul,Nat.reduceLeDiff,hok,d1,kV,dg,cH,bX];exact rfl);(· rfl))
         |refine Wp.skip ?_
         |refine Wp.label ?_
         |refine Wp.block ?_
         |refine Wp.exit ?_
         |refine Wp.seq ?_)
        refine cI ?_
        simp only[hc,decide_false,Bool.and_false,Bool.false_and,Bool.false_eq_true,if_false]
        exact fin
  ·have hcond:(!bM b&& !decide (b.getD 0 0=73))=true:=by
    unfold pO at ht;unfold bM
    cases h1:decide (b.getD 0 0=76)<;>cases h2:decide (b.getD 0 0=73)<;>simp_all
   have hl:bM b=false:=by cases h:bM b<;>simp_all
   have h73:decide (b.getD 0 0=73)=false:=by simpa [hl] using hcond
   have hp:fQ b=false:=by
    cases h:fQ b
    ·rfl
    ·exfalso
     simp only[fQ,Bool.and_eq_true,decide_eq_true_eq] at h
     exact ht ((pP hb h.1.1.2 h.1.2).1 h.2).1
   refine an0 (sE d0 x0 y0 z0 b0 @byte.eq_1 @kK @mL hl h73 @cH) ?_
   refine cI ?_
   simp only[fC,lj,hp,Bool.false_eq_true,if_false]
   exact fin
 ·have d0:decide ((b.length:Int)=1024)=false:=decide_eq_false ab
  have hp:fQ b=false:=by simp[fQ,hb]
  refine an0 (cj2 d0 @cH) ?_
  refine cI ?_
  simp only[fC,lj,hp,Bool.false_eq_true,if_false]
  exact fin
theorem BV:∀(w v:Nat),v<256^w→val (be w v)=v
 |0,v,h=>by simp at h;subst h;rfl
 |w+1,v,h=>by
  have hp:0<256^w:=Nat.pow_pos ab
  have e:be w v=be w (v%256^w):=by
   conv=>lhs;rw[←Nat.div_add_mod v (256^w),Nat.mul_comm]
   exact wj w _ _
  rw[be,uu,bY,e,BV w _ (Nat.mod_lt _ hp)]
  have hq:v/256^w<256:=by
   rw[Nat.div_lt_iff_lt_mul hp]
   rw[Nat.pow_succ,Nat.mul_comm] at h
   exact h
  generalize hQ:v/256^w=Q at*
  have:(UInt8.ofNat Q).toNat=Q:=by simp only[UInt8.toNat_ofNat'];omega
  rw[this,Nat.mul_comm,←hQ]
  exact Nat.div_add_mod v (256^w)
theorem oQ {b P R:List UInt8} {w v:Nat} (hb:b=P++(be w v++R)) (hv:v<256^w):dv b ⟨P.length,true⟩ w=(v,⟨P.length+w,true⟩):=by
 have hl:b.length=P.length+(w+R.length):=by rw[hb];simp[bY]
 have e:(b.drop P.length).take w=be w v:=by
  rw[hb,List.drop_left]
  rw[List.take_append_of_le_length (by rw[bY];exact Nat.le_refl _)]
  exact List.take_of_length_le (by rw[bY];exact Nat.le_refl _)
 rw[dv,if_pos ak]
 simp only[e,BV w v hv]
theorem nB {b P R s:List UInt8} {w:Nat} (hb:b=P++(be w s.length++(s++R))) (hv:s.length<256^w):bI b ⟨P.length,true⟩ w=(s,⟨P.length+w+s.length,true⟩):=by
 have hn:=oQ hb hv
 have hl:b.length=P.length+(w+(s.length+R.length)):=by rw[hb];simp[bY]
 unfold bI
 rw[hn]
 simp only
 rw[if_pos ak]
 have e:(b.drop (P.length+w)).take s.length=s:=by
  have:b=(P++be w s.length)++(s++R):=by rw[hb];simp
  rw[this]
  have hl2:P.length+w=(P++be w s.length).length:=by simp[bY]
  rw[hl2,List.drop_left,List.take_left]
 rw[e]
theorem uv (n:Node) (i:Nat):∀d,∃S,rows n (i+d)=rows n i++S
 |0=>⟨[],by simp⟩
 |d+1=>by
  obtain ⟨S,h⟩:=uv n i d
  exact ⟨S++row n (i+d),by rw[←Nat.add_assoc,rows,h,List.append_assoc]⟩
def ji (n:Node) (i:Nat):Acc:=⟨n.keys.take i,if n.leaf then n.vals.take i else [],if n.leaf then [] else n.kids.take (i+1),⟨(head n++rows n i).length,true⟩⟩
theorem DR {n:Node} {b Z:List UInt8} (hr:right n=true) (hb:b=text n++Z) {i:Nat} (hi:i<n.keys.length):eB n.leaf b (ji n i)=ji n (i+1):=by
 have hR:=fu hr
 obtain ⟨S,hS⟩:=uv n (i+1) (n.keys.length - (i+1))
 rw[show i+1+(n.keys.length - (i+1))=n.keys.length by omega,rows] at hS
 have hk:=hR.keys i hi
 have hkl:(n.keys.getD i []).length<256^1:=by omega
 cases hl:n.leaf with
 |true=>
  have hv:=hR.val hl i hi
  have hvl:(n.vals.getD i []).length<256^2:=by omega
  have hvi:i<n.vals.length:=by rw[hR.vals hl];exact hi
  have e1:b=(head n++rows n i)++(be 1 (n.keys.getD i []).length++(n.keys.getD i []++((be 2 (n.vals.getD i []).length++n.vals.getD i [])++S++Z))):=by
   rw[hb,text,hS,row,hl];simp only[if_true,List.append_assoc]
  have p1:=nB e1 hkl
  have e2:b=((head n++rows n i)++be 1 (n.keys.getD i []).length++n.keys.getD i [])++(be 2 (n.vals.getD i []).length++(n.vals.getD i []++(S++Z))):=by
   rw[e1];simp only[List.append_assoc]
  have p2:=nB e2 hvl
  have hlen:((head n++rows n i)++be 1 (n.keys.getD i []).length++n.keys.getD i []).length=(head n++rows n i).length+1+(n.keys.getD i []).length:=by simp only[List.length_append,bY]
  rw[hlen] at p2
  simp only[eB,ji,hl,if_true,p1,p2]
  rw[List.take_succ_eq_append_getElem hi,List.take_succ_eq_append_getElem hvi,bA hi,bA hvi]
  congr 2
  rw[rows,row,hl]
  simp only[if_true,List.length_append,bY,bA hi,bA hvi]
  omega
 |false=>
  have hv:=hR.kid hl (i+1) ab
  have hvl:(n.kids.getD (i+1) 0).toNat<256^4:=by omega
  have hvi:i+1<n.kids.length:=by rw[hR.kids hl];omega
  have e1:b=(head n++rows n i)++(be 1 (n.keys.getD i []).length++(n.keys.getD i []++(be 4 (n.kids.getD (i+1) 0).toNat++S++Z))):=by
   rw[hb,text,hS,row,hl];simp only[Bool.false_eq_true,if_false,List.append_assoc]
  have p1:=nB e1 hkl
  have e2:b=((head n++rows n i)++be 1 (n.keys.getD i []).length++n.keys.getD i [])++(be 4 (n.kids.getD (i+1) 0).toNat++(S++Z)):=by
   rw[e1];simp only[List.append_assoc]
  have p2:=oQ e2 hvl
  have hlen:((head n++rows n i)++be 1 (n.keys.getD i []).length++n.keys.getD i []).length=(head n++rows n i).length+1+(n.keys.getD i []).length:=by simp only[List.length_append,bY]
  rw[hlen] at p2
  simp only[eB,ji,hl,Bool.false_eq_true,if_false,p1,p2]
  rw[List.take_succ_eq_append_getElem hi,List.take_succ_eq_append_getElem hvi,bA hi,bA hvi]
  have hc:((n.kids[i+1].toNat:Nat):Int)=n.kids[i+1]:=by rw[bA hvi] at hv;omega
  rw[hc]
  congr 2
  rw[rows,row,hl]
  simp only[Bool.false_eq_true,if_false,List.length_append,bY,bA hi]
  omega
theorem xM {n:Node} {b Z:List UInt8} (hr:right n=true) (hb:b=text n++Z):∀(c i:Nat),i+c≤n.keys.length→eV n.leaf b c (ji n i)=ji n (i+c)
 |0,i,_=>rfl
 |c+1,i,h=>by
  rw[eV,if_pos (show (ji n i).s.ok=true from rfl),DR hr hb ab,xM hr hb c (i+1) ab,Nat.add_assoc,Nat.add_comm 1 c]
theorem DS {n:Node} {b Z:List UInt8} (hr:right n=true) (hs:size n≤1024) (hb:b=text n++Z):cz b=n∧(br b).s.ok=true:=by
 have hR:=fu hr
 have hkl:n.keys.length<256^2:=by unfold size at hs;split at hs<;>omega
 have hlf:bM b=n.leaf:=by
  unfold bM
  rw[hb,text,head]
  cases n.leaf<;>rfl
 have e1:b=[b.getD 0 0]++(be 2 n.keys.length++((if n.leaf then [] else be 4 (n.kids.getD 0 0).toNat)++rows n n.keys.length++Z)):=by
  have:b=(if n.leaf then [76] else [73])++(be 2 n.keys.length++((if n.leaf then [] else be 4 (n.kids.getD 0 0).toNat)++rows n n.keys.length++Z)):=by
   rw[hb,text,head];simp only[List.append_assoc]
  rw[this]
  cases n.leaf<;>rfl
 have hcount:val ((b.drop 1).take 2)=n.keys.length:=by
  have:=oQ e1 hkl
  rw[dv,if_pos (by rw[e1];simp[bY])] at this
  exact (Prod.mk.inj this).1
 have hstart:dI n.leaf b=ji n 0:=by
  cases hl:n.leaf with
  |true=>
   simp only[dI,ji,hl,if_true,rows,List.append_nil,iF,List.take_zero]
  |false=>
   have hv:=hR.kid hl 0 ab
   have hvl:(n.kids.getD 0 0).toNat<256^4:=by omega
   have hvi:0<n.kids.length:=by rw[hR.kids hl];omega
   have e2:b=([b.getD 0 0]++be 2 n.keys.length)++(be 4 (n.kids.getD 0 0).toNat++(rows n n.keys.length++Z)):=by
    conv=>lhs;rw[e1]
    rw[hl];simp only[Bool.false_eq_true,if_false,List.append_assoc]
   have p:=oQ e2 hvl
   have h3:([b.getD 0 0]++be 2 n.keys.length).length=3:=by simp[bY]
   rw[h3] at p
   simp only[dI,ji,hl,Bool.false_eq_true,if_false,p,rows,List.append_nil,iF,List.take_zero]
   rw[List.take_succ_eq_append_getElem hvi,bA hvi]
   have hc:((n.kids[0].toNat:Nat):Int)=n.kids[0]:=by rw[bA hvi] at hv;omega
   rw[hc]
   rfl
 have hacc:br b=ji n n.keys.length:=by
  unfold br
  rw[hlf,hcount,hstart,xM hr hb _ _ ab,Nat.zero_add]
 refine ⟨?_,by rw[hacc];rfl⟩
 unfold cz
 rw[hacc,hlf]
 cases hl:n.leaf with
 |true=>
  obtain ⟨-,r2,r3,-⟩:=(bq hl).1 hr
  simp only[ji,hl,if_true,List.take_length]
  rw[←r2,List.take_length]
  cases n;simp only at hl r3 ⊢;subst hl r3;rfl
 |false=>
  obtain ⟨-,r2,r3,-⟩:=(cM hl).1 hr
  simp only[ji,hl,Bool.false_eq_true,if_false,List.take_length]
  rw[←r3,List.take_length]
  cases n;simp only at hl r2 ⊢;subst hl r2;rfl
theorem fD {n:Node} (hc:check n=0):(bytesOf n).length=1024:=by
 obtain ⟨hr,hs⟩:=gV hc
 have:=kj n (fu hr).vals
 simp only[bytesOf,List.length_append,List.length_replicate]
 omega
theorem zT {n:Node} (hc:check n=0):fQ (bytesOf n)=true∧cz (bytesOf n)=n:=by
 obtain ⟨hr,hs⟩:=gV hc
 obtain ⟨h1,h2⟩:=DS (b:=bytesOf n) (Z:=List.replicate (1024 - size n) 0) hr hs rfl
 refine ⟨?_,h1⟩
 unfold fQ
 rw[h1,h2,fD hc,hc]
 simp
end Go.Proofs.YtbgmofhgfnmaiaaGreat.Page
end
section
namespace Go.Av
open Classical in
section
variable {P:Program} {N:Nat} {G:aM} {w:World} {h:H}
theorem aZ.EG {f:FuncId} {q args:List AV} {r:AV} (hc:aZ P f args r) (hs:ay (gR h (fun _=>true) q) args) (hr:∀G G' w v,aw G w r v→aw G' w r v):aJ P f q h r h:=by
 intro G w vs hv R F
 have hv':aA (G.frz h fun _=>true) w args vs:=hs _ _ _ (gS R _ q vs hv)
 refine (hc 0 0 _ w vs hv' gM ⟨fun j h1 h2=>by simp only[H0,H.only] at h1 h2;omega,fun j h1 h2=>by simp only[H0,H.only] at h1 h2;omega⟩).mono ?_
 rintro e w' ⟨v,G',rfl,T,R',V⟩
 have hDO:∀B,¬h.O G B→¬h.DO G (fun _=>true) B:=fun B h1 h2=>h1 (Dz h2)
 have hT:∀{G:aM} B,¬(H0 0 0).T G B:=fun B ⟨t,ht,_⟩=>by simp[H0,H.only] at ht
 let G3:aM:={own:=fun B=>h.O G B∨G'.own B,lim:=fun B=>if h.O G B then G.lim B else G'.lim B,dom:=G.dom,ι:=G.ι,tdom:=G.tdom,τ:=G.τ}
 have hkeep:∀B,B<w.heap.size→w'.heap[B]? =w.heap[B]? :=fun B hB=>T.keep B hB (eX B) (hT B)
 have hown:∀B,B<w.heap.size→¬h.O G B→(G'.own B↔G.own B):=fun B hB h1=>by
  have e1:=T.own_keep B hB (eX B)
  simp only[e1,aM.frz,hDO B h1,not_false_eq_true,and_true]
 have hlim:∀B,B<w.heap.size→¬h.O G B→G'.lim B=G.lim B:=fun B hB h1=>by
  have e1:=T.lim_keep B hB (eX B) (hT B)
  simp only[e1,aM.frz,hDO B h1,if_false]
 have T3:Trans G w h G3 w' h:=by
  constructor
  ·exact fun _ x=>x
  ·exact fun _=> .inl
  ·exact fun _ _=>rfl
  ·exact fun _ x=>x
  ·exact fun _=> .inl
  ·exact fun _ _=>rfl
  ·exact Nat.le_refl _
  ·exact Nat.le_refl _
  ·exact T.size_le
  ·exact T.os
  ·exact T.output
  ·exact T.form
  ·exact fun B hB _ _=>hkeep B hB
  ·intro B hB h1
   simp only[G3,h1,false_or]
   exact hown B hB h1
  ·intro B hB h1 _
   simp only[G3,h1,if_false]
   exact hlim B hB h1
  ·intro B hB h1 h2 e he
   refine ⟨fun j _=>?_,fun e' he'=>?_⟩
   ·have:=hkeep B hB
    unfold World.cell?
    simp only[this]
   ·simp only[G3,h2,if_false,hlim B hB h2] at he'
    rw[he] at he';cases he';exact Nat.le_refl _
  ·exact fun B _ x=>x
  ·exact fun B _ x=>x
  ·exact fun j o x=> .inl ⟨o,x⟩
  ·exact fun t x=> .inl x
 refine ⟨v,G3,rfl,T3,⟨fun j o hj=>?_,fun i j o o' a b e=>R.inj _ _ _ _ a b e,fun t ht=>?_,R.tinj⟩,hr G' G3 w' v V⟩
 ·obtain ⟨p1,p2,p3,p4⟩:=R.obj j o hj
  refine ⟨p1,.inl ⟨j,o,hj,rfl⟩,Nat.lt_of_lt_of_le p3 T.size_le,?_⟩
  show iS G3 w' o w'.heap[G.ι j]?
  rw[hkeep _ p3]
  exact p4.mono R T3
 ·refine ⟨(R.tok t ht).1,fun B e he=>?_⟩
  obtain ⟨b1,b2,b3⟩:=(R.tok t ht).2 B e he
  have hO:¬h.O G B:=fun ⟨j,o,x1,x2⟩=>b2 (by rw[←x2];exact (R.obj j o x1).2.1)
  refine ⟨?_,?_,Nat.lt_of_lt_of_le b3 T.size_le⟩
  ·simp only[G3,hO,if_false];rw[hlim B b3 hO];exact b1
  ·simp only[G3,hO,false_or];exact fun x=>b2 ((hown B b3 hO).1 x)
theorem Wp.ex {β:Type} {x:AC} {s0:St} (sb:β→St) (I:β→Prop) {K:St→Prop} {Q:aQ→St→Prop} (h1:Wp P N x s0 (aQ.andThen (fun s'=>∃b,I b∧aK s' (sb b)) Q)) (h2:∀b s',I b→aK s' (sb b)→K s'):Wp P N x s0 (aQ.andThen K Q):=
 h1.mono fun e s' q=>by
  cases e with
  |normal=>obtain ⟨b,q1,q2⟩:=q;exact h2 b s' q1 q2
  |_=>exact q
end
end Go.Av
end
section
open Go Go.Lib Go.RowKit
namespace Go.Proofs.YtbgmofhgfnmaiaaGreat.Page
def cU:Go.Shelf.Ren:=⟨fun|22=>88|29=>120|30=>121|36=>149|17=>161|n=>n,fun|24=>83|9=>9|3=>3|4=>4|0=>0|n=>n,fun|n=>n⟩
theorem pR:Lays2.n22 Tryz.prog cU where
 mixed:=by kernel_rfl
 f17:=Tryz.func161.trans (congrArg some (by kernel_rfl))
 f22:=Tryz.func88.trans (congrArg some (by kernel_rfl))
 f29:=Tryz.func120.trans (congrArg some (by kernel_rfl))
 f30:=Tryz.func121.trans (congrArg some (by kernel_rfl))
 f36:=Tryz.func149.trans (congrArg some (by kernel_rfl))
 t0:=Tryz.underlying0
 a0:=Tryz.isAgg0
 z0:=Tryz.sizeOf0
 v0:=Tryz.zeroValue0
 t3:=Tryz.underlying3
 a3:=Tryz.isAgg3
 z3:=Tryz.sizeOf3
 v3:=Tryz.zeroValue3
 t4:=Tryz.underlying4
 a4:=Tryz.isAgg4
 z4:=Tryz.sizeOf4
 v4:=Tryz.zeroValue4
 t9:=Tryz.underlying9
 a9:=Tryz.isAgg9
 z9:=Tryz.sizeOf9
 v9:=Tryz.zeroValue9
 t24:=Tryz.underlying83
 a24:=Tryz.isAgg83
 z24:=Tryz.sizeOf83
 v24:=Tryz.zeroValue83
 i9:=by kernel_rfl
def wq:Go.Shelf.Ren:=⟨fun|24=>80|n=>n,fun|24=>83|9=>9|3=>3|4=>4|0=>0|n=>n,fun|n=>n⟩
theorem Ff:Lays2.n24 Tryz.prog wq where
 mixed:=by kernel_rfl
 f24:=Tryz.func80.trans (congrArg some (by kernel_rfl))
 t0:=Tryz.underlying0
 a0:=Tryz.isAgg0
 z0:=Tryz.sizeOf0
 v0:=Tryz.zeroValue0
 t3:=Tryz.underlying3
 a3:=Tryz.isAgg3
 z3:=Tryz.sizeOf3
 v3:=Tryz.zeroValue3
 t4:=Tryz.underlying4
 a4:=Tryz.isAgg4
 z4:=Tryz.sizeOf4
 v4:=Tryz.zeroValue4
 t9:=Tryz.underlying9
 a9:=Tryz.isAgg9
 z9:=Tryz.sizeOf9
 v9:=Tryz.zeroValue9
 t24:=Tryz.underlying83
 a24:=Tryz.isAgg83
 z24:=Tryz.sizeOf83
 v24:=Tryz.zeroValue83
 i9:=by kernel_rfl
end Go.Proofs.YtbgmofhgfnmaiaaGreat.Page
end
section
open Go Go.Lib Go.RowKit
namespace Go.Proofs.YtbgmofhgfnmaiaaGreat.Page
def fp:Go.Shelf.Ren:=⟨fun|21=>89|27=>122|28=>123|35=>150|39=>162|n=>n,fun|22=>61|3=>3|4=>4|0=>0|n=>n,fun|n=>n⟩
theorem sT:Lays2.n21 Tryz.prog fp where
 mixed:=by kernel_rfl
 f21:=Tryz.func89.trans (congrArg some (by kernel_rfl))
 f27:=Tryz.func122.trans (congrArg some (by kernel_rfl))
 f28:=Tryz.func123.trans (congrArg some (by kernel_rfl))
 f35:=Tryz.func150.trans (congrArg some (by kernel_rfl))
 f39:=Tryz.func162.trans (congrArg some (by kernel_rfl))
 t0:=Tryz.underlying0
 a0:=Tryz.isAgg0
 z0:=Tryz.sizeOf0
 v0:=Tryz.zeroValue0
 t3:=Tryz.underlying3
 a3:=Tryz.isAgg3
 z3:=Tryz.sizeOf3
 v3:=Tryz.zeroValue3
 t4:=Tryz.underlying4
 a4:=Tryz.isAgg4
 z4:=Tryz.sizeOf4
 v4:=Tryz.zeroValue4
 t22:=Tryz.underlying61
 a22:=Tryz.isAgg61
 z22:=Tryz.sizeOf61
 v22:=Tryz.zeroValue61
 i3:=by kernel_rfl
def wv:Go.Shelf.Ren:=⟨fun|23=>79|n=>n,fun|22=>61|3=>3|4=>4|0=>0|n=>n,fun|n=>n⟩
theorem Fg:Lays2.n23 Tryz.prog wv where
 mixed:=by kernel_rfl
 f23:=Tryz.func79.trans (congrArg some (by kernel_rfl))
 t0:=Tryz.underlying0
 a0:=Tryz.isAgg0
 z0:=Tryz.sizeOf0
 v0:=Tryz.zeroValue0
 t3:=Tryz.underlying3
 a3:=Tryz.isAgg3
 z3:=Tryz.sizeOf3
 v3:=Tryz.zeroValue3
 t4:=Tryz.underlying4
 a4:=Tryz.isAgg4
 z4:=Tryz.sizeOf4
 v4:=Tryz.zeroValue4
 t22:=Tryz.underlying61
 a22:=Tryz.isAgg61
 z22:=Tryz.sizeOf61
 v22:=Tryz.zeroValue61
 i3:=by kernel_rfl
end Go.Proofs.YtbgmofhgfnmaiaaGreat.Page
end
