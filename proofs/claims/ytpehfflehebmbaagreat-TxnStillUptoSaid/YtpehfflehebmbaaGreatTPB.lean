/- Parts of a proof: a layer of abstract values over the model, the functions' walks, plain laws. -/
import Derived.Deep.CondSized
import Derived.IntWalk
import Derived.KernelRfl
import Derived.Laws.Append
import Derived.Laws.AppendOwn
import Derived.Laws.BytesArg
import Derived.Laws.Cover3
import Derived.Laws.Entries
import Derived.Laws.IdiomCopy
import Derived.Laws.IdiomStrings
import Derived.Laws.Pointers
import Derived.Laws.Small
import Derived.Laws.Strings
import Derived.Laws.StructEq
import Derived.MapKept
import Derived.OpenShut
import Derived.Orders
import Derived.OrdersIn
import Derived.ProofKit
import Derived.RangeFuncRecord
import Derived.RangeFuncSeq
import Derived.ReadAgain
import Derived.Scope
import Derived.Shelf.Slices.Cells
import Derived.Shelf.Slices.Delete
import Derived.Shelf.Spec.SlicesInsertGrow
import Derived.SizedLaws
import Derived.Test.YtpehfflehebmbaaGreatRows
import Derived.Test.YtpehfflehebmbaaGreatTPA
set_option linter.unusedSimpArgs false
set_option linter.unusedVariables false
section
namespace Go.Av
structure aO where
 dst:Option Nat
 guard:Option (Nat × Bool)
 op:AOp
inductive AC where
 |skip
 |reg (items:List aO) (pairs:Option (List (Nat × Nat)))
 |seq (a b:AC)
 |cond (c:Opd) (a b:AC)
 |block (id:Nat) (a:AC)
 |loop (a:AC)
 |exit (id:Nat)
 |ret
 |scope (a:AC)
 |label (l:Nat)
 |goto (l:Nat)
 |oE (g:Opd) (ps:List Nat) (asg body:AC)
def cE:AOp→List Opd
 | .mov x| .box x| .eqN _ x| .un _ x| .conv _ x| .load _ x| .faddr _ x| .fld _ _ x| .ext x _| .nilck x| .len _ x| .clr _ _ x| .mlen x| .eqM _ x| .cap x| .ifc _ x| .pan x=>[x]
 | .pick a b c| .fP a b c=>[a,b,c]
 | .alloc _| .mkmap| .dead=>[]
 | .build _ parts=>parts.map fun p=>p.2.2
 | .buildSl _ parts=>parts
 | .store _ x y| .bin _ x y| .eqB _ x y| .eqA _ _ x y| .mm _ x y| .mlook _ _ x y| .hX x y| .eqP _ x y| .eqQ _ x y| .iaddr _ x y| .idx x y| .mksl _ _ _ x y| .app _ _ _ x y| .appz _ _ _ x y=>[x,y]
 | .mkfn _ a b=>a++b
 | .slc _ _ x a b c=>x::(a.toList++b.toList++c.toList)
 | .call _ l=>l
 | .callv x l=>x::l
def tmpsOf (l:List Opd):List Nat:=l.filterMap fun| .t i=>some i|_=>none
def pY (ops:Array Oper):Option (Nat × Bool)→Option (Option (Nat × Bool))
 |none=>some none
 |some (j,w)=>match (ops[j]?).bind (·.dst) with
  |some d=>some (some (d,w))
  |none=>none
def Bn (P:Program) (o:Oper):Option AOp:=some ((cOp P o).getD .dead)
theorem iE {P:Program} {o:Oper} {op:AOp} (h:Bn P o=some op) (hn:op≠ .dead):cOp P o=some op:=by
 simp only[Bn,Option.some.injEq] at h
 cases hc:cOp P o with
 |none=>rw[hc] at h;exact absurd h.symm hn
 |some q=>rw[hc] at h;simp at h;rw[h]
def dn (P:Program) (N:Nat) (ops:Array Oper) (o:Oper):Option aO:=
 match Bn P o,pY ops o.guard with
 |some op,some g=>if o.dst.all (fun d=>decide (d<N))&&(tmpsOf (cE op)).all (fun i=>(names ops o).contains i) then some ⟨o.dst,g,op⟩ else none
 |_,_=>none
def fj (P:Program) (N:Nat) (ops:Array Oper):List Oper→Option (List aO)
 |[]=>some []
 |o::l=>match dn P N ops o,fj P N ops l with
  |some a,some r=>some (a::r)
  |_,_=>none
def eW:AOp→Bool
 | .alloc _| .box _| .load _ _| .store _ _ _| .conv .s2b _| .conv .s2s _| .mksl _ _ _ _ _| .app _ _ _ _ _| .appz _ _ _ _ _| .clr _ _ _| .mkmap| .mlook _ _ _ _| .fP _ _ _| .hX _ _| .mlen _| .eqQ _ _ _| .buildSl _ _| .call _ _| .callv _ _=>true
 |_=>false
def tidy (ops:Array Oper):Bool:=
 let b:=Region.before ops
 let l:=ops.toList.zipIdx
 (l.all fun (o,i)=>o.after.all fun e=> !Region.binds .any e||decide (e.on<i))&&
 l.all fun (o,i)=>match o.dst with
  |none=>true
  |some d=>l.all fun (o',j)=>i == j|| !(names ops o').contains d||(b.getD j 0).testBit i||(b.getD i 0).testBit j
def pZ (ops:Array Oper) (items:List aO):List (Nat × Nat):=
 let b:=Region.before ops
 (List.range ops.size).flatMap fun j=>(List.range j).filterMap fun i=>
  if (match items[i]?,items[j]? with|some x,some y=>eW x.op&&eW y.op|_,_=>false)&& !(b.getD j 0).testBit i then some (i,j) else none
def fl:Code→Bool
 | .rangeFunc _ _ _ _=>false
 | .seq a b=>fl a&&fl b
 | .cond _ a b=>fl a&&fl b
 | .block _ a=>fl a
 | .loop a=>fl a
 | .scope a=>fl a
 |_=>true
def okR (c:Code) (ro:Option Nat):Prop:=ro=none∨fl c=true
def cCode (P:Program) (N:Nat):Code→Option AC
 | .skip=>some .skip
 | .region _ ops draw=>match fj P N ops ops.toList with
  |some items=>if draw then (if P.follows .mixedOrders&&tidy ops then some (.reg items (some (pZ ops items))) else none) else some (.reg items none)
  |none=>none
 | .seq a b=>match cCode P N a,cCode P N b with
  |some x,some y=>some (.seq x y)
  |_,_=>none
 | .cond c a b=>match opd P 0 c,cCode P N a,cCode P N b with
  |some c,some x,some y=>some (.cond c x y)
  |_,_,_=>none
 | .block id a=>(cCode P N a).map (.block id)
 | .loop a=>(cCode P N a).map .loop
 | .exit id=>some (.exit id)
 | .ret=>some .ret
 | .scope a=>(cCode P N a).map .scope
 | .label l=>some (.label l)
 | .goto l=>some (.goto l)
 | .rangeFunc g ps asg body=>match opd P 0 g,cCode P N asg,cCode P N body with
  |some g,some x,some y=>if fl asg&&fl body then some (.oE g ps.toList x y) else none
  |_,_,_=>none
 | .refuse _=>none
def ab (x y:AV):Prop:=∀G w v,ah G w x v→ah G w y v
theorem ab.refl (x:AV):ab x x:=fun _ _ _ h=>h
theorem ab.trans {x y z:AV} (a:ab x y) (b:ab y z):ab x z:=fun G w v h=>b G w v (a G w v h)
theorem ab.any (x:AV):ab x .any:=fun _ _ _ _=>by simp[ah]
def af (l m:List AV):Prop:=∀G w vs,aq G w l vs→aq G w m vs
theorem af.refl (l:List AV):af l l:=fun _ _ _ h=>h
theorem af.nil:af [] []:=af.refl _
theorem af.cons {x y:AV} {l m:List AV} (a:ab x y) (b:af l m):af (x::l) (y::m):=by
 intro G w vs h
 simp only[aq] at h ⊢
 obtain ⟨v,us,e,h1,h2⟩:=h
 exact ⟨v,us,e,a G w v h1,b G w us h2⟩
theorem ab.cap {sz:Nat} {xs:List AV} {c:Cap}:ab (.sl sz xs c) (.sl sz xs .any):=by
 intro G w v h
 simp only[ah] at h ⊢
 rcases h with ⟨a,b,_⟩|⟨B,off,C,vs,h1,h2,h3,h4,h5,h6⟩
 ·exact .inl ⟨a,b,by simp[fO]⟩
 ·exact .inr ⟨B,off,C,vs,h1,h2,h3,h4,h5,by simp[cC]⟩
theorem ab.nil {sz sz':Nat} {c:Cap}:ab (.sl sz [] c) (.sl sz' [] .any):=by
 intro G w v h
 simp only[ah] at h ⊢
 rcases h with ⟨a,b,_⟩|⟨B,off,C,vs,h1,h2,h3,h4,h5,h6⟩
 ·exact .inl ⟨a,b,by simp[fO]⟩
 ·have hv:vs=[]:=by simpa using h3
  subst hv
  exact .inr ⟨B,off,C,[],h1,h2,by simp,by simp[aB],Imm.nil,by simp[cC]⟩
theorem ab.agg {l m:List AV} (a:af l m):ab (.agg l) (.agg m):=by
 intro G w v h
 simp only[ah] at h ⊢
 obtain ⟨vs,e,h⟩:=h
 exact ⟨vs,e,a G w vs h⟩
theorem ab.tup {l m:List AV} (a:af l m):ab (.tup l) (.tup m):=by
 intro G w v h
 simp only[ah] at h ⊢
 obtain ⟨vs,e,h⟩:=h
 exact ⟨vs,e,a G w vs h⟩
section
variable {P:Program}
def bn (P:Program) (f:FuncId) (args:List AV) (h:H) (r:AV) (h':H):Prop:=
 ∀G w vs,aq G w args vs→bf G h w→dc G h h'→Calls P f vs.toArray w fun e w'=>∃v G',e= .returned v∧Trans G w h G' w' h'∧bf G' h' w'∧ah G' w' r v
def H0 (n m:Nat):H:= .only ag [] n m
def aA (P:Program) (f:FuncId) (args:List AV) (r:AV):Prop:=∀n m,bn P f args (H0 n m) r (H0 n m)
structure St where
 t:Tm
 h:H
inductive aP where
 |normal
 |exit (id:Nat)
 |goto (l:Nat)
 |ret
 |panic (v:Value)
def aP.ey:aP→Exit→Prop
 | .normal,.normal=>True
 | .exit i,.exit j=>i=j
 | .goto i,.goto j=>i=j
 | .ret,.ret=>True
 | .panic v,.panic l=>l=[{v:=v,recovered:=false}]
 |_,_=>False
def Marks (G:aI) (w:World) (h:H) (l:List Deferred):Prop:=l.Nodup∧∀d∈l,∃D,d= {target:= .collected D,args:= #[]}∧w.heap[D]? =some (.deferred (some []))∧¬h.O G D∧¬h.T G D
theorem uf {w:World} {B:Nat} {o:Go.Obj} (h:w.heap[B]? =some o):B<w.heap.size:=by
 rcases Nat.lt_or_ge B w.heap.size with hb|hb
 ·exact hb
 ·have:w.heap[B]? =none:=by simp;omega
  rw[this] at h;cases h
theorem Marks.mono {G G':aI} {w w':World} {h h':H} {l:List Deferred} (m:Marks G w h l) (T:Trans G w h G' w' h'):Marks G' w' h' l:=by
 refine ⟨m.1,fun d hd=>?_⟩
 obtain ⟨D,e,h1,h2,h3⟩:=m.2 d hd
 have hB:=uf h1
 exact ⟨D,e,(T.keep D hB h2 h3).trans h1,fun x=>h2 (T.O_new D hB x),fun x=>h3 (T.T_new D hB x)⟩
structure Rel (N:Nat) (s:St) (G:aI) (w:World) (a:Act):Prop where
 size:a.tmps.size=N
 t:cD G w s.t a
 h:bf G s.h w
 df:Marks G w s.h a.defers
def kM (w:World) (l l':List Deferred):Prop:=∀d∈l',d∈l∨∃D,w.heap.size≤D∧d= {target:= .collected D,args:= #[]}
theorem kM.refl {w:World} {l:List Deferred}:kM w l l:=fun d h=> .inl h
theorem kM.trans {w w':World} {l l' l'':List Deferred} (a:kM w l l') (hs:w.heap.size≤w'.heap.size) (b:kM w' l' l''):kM w l l'':=by
 intro d h
 rcases b d h with h|⟨D,h1,h2⟩
 ·exact a d h
 ·exact .inr ⟨D,by omega,h2⟩
def Run (P:Program) (N:Nat) (c:Code) (s:St) (e:aP) (s':St):Prop:=
 (s.h.n≤s'.h.n∧s.h.m≤s'.h.m)∧∀ro,okR c ro→∀G w a,Rel N s G w a→dc G s.h s'.h→c.wpIn (rd ro) 0 P (fun e' a' w'=>e.ey e'∧kM w a.defers a'.defers∧∃G',Trans G w s.h G' w' s'.h∧Rel N s' G' w' a') a w
def Wp (P:Program) (N:Nat) (c:AC) (s:St) (Q:aP→St→Prop):Prop:=
 ∀code,cCode P N code=some c→∃e s',Run P N code s e s'∧Q e s'
variable {N:Nat} {s:St} {Q:aP→St→Prop}
theorem okR.seq {a b:Code} {ro:Option Nat} (h:okR (.seq a b) ro):okR a ro∧okR b ro:=by
 rcases h with h|h
 ·exact ⟨.inl h,.inl h⟩
 ·simp only[fl,Bool.and_eq_true] at h
  exact ⟨.inr h.1,.inr h.2⟩
theorem okR.cond {z:Operand} {a b:Code} {ro:Option Nat} (h:okR (.cond z a b) ro) (c:Bool):okR (if c then a else b) ro:=by
 rcases h with h|h
 ·exact .inl h
 ·simp only[fl,Bool.and_eq_true] at h
  cases c
  ·exact .inr h.2
  ·exact .inr h.1
theorem okR.block {id:Nat} {a:Code} {ro:Option Nat} (h:okR (.block id a) ro):okR a ro:=h
theorem okR.loop {a:Code} {ro:Option Nat} (h:okR (.loop a) ro):okR a ro:=h
theorem okR.scope {a:Code} {ro:Option Nat} (h:okR (.scope a) ro):okR a ro:=h
theorem okR.find {l:Nat} {ro:Option Nat}:∀{c rest:Code},okR c ro→findLabel c l=some rest→okR rest ro:=by
 intro c rest h hf
 rcases h with h|h
 ·exact .inl h
 ·right
  induction c generalizing rest with
  |seq a b iha ihb=>
   simp only[fl,Bool.and_eq_true] at h
   simp only[findLabel] at hf
   split at hf
   ·rename_i r hr
    cases hf
    simp only[fl,Bool.and_eq_true]
    exact ⟨iha hr h.1,h.2⟩
   ·exact ihb hf h.2
  |label l'=>
   simp only[findLabel] at hf
   split at hf
   ·cases hf;rfl
   ·cases hf
  |_=>simp[findLabel] at hf
theorem Wp.mono {c:AC} {Q':aP→St→Prop} (h:Wp P N c s Q) (hq:∀e s',Q e s'→Q' e s'):Wp P N c s Q':=
 fun code hc=>let ⟨e,s',r,q⟩:=h code hc;⟨e,s',r,hq e s' q⟩
theorem vt {code:Code} (h:cCode P N code=some .skip):code= .skip:=by
 unfold cCode at h
 split at h<;>(try rfl)<;>(try cases h)
 all_goals (repeat' split at h)<;>(try cases h)<;>simp at h
theorem Wp.skip (h:Q .normal s):Wp P N .skip s Q:=by
 intro code hc
 obtain rfl:=vt hc
 exact ⟨.normal,s,⟨⟨Nat.le_refl _,Nat.le_refl _⟩,fun ro okc G w a r _=>wpIn_skip ⟨trivial,.refl,G,Trans.refl _ _ _,r⟩⟩,h⟩
theorem vu {code:Code} {id:Nat} (h:cCode P N code=some (.exit id)):code= .exit id:=by
 unfold cCode at h
 split at h<;>(try rfl)<;>(try cases h)
 all_goals (repeat' split at h)<;>(try cases h)<;>(try rfl)<;>simp at h
theorem Wp.exit {id:Nat} (h:Q (.exit id) s):Wp P N (.exit id) s Q:=by
 intro code hc
 obtain rfl:=vu hc
 exact ⟨.exit id,s,⟨⟨Nat.le_refl _,Nat.le_refl _⟩,fun ro okc G w a r _=>wpIn_exit ⟨rfl,.refl,G,Trans.refl _ _ _,r⟩⟩,h⟩
theorem xb {code:Code} (h:cCode P N code=some .ret):code= .ret:=by
 unfold cCode at h
 split at h<;>(try rfl)<;>(try cases h)
 all_goals (repeat' split at h)<;>(try cases h)<;>(try rfl)<;>simp at h
theorem Wp.ret (h:Q .ret s):Wp P N .ret s Q:=by
 intro code hc
 obtain rfl:=xb hc
 exact ⟨.ret,s,⟨⟨Nat.le_refl _,Nat.le_refl _⟩,fun ro okc G w a r _=>wpIn_ret ⟨trivial,.refl,G,Trans.refl _ _ _,r⟩⟩,h⟩
theorem xc {code:Code} {x y:AC} (h:cCode P N code=some (.seq x y)):∃a b,code= .seq a b∧cCode P N a=some x∧cCode P N b=some y:=by
 cases code<;>simp only[cCode] at h<;>(try cases h)
 ·(repeat' split at h)<;>cases h
 ·split at h
  ·cases h;exact ⟨_,_,rfl,‹_›,‹_›⟩
  ·cases h
 ·(repeat' split at h)<;>cases h
 all_goals first|(simp at h;done)|((repeat' split at h)<;>cases h;done)
def aP.andThen (K:St→Prop) (Q:aP→St→Prop):aP→St→Prop
 | .normal,s=>K s
 |e,s=>Q e s
theorem Wp.seq {x y:AC} (h:Wp P N x s (aP.andThen (fun s'=>Wp P N y s' Q) Q)):Wp P N (.seq x y) s Q:=by
 intro code hc
 obtain ⟨a,b,rfl,ha,hb⟩:=xc hc
 obtain ⟨e,s1,r1,q1⟩:=h a ha
 cases e with
 |normal=>
  obtain ⟨e2,s2,r2,q2⟩:=q1 b hb
  obtain ⟨⟨l1,l2⟩,r1⟩:=r1
  obtain ⟨⟨l3,l4⟩,r2⟩:=r2
  refine ⟨e2,s2,⟨⟨by omega,by omega⟩,fun ro okc G w ac r F=>wpIn_seq (wpIn_mono (r1 ro okc.seq.1 G w ac r (F.sub (Nat.le_refl _) l3 (Nat.le_refl _) l4)) ?_)⟩,q2⟩
  rintro e' a' w' ⟨h1,h2,G',T1,r'⟩
  cases e'<;>simp only[aP.ey] at h1
  refine wpIn_mono (r2 ro okc.seq.2 G' w' a' r' (F.step T1)) ?_
  rintro e'' a'' w'' ⟨k1,k2,G'',T2,r''⟩
  exact ⟨k1,h2.trans T1.size_le k2,G'',T1.trans r.h r'.h T2,r''⟩
 |exit id=>
  refine ⟨.exit id,s1,⟨r1.1,fun ro okc G w ac r F=>wpIn_seq (wpIn_mono (r1.2 ro okc.seq.1 G w ac r F) ?_)⟩,q1⟩
  rintro e' a' w' ⟨h1,h2⟩
  cases e'<;>simp only[aP.ey] at h1
  exact ⟨h1,h2⟩
 |goto l=>
  refine ⟨.goto l,s1,⟨r1.1,fun ro okc G w ac r F=>wpIn_seq (wpIn_mono (r1.2 ro okc.seq.1 G w ac r F) ?_)⟩,q1⟩
  rintro e' a' w' ⟨h1,h2⟩
  cases e'<;>simp only[aP.ey] at h1
  exact ⟨h1,h2⟩
 |ret=>
  refine ⟨.ret,s1,⟨r1.1,fun ro okc G w ac r F=>wpIn_seq (wpIn_mono (r1.2 ro okc.seq.1 G w ac r F) ?_)⟩,q1⟩
  rintro e' a' w' ⟨h1,h2⟩
  cases e'<;>simp only[aP.ey] at h1
  exact ⟨trivial,h2⟩
 |panic v=>
  refine ⟨.panic v,s1,⟨r1.1,fun ro okc G w ac r F=>wpIn_seq (wpIn_mono (r1.2 ro okc.seq.1 G w ac r F) ?_)⟩,q1⟩
  rintro e' a' w' ⟨h1,h2⟩
  cases e'<;>simp only[aP.ey] at h1
  exact ⟨h1,h2⟩
theorem vv {code:Code} {c:Opd} {x y:AC} (h:cCode P N code=some (.cond c x y)):∃z a b,code= .cond z a b∧opd P 0 z=some c∧cCode P N a=some x∧cCode P N b=some y:=by
 cases code<;>simp only[cCode] at h<;>(try cases h)
 ·(repeat' split at h)<;>cases h
 ·(repeat' split at h)<;>cases h
 ·split at h
  ·cases h;exact ⟨_,_,_,rfl,‹_›,‹_›,‹_›⟩
  ·cases h
 all_goals first|(simp at h;done)|((repeat' split at h)<;>cases h;done)
theorem Wp.cond {c:Opd} {x y:AC} {b:Bool} (hb:ev s.t c= .bool b) (h:Wp P N (if b then x else y) s Q):Wp P N (.cond c x y) s Q:=by
 intro code hc
 obtain ⟨z,p,q,rfl,h1,h2,h3⟩:=vv hc
 obtain ⟨e,s',r,q⟩:=h (if b then p else q) (by cases b<;>simpa)
 refine ⟨e,s',⟨r.1,fun ro okc G w a rel F=>?_⟩,q⟩
 have hz:a.eval z= .bool b:=by
  have:=aE h1 rel.t
  rw[hb] at this
  simpa only[ah] using this
 exact wpIn_cond hz (by have:=r.2 ro (okc.cond b) G w a rel F;cases b<;>exact this)
theorem Wp.cond_true {c:Opd} {x y:AC} (hb:ev s.t c= .bool true) (h:Wp P N x s Q):Wp P N (.cond c x y) s Q:=Wp.cond hb h
theorem Wp.cond_false {c:Opd} {x y:AC} (hb:ev s.t c= .bool false) (h:Wp P N y s Q):Wp P N (.cond c x y) s Q:=Wp.cond hb h
theorem Wp.bN {c:Opd} {x y:AC} {b:Bool} (hb:ev s.t c= .bool b) (ht:b=true→Wp P N x s Q) (hf:b=false→Wp P N y s Q):Wp P N (.cond c x y) s Q:=by
 cases b
 ·exact Wp.cond hb (hf rfl)
 ·exact Wp.cond hb (ht rfl)
def aP.inBlock (id:Nat) (Q:aP→St→Prop):aP→St→Prop
 | .exit i,s=>if i=id then Q .normal s else Q (.exit i) s
 |e,s=>Q e s
theorem sX {code:Code} {id:Nat} {x:AC} (h:cCode P N code=some (.block id x)):∃a,code= .block id a∧cCode P N a=some x:=by
 cases code<;>simp only[cCode] at h<;>(try cases h)
 ·(repeat' split at h)<;>cases h
 ·(repeat' split at h)<;>cases h
 ·(repeat' split at h)<;>cases h
 ·simp only[Option.map_eq_some_iff] at h
  obtain ⟨a,h1,h2⟩:=h
  cases h2
  exact ⟨_,rfl,h1⟩
 all_goals first|(simp at h;done)|((repeat' split at h)<;>cases h;done)
theorem Wp.block {id:Nat} {x:AC} (h:Wp P N x s (aP.inBlock id Q)):Wp P N (.block id x) s Q:=by
 intro code hc
 obtain ⟨a,rfl,ha⟩:=sX hc
 obtain ⟨e,s1,r1,q1⟩:=h a ha
 cases e with
 |normal=>
  refine ⟨.normal,s1,⟨r1.1,fun ro okc G w ac r F=>wpIn_block (wpIn_mono (r1.2 ro okc.block G w ac r F) ?_)⟩,q1⟩
  rintro e' a' w' ⟨h1,h2⟩
  cases e'<;>simp only[aP.ey] at h1
  exact ⟨trivial,h2⟩
 |goto l=>
  refine ⟨.goto l,s1,⟨r1.1,fun ro okc G w ac r F=>wpIn_block (wpIn_mono (r1.2 ro okc.block G w ac r F) ?_)⟩,q1⟩
  rintro e' a' w' ⟨h1,h2⟩
  cases e'<;>simp only[aP.ey] at h1
  exact ⟨h1,h2⟩
 |ret=>
  refine ⟨.ret,s1,⟨r1.1,fun ro okc G w ac r F=>wpIn_block (wpIn_mono (r1.2 ro okc.block G w ac r F) ?_)⟩,q1⟩
  rintro e' a' w' ⟨h1,h2⟩
  cases e'<;>simp only[aP.ey] at h1
  exact ⟨trivial,h2⟩
 |panic v=>
  refine ⟨.panic v,s1,⟨r1.1,fun ro okc G w ac r F=>wpIn_block (wpIn_mono (r1.2 ro okc.block G w ac r F) ?_)⟩,q1⟩
  rintro e' a' w' ⟨h1,h2⟩
  cases e'<;>simp only[aP.ey] at h1
  exact ⟨h1,h2⟩
 |exit i=>
  simp only[aP.inBlock] at q1
  by_cases hi:i=id
  ·rw[if_pos hi] at q1
   refine ⟨.normal,s1,⟨r1.1,fun ro okc G w ac r F=>wpIn_block (wpIn_mono (r1.2 ro okc.block G w ac r F) ?_)⟩,q1⟩
   rintro e' a' w' ⟨h1,h2⟩
   cases e'<;>simp only[aP.ey] at h1
   subst h1
   simp only[Exit.inBlock,hi,if_true]
   exact ⟨trivial,h2⟩
  ·rw[if_neg hi] at q1
   refine ⟨.exit i,s1,⟨r1.1,fun ro okc G w ac r F=>wpIn_block (wpIn_mono (r1.2 ro okc.block G w ac r F) ?_)⟩,q1⟩
   rintro e' a' w' ⟨h1,h2⟩
   cases e'<;>simp only[aP.ey] at h1
   subst h1
   simp only[Exit.inBlock,hi,if_false]
   exact ⟨rfl,h2⟩
structure aU (s s':St):Prop where
 n:s.h.n≤s'.h.n
 m:s.h.m≤s'.h.m
 go:∀N G w a,Rel N s G w a→dc G s.h s'.h→∃G',Trans G w s.h G' w s'.h∧Rel N s' G' w a
theorem aU.refl (s:St):aU s s:=⟨Nat.le_refl _,Nat.le_refl _,fun N G w a r _=>⟨G,Trans.refl _ _ _,r⟩⟩
theorem aU.trans {s s' s'':St} (a:aU s s') (b:aU s' s''):aU s s'':=by
 refine ⟨Nat.le_trans a.n b.n,Nat.le_trans a.m b.m,fun N G w ac r F=>?_⟩
 obtain ⟨G1,T1,r1⟩:=a.go N G w ac r (F.sub (Nat.le_refl _) b.n (Nat.le_refl _) b.m)
 obtain ⟨G2,T2,r2⟩:=b.go N G1 w ac r1 (F.step T1)
 exact ⟨G2,T1.trans r.h r1.h T2,r2⟩
def cq:Obj→Obj→Prop
 | .cells cs,.cells cs'=>af cs cs'
 | .map es,.map es'=>es=es'
 | .loop N t ps a b st p,o'=>o'= .loop N t ps a b st p
 |_,_=>False
theorem cq.refl (o:Obj):cq o o:=by cases o<;>simp[cq,af.refl]
def HLe (h h':H):Prop:=(∀j o',h'.objs j=some o'→∃o,h.objs j=some o∧cq o o')∧∀t∈h'.toks,t∈h.toks
theorem H.sub.le {h h':H} (s:h'.sub h):HLe h h':=⟨fun j o x=>⟨o,s.1 j o x,cq.refl o⟩,s.2⟩
theorem kH.sub {G:aI} {w:World} {o o':Obj} {x:Option Go.Obj} (h:kH G w o x) (s:cq o o'):kH G w o' x:=by
 cases o<;>cases o'<;>simp only[cq] at s
 ·simp only[kH] at h ⊢
  obtain ⟨vs,rest,T,fr,h1,h2,h3⟩:=h
  exact ⟨vs,rest,T,fr,h1,s G w vs h2,h3⟩
 ·subst s;exact h
 all_goals (rw [s];exact h)
theorem bf.le {G:aI} {w:World} {h h':H} (R:bf G h w) (s:HLe h h'):bf G h' w where
 obj id o' ho':=by
  obtain ⟨o,ho,hs⟩:=s.1 id o' ho'
  obtain ⟨a,b,c,d⟩:=R.obj id o ho
  exact ⟨a,b,c,d.sub hs⟩
 inj id id' o o' ho ho':=by
  obtain ⟨p,hp,-⟩:=s.1 id o ho
  obtain ⟨p',hp',-⟩:=s.1 id' o' ho'
  exact R.inj id id' p p' hp hp'
 tok t ht:=R.tok t (s.2 t ht)
 tinj t ht t' ht':=R.tinj t (s.2 t ht) t' (s.2 t' ht')
theorem Trans.le {G:aI} {w:World} {h h':H} (s:HLe h h') (n:h.n≤h'.n) (m:h.m≤h'.m):Trans G w h G w h' where
 dom_le _ x:=x
 dom_new _:= .inl
 ι_eq _ _:=rfl
 tdom_le _ x:=x
 tdom_new _:= .inl
 τ_eq _ _:=rfl
 n_le:=n
 m_le:=m
 size_le:=Nat.le_refl _
 os:=rfl
 output:=rfl
 form _ _:=bE.refl _
 keep _ _ _ _:=rfl
 own_keep _ _ _:=Iff.rfl
 lim_keep _ _ _ _:=rfl
 tok_keep _ _ _ _ e he:=⟨fun _ _=>rfl,fun e' he'=>by rw[he] at he';cases he';exact Nat.le_refl _⟩
 O_new _ _:=fun ⟨id,o,ho,e⟩=>let ⟨o',ho',_⟩:=s.1 id o ho;⟨id,o',ho',e⟩
 T_new _ _:=fun ⟨t,ht,e⟩=>⟨t,s.2 t ht,e⟩
 objs_new j o x:=let ⟨o',ho',_⟩:=s.1 j o x;.inl ⟨o',ho'⟩
 toks_new t x:= .inl (s.2 t x)
theorem aU.mk' {t t':Tm} {h h':H} (ht:∀i,ab (t i) (t' i)) (hh:HLe h h') (n:h.n≤h'.n) (m:h.m≤h'.m):aU ⟨t,h⟩ ⟨t',h'⟩:=
 ⟨n,m,fun N G w a r _=>⟨G,Trans.le hh n m,⟨r.size,fun i=>ht i G w _ (r.t i),r.h.le hh,r.df.mono (Trans.le hh n m)⟩⟩⟩
theorem aU.tok (t:Tm) (h:H):aU ⟨t,h⟩ ⟨t,{h with toks:=h.m::h.toks,m:=h.m+1}⟩:=by
 refine ⟨Nat.le_refl _,Nat.le_succ _,fun N G w a r F=>?_⟩
 have hm:¬G.tdom h.m:=F.2 h.m (Nat.le_refl _) (Nat.lt_succ_self _)
 let G':aI:={G with tdom:=fun x=>G.tdom x∨x=h.m,τ:=upd G.τ h.m none}
 have hτ:G'.τ h.m=none:=by simp[G',upd]
 have hne:∀x,G.tdom x→G'.τ x=G.τ x:=fun x hx=>by
  simp only[G',upd]
  rw[if_neg]
  rintro rfl;exact hm hx
 have T:Trans G w h G' w {h with toks:=h.m::h.toks,m:=h.m+1}:=by
  constructor
  ·exact fun _ x=>x
  ·exact fun _=> .inl
  ·exact fun _ _=>rfl
  ·exact fun _=> .inl
  ·rintro x (hx|rfl)
   ·exact .inl hx
   ·exact .inr ⟨Nat.le_refl _,Nat.lt_succ_self _⟩
  ·exact hne
  ·exact Nat.le_refl _
  ·exact Nat.le_succ _
  ·exact Nat.le_refl _
  ·rfl
  ·rfl
  ·exact fun _ _=>bE.refl _
  ·exact fun _ _ _ _=>rfl
  ·exact fun _ _ _=>Iff.rfl
  ·exact fun _ _ _ _=>rfl
  ·exact fun _ _ _ _ e he=>⟨fun _ _=>rfl,fun e' he'=>by
    have:G.lim _=some e':=he'
    rw[he] at this;cases this;exact Nat.le_refl _⟩
  ·exact fun _ _ x=>x
  ·rintro B _ ⟨x,hx,e,hte⟩
   rcases List.mem_cons.1 hx with rfl|hx
   ·rw[hτ] at hte;cases hte
   ·exact ⟨x,hx,e,by rw[←hte];exact (hne x (r.h.tok x hx).1).symm⟩
  ·exact fun j o x=> .inl ⟨o,x⟩
  ·intro x hx
   rcases List.mem_cons.1 hx with rfl|hx
   ·exact .inr ⟨Nat.le_refl _,Nat.lt_succ_self _⟩
   ·exact .inl hx
 refine ⟨G',T,r.size,fun i=>ah.mono r.h T _ _ (r.t i),⟨?_,r.h.inj,?_,?_⟩,r.df.mono T⟩
 ·intro id o ho
  obtain ⟨q1,q2,q3,q4⟩:=r.h.obj id o ho
  exact ⟨q1,q2,q3,q4.mono r.h T⟩
 ·intro x hx
  rcases List.mem_cons.1 hx with rfl|hx
  ·exact ⟨.inr rfl,fun B e hte=>by rw[hτ] at hte;cases hte⟩
  ·obtain ⟨q1,q2⟩:=r.h.tok x hx
   exact ⟨.inl q1,fun B e hte=>q2 B e (by rw[←hne x q1];exact hte)⟩
 ·intro x hx x' hx' B e e' h1 h2
  rcases List.mem_cons.1 hx with rfl|hx
  ·rw[hτ] at h1;cases h1
  ·rcases List.mem_cons.1 hx' with rfl|hx'
   ·rw[hτ] at h2;cases h2
   ·exact r.h.tinj x hx x' hx' B e e' (by rw[←hne x (r.h.tok x hx).1];exact h1) (by rw[←hne x' (r.h.tok x' hx').1];exact h2)
theorem Run.le {c:Code} {s' s'':St} {e:aP} (h:aU s s') (r:Run P N c s' e s''):Run P N c s e s'':=by
 obtain ⟨⟨rn,rm⟩,rr⟩:=r
 refine ⟨⟨Nat.le_trans h.n rn,Nat.le_trans h.m rm⟩,fun ro okc G w a rel F=>?_⟩
 obtain ⟨G1,T1,rel1⟩:=h.go N G w a rel (F.sub (Nat.le_refl _) rn (Nat.le_refl _) rm)
 refine wpIn_mono (rr ro okc G1 w a rel1 (F.step T1)) ?_
 rintro e' a' w' ⟨h1,h2,G',T,r'⟩
 exact ⟨h1,h2,G',T1.trans rel.h rel1.h T,r'⟩
theorem Wp.le {c:AC} {s':St} (h:aU s s') (hw:Wp P N c s' Q):Wp P N c s Q:=
 fun code hc=>let ⟨e,s'',r,q⟩:=hw code hc;⟨e,s'',r.le h,q⟩
theorem oY {code:Code} {x:AC} (h:cCode P N code=some (.loop x)):∃a,code= .loop a∧cCode P N a=some x:=by
 cases code<;>simp only[cCode] at h<;>(try cases h)
 ·(repeat' split at h)<;>cases h
 ·(repeat' split at h)<;>cases h
 ·(repeat' split at h)<;>cases h
 ·simp at h
 ·simp only[Option.map_eq_some_iff] at h
  obtain ⟨a,h1,h2⟩:=h
  cases h2
  exact ⟨_,rfl,h1⟩
 all_goals first|(simp at h;done)|((repeat' split at h)<;>cases h;done)
theorem sY {F:Fence} {n:Nat} {β:Type} {c:Code} {Q:Exit→Act→World→Prop} (I:β→Act→World→Prop) (μ:β→Nat)
  (round:∀b a w,I b a w→c.wpIn F n P (Exit.then (fun a' w'=>∃b',I b' a' w'∧μ b'<μ b) Q) a w) {b:β} {a:Act} {w:World} (h₀:I b a w):(Code.loop c).wpIn F n P Q a w:=by
 intro fr k cs hro hb hr
 have key:∀j b a w,μ b=j→I b a w→∃e a' w',Q e a' w'∧ArrivesIn (Machine.fenced P F) P (lone (fr.atR a (.code c:: .inLoop c::k)) cs w) fr k cs e a' w':=by
  intro j
  induction j using Nat.strongRecOn with
  |_ j ih=>
   intro b a w hn hI
   obtain ⟨e,a₁,w₁,hq,harr⟩:=round b a w hI fr (.inLoop c::k) cs hro hb hr
   cases e with
   |normal=>
    obtain ⟨b₁,hI₁,hlt⟩:=hq
    obtain ⟨e₂,a₂,w₂,hq₂,harr₂⟩:=ih (μ b₁) (hn▸hlt) b₁ a₁ w₁ rfl hI₁
    exact ⟨e₂,a₂,w₂,hq₂,.of_steps (StepsIn.trans harr (.one (fenced_calm hb hr rfl) stepR_inLoop)) harr₂⟩
   |exit id=>exact ⟨_,a₁,w₁,hq,.pass (x:= .inLoop c) rfl (fun _ _=> .inl (by simp)) harr⟩
   |goto l=>exact ⟨_,a₁,w₁,hq,.pass (x:= .inLoop c) rfl (fun _ _=> .inl (by simp)) harr⟩
   |ret=>exact ⟨_,a₁,w₁,hq,.pass (x:= .inLoop c) rfl (fun _ _=> .inl (by simp)) harr⟩
   |panic ch=>exact ⟨_,a₁,w₁,hq,.pass (x:= .inLoop c) rfl (fun _ _=> .inl (by simp)) harr⟩
   |outgrown=>exact ⟨_,a₁,w₁,hq,.pass (x:= .inLoop c) rfl (fun _ _=> .inl (by simp)) harr⟩
 obtain ⟨e,a',w',hq,harr⟩:=key _ b a w rfl h₀
 exact ⟨e,a',w',hq,.of_steps (.one (fenced_calm hb hr rfl) stepR_loop) harr⟩
inductive kr {β:Type} (P:Program) (N:Nat) (c:Code) (S:β→St) (μ:β→Nat):β→aP→St→Prop where
 |last {b:β} {e:aP} {s':St} (r:Run P N c (S b) e s') (hne:e≠ .normal):kr P N c S μ b e s'
 |more {b b':β} {e:aP} {s1 s':St} (r:Run P N c (S b) .normal s1) (hle:aU s1 (S b')) (hlt:μ b'<μ b) (rest:kr P N c S μ b' e s'):kr P N c S μ b e s'
theorem kr.nm {β:Type} {c:Code} {S:β→St} {μ:β→Nat} {b:β} {e:aP} {s':St} (h:kr P N c S μ b e s'):(S b).h.n≤s'.h.n∧(S b).h.m≤s'.h.m:=by
 induction h with
 |last r _=>exact r.1
 |more r hle _ _ ih=>have:=r.1;have:=hle.n;have:=hle.m;omega
theorem Wp.loop {β:Type} (S:β→St) (I:β→Prop) (μ:β→Nat) {c:AC} (b0:β) (h0:I b0) (hs:aU s (S b0))
  (round:∀b,I b→Wp P N c (S b) (aP.andThen (fun s'=>∃b',I b'∧μ b'<μ b∧aU s' (S b')) Q)):Wp P N (.loop c) s Q:=by
 intro code hc
 obtain ⟨x,rfl,hx⟩:=oY hc
 have ex:∀n b,μ b=n→I b→∃e s',kr P N x S μ b e s'∧Q e s':=by
  intro n
  induction n using Nat.strongRecOn with
  |_ n ih=>
   intro b hn hb
   obtain ⟨e,s1,r1,q1⟩:=round b hb x hx
   cases e with
   |normal=>
    obtain ⟨b',i1,i2,i3⟩:=q1
    obtain ⟨e,s',r',q'⟩:=ih (μ b') (hn▸i2) b' rfl i1
    exact ⟨e,s',.more r1 i3 i2 r',q'⟩
   |exit id=>exact ⟨_,s1,.last r1 (by simp),q1⟩
   |goto l=>exact ⟨_,s1,.last r1 (by simp),q1⟩
   |ret=>exact ⟨_,s1,.last r1 (by simp),q1⟩
   |panic v=>exact ⟨_,s1,.last r1 (by simp),q1⟩
 obtain ⟨e,s',hcm,q⟩:=ex _ b0 rfl h0
 refine ⟨e,s',Run.le hs ⟨hcm.nm,fun ro okc G0 w0 a0 rel0 F0=>?_⟩,q⟩
 refine sY (fun b a w=>kr P N x S μ b e s'∧kM w0 a0.defers a.defers∧∃G,Trans G0 w0 (S b0).h G w (S b).h∧Rel N (S b) G w a∧dc G (S b).h s'.h) μ ?_ ⟨hcm,.refl,G0,Trans.refl _ _ _,rel0,F0⟩
 rintro b a w ⟨hcm,hd,G,T,rel,F⟩
 cases hcm with
 |last r hne=>
  refine wpIn_mono (r.2 ro okc.loop G w a rel F) ?_
  rintro e' a' w' ⟨h1,h2,G',T',r'⟩
  have:e'≠ .normal:=by
   rintro rfl
   cases e<;>simp[aP.ey] at h1 hne
  have hgoal:e.ey e'∧kM w0 a0.defers a'.defers∧∃G',Trans G0 w0 (S b0).h G' w' s'.h∧Rel N s' G' w' a':=⟨h1,hd.trans T.size_le h2,G',T.trans rel0.h rel.h T',r'⟩
  cases e'<;>first|exact hgoal|exact absurd rfl this
 |more r hle hlt rest=>
  have nm:=rest.nm
  refine wpIn_mono (r.2 ro okc.loop G w a rel (F.sub (Nat.le_refl _) (Nat.le_trans hle.n nm.1) (Nat.le_refl _) (Nat.le_trans hle.m nm.2))) ?_
  rintro e' a' w' ⟨h1,h2,G',T',r'⟩
  cases e'<;>simp only[aP.ey] at h1
  rename_i b' s1
  have F1:=F.step T'
  obtain ⟨G2,T2,r2⟩:=hle.go N G' w' a' r' (F1.sub (Nat.le_refl _) nm.1 (Nat.le_refl _) nm.2)
  have T3:=(T.trans rel0.h rel.h T').trans rel0.h r'.h T2
  exact ⟨b',⟨rest,hd.trans T.size_le h2,G2,T3,r2,F1.step T2⟩,hlt⟩
def ff:AC→Nat→Option AC
 | .seq a b,l=>match ff a l with
  |some r=>some (.seq r b)
  |none=>ff b l
 | .label l',l=>if l'=l then some .skip else none
 |_,_=>none
theorem sZ {l:Nat}:∀{c:Code} {x:AC},cCode P N c=some x→match findLabel c l with|some rest=>∃y,cCode P N rest=some y∧ff x l=some y|none=>ff x l=none:=by
 intro c
 induction c with
 |seq a b iha ihb=>
  intro x h
  obtain ⟨a',b',he,h1,h2⟩:∃a' b',x= .seq a' b'∧cCode P N a=some a'∧cCode P N b=some b':=by
   simp only[cCode] at h
   split at h
   ·cases h;exact ⟨_,_,rfl,‹_›,‹_›⟩
   ·cases h
  subst he
  have ga:=iha h1
  have gb:=ihb h2
  simp only[findLabel,ff]
  cases hf:findLabel a l with
  |some rest=>
   rw[hf] at ga
   obtain ⟨y,y1,y2⟩:=ga
   simp only[y2]
   exact ⟨_,by simp only[cCode,y1,h2],rfl⟩
  |none=>
   rw[hf] at ga
   simp only at ga
   simp only[ga]
   exact gb
 |label l'=>
  intro x h
  simp only[cCode,Option.some.injEq] at h
  subst h
  simp only[findLabel,ff]
  by_cases e:l'=l
  ·simp only[e,beq_self_eq_true,if_true]
   exact ⟨.skip,rfl,rfl⟩
  ·have:(l' == l)=false:=by simpa using e
   simp only[this,if_neg e,Bool.false_eq_true,if_false]
 |skip=>intro x h;simp only[cCode,Option.some.injEq] at h;subst h;simp[findLabel,ff]
 |region id ops draw=>
  intro x h
  simp only[cCode] at h
  (repeat' split at h)<;>cases h<;>simp[findLabel,ff]
 |cond z a b _ _=>
  intro x h
  simp only[cCode] at h
  split at h<;>cases h
  simp[findLabel,ff]
 |block id a _=>intro x h;simp only[cCode,Option.map_eq_some_iff] at h;obtain ⟨_,_,rfl⟩:=h;simp[findLabel,ff]
 |loop a _=>intro x h;simp only[cCode,Option.map_eq_some_iff] at h;obtain ⟨_,_,rfl⟩:=h;simp[findLabel,ff]
 |rangeFunc g ps a b _ _=>
  intro x h
  simp only[cCode] at h
  (repeat' split at h)<;>cases h<;>simp[findLabel,ff]
 |exit id=>intro x h;simp only[cCode,Option.some.injEq] at h;subst h;simp[findLabel,ff]
 |scope a _=>intro x h;simp only[cCode,Option.map_eq_some_iff] at h;obtain ⟨_,_,rfl⟩:=h;simp[findLabel,ff]
 |goto l'=>intro x h;simp only[cCode,Option.some.injEq] at h;subst h;simp[findLabel,ff]
 |ret=>intro x h;simp only[cCode,Option.some.injEq] at h;subst h;simp[findLabel,ff]
 |refuse=>intro x h;simp[cCode] at h
def jJ (F:Fence) (n:Nat) (P:Program) (c cur:Code) (Q:Exit→Act→World→Prop) (a:Act) (w:World):Prop:=
 ∀(b:Frame) (k:List Item) (cs:List Frame),b.roundOf=F.round→F.fn b.fn→F.room (cs.length+1+n)→
  ∃e a' w',Q e a' w'∧ArrivesIn (Machine.fenced P F) P (lone (b.atR a (.code cur:: .inScope c::k)) cs w) b k cs e a' w'
theorem qU {b:Frame} {a:Act} {k:List Item} {cs:List Frame} {w:World} {c:Code}:step P (lone (b.atR a (.code (.scope c)::k)) cs w)= .next (lone (b.atR a (.code c:: .inScope c::k)) cs w):=
 step_lone_go (by simp[stepG,stepG.exec,Frame.atR])
theorem oF {b:Frame} {a:Act} {k:List Item} {cs:List Frame} {w:World} {c:Code}:step P (lone (b.atR a (.inScope c::k)) cs w)= .next (lone (b.atR a k) cs w):=
 step_lone_go (by simp[stepG,stepG.exec,Frame.atR])
theorem jJ.start {F:Fence} {n:Nat} {c:Code} {Q:Exit→Act→World→Prop} {a:Act} {w:World} (h:jJ F n P c c Q a w):(Code.scope c).wpIn F n P Q a w:=by
 intro b k cs hro hb hr
 obtain ⟨e,a₁,w₁,hq,harr⟩:=h b k cs hro hb hr
 exact ⟨e,a₁,w₁,hq,.of_steps (.one (fenced_calm hb hr rfl) qU) harr⟩
def Exit.within (F:Fence) (n:Nat) (P:Program) (c:Code) (Q:Exit→Act→World→Prop):Exit→Act→World→Prop
 | .goto l,a,w=>match findLabel c l with
  |some rest=>jJ F n P c rest Q a w
  |none=>Q (.goto l) a w
 |e,a,w=>Q e a w
theorem jJ.step {F:Fence} {n:Nat} {c cur:Code} {Q:Exit→Act→World→Prop} {a:Act} {w:World} (h:cur.wpIn F n P (Exit.within F n P c Q) a w):jJ F n P c cur Q a w:=by
 intro b k cs hro hb hr
 obtain ⟨e,a₁,w₁,hq,harr⟩:=h b (.inScope c::k) cs hro hb hr
 cases e with
 |normal=>exact ⟨.normal,a₁,w₁,hq,StepsIn.trans harr (.one (fenced_calm hb hr rfl) oF)⟩
 |exit id=>exact ⟨.exit id,a₁,w₁,hq,fun k' hk=>harr.1 k' (by simp[exitTo,hk]),fun h1 h2=>harr.2 h1 (by simp[exitTo,h2])⟩
 |goto l=>
  simp only[Exit.within] at hq
  cases hf:findLabel c l with
  |some rest=>
   rw[hf] at hq
   obtain ⟨e₂,a₂,w₂,hq₂,harr₂⟩:=hq b k cs hro hb hr
   exact ⟨e₂,a₂,w₂,hq₂,.of_steps (harr.1 _ (by simp[gotoIn,hf])) harr₂⟩
  |none=>
   rw[hf] at hq
   exact ⟨.goto l,a₁,w₁,hq,fun k' hk=>harr.1 k' (by simp[gotoIn,hf,hk]),fun h1 h2=>harr.2 h1 (by simp[gotoIn,hf,h2])⟩
 |ret=>exact ⟨_,a₁,w₁,hq,harr⟩
 |panic ch=>exact ⟨_,a₁,w₁,hq,harr⟩
 |outgrown=>exact ⟨_,a₁,w₁,hq,harr⟩
def zt (P:Program) (N:Nat) (c cur:Code) (s:St) (e:aP) (s':St):Prop:=
 (s.h.n≤s'.h.n∧s.h.m≤s'.h.m)∧∀ro,okR c ro→okR cur ro→∀G w a,Rel N s G w a→dc G s.h s'.h→jJ (rd ro) 0 P c cur (fun e' a' w'=>e.ey e'∧kM w a.defers a'.defers∧∃G',Trans G w s.h G' w' s'.h∧Rel N s' G' w' a') a w
def WpS (P:Program) (N:Nat) (c cur:AC) (s:St) (Q:aP→St→Prop):Prop:=
 ∀code ccur,cCode P N code=some c→cCode P N ccur=some cur→∃e s',zt P N code ccur s e s'∧Q e s'
theorem s0 {code:Code} {x:AC} (h:cCode P N code=some (.scope x)):∃a,code= .scope a∧cCode P N a=some x:=by
 cases code<;>simp only[cCode] at h<;>(try cases h)
 all_goals first
  |(simp only[Option.map_eq_some_iff] at h
    obtain ⟨a,h1,h2⟩:=h
    cases h2
    exact ⟨_,rfl,h1⟩)
  |(simp at h;done)
  |((repeat' split at h)<;>cases h;done)
theorem s3 {code:Code} {l:Nat} (h:cCode P N code=some (.label l)):code= .label l:=by
 cases code<;>simp only[cCode] at h<;>(try cases h)<;>(try rfl)
 all_goals first|((repeat' split at h)<;>cases h;done)|(simp at h;done)
theorem vw {code:Code} {l:Nat} (h:cCode P N code=some (.goto l)):code= .goto l:=by
 cases code<;>simp only[cCode] at h<;>(try cases h)<;>(try rfl)
 all_goals first|((repeat' split at h)<;>cases h;done)|(simp at h;done)
theorem Wp.label {l:Nat} (h:Q .normal s):Wp P N (.label l) s Q:=by
 intro code hc
 obtain rfl:=s3 hc
 exact ⟨.normal,s,⟨⟨Nat.le_refl _,Nat.le_refl _⟩,fun ro okc G w a r _=>wpIn_label ⟨trivial,.refl,G,Trans.refl _ _ _,r⟩⟩,h⟩
theorem Wp.goto {l:Nat} (h:Q (.goto l) s):Wp P N (.goto l) s Q:=by
 intro code hc
 obtain rfl:=vw hc
 exact ⟨.goto l,s,⟨⟨Nat.le_refl _,Nat.le_refl _⟩,fun ro okc G w a r _=>wpIn_goto ⟨rfl,.refl,G,Trans.refl _ _ _,r⟩⟩,h⟩
theorem Wp.scope {c:AC} (h:WpS P N c c s Q):Wp P N (.scope c) s Q:=by
 intro code hc
 obtain ⟨x,rfl,hx⟩:=s0 hc
 obtain ⟨e,s',r,q⟩:=h x x hx hx
 exact ⟨e,s',⟨r.1,fun ro okc G w a rel F=>(r.2 ro okc.scope okc.scope G w a rel F).start⟩,q⟩
theorem zt.le {c cur:Code} {s' s'':St} {e:aP} (h:aU s s') (r:zt P N c cur s' e s''):zt P N c cur s e s'':=by
 obtain ⟨⟨rn,rm⟩,rr⟩:=r
 refine ⟨⟨Nat.le_trans h.n rn,Nat.le_trans h.m rm⟩,fun ro okc okd G w a rel F=>?_⟩
 obtain ⟨G1,T1,rel1⟩:=h.go N G w a rel (F.sub (Nat.le_refl _) rn (Nat.le_refl _) rm)
 intro b k cs hro hb hr
 obtain ⟨e',a',w',⟨h1,h2,G',T,r'⟩,harr⟩:=rr ro okc okd G1 w a rel1 (F.step T1) b k cs hro hb hr
 exact ⟨e',a',w',⟨h1,h2,G',T1.trans rel.h rel1.h T,r'⟩,harr⟩
theorem WpS.le {c cur:AC} {s':St} (h:aU s s') (hw:WpS P N c cur s' Q):WpS P N c cur s Q:=
 fun code ccur h1 h2=>let ⟨e,s'',r,q⟩:=hw code ccur h1 h2;⟨e,s'',r.le h,q⟩
def aP.within (P:Program) (N:Nat) (c:AC) (Q:aP→St→Prop):aP→St→Prop
 | .goto l,s=>match ff c l with
  |some rest=>WpS P N c rest s Q
  |none=>Q (.goto l) s
 |e,s=>Q e s
theorem WpS.step {c cur:AC} (h:Wp P N cur s (aP.within P N c Q)):WpS P N c cur s Q:=by
 intro code ccur hc hcur
 obtain ⟨e,s1,r1,q1⟩:=h ccur hcur
 cases e with
 |normal=>
  refine ⟨.normal,s1,⟨r1.1,fun ro okc okd G w ac r F=> .step (wpIn_mono (r1.2 ro okd G w ac r F) ?_)⟩,q1⟩
  rintro e' a' w' ⟨h1,h2⟩
  cases e'<;>simp only[aP.ey] at h1
  exact ⟨trivial,h2⟩
 |ret=>
  refine ⟨.ret,s1,⟨r1.1,fun ro okc okd G w ac r F=> .step (wpIn_mono (r1.2 ro okd G w ac r F) ?_)⟩,q1⟩
  rintro e' a' w' ⟨h1,h2⟩
  cases e'<;>simp only[aP.ey] at h1
  exact ⟨trivial,h2⟩
 |panic v=>
  refine ⟨.panic v,s1,⟨r1.1,fun ro okc okd G w ac r F=> .step (wpIn_mono (r1.2 ro okd G w ac r F) ?_)⟩,q1⟩
  rintro e' a' w' ⟨h1,h2⟩
  cases e'<;>simp only[aP.ey] at h1
  exact ⟨h1,h2⟩
 |exit i=>
  refine ⟨.exit i,s1,⟨r1.1,fun ro okc okd G w ac r F=> .step (wpIn_mono (r1.2 ro okd G w ac r F) ?_)⟩,q1⟩
  rintro e' a' w' ⟨h1,h2⟩
  cases e'<;>simp only[aP.ey] at h1
  exact ⟨h1,h2⟩
 |goto l=>
  simp only[aP.within] at q1
  have hfl:=sZ (l:=l) hc
  cases hf:findLabel code l with
  |none=>
   rw[hf] at hfl
   simp only at hfl
   rw[hfl] at q1
   refine ⟨.goto l,s1,⟨r1.1,fun ro okc okd G w ac r F=> .step (wpIn_mono (r1.2 ro okd G w ac r F) ?_)⟩,q1⟩
   rintro e' a' w' ⟨h1,h2⟩
   cases e'<;>simp only[aP.ey] at h1
   subst h1
   simp only[Exit.within,hf]
   exact ⟨rfl,h2⟩
  |some rest=>
   rw[hf] at hfl
   obtain ⟨y,y1,y2⟩:=hfl
   rw[y2] at q1
   obtain ⟨e2,s2,r2,q2⟩:=q1 code rest hc y1
   obtain ⟨⟨l1,l2⟩,r1⟩:=r1
   obtain ⟨⟨l3,l4⟩,r2⟩:=r2
   refine ⟨e2,s2,⟨⟨by omega,by omega⟩,fun ro okc okd G w ac r F=> .step (wpIn_mono (r1 ro okd G w ac r (F.sub (Nat.le_refl _) l3 (Nat.le_refl _) l4)) ?_)⟩,q2⟩
   rintro e' a' w' ⟨h1,h2,G',T1,r'⟩
   cases e'<;>simp only[aP.ey] at h1
   subst h1
   simp only[Exit.within,hf]
   intro b k cs hro hb hr
   obtain ⟨e'',a'',w'',⟨k1,k2,G'',T2,r''⟩,harr⟩:=r2 ro okc (okc.find hf) G' w' a' r' (F.step T1) b k cs hro hb hr
   exact ⟨e'',a'',w'',⟨k1,h2.trans T1.size_le k2,G'',T1.trans r.h r'.h T2,r''⟩,harr⟩
end
end Go.Av
end
section
namespace Go.Av
section
variable {P:Program} {N:Nat}
theorem jg {ρ ρ':Opd→AV}:∀{l:List (Nat × Nat × Opd)} {cs:List AV},(∀x∈l.map (fun p=>p.2.2),ρ x=ρ' x)→ez ρ l cs=ez ρ' l cs
 |[],_,_=>rfl
 |(off,n,x)::l,cs,h=>by
  have hx:ρ x=ρ' x:=h x (by simp)
  simp only[ez,hx]
  split
  ·exact jg fun y hy=>h y (by simp at hy ⊢;exact .inr hy)
  ·rfl
theorem vA {ρ ρ':Opd→AV} {h:H} {op:AOp} (hh:∀x∈cE op,ρ x=ρ' x):aop ρ h op=aop ρ' h op:=by
 cases op with
 |build z parts=>simp only[aop,jg (l:=parts) hh]
 |buildSl sz parts=>
  have e1:parts.map ρ=parts.map ρ':=List.map_congr_left hh
  have e2:parts.all (fun x=>decide ((cellsOf (ρ x)).length=sz∧shaped (ρ x)=true))=parts.all (fun x=>decide ((cellsOf (ρ' x)).length=sz∧shaped (ρ' x)=true)):=by
   rw[Bool.eq_iff_iff]
   simp only[List.all_eq_true]
   exact ⟨fun k x hx=>by rw[←hh x hx];exact k x hx,fun k x hx=>by rw[hh x hx];exact k x hx⟩
  simp only[aop,e1,e2]
 |mkfn fn a b=>
  have e1:a.map ρ=a.map ρ':=List.map_congr_left fun x hx=>hh x (by simp[cE,hx])
  have e2:b.map ρ=b.map ρ':=List.map_congr_left fun x hx=>hh x (by simp[cE,hx])
  simp only[aop,e1,e2]
 |slc str sz x a b c=>
  have e0:ρ x=ρ' x:=hh x (by simp[cE])
  have e1:∀y:Option Opd,(∀z∈y.toList,ρ z=ρ' z)→y.map ρ=y.map ρ':=by
   intro y hy;cases y with
   |none=>rfl
   |some z=>simp[hy z (by simp)]
  have e2:(c.map fun m=>some (ρ m))=(c.map fun m=>some (ρ' m)):=by
   cases c with
   |none=>rfl
   |some z=>simp[hh z (by simp[cE])]
  simp only[aop,e0,e1 a (fun z hz=>hh z (by simp only[cE,List.mem_cons,List.mem_append];exact .inr (.inl (.inl hz)))),e1 b (fun z hz=>hh z (by simp only[cE,List.mem_cons,List.mem_append];exact .inr (.inl (.inr hz)))),e2]
 |call f l=>rfl
 |callv x l=>rfl
 |alloc z=>rfl
 |dead=>rfl
 |pan x=>rfl
 |_=>simp[cE] at hh;simp only[aop,hh]
def jh (l:List Nat) (t:Tm):Tm:=fun i=>if l.contains i then t i else .any
theorem fW {l:List Nat} {G:aI} {w:World} {t:Tm} {a:Act} (h:TOn l G w t a):cD G w (jh l t) a:=by
 intro i
 unfold jh
 split
 ·rename_i hh;exact h i (by simpa using hh)
 ·simp[ah]
theorem ku {l:List Nat} {t:Tm} {xs:List Opd} (h:(tmpsOf xs).all (fun i=>l.contains i)=true):∀x∈xs,ev (jh l t) x=ev t x:=by
 intro x hx
 cases x with
 |c a=>rfl
 |t i=>
  simp only[ev,jh]
  rw[List.all_eq_true] at h
  have:=h i (by simp only[tmpsOf,List.mem_filterMap];exact ⟨_,hx,rfl⟩)
  rw[if_pos this]
def guardOf (t:Tm) (g:Option (Nat × Bool)):Option Bool:=
 match g with
 |none=>some true
 |some (d,w)=>match t d with
  | .bool b=>some (b == w)
  | .sc (.tuple _)=>some false
  |_=>none
theorem dd {ops:Array Oper} {o:Oper} {g:Option (Nat × Bool)} {t:Tm} {a:Act} {G:aI} {w:World} {b:Bool} (hg:pY ops o.guard=some g) (ht:TOn (names ops o) G w t a) (hb:guardOf t g=some b):
  Region.wanted o (yielded ops a.tmps)=b:=by
 unfold Region.wanted
 cases hog:o.guard with
 |none=>
  rw[hog] at hg
  simp[pY] at hg;subst hg
  simp[guardOf] at hb;simp[hb]
 |some jw=>
  obtain ⟨j,want⟩:=jw
  rw[hog] at hg
  simp only[pY] at hg
  split at hg
  ·rename_i d hd
   cases hg
   simp only[guardOf] at hb
   split at hb
   ·rename_i c hc
    cases hb
    have hr:=ht d (by simp only[names,hog,List.mem_append];right;simp[hd])
    rw[hc] at hr
    simp only[ah] at hr
    have hy:yielded ops a.tmps j=some c:=by
     unfold yielded
     rw[hd]
     simp only[Option.bind_some]
     have:a.tmps[d]? =some (.bool c):=by
      cases hk:a.tmps[d]? with
      |none=>simp[hk] at hr;simp[undef] at hr
      |some v=>simp[hk] at hr;rw[hr]
     rw[this]
    simp only[hy]
    cases c<;>cases want<;>rfl
   ·rename_i xs hc
    cases hb
    have hr:=ht d (by simp only[names,hog,List.mem_append];right;simp[hd])
    rw[hc] at hr
    simp only[ah] at hr
    have hy:yielded ops a.tmps j=none:=by
     unfold yielded
     rw[hd]
     simp only[Option.bind_some]
     cases hk:a.tmps[d]? with
     |none=>rfl
     |some v=>simp[hk] at hr;rw[hr]
    simp only[hy]
    cases want<;>rfl
   ·cases hb
  ·cases hg
theorem fp {o:Oper} {op:AOp} (h:cOp P o=some op):∀c,o.op≠ .defer c:=by
 intro c e
 unfold cOp at h
 rw[e] at h
 cases h
theorem nz {ro:Option Nat} {n:Nat} {f:FuncId} {args:Array Value} {w:World} {R:Ending→World→Prop} (h:Calls P f args w R):CallsIn (rd ro) n P f args w R:=by
 have h2:CallsIn Fence.wide n P f args w R:=callsIn_wide.2 h
 exact h2
theorem qV {ops:Array Oper} {i:Nat} {o:Oper} {it:aO} {t:Tm} {h h':H} {x:AV} {en:Ent} (ho:ops[i]? =some o) (hit:dn P N ops o=some it) (hg:guardOf t it.guard=some true) (hx:aop (ev t) h it.op=some (x,h',en)):
  ∃h1 h1',Touch h h1 h1' h' en∧iT P ops i o t h1 x h1':=by
 unfold dn at hit
 split at hit
 ·rename_i op g hop hgd
  split at hit<;>cases hit
  rename_i hcond
  simp only[Bool.and_eq_true] at hcond
  have hop:=iE hop (by rintro rfl;simp[aop] at hx)
  have hx':aop (ev (jh (names ops o) t)) h op=some (x,h',en):=by
   rw[vA (ku hcond.2)];exact hx
  obtain ⟨h1,h1',tc,loc⟩:=zr hop hx'
  refine ⟨h1,h1',tc,fun G w a ht R F K Q hK ro=>?_⟩
  obtain ⟨nx,v,w',G',e1,e2,T1,R1,V⟩:=loc G w a (fW ht) R F
  unfold wpOpIn
  rw[ho]
  simp only[dd hgd ht hg,if_true]
  refine ⟨fun _ _=>trivial,?_⟩
  rw[Oper.semAt_eq _ _ _ (fp hop),e1]
  rcases e2 with rfl|⟨rfl,rfl⟩
  ·rw[Oper.uponIn_value];exact hK G' w' v T1 R1 V
  ·rw[Oper.uponIn_skip];exact hK G' w' undef T1 R1 V
 ·cases hit
theorem s4 {ops:Array Oper} {i:Nat} {o:Oper} {it:aO} {t:Tm} {h:H} (ho:ops[i]? =some o) (hit:dn P N ops o=some it) (hg:guardOf t it.guard=some false):
  iT P ops i o t (H0 h.n h.m) (.sc undef) (H0 h.n h.m):=by
 unfold dn at hit
 split at hit
 ·rename_i op g hop hgd
  split at hit<;>cases hit
  intro G w a ht R F K Q hK ro
  unfold wpOpIn
  rw[ho]
  simp only[dd hgd ht hg,if_false,Bool.false_eq_true]
  refine ⟨fun _ _=>trivial,?_⟩
  exact hK G w undef (Trans.refl _ _ _) R (by simp[ah])
 ·cases hit
theorem xd {o:Oper} {f:FuncId} {l:List Opd} (h:cOp P o=some (.call f l)):∃c fn,o.op= .call c∧c.callee= .value (.func f)∧km P c.argTypes.toList c.args.toList=some l∧P.funcs[f]? =some fn∧fn.body.isSome=true∧fn.name≠ "runtime.NumGoroutine" :=by
 unfold cOp at h
 split at h
 case h_28 c hop=>
  split at h
  case h_8 f' hc=>
   split at h
   ·split at h
    ·rename_i fn hfn hcond
     simp only[Option.map_eq_some_iff] at h
     obtain ⟨l',h1,h2⟩:=h
     cases h2
     exact ⟨c,fn,hop,hc,h1,hfn,hcond.1,hcond.2⟩
    ·cases h
   ·cases h
  all_goals first
   |(cases h;done)
   |((repeat' split at h)<;>(try cases h)<;>simp at h)
 all_goals first
  |(cases h;done)
  |(simp at h;done)
  |((repeat' split at h)<;>(try cases h)<;>(try simp at h);done)
  |skip
theorem oZ {o:Oper} {y:Opd} {l:List Opd} (h:cOp P o=some (.callv y l)):∃c z,o.op= .call c∧c.callee= .value z∧opd P 0 z=some y∧km P c.argTypes.toList c.args.toList=some l:=by
 unfold cOp at h
 split at h
 case h_28 c hop=>
  split at h
  case h_9 z _ hc=>
   split at h
   ·rename_i a l' h1 h2
    cases h
    exact ⟨c,z,hop,hc,h1,h2⟩
   ·cases h
  all_goals first
   |(cases h;done)
   |((repeat' split at h)<;>(try cases h)<;>simp at h)
 all_goals first
  |(cases h;done)
  |(simp at h;done)
  |((repeat' split at h)<;>(try cases h)<;>(try simp at h);done)
theorem iF {f:FuncId} {fn:Func} {args:Array Value} (w:World) (hf:P.funcs[f]? =some fn) (hb:fn.body.isSome=true) (hn:fn.name≠ "runtime.NumGoroutine"):(callFunc f args).run P w= .ok (.enter f args) w:=by
 have hb':fn.body≠none:=by intro h;rw[h] at hb;cases hb
 simp[callFunc,hf,hn,hb']
theorem nA {o:Oper} {f:FuncId} {vals:List AV} {h1 h1':H} {r:AV} (hc:bn P f vals h1 r h1') {G:aI} {w:World} {a:Act} {vs:List Value} (hv:aq G w vals vs) (R:bf G h1 w) (F:dc G h1 h1') {K:Act→World→Prop} {Q:Exit→Act→World→Prop} {ro:Option Nat} (hd:∀c,o.op≠ .defer c)
  (hK:∀G' w' v,Trans G w h1 G' w' h1'→bf G' h1' w'→ah G' w' r v→K (a.put o.dst v) w') (hrun:(execOp a.eval o).run P w= .ok (.enter f vs.toArray) w):o.wpIn (rd ro) 0 P a w K Q:=by
 refine ⟨fun _ _=>trivial,?_⟩
 rw[Oper.semAt_eq _ _ _ hd,hrun,Oper.uponIn_enter]
 refine ⟨fun h=>by simp[rd,Fence.wide] at h,nz ?_⟩
 refine (hc G w vs hv R F).mono ?_
 rintro e w' ⟨v,G',rfl,T,R',V⟩
 exact hK G' w' v T R' V
theorem kv {ops:Array Oper} {i:Nat} {o:Oper} {it:aO} {t:Tm} {f:FuncId} {l:List Opd} {vals:List AV} {h1 h1':H} {r:AV} (ho:ops[i]? =some o) (hit:dn P N ops o=some it) (hg:guardOf t it.guard=some true) (hop:it.op= .call f l)
  (hs:af (l.map (ev t)) vals) (hc:bn P f vals h1 r h1'):iT P ops i o t h1 r h1':=by
 unfold dn at hit
 split at hit
 ·rename_i op g hcop hgd
  split at hit<;>cases hit
  rename_i hcond
  simp only[Bool.and_eq_true] at hcond
  simp only at hop
  subst hop
  have hcop:=iE hcop (by simp)
  obtain ⟨c,fn,e1,e2,e3,e4,e5,e6⟩:=xd hcop
  intro G w a ht R F K Q hK ro
  unfold wpOpIn
  rw[ho]
  simp only[dd hgd ht hg,if_true]
  have rr:=gq (P:=P) (fW ht) e3
  have el:l.map (ev (jh (names ops o) t))=l.map (ev t):=List.map_congr_left fun x hx=>ku hcond.2 x (by simpa [cE] using hx)
  rw[el] at rr
  refine nA hc (hs G w _ rr) R F (fp hcop) hK ?_
  have hargs:(c.args.map a.eval)=(c.args.toList.map a.eval).toArray:=by cases c.args;simp
  simp[execOp,e1,resolve,e2,Act.eval,Deferred.ofValue,invoke,hargs,iF w e4 e5 e6]
 ·cases hit
theorem mw {ops:Array Oper} {i:Nat} {o:Oper} {it:aO} {t:Tm} {f:FuncId} {fn:Func} {y:Opd} {l:List Opd} {first caps vals:List AV} {h1 h1':H} {r:AV} (ho:ops[i]? =some o) (hit:dn P N ops o=some it) (hg:guardOf t it.guard=some true) (hop:it.op= .callv y l)
  (hy:ev t y= .clo (.func f) first caps) (hf:P.funcs[f]? =some fn) (hb:fn.body.isSome=true) (hn:fn.name≠ "runtime.NumGoroutine")
  (hs:af (first++l.map (ev t)++caps) vals) (hc:bn P f vals h1 r h1'):iT P ops i o t h1 r h1':=by
 unfold dn at hit
 split at hit
 ·rename_i op g hcop hgd
  split at hit<;>cases hit
  rename_i hcond
  simp only[Bool.and_eq_true] at hcond
  simp only at hop
  subst hop
  have hcop:=iE hcop (by simp)
  obtain ⟨c,z,e1,e2,e3,e4⟩:=oZ hcop
  intro G w a ht R F K Q hK ro
  unfold wpOpIn
  rw[ho]
  simp only[dd hgd ht hg,if_true]
  have rr:=gq (P:=P) (fW ht) e4
  have rz:=aE (P:=P) e3 (fW ht)
  have hcut:=ku (t:=t) hcond.2
  have el:l.map (ev (jh (names ops o) t))=l.map (ev t):=List.map_congr_left fun x hx=>hcut x (by simp[cE,hx])
  rw[el] at rr
  rw[hcut y (by simp[cE]),hy] at rz
  simp only[ah] at rz
  obtain ⟨vs,us,q1,q2,q3⟩:=rz
  refine nA hc (hs G w _ ((q2.append rr).append q3)) R F (fp hcop) hK ?_
  have hargs:(c.args.map a.eval)=(c.args.toList.map a.eval).toArray:=by cases c.args;simp
  simp[execOp,e1,resolve,e2,q1,Deferred.ofValue,invoke,hargs,iF w hf hb hn]
 ·cases hit
def aa (P:Program) (N:Nat) (items:List aO) (t:Tm) (h:H) (log:List Ent) (K:Tm→H→List Ent→Prop):Prop:=
 ∀ops i,i≤ops.size→fj P N ops (ops.toList.drop i)=some items→
  ∃recs t' h',ka P ops i recs t h t' h'∧K t' h' (log.reverse++recs.map (·.en))∧∀(k:Nat) r it,recs[k]? =some r→items[k]? =some it→eW it.op=false→r.en=aH
theorem aa.nil {t:Tm} {h:H} {log:List Ent} {K:Tm→H→List Ent→Prop} (hk:K t h log.reverse):aa P N [] t h log K:=by
 intro ops i hi hc
 have:i=ops.size:=by
  cases hd:ops.toList.drop i with
  |nil=>have:=List.drop_eq_nil_iff.1 hd;simp at this;omega
  |cons o l=>
   rw[hd] at hc
   simp only[fj] at hc
   split at hc<;>simp at hc
 exact ⟨[],t,h,.nil this,by simpa using hk,by simp⟩
theorem gu {ops:Array Oper} {i:Nat} {it:aO} {its:List aO} (hi:i≤ops.size) (hc:fj P N ops (ops.toList.drop i)=some (it::its)):
  ∃o,ops[i]? =some o∧dn P N ops o=some it∧i+1≤ops.size∧fj P N ops (ops.toList.drop (i+1))=some its:=by
 cases hd:ops.toList.drop i with
 |nil=>rw[hd] at hc;simp[fj] at hc
 |cons o l=>
  rw[hd] at hc
  simp only[fj] at hc
  split at hc
  ·rename_i a r h1 h2
   cases hc
   have hlt:i<ops.toList.length:=by
    rcases Nat.lt_or_ge i ops.toList.length with h|h
    ·exact h
    ·rw[List.drop_eq_nil_of_le h] at hd;cases hd
   have e:=List.drop_eq_getElem_cons hlt
   rw[hd] at e
   obtain ⟨e1,e2⟩:=List.cons.inj e
   have hlt':i<ops.size:=by simpa using hlt
   refine ⟨o,?_,h1,by omega,by rw[←e2];exact h2⟩
   rw[Array.getElem?_eq_getElem hlt',e1];simp
  ·cases hc
theorem aa.step {it:aO} {its:List aO} {t:Tm} {h h' h1 h1':H} {x:AV} {en:Ent} {log:List Ent} {K:Tm→H→List Ent→Prop} (tc:Touch h h1 h1' h' en)
  (run:∀(ops:Array Oper) i o,ops[i]? =some o→dn P N ops o=some it→iT P ops i o t h1 x h1') (hen:eW it.op=false→en=aH)
  (rest:aa P N its (cL t it.dst x) h' (en::log) K):aa P N (it::its) t h log K:=by
 intro ops i hi hc
 obtain ⟨o,ho,hit,hi',hc'⟩:=gu hi hc
 obtain ⟨recs,t',hh',ch,hk,he⟩:=rest ops (i+1) hi' hc'
 have hdst:it.dst=o.dst:=by
  unfold dn at hit
  split at hit
  ·split at hit<;>cases hit;rfl
  ·cases hit
 refine ⟨⟨t,h,h1,h1',h',x,en⟩::recs,t',hh',.cons ho rfl rfl tc (run ops i o ho hit) (by rw[←hdst];exact ch),by simpa using hk,?_⟩
 intro k r it' hr hit' ht
 cases k with
 |zero=>simp at hr hit';subst hr hit';exact hen ht
 |succ k=>simp at hr hit';exact he k r it' hr hit' ht
theorem zu {ρ:Opd→AV} {h h':H} {op:AOp} {x:AV} {en:Ent} (ht:eW op=false) (hx:aop ρ h op=some (x,h',en)):en=aH∨∃n y,op= .load n y:=by
 cases op<;>simp[eW] at ht<;>simp only[aop] at hx<;>first
  |(simp only[Option.some.injEq,Prod.mk.injEq] at hx;exact .inl hx.2.2.symm)
  |(simp only[Option.map_eq_some_iff,Prod.mk.injEq] at hx;obtain ⟨_,_,_,_,h⟩:=hx;exact .inl h.symm)
  |((repeat' split at hx)<;>(first|(cases hx;done)|(cases hx;exact .inl rfl)|(simp only[Option.map_eq_some_iff,Prod.mk.injEq] at hx;obtain ⟨_,_,_,_,h⟩:=hx;exact .inl h.symm)|skip))
 all_goals simp_all
def dq:List aO→Tm→H→List Ent→List aO × Tm × H × List Ent
 |[],t,h,l=>([],t,h,l)
 |it::its,t,h,l=>match guardOf t it.guard with
  |some true=>(match aop (ev t) h it.op with
   |some (x,h',en)=>dq its (cL t it.dst x) h' (en::l)
   |none=>(it::its,t,h,l))
  |some false=>dq its (cL t it.dst (.sc undef)) h (aH::l)
  |none=>(it::its,t,h,l)
theorem aa.ug {b:List aO}:∀{items its:List aO} {t t':Tm} {h h':H} {log log':List Ent} {K:Tm→H→List Ent→Prop},dq items t h log=(its,t',h',log')→aa P N (its++b) t' h' log' K→aa P N (items++b) t h log K
 |[],its,t,t',h,h',log,log',K,he,hw=>by simp only[dq,Prod.mk.injEq] at he;obtain ⟨rfl,rfl,rfl,rfl⟩:=he;exact hw
 |it::items,its,t,t',h,h',log,log',K,he,hw=>by
  simp only[dq] at he
  split at he
  ·rename_i hg
   split at he
   ·rename_i x h2 en hx
    have rest:=aa.ug he hw
    intro ops i hi hc
    obtain ⟨o,ho,hit,hi',hc'⟩:=gu hi hc
    obtain ⟨h1,h1',tc,run⟩:=qV ho hit hg hx
    obtain ⟨recs,t',hh',ch,hk,hen⟩:=rest ops (i+1) hi' hc'
    have hdst:it.dst=o.dst:=by
     unfold dn at hit
     split at hit
     ·split at hit<;>cases hit;rfl
     ·cases hit
    refine ⟨⟨t,h,h1,h1',h2,x,en⟩::recs,t',hh',.cons ho rfl rfl tc run (by rw[←hdst];exact ch),by simpa using hk,?_⟩
    intro k r it' hr hit' ht
    cases k with
    |zero=>
     simp at hr hit';subst hr hit'
     rcases zu ht hx with h|⟨n,y,h⟩
     ·exact h
     ·rw[h] at ht;simp[eW] at ht
    |succ k=>simp at hr hit';exact hen k r it' hr hit' ht
   ·simp only[Prod.mk.injEq] at he;obtain ⟨rfl,rfl,rfl,rfl⟩:=he;exact hw
  ·rename_i hg
   have rest:=aa.ug he hw
   exact aa.step (dT h) (fun ops i o ho hit=>s4 ho hit hg) (fun _=>rfl) rest
  ·simp only[Prod.mk.injEq] at he;obtain ⟨rfl,rfl,rfl,rfl⟩:=he;exact hw
theorem aa.eval {items its:List aO} {t t':Tm} {h h':H} {log log':List Ent} {K:Tm→H→List Ent→Prop} (he:dq items t h log=(its,t',h',log')) (hw:aa P N its t' h' log' K):aa P N items t h log K:=by
 have:=aa.ug (b:=[]) he (by rw[List.append_nil];exact hw)
 rwa [List.append_nil] at this
theorem aa.part (k:Nat) {items:List aO} {t t':Tm} {h h':H} {log log':List Ent} {K:Tm→H→List Ent→Prop} (he:dq (items.take k) t h log=([],t',h',log')) (hw:aa P N (items.drop k) t' h' log' K):aa P N items t h log K:=by
 have:=aa.ug (b:=items.drop k) he (by rw[List.nil_append];exact hw)
 rwa [List.take_append_drop] at this
theorem aa.bF {dst:Option Nat} {g:Option (Nat × Bool)} {f:FuncId} {l:List Opd} {its:List aO} {t:Tm} {h:H} {log:List Ent} {K:Tm→H→List Ent→Prop} {vals:List AV} {r:AV} (hg:guardOf t g=some true) (hs:af (l.map (ev t)) vals) (hc:aA P f vals r)
  (rest:aa P N its (cL t dst r) h (aH::log) K):aa P N (⟨dst,g,.call f l⟩::its) t h log K:=
 aa.step (dT h) (fun ops i o ho hit=>kv ho hit hg rfl hs (hc h.n h.m)) (fun _=>rfl) rest
theorem aa.lF {dst:Option Nat} {g:Option (Nat × Bool)} {f:FuncId} {fn:Func} {y:Opd} {l:List Opd} {its:List aO} {t:Tm} {h:H} {log:List Ent} {K:Tm→H→List Ent→Prop} {first caps vals:List AV} {r:AV} (hg:guardOf t g=some true) (hy:ev t y= .clo (.func f) first caps)
  (hf:P.funcs[f]? =some fn) (hb:fn.body.isSome=true) (hn:fn.name≠ "runtime.NumGoroutine") (hs:af (first++l.map (ev t)++caps) vals) (hc:aA P f vals r)
  (rest:aa P N its (cL t dst r) h (aH::log) K):aa P N (⟨dst,g,.callv y l⟩::its) t h log K:=
 aa.step (dT h) (fun ops i o ho hit=>mw ho hit hg rfl hy hf hb hn hs (hc h.n h.m)) (fun _=>rfl) rest
theorem aa.eR {dst:Option Nat} {g:Option (Nat × Bool)} {f:FuncId} {l:List Opd} {its:List aO} {t:Tm} {h h' h1 h1':H} {log:List Ent} {en:Ent} {K:Tm→H→List Ent→Prop} {vals:List AV} {r:AV} (hg:guardOf t g=some true) (hs:af (l.map (ev t)) vals) (hc:bn P f vals h1 r h1')
  (tc:Touch h h1 h1' h' en) (rest:aa P N its (cL t dst r) h' (en::log) K):aa P N (⟨dst,g,.call f l⟩::its) t h log K:=
 aa.step tc (fun ops i o ho hit=>kv ho hit hg rfl hs hc) (fun h=>by simp[eW] at h) rest
end
end Go.Av
end
section
namespace Go.Av
section
variable {P:Program} {N:Nat}
def rowOf (acc:Array Nat) (o:Oper):Nat:=o.after.foldl (fun s e=>if Region.binds .any e then s ||| 2^e.on ||| acc.getD e.on 0 else s) 0
theorem vB {acc:Array Nat} {o:Oper} {j:Nat} (h:(rowOf acc o).testBit j=true):∃e∈o.after,Region.binds .any e=true∧(j=e.on∨(acc.getD e.on 0).testBit j=true):=by
 have key:∀(l:List Edge) (s:Nat),(l.foldl (fun s e=>if Region.binds .any e then s ||| 2^e.on ||| acc.getD e.on 0 else s) s).testBit j=true→s.testBit j=true∨∃e∈l,Region.binds .any e=true∧(j=e.on∨(acc.getD e.on 0).testBit j=true):=by
  intro l
  induction l with
  |nil=>intro s h;exact .inl h
  |cons e l ih=>
   intro s h
   rcases ih _ h with h|⟨e',h1,h2⟩
   ·by_cases hb:Region.binds .any e=true
    ·simp only[hb,if_true,Nat.testBit_or,Bool.or_eq_true] at h
     rcases h with (h|h)|h
     ·exact .inl h
     ·rw[Nat.testBit_two_pow] at h
      exact .inr ⟨e,by simp,hb,.inl (by simpa using h.symm:e.on=j).symm⟩
     ·exact .inr ⟨e,by simp,hb,.inr h⟩
    ·simp only[hb,if_false,Bool.false_eq_true] at h
     exact .inl h
   ·exact .inr ⟨e',by simp[h1],h2⟩
 unfold rowOf at h
 rw[←Array.foldl_toList] at h
 rcases key _ _ h with h|⟨e,h1,h2⟩
 ·simp at h
 ·exact ⟨e,by simpa using h1,h2⟩
theorem qW (ops:Array Oper):∀(i:Nat) o,ops[i]? =some o→∀j,fT ops j i=true→∃e∈o.after,Region.binds .any e=true∧(j=e.on∨fT ops j e.on=true):=by
 have key:∀(l:List Oper) (acc:Array Nat),let B:=l.foldl (fun acc o=>acc.push (rowOf acc o)) acc
   (B.size=acc.size+l.length)∧(∀k,k<acc.size→B.getD k 0=acc.getD k 0)∧∀k o,l[k]? =some o→∀j,(B.getD (acc.size+k) 0).testBit j=true→∃e∈o.after,Region.binds .any e=true∧(j=e.on∨(B.getD e.on 0).testBit j=true):=by
  intro l
  induction l with
  |nil=>intro acc;simp
  |cons o l ih=>
   intro acc
   obtain ⟨a1,a2,a3⟩:=ih (acc.push (rowOf acc o))
   simp only[List.foldl_cons]
   refine ⟨by rw[a1];simp;omega,fun k hk=>?_,fun k o' ho' j hj=>?_⟩
   ·rw[a2 k (by simp;omega)]
    simp[Array.getElem?_push,hk]
    rw[if_neg (by omega)];rfl
   ·cases k with
    |zero=>
     simp at ho';subst ho'
     rw[a2 _ (by simp)] at hj
     simp at hj
     obtain ⟨e,h1,h2⟩:=vB hj
     refine ⟨e,h1,h2.1,h2.2.imp (fun z=>z) fun h=>?_⟩
     have hlt:e.on<acc.size:=by
      rcases Nat.lt_or_ge e.on acc.size with h'|h'
      ·exact h'
      ·simp[h'] at h
     rw[a2 _ (by simp;omega)]
     simp only[Array.getD_eq_getD_getElem?,Array.getElem?_push] at h ⊢
     rw[if_neg (by omega)];exact h
    |succ k=>
     simp at ho'
     have:=a3 k o' ho' j (by simpa [Nat.add_assoc,Nat.add_comm 1 k] using hj)
     exact this
 obtain ⟨a1,a2,a3⟩:=key ops.toList #[]
 have hB:Region.before ops=ops.toList.foldl (fun acc o=>acc.push (rowOf acc o)) #[]:=by
  unfold Region.before
  rw[←Array.foldl_toList]
  rfl
 intro i o ho j hj
 unfold fT at hj ⊢
 rw[hB] at hj ⊢
 exact a3 i o (by simpa using ho) j (by simpa using hj)
theorem zy {ops:Array Oper} (h:tidy ops=true):Tidy ops:=by
 unfold tidy at h
 simp only[Bool.and_eq_true,List.all_eq_true] at h
 obtain ⟨h1,h2⟩:=h
 have hm:∀(i:Nat) o,ops[i]? =some o→(o,i)∈ops.toList.zipIdx:=by
  intro i o ho
  rw[List.mem_iff_getElem?]
  exact ⟨i,by simp[List.getElem?_zipIdx,ho]⟩
 constructor
 ·intro i o ho e he hbd
  have:=h1 (o,i) (hm i o ho)
  rw[Array.all_eq_true_iff_forall_mem] at this
  have:=this e he
  simpa [hbd] using this
 ·exact qW ops
 ·intro i j o o' ho ho' hne d hd hn
  have:=h2 (o,i) (hm i o ho)
  simp only[hd,List.all_eq_true] at this
  have:=this (o',j) (hm j o' ho')
  simp only[Bool.or_eq_true,Bool.not_eq_true',beq_iff_eq] at this
  rcases this with ((h|h)|h)|h
  ·exact absurd h hne
  ·have h3:(names ops o').contains d=true:=by simpa using hn
   rw[h3] at h;cases h
  ·exact .inl h
  ·exact .inr h
def au:List (Nat × Nat)→List Ent→Prop
 |[],_=>True
 |(i,j)::l,log=>apart (log.getD i aH) (log.getD j aH)∧au l log
theorem my:∀{l:List (Nat × Nat)} {log:List Ent},au l log→∀{i j:Nat},(i,j)∈l→apart (log.getD i aH) (log.getD j aH)
 |(a,b)::l,log,h,i,j,hm=>by
  rcases List.mem_cons.1 hm with e|hm
  ·cases e;exact h.1
  ·exact my h.2 hm
theorem nB (e:Ent):apart aH e∧apart e aH:=by
 constructor
 ·exact ⟨fun id h=>by simp[aH] at h,fun id h=>by simp[aH],fun t h=>by simp[aH] at h⟩
 ·exact ⟨fun id h=>by simp[aH],fun id h=>by simp[aH] at h,fun t h=>by simp[aH]⟩
def ay (p:Option (List (Nat × Nat))) (log:List Ent):Prop:=
 match p with
 |none=>True
 |some l=>au l log
theorem kx {ops:Array Oper}:∀{l:List Oper} {items:List aO},fj P N ops l=some items→items.length=l.length∧∀(k:Nat) o it,l[k]? =some o→items[k]? =some it→dn P N ops o=some it
 |[],items,h=>by simp[fj] at h;subst h;simp
 |o::l,items,h=>by
  simp only[fj] at h
  split at h
  ·rename_i a r h1 h2
   cases h
   obtain ⟨e1,e2⟩:=kx h2
   refine ⟨by simp[e1],fun k o' it ho hit=>?_⟩
   cases k with
   |zero=>simp at ho hit;subst ho hit;exact h1
   |succ k=>simp at ho hit;exact e2 k o' it ho hit
  ·cases h
theorem qX {code:Code} {items:List aO} {p:Option (List (Nat × Nat))} (h:cCode P N code=some (.reg items p)):
  ∃id ops draw,code= .region id ops draw∧fj P N ops ops.toList=some items∧((draw=false∧p=none)∨(draw=true∧P.follows .mixedOrders=true∧tidy ops=true∧p=some (pZ ops items))):=by
 cases code<;>simp only[cCode] at h<;>(try cases h)
 ·split at h
  ·rename_i id ops draw _ items' hi
   split at h
   ·split at h<;>cases h
    rename_i hd hcond
    simp only[Bool.and_eq_true] at hcond
    exact ⟨_,_,_,rfl,hi,.inr ⟨hd,hcond.1,hcond.2,rfl⟩⟩
   ·cases h
    rename_i hd
    exact ⟨_,_,_,rfl,hi,.inl ⟨by simpa using hd,rfl⟩⟩
  ·cases h
 all_goals first|((repeat' split at h)<;>cases h;done)|(simp at h;done)
theorem iG (G:aI) (w w':World) (h:H) (e1:w'.heap=w.heap) (e2:w'.os=w.os) (e3:w'.output=w.output):Trans G w h G w' h where
 dom_le _ x:=x
 dom_new _ x:= .inl x
 ι_eq _ _:=rfl
 tdom_le _ x:=x
 tdom_new _ x:= .inl x
 τ_eq _ _:=rfl
 n_le:=Nat.le_refl _
 m_le:=Nat.le_refl _
 size_le:=by rw[e1];exact Nat.le_refl _
 os:=e2
 output:=e3
 form B _:=by rw[e1];exact bE.refl _
 keep _ _ _ _:=by rw[e1]
 own_keep _ _ _:=Iff.rfl
 lim_keep _ _ _ _:=rfl
 tok_keep _ _ _ _ e he:=⟨fun _ _=>iB e1 _,fun e' he'=>by rw[he] at he';cases he';exact Nat.le_refl _⟩
 O_new _ _ x:=x
 T_new _ _ x:=x
 objs_new _ o x:= .inl ⟨o,x⟩
 toks_new _ x:= .inl x
theorem bf.draw {G:aI} {w w':World} {h:H} (R:bf G h w) (e1:w'.heap=w.heap) (e2:w'.os=w.os) (e3:w'.output=w.output):bf G h w' where
 obj id o ho:=by
  obtain ⟨a,b,c,d⟩:=R.obj id o ho
  exact ⟨a,b,by rw[e1];exact c,by rw[e1];exact d.mono R (iG G w w' h e1 e2 e3)⟩
 inj:=R.inj
 tok t ht:=⟨(R.tok t ht).1,fun B e he=>by rw[e1];exact (R.tok t ht).2 B e he⟩
 tinj:=R.tinj
theorem Wp.reg {items:List aO} {p:Option (List (Nat × Nat))} {s:St} {Q:aP→St→Prop} (h:aa P N items s.t s.h [] fun t' h' log=>ay p log∧Q .normal ⟨t',h'⟩):Wp P N (.reg items p) s Q:=by
 intro code hc
 obtain ⟨id,ops,draw,rfl,hi,hd⟩:=qX hc
 obtain ⟨recs,t',h',ch,⟨hp,hq⟩,hen⟩:=h ops 0 (Nat.zero_le _) (by simpa using hi)
 simp only[List.reverse_nil,List.nil_append] at hp
 obtain ⟨nm,-,-⟩:=kL ch
 obtain ⟨cl,ci⟩:=kx hi
 have hN:∀(i:Nat) o d,ops[i]? =some o→o.dst=some d→d<N:=by
  intro i o d ho hdd
  have hlt:i<ops.size:=(Array.getElem?_eq_some_iff.1 ho).1
  have hit:i<items.length:=by rw[cl];simpa using hlt
  have:=ci i o items[i] (by simpa using ho) (List.getElem?_eq_getElem hit)
  generalize items[i]=it at this
  unfold dn at this
  split at this
  ·split at this<;>cases this
   rename_i hcond
   simp only[Bool.and_eq_true] at hcond
   have:=hcond.1
   rw[hdd] at this
   simpa using this
  ·cases this
 refine ⟨.normal,⟨t',h'⟩,⟨nm,fun ro okc G w a r F=>?_⟩,hq⟩
 rcases hd with ⟨rfl,rfl⟩|⟨rfl,hm,ht,rfl⟩
 ·refine wpIn_region ?_
  rw[List.range_eq_range']
  have:=oX ro (Q:=fun e' a' w'=>aP.normal.ey e'∧kM w a.defers a'.defers∧∃G',Trans G w s.h G' w' h'∧Rel N ⟨t',h'⟩ G' w' a') hN ch G w a r.size r.t r.h F
   (fun G' w' a' T1 t1 R1 s1 d1=>⟨trivial,by rw[d1];exact .refl,G',T1,⟨s1,t1,R1,by rw[d1];exact r.df.mono T1⟩⟩)
  simpa using this
 ·refine wpIn_region_any hm ?_
  obtain ⟨a1,a2,-⟩:=jf ch
  rw[Nat.zero_add] at a1
  have ap:∀i j,i<j→j<ops.size→fT ops i j=false→apart (recs.getD i eK).en (recs.getD j eK).en:=by
   intro i j hij hj hanc
   have hir:i<recs.length:=by omega
   have hjr:j<recs.length:=by omega
   have hii:i<items.length:=by rw[cl];simp;omega
   have hjj:j<items.length:=by rw[cl];simp;omega
   have ei:(recs.getD i eK).en=(recs.map (·.en)).getD i aH:=by simp[List.getD,List.getElem?_eq_getElem hir]
   have ej:(recs.getD j eK).en=(recs.map (·.en)).getD j aH:=by simp[List.getD,List.getElem?_eq_getElem hjr]
   have gi:(recs.getD i eK)=recs[i]:=by simp[List.getD,List.getElem?_eq_getElem hir]
   have gj:(recs.getD j eK)=recs[j]:=by simp[List.getD,List.getElem?_eq_getElem hjr]
   by_cases ti:eW items[i].op=true
   ·by_cases tj:eW items[j].op=true
    ·rw[ei,ej]
     refine my hp ?_
     unfold pZ
     simp only[List.mem_flatMap,List.mem_range,List.mem_filterMap]
     refine ⟨j,hj,i,hij,?_⟩
     unfold fT at hanc
     simp[List.getElem?_eq_getElem hii,List.getElem?_eq_getElem hjj,ti,tj]
     simpa using hanc
    ·rw[gj,hen j _ _ (List.getElem?_eq_getElem hjr) (List.getElem?_eq_getElem hjj) (by simpa using tj)]
     exact (nB _).2
   ·rw[gi,hen i _ _ (List.getElem?_eq_getElem hir) (List.getElem?_eq_getElem hii) (by simpa using ti)]
    exact (nB _).1
  let w1:World:={w with drawn:=w.drawn+1}
  have hz:∀k,(Array.replicate ops.size false).getD k false=false:=by intro k;simp[Array.getElem?_replicate];split<;>rfl
  have hz':(fun k=>(Array.replicate ops.size false).getD k false)=fun _=>false:=funext hz
  have vz:∀{β:Type} (u:Nat→Option β) (n:Nat) (v:β),val u (fun _=>false) n v=v:=by
   intro β u n v
   induction n with
   |zero=>rfl
   |succ n ih=>simp only[val,Bool.false_eq_true,if_false,ih]
  have R1:bf G s.h w1:=r.h.draw rfl rfl rfl
  have hk:∀t,t∈(HS recs s.h ops.size h'.n h'.m (fun _=>false)).toks↔t∈s.h.toks:=by
   intro t;rw[ny a1.symm,vz];simp
  have ho:(HS recs s.h ops.size h'.n h'.m (fun _=>false)).objs=s.h.objs:=by
   funext id;simp only[HS];rw[vz]
  refine vr ro (N:=N) (G0:=G) (w0:=w1) (a0:=a) hN (zy ht) ch ap R1 F ?_ ops.size (Array.replicate ops.size false) G w1 a (by simp) ?_ ?_ r.size rfl ?_ ?_ ?_ ?_ ?_
  ·intro G' w' a' T1 t1 R1' s1 d1
   exact ⟨trivial,by rw[d1];exact .refl,G',(iG G w w1 s.h rfl rfl rfl).trans r.h R1 T1,⟨s1,t1,R1',by rw[d1];exact r.df.mono ((iG G w w1 s.h rfl rfl rfl).trans r.h R1 T1)⟩⟩
  ·unfold count
   exact Nat.le_trans (List.length_filter_le _ _) (by simp)
  ·rw[hz'];intro i o _ h;cases h
  ·rw[hz'];intro d;rw[vz];exact ah.mono r.h (iG G w w1 s.h rfl rfl rfl) _ _ (r.t d)
  ·rw[hz'];exact R1.same ho fun t x=>(hk t).1 x
  ·rw[hz']
   exact (Trans.refl G w1 s.h).same rfl (fun _=>Iff.rfl) ho hk (Nat.le_refl _) nm.1 nm.1 (Nat.le_refl _) nm.2 nm.2
  ·exact fun id x=> .inl x
  ·exact fun id x=> .inl x
def gv (args:List AV):Tm:=fun i=>args.getD i .any
inductive RV where
 |tmp (d:Nat)
 |cell (d:Nat) (n:Option Nat)
def Bo (P:Program):ResultVar→Option RV
 | .tmp t=>some (.tmp t)
 | .cell a t=>if (P.info? t).isSome∧(P.underlying t).isSome then some (.cell a (if bW P t then some (P.cellsOf t) else none)) else none
def nC (P:Program):List ResultVar→Option (List RV)
 |[]=>some []
 |r::l=>match Bo P r,nC P l with
  |some a,some m=>some (a::m)
  |_,_=>none
def rv (t:Tm) (h:H):RV→Option AV
 | .tmp d=>some (t d)
 | .cell d n=>match t d with
  | .ptr id off=>match h.objs id with
   |some (.cells cs)=>part off n cs
   |_=>none
  |_=>none
def rvs (t:Tm) (h:H):List RV→Option (List AV)
 |[]=>some []
 |r::l=>match rv t h r,rvs t h l with
  |some a,some m=>some (a::m)
  |_,_=>none
def bR (ds:List RV) (t:Tm) (h:H):Option AV:=
 match rvs t h ds with
 |some [x]=>some x
 |some l=>some (.tup l)
 |none=>none
def gw:aP→Prop
 | .normal| .ret=>True
 |_=>False
theorem xe {G:aI} {w:World} {n:Nat}:∀{args:List AV} {vs:List Value},aq G w args vs→cD G w (gv args) {tmps:=vs.toArray++Array.replicate n undef,defers:=[]}:=by
 intro args vs h i
 unfold gv
 by_cases hi:i<args.length
 ·obtain ⟨v,h1,h2⟩:=h.get (i:=i) (x:=args[i]) (List.getElem?_eq_getElem hi)
  have e:((vs.toArray++Array.replicate n undef).getD i undef)=v:=by
   have hlt:i<vs.length:=by rw[h.length];exact hi
   rw[List.getElem?_eq_getElem hlt] at h1
   simp[Array.getElem?_append,hlt]
   exact Option.some.inj h1
  rw[e]
  simpa [List.getD,List.getElem?_eq_getElem hi] using h2
 ·have:args.getD i .any= .any:=by simp[List.getD,List.getElem?_eq_none (Nat.le_of_not_lt hi)]
  rw[this];simp[ah]
theorem uh {G:aI} {w:World} {t:Tm} {h:H} {a:Act} (ht:cD G w t a) (R:bf G h w):∀{l:List ResultVar} {ds:List RV} {xs:List AV},nC P l=some ds→rvs t h ds=some xs→
  ∃vs,(l.mapM (fun| .tmp t=>pure (a.tmps.getD t undef)| .cell b t=>do loadVar t (←asAddr (a.tmps.getD b undef)):ResultVar→Sem Value)).run P w= .ok vs w∧aq G w xs vs
 |[],ds,xs,h1,h2=>by
  simp[nC] at h1;subst h1
  simp[rvs] at h2;subst h2
  exact ⟨[],by simp,.nil⟩
 |r::l,ds,xs,h1,h2=>by
  simp only[nC] at h1
  split at h1
  ·rename_i d ds' e1 e2
   cases h1
   simp only[rvs] at h2
   split at h2
   ·rename_i x xs' e3 e4
    cases h2
    obtain ⟨vs,g1,g2⟩:=uh ht R e2 e4
    cases r with
    |tmp k=>
     simp[Bo] at e1;subst e1
     simp[rv] at e3;subst e3
     refine ⟨a.tmps.getD k undef::vs,?_,.cons (ht k) g2⟩
     simp only[List.mapM_cons,Sem.run_bind,Sem.run_pure,Result.andThen_ok,g1]
    |cell k ty=>
     simp only[Bo] at e1
     split at e1
     ·rename_i hc
      cases e1
      simp only[rv] at e3
      split at e3
      ·rename_i id off hk
       split at e3
       ·rename_i cs ho
        have r1:=ht k
        rw[hk] at r1
        simp only[ah] at r1
        obtain ⟨vs0,rest0,T,fr,hg,hvs,-⟩:=ib R ho
        have hcell:∀j v,vs0[j]? =some v→w.cell? ⟨G.ι id,j,none⟩=some v:=by
         intro j v hj
         have hj':j<vs0.length:=(List.getElem?_eq_some_iff.1 hj).1
         unfold World.cell?;simp only[hg];simpa [List.getElem?_append_left hj'] using hj
        have hl:∃v,(loadVar ty ⟨G.ι id,off,none⟩).run P w= .ok v w∧ah G w x v:=by
         rcases kp hvs e3 with ⟨e,v,q1,q2⟩|⟨m,e,q1,q2⟩
         ·have hagg:bW P ty=false:=by cases hh:bW P ty<;>simp[hh] at e ⊢
          exact ⟨v,ia P w ty _ v hc.2 hagg (hcell _ _ q1),q2⟩
         ·have hagg:bW P ty=true:=by cases hh:bW P ty<;>simp[hh] at e ⊢
          have hm:m=P.cellsOf ty:=by simpa [hagg] using e.symm
          refine ⟨_,gP P w ty (G.ι id) off ((vs0.drop off).take m) hc.1 hc.2 hagg (by simp[hm] at q1 ⊢;omega) (fun j v hj=>hcell _ _ (by
           rw[List.getElem?_take] at hj
           split at hj
           ·simpa [List.getElem?_drop] using hj
           ·cases hj)),q2⟩
        obtain ⟨v,q1,q2⟩:=hl
        refine ⟨v::vs,?_,.cons q2 g2⟩
        have ha:(asAddr (a.tmps.getD k undef)).run P w= .ok ⟨G.ι id,off,none⟩ w:=by rw[r1.2];rfl
        simp only[List.mapM_cons,Sem.run_bind,ha,Sem.run_pure,Result.andThen_ok,q1,g1]
       ·cases e3
      ·cases e3
     ·cases e1
   ·cases h2
  ·cases h1
theorem qY {fn:Func} {ds:List RV} {G:aI} {w:World} {t:Tm} {h:H} {a:Act} {x:AV} (hr:nC P fn.results.toList=some ds) (ht:cD G w t a) (R:bf G h w) (hx:bR ds t h=some x):∃v,(results fn a.tmps).run P w= .ok v w∧ah G w x v:=by
 unfold bR at hx
 have hxs:∃xs,rvs t h ds=some xs∧((∃y,xs=[y]∧x=y)∨(xs.length≠1∧x= .tup xs)):=by
  split at hx
  ·rename_i y e;cases hx;exact ⟨_,e,.inl ⟨_,rfl,rfl⟩⟩
  ·rename_i l hne e
   cases hx
   refine ⟨_,e,.inr ⟨fun hl=>?_,rfl⟩⟩
   obtain ⟨y,rfl⟩:=List.length_eq_one_iff.1 hl
   exact hne y rfl
  ·cases hx
 obtain ⟨xs,e,hc⟩:=hxs
 obtain ⟨vs,g1,g2⟩:=uh (P:=P) ht R hr e
 have hm':(fn.results.mapM (fun| .tmp t=>pure (a.tmps.getD t undef)| .cell b t=>do loadVar t (←asAddr (a.tmps.getD b undef)):ResultVar→Sem Value)).run P w= .ok vs.toArray w:=by
  rw[Array.mapM_eq_mapM_toList]
  simp only[Sem.run_map,g1,Result.andThen_ok]
 have key:(results fn a.tmps).run P w= .ok (if h:vs.toArray.size=1 then vs.toArray[0] else .tuple vs.toArray) w:=by
  unfold results
  rw[Sem.run_bind]
  exact congrArg (fun x:Result (Array Value)=>x.andThen fun vs w'=>(Pure.pure (if h:vs.size=1 then vs[0] else .tuple vs):Sem Value).run P w') hm'
 rw[key]
 have hl:=g2.length
 rcases hc with ⟨y,rfl,rfl⟩|⟨hn,rfl⟩
 ·simp only[aq] at g2
  obtain ⟨v,us,rfl,q1,rfl⟩:=g2
  exact ⟨v,by simp,q1⟩
 ·have:¬vs.toArray.size=1:=by simp;omega
  rw[dif_neg this]
  refine ⟨_,rfl,?_⟩
  simp only[ah]
  exact ⟨vs,rfl,g2⟩
theorem dO.results {D:Nat} {w:World} (h:w.heap[D]? =some (.deferred (some []))):dO D w (w.putObj D (.deferred none)):=
 ⟨by simp,fun B hB=>World.putObj_heap_other hB,fun c T fr e=>absurd (h.symm.trans e) (by simp),rfl,rfl⟩
theorem p5 {F:Fence} {n:Nat} {fn:Func} {tmps:Array Value} {R:Ending→World→Prop} (Ds:Nat→Prop) (I:World→Prop)
  (hI:∀w D,Ds D→I w→w.heap[D]? =some (.deferred (some []))→I (w.putObj D (.deferred none))) (hend:∀w,I w→∃v,(results fn tmps).run P w= .ok v w∧R (.returned v) w):
  ∀(l:List Deferred) (w:World),l.Nodup→(∀d∈l,∃D,Ds D∧d= {target:= .collected D,args:= #[]}∧w.heap[D]? =some (.deferred (some [])))→I w→LeavesInM F n P fn tmps R l .returning w:=by
 intro l
 induction l with
 |nil=>intro w _ _ hi;exact hend w hi
 |cons d l ih=>
  intro w hn hm hi
  obtain ⟨D,h1,h2,h3⟩:=hm d (by simp)
  refine ⟨by simp,.inl ⟨D,_,by rw[h2],run_takeDeferred h3,ih _ (List.nodup_cons.1 hn).2 (fun d' hd'=>?_) (hI w D h1 hi h3)⟩⟩
  obtain ⟨D',k1,k2,k3⟩:=hm d' (by simp[hd'])
  refine ⟨D',k1,k2,?_⟩
  rw[World.putObj_heap_other ?_]
  ·exact k3
  ·rintro rfl
   exact (List.nodup_cons.1 hn).1 (by rw[h2,←k2];exact hd')
theorem vC {f:FuncId} {fn:Func} {code:Code} {ac:AC} {args:List AV} {h:H} {ds:List RV} {Q:AV→H→Prop} (hf:P.funcs[f]? =some fn) (hb:fn.body=some code) (hc:cCode P fn.ntmps code=some ac) (hr:nC P fn.results.toList=some ds) (hl:args.length≤fn.ntmps)
  (hw:Wp P fn.ntmps ac ⟨gv args,h⟩ fun e s'=>gw e∧∃r,bR ds s'.t s'.h=some r∧Q r s'.h):∃r h',bn P f args h r h'∧Q r h':=by
 obtain ⟨e,s',run,he,r,hres,hq⟩:=hw code hc
 refine ⟨r,s'.h,?_,hq⟩
 intro G w vs hv R F
 have hlen:=hv.length
 refine callsIn_wide.1 (callsIn_of_wp_marks (F:=rd none) (n:=0) hf hb trivial (wpIn_mono (run.2 none (.inl rfl) G w _ ⟨?_,xe hv,R,⟨by simp,by simp⟩⟩ F) ?_) rfl)
 ·simp;omega
 ·rintro e' a' w' ⟨h1,h2,G',T,r'⟩
  have key:LeavesInM (rd none) 0 P fn a'.tmps (fun e w'=>∃v G',e= .returned v∧Trans G w h G' w' s'.h∧bf G' s'.h w'∧ah G' w' r v) a'.defers .returning w':=by
   refine p5 (fun D=>w.heap.size≤D∧¬s'.h.O G' D∧¬s'.h.T G' D) (fun w2=>Trans G w h G' w2 s'.h∧bf G' s'.h w2∧cD G' w2 s'.t a') ?_ ?_ _ _ r'.df.1 ?_ ⟨T,r'.h,r'.t⟩
   ·rintro w2 D ⟨d1,d2,d3⟩ ⟨T2,R2,t2⟩ hD
    have tu:=dO.results hD
    exact ⟨T2.aZ tu d1,R2.aZ tu d2,fun i=>ah.aZ tu _ _ (t2 i)⟩
   ·rintro w2 ⟨T2,R2,t2⟩
    obtain ⟨v,q1,q2⟩:=qY (P:=P) hr t2 R2 hres
    exact ⟨v,q1,v,G',rfl,T2,R2,q2⟩
   ·intro d hd
    obtain ⟨D,e,k1,k2,k3⟩:=r'.df.2 d hd
    rcases h2 d hd with h|⟨D',k4,e'⟩
    ·simp at h
    ·rw[e] at e'
     simp only[Deferred.mk.injEq,Target.collected.injEq,and_true] at e'
     subst e'
     exact ⟨D,⟨k4,k2,k3⟩,e,k1⟩
  cases e<;>cases e'<;>simp only[aP.ey,gw] at h1 he<;>exact key
def aM (P:Program) (f:FuncId) (N:Nat) (ac:AC) (ds:List RV):Prop:=∃fn,P.funcs[f]? =some fn∧fn.ntmps=N∧fn.body.bind (cCode P N)=some ac∧nC P fn.results.toList=some ds
theorem aM.iH {f:FuncId} {ac:AC} {args:List AV} {h:H} {ds:List RV} {Q:AV→H→Prop} (hF:aM P f N ac ds) (hl:args.length≤N) (hw:Wp P N ac ⟨gv args,h⟩ fun e s'=>gw e∧∃r,bR ds s'.t s'.h=some r∧Q r s'.h):∃r h',bn P f args h r h'∧Q r h':=by
 obtain ⟨fn,h1,h2,h3,h4⟩:=hF
 subst h2
 obtain ⟨code,hb,hc⟩:=Option.bind_eq_some_iff.1 h3
 exact vC h1 hb hc h4 hl hw
def ui (x:AV):Prop:=∀G G' w v,G'.own=G.own→G'.lim=G.lim→ah G w x v→ah G' w x v
def p6 (l:List AV):Prop:=∀G G' w vs,G'.own=G.own→G'.lim=G.lim→aq G w l vs→aq G' w l vs
theorem bn.pure {f:FuncId} {args:List AV} {n m:Nat} {r r':AV} {h':H} (ha:p6 args) (hc:bn P f args (H0 n m) r h') (hs:ab r r') (hp:ui r'):bn P f args (H0 n m) r' (H0 n m):=by
 intro G w vs hv R F
 let G0:aI:={G with dom:=fun _=>False,tdom:=fun _=>False}
 refine (hc G0 w vs (ha G G0 w vs rfl rfl hv) eA ⟨fun _ _ _ h=>h,fun _ _ _ h=>h⟩).mono ?_
 rintro e w' ⟨v,G',rfl,T,R',V⟩
 refine ⟨v,{G' with dom:=G.dom,ι:=G.ι,tdom:=G.tdom,τ:=G.τ},rfl,?_,eA,hp G' _ w' v rfl rfl (hs G' w' v V)⟩
 have hO:∀{G:aI} B,¬(H0 n m).O G B:=fun B=>cr B
 have hT:∀{G:aI} B,¬(H0 n m).T G B:=fun B ⟨t,ht,_⟩=>by simp[H0,H.only] at ht
 constructor
 ·exact fun _ x=>x
 ·exact fun _=> .inl
 ·exact fun _ _=>rfl
 ·exact fun _ x=>x
 ·exact fun _=> .inl
 ·exact fun _ _=>rfl
 ·exact Nat.le_refl _
 ·exact Nat.le_refl _
 ·exact T.size_le
 ·exact T.os
 ·exact T.output
 ·exact T.form
 ·exact fun B hB _ _=>T.keep B hB (hO B) (hT B)
 ·exact fun B hB _=>T.own_keep B hB (hO B)
 ·exact fun B hB _ _=>T.lim_keep B hB (hO B) (hT B)
 ·exact fun B hB x=>absurd x (hT B)
 ·exact fun B _ x=>absurd x (hO B)
 ·exact fun B _ x=>absurd x (hT B)
 ·exact fun j o x=>by simp[H0,H.only,ag] at x
 ·exact fun t x=>by simp[H0,H.only] at x
theorem aM.p7 {f:FuncId} {ac:AC} {args:List AV} {ds:List RV} {r:AV} (hF:aM P f N ac ds) (hl:args.length≤N) (ha:p6 args) (hp:ui r) (hw:∀n m,Wp P N ac ⟨gv args,H0 n m⟩ fun e s'=>gw e∧∃q,bR ds s'.t s'.h=some q∧ab q r):aA P f args r:=by
 intro n m
 obtain ⟨r',h',hcall,hs⟩:=hF.iH (Q:=fun r' _=>ab r' r) hl (hw n m)
 exact hcall.pure ha hs hp
end
end Go.Av
end
section
namespace Go.Av
section
variable {P:Program} {N:Nat} {s:St} {Q:aP→St→Prop}
theorem Wp.aw {items:List aO} {p:Option (List (Nat × Nat))} {y:AC} {t':Tm} {h':H} {log:List Ent} (he:dq items s.t s.h []=([],t',h',log)) (hp:ay p log.reverse) (h:Wp P N y ⟨t',h'⟩ Q):Wp P N (.seq (.reg items p) y) s Q:=
 Wp.seq (Wp.reg (aa.eval he (aa.nil ⟨hp,h⟩)))
theorem Wp.jX {items:List aO} {p:Option (List (Nat × Nat))} {t':Tm} {h':H} {log:List Ent} (he:dq items s.t s.h []=([],t',h',log)) (hp:ay p log.reverse) (h:Q .normal ⟨t',h'⟩):Wp P N (.reg items p) s Q:=
 Wp.reg (aa.eval he (aa.nil ⟨hp,h⟩))
theorem Wp.seqItems {items its:List aO} {p:Option (List (Nat × Nat))} {y:AC} {t':Tm} {h':H} {log:List Ent} (he:dq items s.t s.h []=(its,t',h',log)) (h:aa P N its t' h' log fun t h l=>ay p l∧Wp P N y ⟨t,h⟩ Q):Wp P N (.seq (.reg items p) y) s Q:=
 Wp.seq (Wp.reg (aa.eval he h))
theorem Wp.items {items its:List aO} {p:Option (List (Nat × Nat))} {t':Tm} {h':H} {log:List Ent} (he:dq items s.t s.h []=(its,t',h',log)) (h:aa P N its t' h' log fun t h l=>ay p l∧Q .normal ⟨t,h⟩):Wp P N (.reg items p) s Q:=
 Wp.reg (aa.eval he h)
def tm:List (Nat × AV)→Tm
 |[]=>fun _=> .any
 |(i,v)::l=>upd (tm l) i v
def aC (t:Tm):List (Nat × AV)→Prop
 |[]=>True
 |(i,v)::l=>ab (t i) v∧aC t l
theorem dr {t:Tm}:∀{l:List (Nat × AV)},aC t l→∀i,ab (t i) (tm l i)
 |[],_,i=>ab.any _
 |(k,v)::l,h,i=>by
  simp only[tm,upd]
  split
  ·rename_i e;subst e;exact h.1
  ·exact dr h.2 i
theorem aU.tm {t:Tm} {h:H} {l:List (Nat × AV)} (hs:aC t l):aU ⟨t,h⟩ ⟨Av.tm l,h⟩:=aU.mk' (dr hs) h.wS.le (Nat.le_refl _) (Nat.le_refl _)
theorem Wp.B8 {β:Type} (S:β→List (Nat × AV)) (I:β→Prop) (μ:β→Nat) {c:AC} {h:H} {t:Tm} (b0:β) (h0:I b0) (hs:aC t (S b0))
  (round:∀b,I b→Wp P N c ⟨tm (S b),h⟩ (aP.andThen (fun s'=>∃b',I b'∧μ b'<μ b∧aU s' ⟨tm (S b'),h⟩) Q)):Wp P N (.loop c) ⟨t,h⟩ Q:=
 Wp.loop (fun b=>⟨tm (S b),h⟩) I μ b0 h0 (aU.tm hs) round
theorem aC.append {t:Tm}:∀{l m:List (Nat × AV)},aC t l→aC t m→aC t (l++m)
 |[],_,_,h=>h
 |(_,_)::_,_,h,h'=>⟨h.1,aC.append h.2 h'⟩
theorem aC.self {t:Tm}:∀(L:List Nat),aC t (L.map fun i=>(i,t i))
 |[]=>trivial
 |_::L=>⟨ab.refl _,aC.self L⟩
theorem Wp.cZ {β:Type} (L:List Nat) {K:List (Nat × AV)} {c:AC} {h:H} {t:Tm} (hK:(L.map fun i=>(i,t i))=K) (ch:β→List (Nat × AV)) (I:β→Prop) (μ:β→Nat) (b0:β) (h0:I b0) (hs:aC t (ch b0))
  (round:∀b,I b→Wp P N c ⟨tm (K++ch b),h⟩ (aP.andThen (fun s'=>∃b',I b'∧μ b'<μ b∧aU s' ⟨tm (K++ch b'),h⟩) Q)):Wp P N (.loop c) ⟨t,h⟩ Q:=
 Wp.B8 (fun b=>K++ch b) I μ b0 h0 (aC.append (hK▸aC.self L) hs) round
theorem Wp.mz {β:Type} (L:List Nat) {K:List (Nat × AV)} {c:AC} {h:H} {t:Tm} (hK:(L.map fun i=>(i,t i))=K) (ch:β→List (Nat × AV)) (hp:β→H) (I:β→Prop) (μ:β→Nat) (b0:β) (h0:I b0) (hh:h=hp b0) (hs:aC t (ch b0))
  (round:∀b,I b→Wp P N c ⟨tm (K++ch b),hp b⟩ (aP.andThen (fun s'=>∃b',I b'∧μ b'<μ b∧aU s' ⟨tm (K++ch b'),hp b'⟩) Q)):Wp P N (.loop c) ⟨t,h⟩ Q:=
 Wp.loop (fun b=>⟨tm (K++ch b),hp b⟩) I μ b0 h0 (hh▸aU.tm (aC.append (hK▸aC.self L) hs)) round
theorem ab.int {k:IntKind} {a b:Int} (h:a=b):ab (.int k a) (.int k b):=h▸ab.refl _
theorem ab.of_eq {x y:AV} (h:x=y):ab x y:=h▸ab.refl _
def aG:Cap→Bool
 | .own _=>false
 |_=>true
mutual
def av:AV→Bool
 | .sl _ xs c=>aG c&&al xs
 | .ref cs=>al cs
 | .agg cs=>al cs
 | .tup cs=>al cs
 | .ptr _ _| .tsl _ _ _ _ _| .mp _| .yld _=>false
 | .clo _ a b=>al a&&al b
 | .ifc _ x=>av x
 | .slt _ xs ys=>al xs&&al ys
 |_=>true
def al:List AV→Bool
 |[]=>true
 |x::xs=>av x&&al xs
end
mutual
theorem dN:∀(x:AV),av x=true→ui x
 | .any,_=>fun _ _ _ _ _ _ h=>h
 | .int _ _,_=>fun _ _ _ _ _ _ h=>h
 | .bool _,_=>fun _ _ _ _ _ _ h=>h
 | .str _,_=>fun _ _ _ _ _ _ h=>h
 | .sc _,_=>fun _ _ _ _ _ _ h=>h
 | .sl sz xs c,hp=>by
  simp only[av,Bool.and_eq_true] at hp
  intro G G' w v e1 e2 h
  simp only[ah] at h ⊢
  rcases h with h|⟨B,off,C,vs,h1,h2,h3,h4,h5,h6⟩
  ·exact .inl h
  ·refine .inr ⟨B,off,C,vs,h1,h2,h3,gT xs hp.2 G G' w sz vs e1 e2 h4,fun i v hv=>?_,?_⟩
   ·rw[e1,e2];exact h5 i v hv
   ·cases c with
    |own t=>simp[aG] at hp
    |any=>trivial
    |exact k=>exact h6
 | .ref cs,hp=>by
  simp only[av] at hp
  intro G G' w v e1 e2 h
  simp only[ah] at h ⊢
  obtain ⟨B,off,vs,h1,h2,h3⟩:=h
  exact ⟨B,off,vs,h1,ct cs hp G G' w vs e1 e2 h2,fun i v hv=>by rw[e1,e2];exact h3 i v hv⟩
 | .agg cs,hp=>by
  simp only[av] at hp
  intro G G' w v e1 e2 h
  simp only[ah] at h ⊢
  obtain ⟨vs,h1,h2⟩:=h
  exact ⟨vs,h1,ct cs hp G G' w vs e1 e2 h2⟩
 | .tup cs,hp=>by
  simp only[av] at hp
  intro G G' w v e1 e2 h
  simp only[ah] at h ⊢
  obtain ⟨vs,h1,h2⟩:=h
  exact ⟨vs,h1,ct cs hp G G' w vs e1 e2 h2⟩
 | .ptr _ _,hp=>by simp[av] at hp
 | .tsl _ _ _ _ _,hp=>by simp[av] at hp
 | .mp _,hp=>by simp[av] at hp
 | .yld _,hp=>by simp[av] at hp
 | .slt sz xs ys,hp=>by
  simp only[av,Bool.and_eq_true] at hp
  intro G G' w v e1 e2 h
  simp only[ah] at h ⊢
  obtain ⟨B,off,C,us,vs,h1,h2,h3,h4,h5,h6⟩:=h
  exact ⟨B,off,C,us,vs,h1,h2,h3,gT xs hp.1 G G' w sz us e1 e2 h4,gT ys hp.2 G G' w sz vs e1 e2 h5,fun i v hv=>by rw[e1,e2];exact h6 i v hv⟩
 | .clo f a b,hp=>by
  simp only[av,Bool.and_eq_true] at hp
  intro G G' w v e1 e2 h
  simp only[ah] at h ⊢
  obtain ⟨vs,us,h1,h2,h3⟩:=h
  exact ⟨vs,us,h1,ct a hp.1 G G' w vs e1 e2 h2,ct b hp.2 G G' w us e1 e2 h3⟩
 | .ifc t x,hp=>by
  simp only[av] at hp
  intro G G' w v e1 e2 h
  simp only[ah] at h ⊢
  obtain ⟨u,h1,h2⟩:=h
  exact ⟨u,h1,dN x hp G G' w u e1 e2 h2⟩
theorem ct:∀(l:List AV),al l=true→p6 l
 |[],_=>fun _ _ _ _ _ _ h=>by simpa only[aq] using h
 |x::xs,hp=>by
  simp only[al,Bool.and_eq_true] at hp
  intro G G' w vs e1 e2 h
  simp only[aq] at h ⊢
  obtain ⟨v,us,h1,h2,h3⟩:=h
  exact ⟨v,us,h1,dN x hp.1 G G' w v e1 e2 h2,ct xs hp.2 G G' w us e1 e2 h3⟩
theorem gT:∀(l:List AV),al l=true→∀(G G':aI) (w:World) (sz:Nat) (vs:List Value),G'.own=G.own→G'.lim=G.lim→aB G w sz l vs→aB G' w sz l vs
 |[],_=>fun _ _ _ _ _ _ _ h=>by simpa only[aB] using h
 |x::xs,hp=>by
  simp only[al,Bool.and_eq_true] at hp
  intro G G' w sz vs e1 e2 h
  simp only[aB] at h ⊢
  obtain ⟨v,us,h1,h2,h3,h4⟩:=h
  exact ⟨v,us,h1,h2,dN x hp.1 G G' w v e1 e2 h3,gT xs hp.2 G G' w sz us e1 e2 h4⟩
end
theorem cS {α:Type} {f:α→AV} (h:∀x,av (f x)=true):∀l:List α,al (l.map f)=true
 |[]=>rfl
 |x::l=>by simp[al,h x,cS h l]
def strs (l:List (List UInt8)):List AV:=l.map .str
def ints (l:List Int):List AV:=l.map (.int .i64)
theorem du (l:List (List UInt8)):al (strs l)=true:=cS (fun _=>rfl) l
theorem ao (l:List (List UInt8)):(strs l).length=l.length:=by simp[strs]
theorem qZ (l:List Int):(ints l).length=l.length:=by simp[ints]
theorem p8 (l:List UInt8):(cW l).length=l.length:=by simp[cW]
theorem aV (l:List (List UInt8)) (k:Nat) (d:AV) (h:k<l.length):(strs l).getD k d= .str (l.getD k []):=by
 simp[strs,List.getD,List.getElem?_map,List.getElem?_eq_getElem h]
end
def lit:Bool→Bool
 |true=>true
 |false=>true
def pk:Bool→AC→AC→AC
 |true,x,_=>x
 |false,_,y=>y
theorem Wp.bq {P:Program} {N:Nat} {s:St} {Q:aP→St→Prop} {c:Opd} {x y:AC} {b:Bool} (hb:ev s.t c= .bool b) (_:lit b=true) (h:Wp P N (pk b x y) s Q):Wp P N (.cond c x y) s Q:=by
 cases b
 ·exact Wp.cond_false hb h
 ·exact Wp.cond_true hb h
theorem bx:((false=true)=False)∧(∀b:Bool,(true == b)=b)∧(∀b:Bool,(false == b)= !b)∧((!true)=false)∧((!false)=true):=
 ⟨Bool.false_eq_true,Bool.true_beq,Bool.false_beq,Bool.not_true,Bool.not_false⟩
theorem ax:(∀p:Prop,(p∧p)=p)∧(∀p:Prop,(True∧p)=p)∧(∀p:Prop,(p∧True)=p)∧(∀p:Prop,(True∨p)=True)∧(∀p:Prop,(p∨True)=True)∧(∀n:Nat,0*n=0)∧(∀n:Nat,1*n=n)∧(∀n:Nat,0≤n)
  ∧(∀h:Decidable True,@decide True h=true)∧(∀h:Decidable False,@decide False h=false)∧(∀n:Nat,((n:Nat):Int).toNat=n)∧(∀(α:Type) (a b:List α),(a++b).length=a.length+b.length)
  ∧(∀(α:Type) (p:α→Bool) (x:α) (l:List α),List.filter p (x::l)=if p x=true then x::List.filter p l else List.filter p l)∧(∀(α:Type) (p:α→Bool),List.filter p []=[])∧(∀(α:Type) (a b:α),(a≠b)= ¬(a=b))∧((¬True)=False)∧((¬False)=True):=
 ⟨and_self,true_and,and_true,true_or,or_true,Nat.zero_mul,Nat.one_mul,Nat.zero_le,fun _=>decide_true _,fun _=>decide_false _,Int.toNat_natCast,fun _ _ _=>List.length_append,fun _ _ _ _=>List.filter_cons,fun _ _=>List.filter_nil,fun _ _ _=>rfl,not_true_eq_false,not_false_eq_true⟩
attribute [go_sem] undef dq guardOf aop ev cL upd gv H0 H.only ag cx cellsOf shaped part bin nh sK ni mO unop eqB eqP eqN eqA gN pU mm eQ cQ fe nj eqM slice bound kk setAt ez tm
 ao qZ p8 List.getElem?_cons_zero List.getElem?_cons_succ List.getD_cons_zero List.getD_cons_succ Option.map_some Option.map_none Option.bind_some Option.bind_none List.all_cons List.all_nil Bool.and_self Bool.true_and Bool.and_true
 List.length_cons List.length_nil List.map_cons List.map_nil List.drop_succ_cons List.drop_zero List.take_succ_cons List.take_zero List.drop_nil List.take_nil Nat.zero_add Nat.add_zero List.append_nil List.nil_append List.cons_append Bool.or_false Bool.false_or Bool.or_true Bool.true_or
end Go.Av
end
section
namespace Go.Av
section
variable {P:Program} {N:Nat}
variable {s:St} {Q:aP→St→Prop}
theorem Wp.fD {β:Type} (L:List Nat) {K:List (Nat × AV)} {c:AC} {h:H} {t:Tm} (hK:(L.map fun i=>(i,t i))=K) (ch:β→Nat→List (Nat × AV)) (I:β→Prop) (μ:β→Nat) (b0:β) (tk:Nat) (h0:I b0) (hh:h.toks=[tk]) (hs:aC t (ch b0 tk))
  (round:∀b tk m,I b→Wp P N c ⟨tm (K++ch b tk),{h with toks:=[tk],m:=m}⟩ (aP.andThen (fun s'=>∃b' tk' m',I b'∧μ b'<μ b∧aU s' ⟨tm (K++ch b' tk'),{h with toks:=[tk'],m:=m'}⟩) Q)):Wp P N (.loop c) ⟨t,h⟩ Q:=by
 refine Wp.mz (β:=β × Nat × Nat) L hK (fun j=>ch j.1 j.2.1) (fun j=>{h with toks:=[j.2.1],m:=j.2.2}) (fun j=>I j.1) (fun j=>μ j.1) (b0,tk,h.m) h0 (by cases h;simp only at hh;subst hh;rfl) hs ?_
 rintro ⟨b,tk,m⟩ hb
 refine Wp.mono (round b tk m hb) ?_
 intro e s' h
 cases e with
 |normal=>obtain ⟨b',tk',m',h1,h2,h3⟩:=h;exact ⟨(b',tk',m'),h1,h2,h3⟩
 |exit id=>exact h
 |goto l=>exact h
 |ret=>exact h
 |panic v=>exact h
end
section
variable {P:Program} {N:Nat}
def iI (P:Program) (f:FuncId) (args:List AV) (objs:Nat→Option Obj) (r:AV):Prop:=∀n m,bn P f args (.only objs [] n m) r (.only objs [] n m)
theorem aa.ji {dst:Option Nat} {g:Option (Nat × Bool)} {f:FuncId} {l:List Opd} {its:List aO} {t:Tm} {h:H} {log:List Ent} {K:Tm→H→List Ent→Prop} {vals:List AV} {r:AV} {objs:Nat→Option Obj} (ids:List Nat) (hg:guardOf t g=some true) (hs:af (l.map (ev t)) vals)
  (ho:∀id o,objs id=some o→h.objs id=some o) (hi:∀id,(objs id).isSome→id∈ids) (hc:iI P f vals objs r)
  (rest:aa P N its (cL t dst r) h (⟨ids,[],[]⟩::log) K):aa P N (⟨dst,g,.call f l⟩::its) t h log K:=
 aa.eR hg hs (hc h.n h.m) (oW h ho hi) rest
end
theorem q0 (t:Nat):List.filter (fun x=>decide (x≠t)) [t]=[]:=by simp
theorem Bp (k:Nat):(k=k+1)=False:=by simp
theorem Bq (k:Nat):(k+1=k)=False:=by simp
attribute [go_sem] Bp Bq q0 List.mem_singleton List.mem_cons true_or
end Go.Av
end
section
namespace Go.Av
structure Fun where
 N:Nat
 ac:AC
 ds:List RV
inductive FT where
 |leaf
 |node (k:Nat) (F:Fun) (l r:FT)
def FT.get (f:Nat):FT→Option Fun
 | .leaf=>none
 | .node k F l r=>match Nat.beq f k with
  |true=>some F
  |false=>match Nat.ble f k with
   |true=>FT.get f l
   |false=>FT.get f r
def FT.Ok (P:Program):FT→Prop
 | .leaf=>True
 | .node k F l r=>aM P k F.N F.ac F.ds∧l.Ok P∧r.Ok P
mutual
def zB:AV→List Nat
 | .sl _ xs _=>iU xs
 | .ref cs=>iU cs
 | .agg cs=>iU cs
 | .tup cs=>iU cs
 | .ptr i _=>[i]
 | .tsl _ i _ _ _=>[i]
 | .mp i=>[i]
 | .yld i=>[i]
 | .slt _ xs ys=>iU xs++iU ys
 | .clo _ a b=>iU a++iU b
 | .ifc _ x=>zB x
 |_=>[]
def iU:List AV→List Nat
 |[]=>[]
 |x::xs=>match zB x with
  |[]=>iU xs
  |l=>l++iU xs
end
def B9:Cap→List Nat
 | .own t=>[t]
 |_=>[]
mutual
def uj:AV→List Nat
 | .sl _ xs c=>B9 c++fQ xs
 | .ref cs=>fQ cs
 | .agg cs=>fQ cs
 | .tup cs=>fQ cs
 | .clo _ a b=>fQ a++fQ b
 | .ifc _ x=>uj x
 | .slt _ xs ys=>fQ xs++fQ ys
 |_=>[]
def fQ:List AV→List Nat
 |[]=>[]
 |x::xs=>match uj x with
  |[]=>fQ xs
  |l=>l++fQ xs
end
def reach (objs:Nat→Option Obj):Nat→List Nat→List Nat→List Nat
 |0,_,seen=>seen
 |_+1,[],seen=>seen
 |k+1,i::todo,seen=>match seen.contains i with
  |true=>reach objs k todo seen
  |false=>match objs i with
   |some (.cells cs)=>reach objs k (iU cs++todo) (i::seen)
   |some (.map es)=>reach objs k (es.flatMap (fun e=>zB e.1++zB e.2)++todo) (i::seen)
   |some (.loop _ _ _ _ _ _ _)=>reach objs k todo seen
   |none=>reach objs k todo seen
def Br (objs:Nat→Option Obj) (l:List Nat):List Nat:=l.flatMap fun j=>match objs j with
 |some (.cells cs)=>fQ cs
 |some (.map es)=>es.flatMap fun e=>uj e.1++uj e.2
 |some (.loop _ _ _ _ _ _ _)=>[]
 |none=>[]
def H.cut (h:H) (ids toks:List Nat):H:=⟨fun j=>match ids.contains j with|true=>h.objs j|false=>none,h.n,h.toks.filter fun t=>toks.contains t,h.m⟩
def xg:aP→Bool
 | .normal| .ret=>true
 |_=>false
def xh:List (Nat × Nat)→List Ent→Bool
 |[],_=>true
 |(i,j)::l,log=>
  let e:=log.getD i aH
  let f:=log.getD j aH
  e.wr.all (fun id=> !f.rd.contains id&& !f.wr.contains id)&&f.wr.all (fun id=> !e.rd.contains id&& !e.wr.contains id)&&e.tk.all (fun t=> !f.tk.contains t)&&xh l log
def zC:Option (List (Nat × Nat))→List Ent→Bool
 |none,_=>true
 |some l,log=>xh l log
abbrev AY:=Nat→List AV→H→Option (AV × H × Ent)
def Ca (T:FT) (pr:AY) (rn:Nat→AC→St→Option (aP × St)) (f:Nat) (args:List AV) (h:H):Option (AV × H × Ent):=
 match pr f args h with
 |some r=>some r
 |none=>match T.get f with
 |none=>none
 |some F=>match Nat.ble args.length F.N with
  |false=>none
  |true=>match al args with
   |true=>match rn F.N F.ac ⟨gv args,H0 h.n h.m⟩ with
    |some (e,s')=>match xg e,bR F.ds s'.t s'.h with
     |true,some r=>match av r with
      |true=>some (r,h,aH)
      |false=>match Nat.ble h.n s'.h.n&&Nat.ble h.m s'.h.m with
       |true=>some (r,h.patch (H0 h.n h.m) s'.h,⟨[],(List.range (s'.h.n - h.n)).map (h.n+ ·),s'.h.toks⟩)
       |false=>none
     |_,_=>none
    |none=>none
   |false=>
    let ids:=reach h.objs 1000000 (iU args) []
    let h1:=h.cut ids (fQ args++Br h.objs ids)
    match rn F.N F.ac ⟨gv args,h1⟩ with
    |some (e,s')=>match xg e,bR F.ds s'.t s'.h with
     |true,some r=>match Nat.ble h.n s'.h.n&&Nat.ble h.m s'.h.m with
      |true=>some (r,h.patch h1 s'.h,⟨[],ids++(List.range (s'.h.n - h.n)).map (h.n+ ·),h1.toks++s'.h.toks⟩)
      |false=>none
     |_,_=>none
    |none=>none
def jj (call:Nat→List AV→H→Option (AV × H × Ent)):List aO→Tm→H→List Ent→Option (Tm × H × List Ent)
 |[],t,h,l=>some (t,h,l)
 |⟨dst,g,op⟩::its,t,h,l=>match guardOf t g with
  |some true=>match op with
   | .call f args=>match call f (args.map (ev t)) h with
    |some (r,h',en)=>jj call its (cL t dst r) h' (en::l)
    |none=>none
   | .callv y args=>match ev t y with
    | .clo (.func f) first caps=>match call f (first++args.map (ev t)++caps) h with
     |some (r,h',en)=>jj call its (cL t dst r) h' (en::l)
     |none=>none
    |_=>none
   |op=>match aop (ev t) h op with
    |some (x,h',en)=>jj call its (cL t dst x) h' (en::l)
    |none=>none
  |some false=>jj call its (cL t dst (.sc undef)) h (aH::l)
  |none=>none
def AZ (l:List (Nat × Obj)) (i:Nat):Option Obj:=match l with
 |[]=>none
 |(j,o)::r=>match Nat.beq i j with
  |true=>some o
  |false=>AZ r i
def norm (N:Nat) (s:St):St:=
 let l:=(List.range N).map s.t
 let o:=(List.range s.h.n).filterMap fun j=>(s.h.objs j).map fun x=>(j,x)
 ⟨fun i=>l.getD i .any,{s.h with objs:=AZ o}⟩
def Cb (rn:AC→St→Option (aP × St)) (nm:St→St):Nat→AC→AC→St→Option (aP × St)
 |0,_,_,_=>none
 |k+1,c,cur,s=>match rn cur s with
  |some (.goto l,s')=>match ff c l with
   |some rest=>Cb rn nm k c rest (nm s')
   |none=>some (.goto l,s')
  |r=>r
def run (T:FT) (pr:AY):Nat→Nat→AC→St→Option (aP × St)
 |0,_,_,_=>none
 |k+1,N,c,s=>match c with
  | .skip=>some (.normal,s)
  | .ret=>some (.ret,s)
  | .exit i=>some (.exit i,s)
  | .reg items p=>match jj (Ca T pr (run T pr k)) items s.t s.h [] with
   |some (t,h,l)=>match zC p l.reverse with
    |true=>some (.normal,⟨t,h⟩)
    |false=>none
   |none=>none
  | .seq a b=>match run T pr k N a s with
   |some (.normal,s')=>run T pr k N b s'
   |r=>r
  | .cond c a b=>match ev s.t c with
   | .bool true=>run T pr k N a s
   | .bool false=>run T pr k N b s
   |_=>none
  | .block id a=>match run T pr k N a s with
   |some (.exit i,s')=>match Nat.beq i id with
    |true=>some (.normal,s')
    |false=>some (.exit i,s')
   |r=>r
  | .loop a=>match run T pr k N a s with
   |some (.normal,s')=>run T pr k N (.loop a) (norm N s')
   |r=>r
  | .label _=>some (.normal,s)
  | .goto l=>some (.goto l,s)
  | .scope a=>Cb (run T pr k N) (norm N) k a a s
  | .oE _ _ _ _=>none
section
variable {P:Program} {T:FT}
theorem jK (h h1 h1':H) {ids:List Nat} (hs:h1.sub h) (n:h1.n=h.n) (m:h1.m=h.m) (hi:∀id,(h1.objs id).isSome→id∈ids) (le:h.n≤h1'.n) (lem:h.m≤h1'.m):
  Touch h h1 h1' (h.patch h1 h1') ⟨[],ids++(List.range (h1'.n - h.n)).map (h.n+ ·),h1.toks++h1'.toks⟩ where
 sub:=hs
 n:=n
 m:=m
 eq:=rfl
 rd id x:= .inr (List.mem_append_left _ (hi id x))
 wr id a b:=List.mem_append_right _ (List.mem_map.2 ⟨id - h.n,by simp;omega,by omega⟩)
 chg id x hx:=absurd (List.mem_append_left _ (hi id x)) hx
 tk t x:=List.mem_append_left _ x
 tn t x:=List.mem_append_right _ x
 le:=by omega
 lem:=by omega
theorem bn.Ba {f:FuncId} {args:List AV} {r r':AV} {h':H} (ha:p6 args) (hc:bn P f args (H0 0 0) r h') (hs:ab r r') (hp:ui r'):aA P f args r':=by
 intro n m G w vs hv R F
 let G0:aI:={G with dom:=fun _=>False,tdom:=fun _=>False}
 refine (hc G0 w vs (ha G G0 w vs rfl rfl hv) eA ⟨fun _ _ _ h=>h,fun _ _ _ h=>h⟩).mono ?_
 rintro e w' ⟨v,G',rfl,T,R',V⟩
 refine ⟨v,{G' with dom:=G.dom,ι:=G.ι,tdom:=G.tdom,τ:=G.τ},rfl,?_,eA,hp G' _ w' v rfl rfl (hs G' w' v V)⟩
 have hO:∀{G:aI} {n m} B,¬(H0 n m).O G B:=fun B=>cr B
 have hT:∀{G:aI} {n m} B,¬(H0 n m).T G B:=fun B ⟨t,ht,_⟩=>by simp[H0,H.only] at ht
 constructor
 ·exact fun _ x=>x
 ·exact fun _=> .inl
 ·exact fun _ _=>rfl
 ·exact fun _ x=>x
 ·exact fun _=> .inl
 ·exact fun _ _=>rfl
 ·exact Nat.le_refl _
 ·exact Nat.le_refl _
 ·exact T.size_le
 ·exact T.os
 ·exact T.output
 ·exact T.form
 ·exact fun B hB _ _=>T.keep B hB (hO B) (hT B)
 ·exact fun B hB _=>T.own_keep B hB (hO B)
 ·exact fun B hB _ _=>T.lim_keep B hB (hO B) (hT B)
 ·exact fun B hB x=>absurd x (hT B)
 ·exact fun B _ x=>absurd x (hO B)
 ·exact fun B _ x=>absurd x (hT B)
 ·exact fun j o x=>by simp[H0,H.only,ag] at x
 ·exact fun t x=>by simp[H0,H.only] at x
theorem aM.aD {f:FuncId} {N:Nat} {ac:AC} {args:List AV} {ds:List RV} {r:AV} (hF:aM P f N ac ds) (hl:args.length≤N) (ha:al args=true) (hp:av r=true) (hw:Wp P N ac ⟨gv args,H0 0 0⟩ fun e s'=>gw e∧∃q,bR ds s'.t s'.h=some q∧ab q r):aA P f args r:=by
 obtain ⟨r',h',hcall,hs⟩:=hF.iH (Q:=fun r' _=>ab r' r) hl hw
 exact hcall.Ba (ct _ ha) hs (dN _ hp)
end
end Go.Av
end
section
set_option maxRecDepth 100000
namespace Go.Proofs.YtpehfflehebmbaaGreat.C
open Go.Av
abbrev zM (n a:Nat):aO:=⟨some n,none,.mov (.t a)⟩
abbrev zm (n g:Nat)(b:Bool)(a:Nat):aO:=⟨some n,some (g,b),.mov (.t a)⟩
abbrev zK (n a:Nat):aO:=⟨some n,none,.nilck (.t a)⟩
abbrev zk (n g:Nat)(b:Bool)(a:Nat):aO:=⟨some n,some (g,b),.nilck (.t a)⟩
abbrev zF (n k a:Nat):aO:=⟨some n,none,.faddr k (.t a)⟩
abbrev zf (n g:Nat)(b:Bool)(k a:Nat):aO:=⟨some n,some (g,b),.faddr k (.t a)⟩
abbrev zL (n a:Nat):aO:=⟨some n,none,.load none (.t a)⟩
abbrev zl (n g:Nat)(b:Bool)(a:Nat):aO:=⟨some n,some (g,b),.load none (.t a)⟩
abbrev zW (n k a:Nat):aO:=⟨some n,none,.load (some k) (.t a)⟩
abbrev zw (n g:Nat)(b:Bool)(k a:Nat):aO:=⟨some n,some (g,b),.load (some k) (.t a)⟩
abbrev zE (n a k:Nat):aO:=⟨some n,none,.ext (.t a) k⟩
abbrev zN (n a:Nat):aO:=⟨some n,none,.un .not (.t a)⟩
abbrev zn (n g:Nat)(b:Bool)(a:Nat):aO:=⟨some n,some (g,b),.un .not (.t a)⟩
abbrev zO (n c a:Nat):aO:=⟨some n,none,.pick (.t c) (.c (.bool true)) (.t a)⟩
abbrev zA (n c a:Nat):aO:=⟨some n,none,.pick (.t c) (.t a) (.c (.bool false))⟩
abbrev zD (n:Nat)(v:AV):aO:=⟨some n,none,.mov (.c v)⟩
abbrev zG (n:Nat)(o:AOp):aO:=⟨some n,none,o⟩
abbrev zg (n g:Nat)(b:Bool)(o:AOp):aO:=⟨some n,some (g,b),o⟩
abbrev zH (o:AOp):aO:=⟨none,none,o⟩
abbrev zP (a:Nat):Opd:=.t a
theorem zz:(∀(n a:Nat),zM n a=⟨some n,none,.mov (.t a)⟩)∧(∀(n g:Nat) (b:Bool) (a:Nat),zm n g b a=⟨some n,some (g,b),.mov (.t a)⟩)∧(∀(n a:Nat),zK n a=⟨some n,none,.nilck (.t a)⟩)∧(∀(n g:Nat) (b:Bool) (a:Nat),zk n g b a=⟨some n,some (g,b),.nilck (.t a)⟩)∧(∀(n k a:Nat),zF n k a=⟨some n,none,.faddr k (.t a)⟩)∧(∀(n g:Nat) (b:Bool) (k a:Nat),zf n g b k a=⟨some n,some (g,b),.faddr k (.t a)⟩)∧(∀(n a:Nat),zL n a=⟨some n,none,.load none (.t a)⟩)∧(∀(n g:Nat) (b:Bool) (a:Nat),zl n g b a=⟨some n,some (g,b),.load none (.t a)⟩)∧(∀(n k a:Nat),zW n k a=⟨some n,none,.load (some k) (.t a)⟩)∧(∀(n g:Nat) (b:Bool) (k a:Nat),zw n g b k a=⟨some n,some (g,b),.load (some k) (.t a)⟩)∧(∀(n a k:Nat),zE n a k=⟨some n,none,.ext (.t a) k⟩)∧(∀(n a:Nat),zN n a=⟨some n,none,.un .not (.t a)⟩)∧(∀(n g:Nat) (b:Bool) (a:Nat),zn n g b a=⟨some n,some (g,b),.un .not (.t a)⟩)∧(∀(n c a:Nat),zO n c a=⟨some n,none,.pick (.t c) (.c (.bool true)) (.t a)⟩)∧(∀(n c a:Nat),zA n c a=⟨some n,none,.pick (.t c) (.t a) (.c (.bool false))⟩)∧(∀(n:Nat) (v:AV),zD n v=⟨some n,none,.mov (.c v)⟩)∧(∀(n:Nat) (o:AOp),zG n o=⟨some n,none,o⟩)∧(∀(n g:Nat) (b:Bool) (o:AOp),zg n g b o=⟨some n,some (g,b),o⟩)∧(∀(o:AOp),zH o=⟨none,none,o⟩)∧(∀(a:Nat),zP a=.t a):=⟨fun _ _=>rfl,fun _ _ _ _=>rfl,fun _ _=>rfl,fun _ _ _ _=>rfl,fun _ _ _=>rfl,fun _ _ _ _ _=>rfl,fun _ _=>rfl,fun _ _ _ _=>rfl,fun _ _ _=>rfl,fun _ _ _ _ _=>rfl,fun _ _ _=>rfl,fun _ _=>rfl,fun _ _ _ _=>rfl,fun _ _ _=>rfl,fun _ _ _=>rfl,fun _ _=>rfl,fun _ _=>rfl,fun _ _ _ _=>rfl,fun _=>rfl,fun _=>rfl⟩
def c6:AC:=(.seq (.reg [zG 6 (.mov (.c (.bool false)))] none)
 (.seq (.seq (.reg [zM 9 0,zG 10 (.call 7 [(.t 9)]),zN 11 10,zM 12 11,zm 13 12 false 1,zg 14 12 false (.call 7 [(.t 13)]),zn 15 12 false 14,zO 16 12 15,zM 17 16,zm 18 17 false 2,zg 19 17 false (.len false (.t 18)),zg 20 17 false (.bin .gtr (.t 19) (.c (.int .i64 100))),zO 21 17 20] none)
 (.cond (.t 21) (.seq (.reg [zG 22 (.call 8 []),zM 6 22] none)
 .ret) .skip))
 (.seq (.reg [zM 23 0,zG 24 (.call 9 [(.t 23)]),zM 7 24] none)
 (.seq (.seq (.reg [zM 25 7,zG 26 (.eqP false (.t 25) (.c (.sc (.pointer none))))] none)
 (.cond (.t 26) (.seq (.reg [zG 6 (.mov (.c (.bool false)))] none)
 .ret) .skip))
 (.seq (.seq (.reg [zG 8 (.mov (.c (.int .i64 0)))] none)
 (.block 0 (.loop (.seq (.seq (.reg [zM 27 8,zM 28 1,zG 29 (.len false (.t 28)),zG 30 (.bin .lss (.t 27) (.t 29))] none)
 (.cond (.t 30) .skip (.exit 0)))
 (.seq (.block 1 (.seq (.reg [zM 33 7,zM 34 1,zM 35 8,zG 36 (.iaddr 5 (.t 34) (.t 35)),zW 37 5 36,zG 38 (.call 10 [(.t 33),(.t 37)]),zN 39 38,zM 40 39,zm 41 40 false 7,zk 42 40 false 41,zf 43 40 false 4 42,zl 44 40 false 43,zg 45 40 false (.call 21 [(.t 44)]),zm 46 40 false 7,zk 47 40 false 46,zf 48 40 false 5 47,zf 49 40 false 1 48,zl 50 40 false 49,zg 51 40 false (.call 24 [(.t 45),(.t 50)]),zn 52 40 false 51,zO 53 40 52,zM 54 53,zm 55 54 false 7,zk 56 54 false 55,zf 57 54 false 4 56,zl 58 54 false 57,zg 59 54 false (.call 22 [(.t 58)]),zm 60 54 false 7,zk 61 54 false 60,zf 62 54 false 5 61,zf 63 54 false 2 62,zw 64 54 false 2 63,zg 65 54 false (.call 23 [(.t 59),(.t 64)]),zn 66 54 false 65,zO 67 54 66,zM 68 67,zm 69 68 false 7,zk 70 68 false 69,zf 71 68 false 4 70,zl 72 68 false 71,zg 73 68 false (.call 25 [(.t 72)]),zm 74 68 false 7,zk 75 68 false 74,zf 76 68 false 5 75,zf 77 68 false 4 76,zl 78 68 false 77,zg 79 68 false (.eqB true (.t 73) (.t 78)),zO 80 68 79,zM 81 80,zm 82 81 false 7,zk 83 81 false 82,zf 84 81 false 4 83,zl 85 81 false 84,zg 86 81 false (.call 19 [(.t 85)]),zm 87 81 false 7,zk 88 81 false 87,zf 89 81 false 5 88,zw 90 81 false 5 89,zm 91 81 false 7,zk 92 81 false 91,zf 93 81 false 1 92,zw 94 81 false 3 93,zg 95 81 false (.call 26 [(.t 90),(.t 94)]),zg 96 81 false (.eqB true (.t 86) (.t 95)),zO 97 81 96] (some [(11,17),(12,17),(25,31),(26,31),(39,45),(40,45),(52,57),(53,57),(52,61),(53,61),(57,61)]))
 (.cond (.t 97) (.seq (.reg [zG 6 (.mov (.c (.bool false)))] none)
 .ret) .skip)))
 (.reg [zM 31 8,zG 32 (.bin .add (.t 31) (.c (.int .i64 1))),zM 8 32] none))))))
 (.seq (.reg [zM 98 7,zK 99 98,zF 100 4 99,zL 101 100,zM 102 2,zG 103 (.call 27 [(.t 101),(.t 102)]),zM 104 7,zK 105 104,zF 106 5 105,zW 107 5 106,zM 108 2,zG 109 (.call 28 [(.t 107),(.t 108)]),zG 110 (.eqB false (.t 103) (.t 109)),zM 111 110,zm 112 111 true 7,zk 113 111 true 112,zf 114 111 true 4 113,zl 115 111 true 114,zg 116 111 true (.call 29 [(.t 115)]),zm 117 111 true 7,zk 118 111 true 117,zf 119 111 true 5 118,zf 120 111 true 0 119,zl 121 111 true 120,zg 122 111 true (.bin .eql (.t 116) (.t 121)),zA 123 111 122,zM 124 123,zg 125 124 true (.call 8 []),zA 126 124 125,zM 6 126] (some [(3,9),(5,9),(17,23),(18,23)]))
 .ret))))))
theorem f6:aM Tryz.prog 6 127 c6 [.tmp 6]:=⟨_,Tryz.func6,rfl,by kernel_rfl,rfl⟩
def c7:AC:=(.seq (.reg [zG 2 (.mov (.c (.bool false)))] none)
 (.seq (.reg [zG 3 (.mov (.c (.int .i64 0)))] none)
 (.seq (.seq (.reg [zG 4 (.mov (.c (.int .i64 0)))] none)
 (.block 0 (.loop (.seq (.seq (.reg [zM 5 4,zM 6 0,zG 7 (.len false (.t 6)),zG 8 (.bin .lss (.t 5) (.t 7))] none)
 (.cond (.t 8) .skip (.exit 0)))
 (.seq (.block 1 (.seq (.reg [zM 11 3,zG 12 (.bin .add (.t 11) (.c (.int .i64 1))),zM 13 0,zM 14 4,zG 15 (.iaddr 5 (.t 13) (.t 14)),zF 16 4 15,zL 17 16,zG 18 (.len false (.t 17)),zG 19 (.bin .add (.t 12) (.t 18)),zM 3 19] none)
 (.seq (.reg [zM 20 3,zG 21 (.bin .gtr (.t 20) (.c (.int .i64 150))),zM 22 21,zm 23 22 false 0,zm 24 22 false 4,zg 25 22 false (.iaddr 5 (.t 23) (.t 24)),zf 26 22 false 2 25,zl 27 22 false 26,zg 28 22 false (.len true (.t 27)),zg 29 22 false (.bin .gtr (.t 28) (.c (.int .i64 1000))),zO 30 22 29,zM 31 30,zm 32 31 false 0,zm 33 31 false 4,zg 34 31 false (.iaddr 5 (.t 32) (.t 33)),zf 35 31 false 3 34,zl 36 31 false 35,zg 37 31 false (.len true (.t 36)),zg 38 31 false (.bin .gtr (.t 37) (.c (.int .i64 1000))),zO 39 31 38] none)
 (.cond (.t 39) (.seq (.reg [zG 2 (.mov (.c (.bool false)))] none)
 .ret) .skip))))
 (.reg [zM 9 4,zG 10 (.bin .add (.t 9) (.c (.int .i64 1))),zM 4 10] none))))))
 (.seq (.reg [zG 2 (.mov (.c (.bool true)))] none)
 .ret))))
theorem f7:aM Tryz.prog 7 40 c7 [.tmp 2]:=⟨_,Tryz.func7,rfl,by kernel_rfl,rfl⟩
def c8:AC:=(.seq (.reg [zG 0 (.mov (.c (.bool false)))] none)
 (.seq (.reg [zG 12 (.call 30 []),zM 1 12] none)
 (.seq (.seq (.reg [zM 13 1,zG 14 (.eqP false (.t 13) (.c (.sc (.pointer none)))),zM 15 14,zm 16 15 false 1,zg 17 15 false (.build [.str [],.str [],.bool false] [(0,1,(.c (.str [97]))),(1,1,(.c (.str [49])))]),zg 18 15 false (.buildSl 3 [(.t 17)]),zg 19 15 false (.call 18 [(.t 16),(.c (.int .i64 5)),(.t 18)]),zg 20 15 false (.bin .neq (.t 19) (.c (.int .i64 0))),zO 21 15 20] none)
 (.cond (.t 21) (.seq (.reg [zG 0 (.mov (.c (.bool false)))] none)
 .ret) .skip))
 (.seq (.reg [zM 23 1,zG 24 (.call 20 [(.t 23),(.c (.int .i64 5))]),zM 22 24,zE 25 22 0,zE 26 22 1,zM 2 25,zM 3 26] none)
 (.seq (.seq (.reg [zM 27 2,zG 28 (.eqP false (.t 27) (.c (.sc (.pointer none)))),zM 29 28,zm 30 29 false 3,zg 31 29 false (.bin .neq (.t 30) (.c (.int .i64 0))),zO 32 29 31] none)
 (.cond (.t 32) (.seq (.reg [zG 0 (.mov (.c (.bool false)))] none)
 .ret) .skip))
 (.seq (.reg [zM 33 2,zG 34 (.call 13 [(.t 33),(.c (.str [98])),(.c (.str [50]))]),zM 4 34] none)
 (.seq (.reg [zM 36 2,zG 37 (.call 15 [(.t 36),(.c (.str [])),(.c (.str [])),(.c (.int .i64 (-1)))]),zM 35 37,zE 38 35 0,zE 39 35 1,zM 5 38,zM 6 39] none)
 (.seq (.reg [zM 40 1,zG 41 (.build [.str [],.str [],.bool false] [(0,1,(.c (.str [99]))),(1,1,(.c (.str [51])))]),zG 42 (.buildSl 3 [(.t 41)]),zG 43 (.call 18 [(.t 40),(.c (.int .i64 6)),(.t 42)])] none)
 (.seq (.reg [zM 45 2,zG 46 (.call 15 [(.t 45),(.c (.str [])),(.c (.str [])),(.c (.int .i64 (-1)))]),zM 44 46,zE 47 44 0,zE 48 44 1,zM 7 47,zM 8 48] none)
 (.seq (.reg [zM 50 2,zG 51 (.call 14 [(.t 50),(.c (.str [98]))]),zM 49 51,zE 52 49 0,zE 53 49 1,zM 9 52,zM 10 53] none)
 (.seq (.reg [zG 54 (.build [.str [],.str []] [(0,1,(.c (.str [97]))),(1,1,(.c (.str [49])))]),zG 55 (.build [.str [],.str []] [(0,1,(.c (.str [98]))),(1,1,(.c (.str [50])))]),zG 56 (.buildSl 2 [(.t 54),(.t 55)]),zM 11 56] none)
 (.seq (.reg [zM 57 4,zG 58 (.bin .eql (.t 57) (.c (.int .i64 0))),zM 59 58,zm 60 59 true 5,zm 61 59 true 11,zg 62 59 true (.call 16 [(.t 60),(.t 61)]),zA 63 59 62,zM 64 63,zm 65 64 true 6,zg 66 64 true (.bin .eql (.t 65) (.c (.int .i64 0))),zA 67 64 66,zM 68 67,zm 69 68 true 7,zm 70 68 true 11,zg 71 68 true (.call 16 [(.t 69),(.t 70)]),zA 72 68 71,zM 73 72,zm 74 73 true 8,zg 75 73 true (.bin .eql (.t 74) (.c (.int .i64 0))),zA 76 73 75,zM 77 76,zm 78 77 true 2,zg 79 77 true (.call 19 [(.t 78)]),zA 80 77 79,zM 81 80,zm 82 81 true 9,zg 83 81 true (.bin .eql (.t 82) (.c (.str [50]))),zA 84 81 83,zM 85 84,zm 86 85 true 10,zg 87 85 true (.bin .eql (.t 86) (.c (.int .i64 0))),zA 88 85 87,zM 89 88,zm 90 89 true 2,zg 91 89 true (.call 22 [(.t 90)]),zg 92 89 true (.build [.str [],.str []] []),zg 93 89 true (.buildSl 2 [(.t 92)]),zg 94 89 true (.build [.sl 1 [] (.exact 0),.sl 2 [] (.exact 0)] [(1,1,(.t 93))]),zg 95 89 true (.call 23 [(.t 91),(.t 94)]),zA 96 89 95,zM 97 96,zm 98 97 true 2,zg 99 97 true (.call 29 [(.t 98)]),zg 100 97 true (.bin .eql (.t 99) (.c (.int .i64 5))),zA 101 97 100,zM 0 101] none)
 .ret))))))))))))
theorem f8:aM Tryz.prog 8 102 c8 [.tmp 0]:=⟨_,Tryz.func8,rfl,by kernel_rfl,rfl⟩
def c9:AC:=(.seq (.reg [zG 2 (.mov (.c (.sc (.pointer none))))] none)
 (.seq (.reg [zG 10 (.call 30 []),zG 11 (.build [.sc (.pointer none),.sl 2 [] (.exact 0),.int .i64 0,.int .i64 0,.sc (.pointer none),.int .i64 0,.sl 3 [] (.exact 0),.sl 1 [] (.exact 0),.sl 2 [] (.exact 0),.bool false] [(0,1,(.t 10))]),zG 12 (.box (.t 11)),zM 3 12] none)
 (.seq (.seq (.reg [zG 4 (.mov (.c (.int .i64 0)))] none)
 (.block 0 (.loop (.seq (.seq (.reg [zM 13 4,zM 14 0,zG 15 (.len false (.t 14)),zG 16 (.bin .lss (.t 13) (.t 15)),zM 17 16,zm 18 17 true 3,zk 19 17 true 18,zf 20 17 true 0 19,zl 21 17 true 20,zg 22 17 true (.eqP true (.t 21) (.c (.sc (.pointer none)))),zA 23 17 22] none)
 (.cond (.t 23) .skip (.exit 0)))
 (.seq (.block 1 (.seq (.reg [zM 26 0,zM 27 4,zG 28 (.iaddr 5 (.t 26) (.t 27)),zW 29 5 28,zG 5 (.alloc [.int .i64 0,.int .i64 0,.str [],.str [],.sl 3 [] (.exact 0)]),zH (.store 5 (.t 5) (.t 29))] none)
 (.seq (.reg [zF 30 0 5,zL 31 30,zG 32 (.bin .eql (.t 31) (.c (.int .i64 4))),zM 33 32,zf 34 33 false 0 5,zl 35 33 false 34,zg 36 33 false (.bin .eql (.t 35) (.c (.int .i64 5))),zO 37 33 36] none)
 (.cond (.t 37) (.seq (.reg [zM 38 3,zW 39 5 5,zG 40 (.call 10 [(.t 38),(.t 39)]),zN 41 40] none)
 (.cond (.t 41) (.seq (.reg [zG 2 (.mov (.c (.sc (.pointer none))))] none)
 .ret) .skip)) .skip))))
 (.reg [zM 24 4,zG 25 (.bin .add (.t 24) (.c (.int .i64 1))),zM 4 25] none))))))
 (.seq (.seq (.reg [zM 42 3,zK 43 42,zF 44 0 43,zL 45 44,zG 46 (.eqP false (.t 45) (.c (.sc (.pointer none))))] none)
 (.cond (.t 46) (.seq (.reg [zG 2 (.mov (.c (.sc (.pointer none))))] none)
 .ret) .skip))
 (.seq (.reg [zM 48 3,zK 49 48,zF 50 0 49,zL 51 50,zM 52 3,zK 53 52,zF 54 0 53,zL 55 54,zG 56 (.call 12 [(.t 55)]),zG 57 (.call 20 [(.t 51),(.t 56)]),zM 47 57,zE 58 47 0,zE 59 47 1,zM 6 58,zM 7 59] (some [(3,7),(3,8)]))
 (.seq (.reg [zM 61 3,zK 62 61,zF 63 1 62,zW 64 3 63,zM 65 3,zK 66 65,zF 67 1 66,zF 68 1 67,zL 69 68,zG 70 (.call 31 [(.t 64),(.t 69)]),zM 60 70,zE 71 60 0,zE 72 60 1,zG 8 (.alloc [.int .i64 0,.sl 3 [] (.exact 0),.sl 1 [] (.exact 0),.sl 2 [] (.exact 0),.bool false]),zH (.store 5 (.t 8) (.t 71)),zM 9 72] (some [(3,8),(3,13),(8,13),(9,13)]))
 (.seq (.seq (.reg [zM 73 6,zG 74 (.eqP false (.t 73) (.c (.sc (.pointer none)))),zM 75 74,zm 76 75 false 7,zg 77 75 false (.bin .neq (.t 76) (.c (.int .i64 0))),zO 78 75 77,zM 79 78,zm 80 79 false 9,zg 81 79 false (.bin .neq (.t 80) (.c (.int .i64 0))),zO 82 79 81] none)
 (.cond (.t 82) (.seq (.reg [zG 2 (.mov (.c (.sc (.pointer none))))] none)
 .ret) .skip))
 (.seq (.reg [zM 83 3,zM 84 3,zM 85 6,zW 86 5 8,zK 87 83,zF 88 4 87,zH (.store 1 (.t 88) (.t 85)),zK 89 84,zF 90 5 89,zH (.store 5 (.t 90) (.t 86))] (some [(3,6)]))
 (.seq (.reg [zM 91 3,zM 2 91] none)
 .ret)))))))))
theorem f9:aM Tryz.prog 9 92 c9 [.tmp 2]:=⟨_,Tryz.func9,rfl,by kernel_rfl,rfl⟩
def c10:AC:=(.seq (.reg [zG 3 (.box (.t 1)),zG 4 (.mov (.c (.bool false)))] none)
 (.seq (.seq (.reg [zF 26 0 3,zL 27 26] none)
 (.block 0 (.seq (.reg [zG 29 (.bin .eql (.t 27) (.c (.int .i64 1))),zM 28 29] none)
 (.cond (.t 28) (.seq (.reg [zM 31 0,zK 32 31,zF 33 5 32,zW 34 5 33,zF 35 2 3,zL 36 35,zG 37 (.build [.str [],.str [],.bool false] [(0,1,(.t 36)),(2,1,(.c (.bool true)))]),zG 38 (.call 32 [(.t 34),(.t 37)]),zM 30 38,zE 39 30 0,zE 40 30 1,zG 5 (.alloc [.int .i64 0,.sl 3 [] (.exact 0),.sl 1 [] (.exact 0),.sl 2 [] (.exact 0),.bool false]),zH (.store 5 (.t 5) (.t 39)),zM 6 40] (some [(3,5),(3,11),(5,11),(7,11)]))
 (.seq (.reg [zM 41 0,zW 42 5 5,zK 43 41,zF 44 5 43,zH (.store 5 (.t 44) (.t 42))] none)
 (.seq (.reg [zM 45 0,zK 46 45,zF 47 4 46,zL 48 47,zF 49 2 3,zL 50 49,zG 51 (.call 17 [(.t 48),(.t 50)]),zM 52 6,zG 53 (.bin .eql (.t 51) (.t 52)),zM 4 53] (some [(3,5)]))
 .ret))) (.seq (.reg [zG 55 (.bin .eql (.t 27) (.c (.int .i64 2))),zM 54 55] none)
 (.cond (.t 54) (.seq (.reg [zM 57 0,zK 58 57,zF 59 5 58,zW 60 5 59,zM 61 0,zK 62 61,zF 63 1 62,zW 64 3 63,zF 65 2 3,zL 66 65,zG 67 (.call 33 [(.t 60),(.t 64),(.t 66)]),zM 56 67,zE 68 56 0,zE 69 56 1,zE 70 56 2,zG 7 (.alloc [.int .i64 0,.sl 3 [] (.exact 0),.sl 1 [] (.exact 0),.sl 2 [] (.exact 0),.bool false]),zH (.store 5 (.t 7) (.t 68)),zM 8 69,zM 9 70] (some [(3,7),(3,9),(7,9),(3,15),(7,15),(9,15),(10,15)]))
 (.seq (.reg [zM 71 0,zW 72 5 7,zK 73 71,zF 74 5 73,zH (.store 5 (.t 74) (.t 72))] none)
 (.seq (.reg [zM 76 0,zK 77 76,zF 78 4 77,zL 79 78,zF 80 2 3,zL 81 80,zG 82 (.call 14 [(.t 79),(.t 81)]),zM 75 82,zE 83 75 0,zE 84 75 1,zM 10 83,zM 11 84] (some [(3,5)]))
 (.seq (.reg [zM 85 10,zM 86 8,zG 87 (.bin .eql (.t 85) (.t 86)),zM 88 87,zm 89 88 true 11,zm 90 88 true 9,zg 91 88 true (.bin .eql (.t 89) (.t 90)),zA 92 88 91,zM 4 92] none)
 .ret)))) (.seq (.reg [zG 94 (.bin .eql (.t 27) (.c (.int .i64 3))),zM 93 94] none)
 (.cond (.t 93) (.seq (.reg [zM 96 0,zK 97 96,zF 98 5 97,zW 99 5 98,zM 100 0,zK 101 100,zF 102 1 101,zW 103 3 102,zF 104 2 3,zL 105 104,zF 106 3 3,zL 107 106,zF 108 1 3,zL 109 108,zG 110 (.call 34 [(.t 99),(.t 103),(.t 105),(.t 107),(.t 109)]),zM 95 110,zE 111 95 0,zE 112 95 1,zE 113 95 2,zG 12 (.alloc [.int .i64 0,.sl 3 [] (.exact 0),.sl 1 [] (.exact 0),.sl 2 [] (.exact 0),.bool false]),zH (.store 5 (.t 12) (.t 111)),zM 13 112,zM 14 113] (some [(3,7),(3,9),(7,9),(3,11),(7,11),(9,11),(3,13),(7,13),(9,13),(11,13),(3,19),(7,19),(9,19),(11,19),(13,19),(14,19)]))
 (.seq (.reg [zM 114 0,zW 115 5 12,zK 116 114,zF 117 5 116,zH (.store 5 (.t 117) (.t 115))] none)
 (.seq (.reg [zM 119 0,zK 120 119,zF 121 4 120,zL 122 121,zF 123 2 3,zL 124 123,zF 125 3 3,zL 126 125,zF 127 1 3,zL 128 127,zG 129 (.call 15 [(.t 122),(.t 124),(.t 126),(.t 128)]),zM 118 129,zE 130 118 0,zE 131 118 1,zM 15 130,zM 16 131] (some [(3,5),(3,7),(5,7),(3,9),(5,9),(7,9)]))
 (.seq (.reg [zM 132 15,zM 133 13,zG 134 (.call 16 [(.t 132),(.t 133)]),zM 135 134,zm 136 135 true 16,zm 137 135 true 14,zg 138 135 true (.bin .eql (.t 136) (.t 137)),zA 139 135 138,zM 4 139] none)
 .ret)))) (.seq (.reg [zG 141 (.bin .eql (.t 27) (.c (.int .i64 4))),zM 140 141] none)
 (.cond (.t 140) (.seq (.reg [zM 143 0,zK 144 143,zF 145 1 144,zW 146 3 145,zM 147 0,zK 148 147,zF 149 1 148,zF 150 1 149,zL 151 150,zG 152 (.bin .add (.t 151) (.c (.int .i64 1))),zF 153 4 3,zL 154 153,zG 155 (.call 35 [(.t 146),(.t 152),(.t 154)]),zM 142 155,zE 156 142 0,zE 157 142 1,zG 17 (.alloc [.sl 2 [] (.exact 0),.int .i64 0,.int .i64 0]),zH (.store 3 (.t 17) (.t 156)),zM 18 157] (some [(3,8),(3,11),(8,11),(3,16),(8,16),(11,16),(12,16)]))
 (.seq (.reg [zM 158 0,zW 159 3 17,zK 160 158,zF 161 1 160,zH (.store 3 (.t 161) (.t 159))] none)
 (.seq (.reg [zM 162 0,zK 163 162,zF 164 0 163,zL 165 164,zM 166 0,zK 167 166,zF 168 0 167,zL 169 168,zG 170 (.call 12 [(.t 169)]),zG 171 (.bin .add (.t 170) (.c (.int .i64 1))),zF 172 4 3,zL 173 172,zG 174 (.call 18 [(.t 165),(.t 171),(.t 173)]),zM 175 18,zG 176 (.bin .eql (.t 174) (.t 175)),zM 4 176] (some [(3,7),(3,8),(3,11),(7,11),(8,11)]))
 .ret))) (.seq (.reg [zG 178 (.bin .eql (.t 27) (.c (.int .i64 5))),zM 177 178] none)
 (.cond (.t 177) (.seq (.reg [zM 180 0,zK 181 180,zF 182 1 181,zW 183 3 182,zF 184 1 3,zL 185 184,zG 186 (.call 36 [(.t 183),(.t 185)]),zM 179 186,zE 187 179 0,zE 188 179 1,zG 19 (.alloc [.sl 2 [] (.exact 0),.int .i64 0,.int .i64 0]),zH (.store 3 (.t 19) (.t 187)),zM 20 188] (some [(3,5),(3,10),(5,10),(6,10)]))
 (.seq (.reg [zM 189 0,zW 190 3 19,zK 191 189,zF 192 1 191,zH (.store 3 (.t 192) (.t 190))] none)
 (.seq (.reg [zM 193 0,zK 194 193,zF 195 0 194,zL 196 195,zF 197 1 3,zL 198 197,zG 199 (.call 37 [(.t 196),(.t 198)]),zM 200 20,zG 201 (.bin .eql (.t 199) (.t 200)),zM 4 201] (some [(3,5)]))
 .ret))) (.seq (.reg [zG 203 (.bin .eql (.t 27) (.c (.int .i64 6))),zM 202 203] none)
 (.cond (.t 202) (.seq (.reg [zM 204 0,zK 205 204,zF 206 5 205,zF 207 4 206,zL 208 207,zM 21 208] none)
 (.seq (.reg [zM 209 0,zK 210 209,zF 211 5 210,zF 212 4 211,zH (.store 1 (.t 212) (.c (.bool true)))] none)
 (.seq (.reg [zM 213 0,zK 214 213,zF 215 4 214,zL 216 215,zG 217 (.call 38 [(.t 216)]),zG 218 (.bin .eql (.t 217) (.c (.int .i64 17))),zM 219 21,zG 220 (.eqB false (.t 218) (.t 219)),zM 4 220] none)
 .ret))) .skip))))))))))))))
 (.seq (.reg [zM 222 0,zK 223 222,zF 224 5 223,zW 225 5 224,zF 226 2 3,zL 227 226,zF 228 3 3,zL 229 228,zG 230 (.build [.str [],.str [],.bool false] [(0,1,(.t 227)),(1,1,(.t 229))]),zG 231 (.call 32 [(.t 225),(.t 230)]),zM 221 231,zE 232 221 0,zE 233 221 1,zG 22 (.alloc [.int .i64 0,.sl 3 [] (.exact 0),.sl 1 [] (.exact 0),.sl 2 [] (.exact 0),.bool false]),zH (.store 5 (.t 22) (.t 232)),zM 23 233] (some [(3,5),(3,7),(5,7),(3,13),(5,13),(7,13),(9,13)]))
 (.seq (.reg [zG 24 (.mov (.c (.int .i64 0)))] none)
 (.seq (.seq (.reg [zF 234 0 3,zL 235 234,zG 236 (.bin .eql (.t 235) (.c (.int .i64 7)))] none)
 (.cond (.t 236) (.seq (.reg [zF 237 4 3,zL 238 237,zM 25 238] none)
 (.seq (.seq (.reg [zF 239 1 3,zL 240 239,zG 241 (.bin .geq (.t 240) (.c (.int .i64 0)))] none)
 (.cond (.t 241) (.reg [zM 242 0,zK 243 242,zF 244 5 243,zF 245 1 244,zL 246 245,zF 247 1 3,zL 248 247,zM 249 0,zK 250 249,zF 251 5 250,zF 252 1 251,zL 253 252,zG 254 (.len false (.t 253)),zG 255 (.mm false (.t 248) (.t 254)),zG 256 (.slc false 3 (.t 246) none (some (.t 255)) none),zM 25 256] (some [(4,6),(4,11),(6,11)])) .skip))
 (.seq (.reg [zM 258 0,zK 259 258,zF 260 5 259,zW 261 5 260,zM 262 25,zG 263 (.call 39 [(.t 261),(.t 262)]),zM 257 263,zE 264 257 0,zE 265 257 1,zH (.store 5 (.t 22) (.t 264)),zM 23 265] none)
 (.reg [zM 266 0,zK 267 266,zF 268 4 267,zL 269 268,zG 270 (.buildSl 3 []),zM 271 25,zG 272 (.app false 3 40 (.t 270) (.t 271)),zG 273 (.call 40 [(.t 269),(.t 272)]),zM 24 273] (some [(3,4),(3,6)]))))) (.reg [zM 274 0,zK 275 274,zF 276 4 275,zL 277 276,zF 278 2 3,zL 279 278,zF 280 3 3,zL 281 280,zG 282 (.call 13 [(.t 277),(.t 279),(.t 281)]),zM 24 282] (some [(3,5),(3,7),(5,7)]))))
 (.seq (.reg [zM 283 0,zW 284 5 22,zK 285 283,zF 286 5 285,zH (.store 5 (.t 286) (.t 284))] none)
 (.seq (.reg [zM 287 24,zM 288 23,zG 289 (.bin .eql (.t 287) (.t 288)),zM 4 289] none)
 .ret)))))))
theorem f10:aM Tryz.prog 10 290 c10 [.tmp 4]:=⟨_,Tryz.func10,rfl,by kernel_rfl,rfl⟩
def c11:AC:=(.seq (.reg [zG 6 (.mov (.c (.str []))),zG 7 (.mov (.c (.int .i64 0)))] none)
 (.seq (.seq (.reg [zM 11 0,zM 12 2,zG 13 (.call 41 [(.t 11),(.t 12)]),zM 8 13] none)
 (.seq (.reg [zM 14 8,zG 15 (.bin .neq (.t 14) (.c (.int .i64 0)))] none)
 (.cond (.t 15) (.seq (.reg [zM 16 8,zG 6 (.mov (.c (.str []))),zM 7 16] none)
 .ret) .skip)))
 (.seq (.reg [zM 18 0,zK 19 18,zF 20 1 19,zL 21 20,zM 22 1,zG 23 (.mlook (.sl 3 [] (.exact 0)) false (.t 21) (.t 22)),zM 24 2,zG 25 (.call 42 [(.t 23),(.t 24)]),zM 17 25,zE 26 17 0,zE 27 17 1,zM 9 26,zM 10 27] none)
 (.seq (.seq (.reg [zM 28 10,zN 29 28] none)
 (.cond (.t 29) (.seq (.reg [zG 6 (.mov (.c (.str []))),zG 7 (.mov (.c (.int .i64 7)))] none)
 .ret) .skip))
 (.seq (.reg [zM 30 9,zM 6 30,zG 7 (.mov (.c (.int .i64 0)))] none)
 .ret)))))
theorem f11:aM Tryz.prog 11 31 c11 [.tmp 6,.tmp 7]:=⟨_,Tryz.func11,rfl,by kernel_rfl,rfl⟩
def c12:AC:=(.seq (.reg [zG 2 (.mov (.c (.int .i64 0)))] none)
 (.seq (.seq (.reg [zM 3 0,zG 4 (.call 43 [(.t 3)]),zN 5 4] none)
 (.cond (.t 5) (.seq (.reg [zG 2 (.mov (.c (.int .i64 0)))] none)
 .ret) .skip))
 (.seq (.reg [zM 6 0,zK 7 6,zF 8 2 7,zL 9 8,zM 2 9] none)
 .ret)))
theorem f12:aM Tryz.prog 12 10 c12 [.tmp 2]:=⟨_,Tryz.func12,rfl,by kernel_rfl,rfl⟩
def c13:AC:=(.seq (.reg [zG 6 (.mov (.c (.int .i64 0)))] none)
 (.seq (.reg [zM 7 0,zM 8 1,zM 9 2,zG 10 (.build [.str [],.str [],.bool false] [(0,1,(.t 8)),(1,1,(.t 9))]),zG 11 (.call 44 [(.t 7),(.t 10)]),zM 6 11] none)
 .ret))
theorem f13:aM Tryz.prog 13 12 c13 [.tmp 6]:=⟨_,Tryz.func13,rfl,by kernel_rfl,rfl⟩
def c14:AC:=(.seq (.reg [zG 2 (.box (.t 0)),zG 3 (.box (.t 1)),zG 4 (.mov (.c (.str []))),zG 5 (.mov (.c (.int .i64 0)))] none)
 (.seq (.reg [zL 6 2,zG 7 (.mkfn (.func 46) [] [(.t 2),(.t 3)]),zG 8 (.call 45 [(.t 6),(.t 7)]),zE 9 8 0,zE 10 8 1,zM 4 9,zM 5 10] none)
 .ret))
theorem f14:aM Tryz.prog 14 11 c14 [.tmp 4,.tmp 5]:=⟨_,Tryz.func14,rfl,by kernel_rfl,rfl⟩
def c15:AC:=(.seq (.reg [zG 4 (.box (.t 0)),zG 5 (.box (.t 1)),zG 6 (.box (.t 2)),zG 7 (.box (.t 3)),zG 8 (.mov (.c (.sl 2 [] (.exact 0)))),zG 9 (.mov (.c (.int .i64 0)))] none)
 (.seq (.reg [zL 10 4,zG 11 (.mkfn (.func 49) [] [(.t 4),(.t 5),(.t 6),(.t 7)]),zG 12 (.call 48 [(.t 10),(.t 11)]),zE 13 12 0,zE 14 12 1,zM 8 13,zM 9 14] none)
 .ret))
theorem f15:aM Tryz.prog 15 15 c15 [.tmp 8,.tmp 9]:=⟨_,Tryz.func15,rfl,by kernel_rfl,rfl⟩
def c16:AC:=(.seq (.reg [zG 4 (.mov (.c (.bool false)))] none)
 (.seq (.seq (.reg [zM 6 0,zG 7 (.len false (.t 6)),zM 8 1,zG 9 (.len false (.t 8)),zG 10 (.bin .neq (.t 7) (.t 9))] none)
 (.cond (.t 10) (.seq (.reg [zG 4 (.mov (.c (.bool false)))] none)
 .ret) .skip))
 (.seq (.seq (.reg [zG 5 (.mov (.c (.int .i64 0)))] none)
 (.block 0 (.loop (.seq (.seq (.reg [zM 11 5,zM 12 0,zG 13 (.len false (.t 12)),zG 14 (.bin .lss (.t 11) (.t 13))] none)
 (.cond (.t 14) .skip (.exit 0)))
 (.seq (.block 1 (.seq (.reg [zM 17 0,zM 18 5,zG 19 (.iaddr 2 (.t 17) (.t 18)),zW 20 2 19,zM 21 1,zM 22 5,zG 23 (.iaddr 2 (.t 21) (.t 22)),zW 24 2 23,zG 25 (.eqA true [.str,.str] (.t 20) (.t 24))] (some [(3,7)]))
 (.cond (.t 25) (.seq (.reg [zG 4 (.mov (.c (.bool false)))] none)
 .ret) .skip)))
 (.reg [zM 15 5,zG 16 (.bin .add (.t 15) (.c (.int .i64 1))),zM 5 16] none))))))
 (.seq (.reg [zG 4 (.mov (.c (.bool true)))] none)
 .ret))))
theorem f16:aM Tryz.prog 16 26 c16 [.tmp 4]:=⟨_,Tryz.func16,rfl,by kernel_rfl,rfl⟩
def c17:AC:=(.seq (.reg [zG 4 (.mov (.c (.int .i64 0)))] none)
 (.seq (.reg [zM 5 0,zM 6 1,zG 7 (.build [.str [],.str [],.bool false] [(0,1,(.t 6)),(2,1,(.c (.bool true)))]),zG 8 (.call 44 [(.t 5),(.t 7)]),zM 4 8] none)
 .ret))
theorem f17:aM Tryz.prog 17 9 c17 [.tmp 4]:=⟨_,Tryz.func17,rfl,by kernel_rfl,rfl⟩
def c18:AC:=(.seq (.reg [zG 6 (.mov (.c (.int .i64 0)))] none)
 (.seq (.block 0 (.seq (.reg [zM 12 0,zG 13 (.call 43 [(.t 12)]),zN 14 13,zM 11 14] none)
 (.cond (.t 11) (.seq (.reg [zG 6 (.mov (.c (.int .i64 1)))] none)
 .ret) (.seq (.reg [zM 16 1,zM 17 0,zK 18 17,zF 19 2 18,zL 20 19,zG 21 (.bin .leq (.t 16) (.t 20)),zM 22 21,zm 23 22 false 1,zg 24 22 false (.bin .gtr (.t 23) (.c (.int .i64 1152921504606846976))),zO 25 22 24,zM 15 25] none)
 (.cond (.t 15) (.seq (.reg [zG 6 (.mov (.c (.int .i64 18)))] none)
 .ret) (.seq (.reg [zM 27 2,zG 28 (.call 53 [(.t 27)]),zN 29 28,zM 26 29] none)
 (.cond (.t 26) (.seq (.reg [zG 6 (.mov (.c (.int .i64 2)))] none)
 .ret) .skip)))))))
 (.seq (.seq (.reg [zM 30 2,zG 31 (.len false (.t 30)),zG 32 (.mov (.c (.int .i64 0)))] none)
 (.block 1 (.loop (.seq (.reg [zG 33 (.bin .lss (.t 32) (.t 31))] none)
 (.seq (.cond (.t 33) .skip (.exit 1))
 (.seq (.block 2 (.seq (.reg [zG 34 (.iaddr 3 (.t 30) (.t 32)),zW 35 3 34,zG 8 (.alloc [.str [],.str [],.bool false]),zH (.store 3 (.t 8) (.t 35))] none)
 (.seq (.reg [zM 37 0,zK 38 37,zF 39 1 38,zL 40 39,zF 41 0 8,zL 42 41,zG 43 (.mlook (.sl 3 [] (.exact 0)) false (.t 40) (.t 42)),zM 44 1,zF 45 1 8,zL 46 45,zF 47 2 8,zL 48 47,zG 49 (.build [.int .i64 0,.str [],.bool false] [(0,1,(.t 44)),(1,1,(.t 46)),(2,1,(.t 48))]),zG 50 (.call 54 [(.t 43),(.t 49)]),zM 36 50,zE 51 36 0,zE 52 36 1,zM 9 51,zM 10 52] (some [(3,5),(3,9),(5,9),(6,9),(3,11),(5,11),(6,11),(9,11)]))
 (.reg [zM 53 0,zF 54 0 8,zL 55 54,zM 56 9,zG 57 (.call 55 [(.t 53),(.t 55),(.t 56)])] none))))
 (.reg [zG 58 (.bin .add (.t 32) (.c (.int .i64 1))),zM 32 58] none)))))))
 (.seq (.reg [zM 59 0,zM 60 1,zK 61 59,zF 62 2 61,zH (.store 1 (.t 62) (.t 60))] none)
 (.seq (.reg [zG 6 (.mov (.c (.int .i64 0)))] none)
 .ret)))))
theorem f18:aM Tryz.prog 18 63 c18 [.tmp 6]:=⟨_,Tryz.func18,rfl,by kernel_rfl,rfl⟩
def c19:AC:=(.seq (.reg [zG 1 (.box (.t 0)),zG 2 (.mov (.c (.bool false)))] none)
 (.seq (.seq (.reg [zL 4 1,zG 5 (.call 56 [(.t 4)]),zN 6 5] none)
 (.cond (.t 6) (.seq (.reg [zG 2 (.mov (.c (.bool false)))] none)
 .ret) .skip))
 (.seq (.reg [zG 7 (.mkfn (.func 57) [] [(.t 1)]),zM 3 7] none)
 (.seq (.reg [zL 8 1,zK 9 8,zF 10 3 9,zL 11 10,zM 12 3,zG 13 (.call 59 [(.t 11),(.t 12)]),zM 14 13,zl 15 14 false 1,zk 16 14 false 15,zf 17 14 false 4 16,zw 18 14 false 2 17,zl 19 14 false 1,zk 20 14 false 19,zf 21 14 false 0 20,zl 22 14 false 21,zl 23 14 false 1,zk 24 14 false 23,zf 25 14 false 1 24,zl 26 14 false 25,zg 27 14 false (.call 60 [(.t 18),(.t 22),(.t 26)]),zO 28 14 27,zM 2 28] (some [(7,11),(10,11),(7,14),(10,14),(7,15),(10,15),(11,15),(14,15),(7,18),(10,18),(11,18),(14,18)]))
 .ret))))
theorem f19:aM Tryz.prog 19 29 c19 [.tmp 2]:=⟨_,Tryz.func19,rfl,by kernel_rfl,rfl⟩
def c20:AC:=(.seq (.reg [zG 4 (.mov (.c (.sc (.pointer none)))),zG 5 (.mov (.c (.int .i64 0)))] none)
 (.seq (.seq (.reg [zM 9 0,zM 10 1,zG 11 (.call 11 [(.t 9),(.c (.str [])),(.t 10)]),zM 8 11,zE 12 8 0,zE 13 8 1,zM 6 12,zM 7 13] none)
 (.seq (.reg [zM 14 7,zG 15 (.bin .neq (.t 14) (.c (.int .i64 0))),zM 16 15,zm 17 16 true 7,zg 18 16 true (.bin .neq (.t 17) (.c (.int .i64 7))),zA 19 16 18] none)
 (.cond (.t 19) (.seq (.reg [zM 20 7,zG 4 (.mov (.c (.sc (.pointer none)))),zM 5 20] none)
 .ret) .skip)))
 (.seq (.reg [zM 21 0,zM 22 1,zG 23 (.mkmap),zG 24 (.build [.sc (.pointer none),.int .i64 0,.sc (.map none),.sl 1 [] (.exact 0),.sl 1 [] (.exact 0),.sl 2 [] (.exact 0),.bool false] [(0,1,(.t 21)),(1,1,(.t 22)),(2,1,(.t 23))]),zG 25 (.box (.t 24)),zM 4 25,zG 5 (.mov (.c (.int .i64 0)))] none)
 .ret)))
theorem f20:aM Tryz.prog 20 26 c20 [.tmp 4,.tmp 5]:=⟨_,Tryz.func20,rfl,by kernel_rfl,rfl⟩
def c21:AC:=(.seq (.reg [zG 2 (.mov (.c (.sl 3 [] (.exact 0))))] none)
 (.seq (.seq (.reg [zM 6 0,zG 7 (.call 56 [(.t 6)]),zN 8 7] none)
 (.cond (.t 8) (.seq (.reg [zG 2 (.mov (.c (.sl 3 [] (.exact 0))))] none)
 .ret) .skip))
 (.seq (.reg [zG 3 (.mov (.c (.sl 3 [] (.exact 0))))] none)
 (.seq (.seq (.reg [zM 9 0,zK 10 9,zF 11 3 10,zL 12 11,zG 13 (.len false (.t 12)),zG 14 (.mov (.c (.int .i64 0)))] none)
 (.block 0 (.loop (.seq (.reg [zG 15 (.bin .lss (.t 14) (.t 13))] none)
 (.seq (.cond (.t 15) .skip (.exit 0))
 (.seq (.block 1 (.seq (.reg [zG 16 (.iaddr 1 (.t 12) (.t 14)),zL 17 16,zM 5 17] none)
 (.reg [zM 18 3,zM 19 0,zK 20 19,zF 21 2 20,zL 22 21,zM 23 5,zG 24 (.mlook (.agg [.str [],.str [],.bool false]) false (.t 22) (.t 23)),zG 25 (.buildSl 3 [(.t 24)]),zG 26 (.app false 3 40 (.t 18) (.t 25)),zM 3 26] none)))
 (.reg [zG 27 (.bin .add (.t 14) (.c (.int .i64 1))),zM 14 27] none)))))))
 (.seq (.reg [zM 28 3,zM 2 28] none)
 .ret)))))
theorem f21:aM Tryz.prog 21 29 c21 [.tmp 2]:=⟨_,Tryz.func21,rfl,by kernel_rfl,rfl⟩
def c22:AC:=(.seq (.reg [zG 2 (.alloc [.sl 1 [] (.exact 0),.sl 2 [] (.exact 0)])] none)
 (.seq (.seq (.reg [zM 3 0,zG 4 (.call 56 [(.t 3)]),zN 5 4] none)
 (.cond (.t 5) (.seq (.reg [zG 6 (.build [.sl 1 [] (.exact 0),.sl 2 [] (.exact 0)] []),zH (.store 2 (.t 2) (.t 6))] none)
 .ret) .skip))
 (.seq (.reg [zM 7 0,zK 8 7,zF 9 4 8,zF 10 0 9,zL 11 10,zG 12 (.call 61 [(.t 11)]),zM 13 0,zK 14 13,zF 15 4 14,zF 16 1 15,zL 17 16,zG 18 (.call 62 [(.t 17)]),zG 19 (.build [.sl 1 [] (.exact 0),.sl 2 [] (.exact 0)] [(0,1,(.t 12)),(1,1,(.t 18))]),zH (.store 2 (.t 2) (.t 19))] (some [(4,10),(5,10)]))
 .ret)))
theorem f22:aM Tryz.prog 22 20 c22 [.cell 2 (some 2)]:=⟨_,Tryz.func22,rfl,by kernel_rfl,rfl⟩
def c23:AC:=(.seq (.reg [zG 2 (.box (.t 0)),zG 3 (.box (.t 1)),zG 4 (.mov (.c (.bool false)))] none)
 (.seq (.seq (.reg [zF 7 0 2,zL 8 7,zG 9 (.len false (.t 8)),zF 10 0 3,zL 11 10,zG 12 (.len false (.t 11)),zG 13 (.bin .neq (.t 9) (.t 12)),zM 14 13,zf 15 14 false 1 2,zl 16 14 false 15,zg 17 14 false (.len false (.t 16)),zf 18 14 false 1 3,zl 19 14 false 18,zg 20 14 false (.len false (.t 19)),zg 21 14 false (.bin .neq (.t 17) (.t 20)),zO 22 14 21] none)
 (.cond (.t 22) (.seq (.reg [zG 4 (.mov (.c (.bool false)))] none)
 .ret) .skip))
 (.seq (.seq (.reg [zG 5 (.mov (.c (.int .i64 0)))] none)
 (.block 0 (.loop (.seq (.seq (.reg [zM 23 5,zF 24 0 2,zL 25 24,zG 26 (.len false (.t 25)),zG 27 (.bin .lss (.t 23) (.t 26))] none)
 (.cond (.t 27) .skip (.exit 0)))
 (.seq (.block 1 (.seq (.reg [zF 30 0 2,zL 31 30,zM 32 5,zG 33 (.iaddr 1 (.t 31) (.t 32)),zL 34 33,zF 35 0 3,zL 36 35,zM 37 5,zG 38 (.iaddr 1 (.t 36) (.t 37)),zL 39 38,zG 40 (.bin .neq (.t 34) (.t 39))] (some [(1,6),(4,6),(1,9),(4,9)]))
 (.cond (.t 40) (.seq (.reg [zG 4 (.mov (.c (.bool false)))] none)
 .ret) .skip)))
 (.reg [zM 28 5,zG 29 (.bin .add (.t 28) (.c (.int .i64 1))),zM 5 29] none))))))
 (.seq (.seq (.reg [zG 6 (.mov (.c (.int .i64 0)))] none)
 (.block 2 (.loop (.seq (.seq (.reg [zM 41 6,zF 42 1 2,zL 43 42,zG 44 (.len false (.t 43)),zG 45 (.bin .lss (.t 41) (.t 44))] none)
 (.cond (.t 45) .skip (.exit 2)))
 (.seq (.block 3 (.seq (.reg [zF 48 1 2,zL 49 48,zM 50 6,zG 51 (.iaddr 2 (.t 49) (.t 50)),zW 52 2 51,zF 53 1 3,zL 54 53,zM 55 6,zG 56 (.iaddr 2 (.t 54) (.t 55)),zW 57 2 56,zG 58 (.eqA true [.str,.str] (.t 52) (.t 57))] (some [(1,6),(4,6),(1,9),(4,9)]))
 (.cond (.t 58) (.seq (.reg [zG 4 (.mov (.c (.bool false)))] none)
 .ret) .skip)))
 (.reg [zM 46 6,zG 47 (.bin .add (.t 46) (.c (.int .i64 1))),zM 6 47] none))))))
 (.seq (.reg [zG 4 (.mov (.c (.bool true)))] none)
 .ret)))))
theorem f23:aM Tryz.prog 23 59 c23 [.tmp 4]:=⟨_,Tryz.func23,rfl,by kernel_rfl,rfl⟩
def c24:AC:=(.seq (.reg [zG 4 (.mov (.c (.bool false)))] none)
 (.seq (.seq (.reg [zM 6 0,zG 7 (.len false (.t 6)),zM 8 1,zG 9 (.len false (.t 8)),zG 10 (.bin .neq (.t 7) (.t 9))] none)
 (.cond (.t 10) (.seq (.reg [zG 4 (.mov (.c (.bool false)))] none)
 .ret) .skip))
 (.seq (.seq (.reg [zG 5 (.mov (.c (.int .i64 0)))] none)
 (.block 0 (.loop (.seq (.seq (.reg [zM 11 5,zM 12 0,zG 13 (.len false (.t 12)),zG 14 (.bin .lss (.t 11) (.t 13))] none)
 (.cond (.t 14) .skip (.exit 0)))
 (.seq (.block 1 (.seq (.reg [zM 17 0,zM 18 5,zG 19 (.iaddr 3 (.t 17) (.t 18)),zW 20 3 19,zM 21 1,zM 22 5,zG 23 (.iaddr 3 (.t 21) (.t 22)),zW 24 3 23,zG 25 (.eqA true [.str,.str,.bool] (.t 20) (.t 24))] (some [(3,7)]))
 (.cond (.t 25) (.seq (.reg [zG 4 (.mov (.c (.bool false)))] none)
 .ret) .skip)))
 (.reg [zM 15 5,zG 16 (.bin .add (.t 15) (.c (.int .i64 1))),zM 5 16] none))))))
 (.seq (.reg [zG 4 (.mov (.c (.bool true)))] none)
 .ret))))
theorem f24:aM Tryz.prog 24 26 c24 [.tmp 4]:=⟨_,Tryz.func24,rfl,by kernel_rfl,rfl⟩
def c25:AC:=(.seq (.reg [zG 2 (.mov (.c (.bool false)))] none)
 (.seq (.reg [zM 3 0,zG 4 (.call 56 [(.t 3)]),zM 5 4,zm 6 5 true 0,zk 7 5 true 6,zf 8 5 true 6 7,zl 9 5 true 8,zA 10 5 9,zM 2 10] none)
 .ret))
theorem f25:aM Tryz.prog 25 11 c25 [.tmp 2]:=⟨_,Tryz.func25,rfl,by kernel_rfl,rfl⟩
def c26:AC:=(.seq (.reg [zG 2 (.box (.t 0)),zG 3 (.box (.t 1)),zG 4 (.mov (.c (.bool false)))] none)
 (.seq (.seq (.reg [zG 5 (.mov (.c (.int .i64 0)))] none)
 (.block 0 (.loop (.seq (.seq (.reg [zM 6 5,zF 7 1 2,zL 8 7,zG 9 (.len false (.t 8)),zG 10 (.bin .lss (.t 6) (.t 9))] none)
 (.cond (.t 10) .skip (.exit 0)))
 (.seq (.block 1 (.seq (.reg [zW 13 3 3,zF 14 1 2,zL 15 14,zM 16 5,zG 17 (.iaddr 3 (.t 15) (.t 16)),zF 18 0 17,zL 19 18,zF 20 1 2,zL 21 20,zM 22 5,zG 23 (.iaddr 3 (.t 21) (.t 22)),zF 24 0 23,zL 25 24,zG 26 (.bin .add (.t 25) (.c (.str [0]))),zF 27 0 2,zL 28 27,zG 29 (.call 63 [(.t 13),(.t 19),(.t 26),(.t 28)])] (some [(0,2),(0,6),(0,8),(2,8),(6,8),(0,12),(2,12),(6,12),(0,15),(2,15),(6,15),(8,15),(12,15)]))
 (.cond (.t 29) (.seq (.reg [zG 4 (.mov (.c (.bool true)))] none)
 .ret) .skip)))
 (.reg [zM 11 5,zG 12 (.bin .add (.t 11) (.c (.int .i64 1))),zM 5 12] none))))))
 (.seq (.reg [zF 30 2 2,zW 31 2 30,zW 32 3 3,zF 33 0 2,zL 34 33,zG 35 (.call 64 [(.t 31),(.t 32),(.t 34)]),zM 4 35] none)
 .ret)))
theorem f26:aM Tryz.prog 26 36 c26 [.tmp 4]:=⟨_,Tryz.func26,rfl,by kernel_rfl,rfl⟩
def c27:AC:=(.seq (.reg [zG 2 (.box (.t 0)),zG 4 (.mov (.c (.bool false)))] none)
 (.seq (.seq (.reg [zL 6 2,zG 7 (.call 56 [(.t 6)]),zN 8 7] none)
 (.cond (.t 8) (.seq (.reg [zG 4 (.mov (.c (.bool false)))] none)
 .ret) .skip))
 (.seq (.reg [zG 9 (.mkfn (.func 65) [] [(.t 2)]),zM 5 9] none)
 (.seq (.reg [zM 10 1,zM 11 5,zG 12 (.call 66 [(.t 10),(.t 11)]),zM 13 12,zl 14 13 false 2,zk 15 13 false 14,zf 16 13 false 4 15,zw 17 13 false 2 16,zm 18 13 false 1,zg 19 13 false (.call 67 [(.t 17),(.t 18)]),zO 20 13 19,zM 4 20] none)
 .ret))))
theorem f27:aM Tryz.prog 27 21 c27 [.tmp 4]:=⟨_,Tryz.func27,rfl,by kernel_rfl,rfl⟩
def c28:AC:=(.seq (.reg [zG 2 (.box (.t 0)),zG 4 (.mov (.c (.bool false)))] none)
 (.seq (.seq (.reg [zG 5 (.mov (.c (.int .i64 0)))] none)
 (.block 0 (.loop (.seq (.seq (.reg [zM 8 5,zM 9 1,zG 10 (.len false (.t 9)),zG 11 (.bin .lss (.t 8) (.t 10))] none)
 (.cond (.t 11) .skip (.exit 0)))
 (.seq (.block 1 (.seq (.reg [zW 15 5 2,zM 16 1,zM 17 5,zG 18 (.iaddr 3 (.t 16) (.t 17)),zF 19 0 18,zL 20 19,zG 21 (.call 68 [(.t 15),(.t 20)]),zM 14 21,zE 22 14 0,zE 23 14 1,zG 6 (.alloc [.str [],.str [],.bool false]),zH (.store 3 (.t 6) (.t 22)),zM 7 23] (some [(0,5),(0,10),(5,10),(6,10)]))
 (.seq (.reg [zM 24 7] none)
 (.cond (.t 24) (.seq (.reg [zG 4 (.mov (.c (.bool true)))] none)
 .ret) .skip))))
 (.reg [zM 12 5,zG 13 (.bin .add (.t 12) (.c (.int .i64 1))),zM 5 13] none))))))
 (.seq (.reg [zF 25 2 2,zW 26 2 25,zM 27 1,zG 28 (.call 69 [(.t 26),(.t 27)]),zM 4 28] none)
 .ret)))
theorem f28:aM Tryz.prog 28 29 c28 [.tmp 4]:=⟨_,Tryz.func28,rfl,by kernel_rfl,rfl⟩
def c29:AC:=(.seq (.reg [zG 2 (.mov (.c (.int .i64 0)))] none)
 (.seq (.seq (.reg [zM 3 0,zG 4 (.call 56 [(.t 3)]),zN 5 4] none)
 (.cond (.t 5) (.seq (.reg [zG 2 (.mov (.c (.int .i64 0)))] none)
 .ret) .skip))
 (.seq (.reg [zM 6 0,zK 7 6,zF 8 1 7,zL 9 8,zM 2 9] none)
 .ret)))
theorem f29:aM Tryz.prog 29 10 c29 [.tmp 2]:=⟨_,Tryz.func29,rfl,by kernel_rfl,rfl⟩
def c30:AC:=(.seq (.reg [zG 0 (.mov (.c (.sc (.pointer none))))] none)
 (.seq (.reg [zG 1 (.mkmap),zG 2 (.build [.sl 1 [] (.exact 0),.sc (.map none),.int .i64 0,.int .i64 0] [(1,1,(.t 1))]),zG 3 (.box (.t 2)),zM 0 3] none)
 .ret))
theorem f30:aM Tryz.prog 30 4 c30 [.tmp 0]:=⟨_,Tryz.func30,rfl,by kernel_rfl,rfl⟩
def c31:AC:=(.seq (.reg [zG 2 (.box (.t 0)),zG 4 (.alloc [.int .i64 0,.sl 3 [] (.exact 0),.sl 1 [] (.exact 0),.sl 2 [] (.exact 0),.bool false]),zG 5 (.mov (.c (.int .i64 0)))] none)
 (.seq (.seq (.reg [zW 9 3 2,zM 10 1,zG 11 (.call 70 [(.t 9),(.c (.str [])),(.t 10)]),zM 8 11,zE 12 8 0,zE 13 8 1,zM 6 12,zM 7 13] none)
 (.seq (.reg [zM 14 7,zG 15 (.bin .neq (.t 14) (.c (.int .i64 0))),zM 16 15,zm 17 16 true 7,zg 18 16 true (.bin .neq (.t 17) (.c (.int .i64 7))),zA 19 16 18] none)
 (.cond (.t 19) (.seq (.reg [zG 20 (.build [.int .i64 0,.sl 3 [] (.exact 0),.sl 1 [] (.exact 0),.sl 2 [] (.exact 0),.bool false] []),zM 21 7,zH (.store 5 (.t 4) (.t 20)),zM 5 21] none)
 .ret) .skip)))
 (.seq (.reg [zM 22 1,zG 23 (.build [.int .i64 0,.sl 3 [] (.exact 0),.sl 1 [] (.exact 0),.sl 2 [] (.exact 0),.bool false] [(0,1,(.t 22))]),zH (.store 5 (.t 4) (.t 23)),zG 5 (.mov (.c (.int .i64 0)))] none)
 .ret)))
theorem f31:aM Tryz.prog 31 24 c31 [.cell 4 (some 5),.tmp 5]:=⟨_,Tryz.func31,rfl,by kernel_rfl,rfl⟩
def c32:AC:=(.seq (.reg [zG 2 (.box (.t 0)),zG 3 (.box (.t 1)),zG 4 (.alloc [.int .i64 0,.sl 3 [] (.exact 0),.sl 1 [] (.exact 0),.sl 2 [] (.exact 0),.bool false]),zG 5 (.mov (.c (.int .i64 0)))] none)
 (.seq (.seq (.reg [zF 9 4 2,zL 10 9] none)
 (.cond (.t 10) (.seq (.reg [zW 11 5 2,zH (.store 5 (.t 4) (.t 11)),zG 5 (.mov (.c (.int .i64 17)))] none)
 .ret) .skip))
 (.seq (.seq (.reg [zW 12 3 3,zG 13 (.call 71 [(.t 12)]),zN 14 13] none)
 (.cond (.t 14) (.seq (.reg [zW 15 5 2,zH (.store 5 (.t 4) (.t 15)),zG 5 (.mov (.c (.int .i64 2)))] none)
 .ret) .skip))
 (.seq (.reg [zG 6 (.mov (.c (.sl 3 [] (.exact 0))))] none)
 (.seq (.reg [zG 7 (.mov (.c (.bool false)))] none)
 (.seq (.seq (.reg [zG 8 (.mov (.c (.int .i64 0)))] none)
 (.block 0 (.loop (.seq (.seq (.reg [zM 16 8,zF 17 1 2,zL 18 17,zG 19 (.len false (.t 18)),zG 20 (.bin .lss (.t 16) (.t 19))] none)
 (.cond (.t 20) .skip (.exit 0)))
 (.seq (.block 1 (.seq (.seq (.reg [zM 23 7,zN 24 23,zM 25 24,zf 26 25 true 1 2,zl 27 25 true 26,zm 28 25 true 8,zg 29 25 true (.iaddr 3 (.t 27) (.t 28)),zf 30 25 true 0 29,zl 31 25 true 30,zf 32 25 true 0 3,zl 33 25 true 32,zg 34 25 true (.call 72 [(.t 31),(.t 33)]),zn 35 25 true 34,zA 36 25 35] (some [(4,10),(8,10)]))
 (.cond (.t 36) (.seq (.reg [zM 37 6,zW 38 3 3,zG 39 (.buildSl 3 [(.t 38)]),zG 40 (.app false 3 40 (.t 37) (.t 39)),zM 6 40] none)
 (.reg [zG 7 (.mov (.c (.bool true)))] none)) .skip))
 (.seq (.reg [zF 41 1 2,zL 42 41,zM 43 8,zG 44 (.iaddr 3 (.t 42) (.t 43)),zF 45 0 44,zL 46 45,zF 47 0 3,zL 48 47,zG 49 (.bin .neq (.t 46) (.t 48))] (some [(1,7),(5,7)]))
 (.cond (.t 49) (.reg [zM 50 6,zF 51 1 2,zL 52 51,zM 53 8,zG 54 (.iaddr 3 (.t 52) (.t 53)),zW 55 3 54,zG 56 (.buildSl 3 [(.t 55)]),zG 57 (.app false 3 40 (.t 50) (.t 56)),zM 6 57] none) .skip))))
 (.reg [zM 21 8,zG 22 (.bin .add (.t 21) (.c (.int .i64 1))),zM 8 22] none))))))
 (.seq (.seq (.reg [zM 58 7,zN 59 58] none)
 (.cond (.t 59) (.reg [zM 60 6,zW 61 3 3,zG 62 (.buildSl 3 [(.t 61)]),zG 63 (.app false 3 40 (.t 60) (.t 62)),zM 6 63] none) .skip))
 (.seq (.seq (.reg [zM 64 6,zG 65 (.len false (.t 64)),zG 66 (.bin .gtr (.t 65) (.c (.int .i64 64)))] none)
 (.cond (.t 66) (.seq (.reg [zW 67 5 2,zH (.store 5 (.t 4) (.t 67)),zG 5 (.mov (.c (.int .i64 9)))] none)
 .ret) .skip))
 (.seq (.reg [zM 68 6,zF 69 1 2,zH (.store 1 (.t 69) (.t 68))] none)
 (.seq (.reg [zW 70 5 2,zH (.store 5 (.t 4) (.t 70)),zG 5 (.mov (.c (.int .i64 0)))] none)
 .ret))))))))))
theorem f32:aM Tryz.prog 32 71 c32 [.cell 4 (some 5),.tmp 5]:=⟨_,Tryz.func32,rfl,by kernel_rfl,rfl⟩
def c33:AC:=(.seq (.reg [zG 3 (.box (.t 0)),zG 4 (.box (.t 1)),zG 6 (.alloc [.int .i64 0,.sl 3 [] (.exact 0),.sl 1 [] (.exact 0),.sl 2 [] (.exact 0),.bool false]),zG 7 (.mov (.c (.str []))),zG 8 (.mov (.c (.int .i64 0)))] none)
 (.seq (.seq (.reg [zF 15 4 3,zL 16 15] none)
 (.cond (.t 16) (.seq (.reg [zW 17 5 3,zH (.store 5 (.t 6) (.t 17)),zG 7 (.mov (.c (.str []))),zG 8 (.mov (.c (.int .i64 17)))] none)
 .ret) .skip))
 (.seq (.seq (.reg [zW 19 5 3,zM 20 2,zG 21 (.call 68 [(.t 19),(.t 20)]),zM 18 21,zE 22 18 0,zE 23 18 1,zG 9 (.alloc [.str [],.str [],.bool false]),zH (.store 3 (.t 9) (.t 22)),zM 10 23] none)
 (.seq (.reg [zM 24 10] none)
 (.cond (.t 24) (.seq (.seq (.reg [zF 25 2 9,zL 26 25] none)
 (.cond (.t 26) (.seq (.reg [zW 27 5 3,zH (.store 5 (.t 6) (.t 27)),zG 7 (.mov (.c (.str []))),zG 8 (.mov (.c (.int .i64 7)))] none)
 .ret) .skip))
 (.seq (.reg [zW 28 5 3,zF 29 1 9,zL 30 29,zH (.store 5 (.t 6) (.t 28)),zM 7 30,zG 8 (.mov (.c (.int .i64 0)))] (some [(0,2),(2,3)]))
 .ret)) .skip)))
 (.seq (.seq (.reg [zF 31 0 3,zL 32 31,zF 33 2 4,zL 34 33,zG 35 (.bin .lss (.t 32) (.t 34))] none)
 (.cond (.t 35) (.seq (.reg [zW 36 5 3,zH (.store 5 (.t 6) (.t 36)),zG 7 (.mov (.c (.str []))),zG 8 (.mov (.c (.int .i64 12)))] none)
 .ret) .skip))
 (.seq (.reg [zF 38 2 3,zW 39 2 38,zM 40 2,zG 41 (.call 73 [(.t 39),(.t 40)]),zM 37 41,zE 42 37 0,zE 43 37 1,zG 11 (.alloc [.sl 1 [] (.exact 0),.sl 2 [] (.exact 0)]),zH (.store 2 (.t 11) (.t 42)),zM 12 43] none)
 (.seq (.seq (.reg [zM 44 12,zG 45 (.bin .neq (.t 44) (.c (.int .i64 0)))] none)
 (.cond (.t 45) (.seq (.reg [zW 46 5 3,zM 47 12,zH (.store 5 (.t 6) (.t 46)),zG 7 (.mov (.c (.str []))),zM 8 47] none)
 .ret) .skip))
 (.seq (.reg [zW 48 2 11,zF 49 2 3,zH (.store 2 (.t 49) (.t 48))] none)
 (.seq (.reg [zW 51 3 4,zM 52 2,zF 53 0 3,zL 54 53,zG 55 (.call 70 [(.t 51),(.t 52),(.t 54)]),zM 50 55,zE 56 50 0,zE 57 50 1,zM 13 56,zM 14 57] none)
 (.seq (.reg [zW 58 5 3,zM 59 13,zM 60 14,zH (.store 5 (.t 6) (.t 58)),zM 7 59,zM 8 60] none)
 .ret)))))))))
theorem f33:aM Tryz.prog 33 61 c33 [.cell 6 (some 5),.tmp 7,.tmp 8]:=⟨_,Tryz.func33,rfl,by kernel_rfl,rfl⟩
def c34:AC:=(.seq (.reg [zG 5 (.box (.t 0)),zG 6 (.box (.t 1)),zG 10 (.alloc [.int .i64 0,.sl 3 [] (.exact 0),.sl 1 [] (.exact 0),.sl 2 [] (.exact 0),.bool false]),zG 11 (.mov (.c (.sl 2 [] (.exact 0)))),zG 12 (.mov (.c (.int .i64 0)))] none)
 (.seq (.seq (.reg [zF 16 4 5,zL 17 16] none)
 (.cond (.t 17) (.seq (.reg [zW 18 5 5,zH (.store 5 (.t 10) (.t 18)),zG 11 (.mov (.c (.sl 2 [] (.exact 0)))),zG 12 (.mov (.c (.int .i64 17)))] none)
 .ret) .skip))
 (.seq (.seq (.reg [zF 19 0 5,zL 20 19,zF 21 2 6,zL 22 21,zG 23 (.bin .lss (.t 20) (.t 22))] none)
 (.cond (.t 23) (.seq (.reg [zW 24 5 5,zH (.store 5 (.t 10) (.t 24)),zG 11 (.mov (.c (.sl 2 [] (.exact 0)))),zG 12 (.mov (.c (.int .i64 12)))] none)
 .ret) .skip))
 (.seq (.reg [zW 25 5 5,zW 26 3 6,zF 27 0 5,zL 28 27,zG 29 (.call 75 [(.t 25),(.t 26),(.t 28)]),zM 30 2,zM 31 3,zM 32 4,zG 33 (.call 74 [(.t 29),(.t 30),(.t 31),(.t 32)]),zM 13 33] none)
 (.seq (.seq (.reg [zM 34 4,zG 35 (.bin .eql (.t 34) (.c (.int .i64 0)))] none)
 (.cond (.t 35) (.seq (.reg [zW 36 5 5,zH (.store 5 (.t 10) (.t 36)),zG 11 (.mov (.c (.sl 2 [] (.exact 0)))),zG 12 (.mov (.c (.int .i64 0)))] none)
 .ret) .skip))
 (.seq (.seq (.reg [zM 37 13,zG 38 (.len false (.t 37)),zM 39 4,zG 40 (.bin .eql (.t 38) (.t 39))] none)
 (.cond (.t 40) (.reg [zM 41 13,zM 42 4,zG 43 (.bin .sub (.t 42) (.c (.int .i64 1))),zG 44 (.iaddr 2 (.t 41) (.t 43)),zF 45 0 44,zL 46 45,zG 47 (.bin .add (.t 46) (.c (.str [0]))),zM 3 47] none) .skip))
 (.seq (.reg [zF 49 2 5,zW 50 2 49,zM 51 2,zM 52 3,zG 53 (.call 76 [(.t 50),(.t 51),(.t 52)]),zM 48 53,zE 54 48 0,zE 55 48 1,zG 14 (.alloc [.sl 1 [] (.exact 0),.sl 2 [] (.exact 0)]),zH (.store 2 (.t 14) (.t 54)),zM 15 55] none)
 (.seq (.seq (.reg [zM 56 15,zG 57 (.bin .neq (.t 56) (.c (.int .i64 0)))] none)
 (.cond (.t 57) (.seq (.reg [zW 58 5 5,zM 59 15,zH (.store 5 (.t 10) (.t 58)),zG 11 (.mov (.c (.sl 2 [] (.exact 0)))),zM 12 59] none)
 .ret) .skip))
 (.seq (.reg [zW 60 2 14,zF 61 2 5,zH (.store 2 (.t 61) (.t 60))] none)
 (.seq (.reg [zW 62 5 5,zM 63 13,zH (.store 5 (.t 10) (.t 62)),zM 11 63,zG 12 (.mov (.c (.int .i64 0)))] none)
 .ret))))))))))
theorem f34:aM Tryz.prog 34 64 c34 [.cell 10 (some 5),.tmp 11,.tmp 12]:=⟨_,Tryz.func34,rfl,by kernel_rfl,rfl⟩
def c35:AC:=(.seq (.reg [zG 3 (.box (.t 0)),zG 6 (.alloc [.sl 2 [] (.exact 0),.int .i64 0,.int .i64 0]),zG 7 (.mov (.c (.int .i64 0)))] none)
 (.seq (.seq (.reg [zM 12 1,zF 13 1 3,zL 14 13,zG 15 (.bin .leq (.t 12) (.t 14)),zM 16 15,zm 17 16 false 1,zg 18 16 false (.bin .gtr (.t 17) (.c (.int .i64 1152921504606846976))),zO 19 16 18] none)
 (.cond (.t 19) (.seq (.reg [zW 20 3 3,zH (.store 3 (.t 6) (.t 20)),zG 7 (.mov (.c (.int .i64 18)))] none)
 .ret) .skip))
 (.seq (.seq (.reg [zM 21 2,zG 22 (.call 77 [(.t 21)]),zN 23 22] none)
 (.cond (.t 23) (.seq (.reg [zW 24 3 3,zH (.store 3 (.t 6) (.t 24)),zG 7 (.mov (.c (.int .i64 2)))] none)
 .ret) .skip))
 (.seq (.reg [zF 25 0 3,zL 26 25,zM 8 26] none)
 (.seq (.seq (.reg [zG 9 (.mov (.c (.int .i64 0)))] none)
 (.block 0 (.loop (.seq (.seq (.reg [zM 27 9,zM 28 2,zG 29 (.len false (.t 28)),zG 30 (.bin .lss (.t 27) (.t 29))] none)
 (.cond (.t 30) .skip (.exit 0)))
 (.seq (.block 1 (.seq (.reg [zW 34 3 3,zM 35 2,zM 36 9,zG 37 (.iaddr 3 (.t 35) (.t 36)),zF 38 0 37,zL 39 38,zG 40 (.call 79 [(.t 34),(.t 39)]),zM 41 1,zM 42 2,zM 43 9,zG 44 (.iaddr 3 (.t 42) (.t 43)),zF 45 1 44,zL 46 45,zM 47 2,zM 48 9,zG 49 (.iaddr 3 (.t 47) (.t 48)),zF 50 2 49,zL 51 50,zG 52 (.build [.int .i64 0,.str [],.bool false] [(0,1,(.t 41)),(1,1,(.t 46)),(2,1,(.t 51))]),zG 53 (.call 78 [(.t 40),(.t 52)]),zM 33 53,zE 54 33 0,zE 55 33 1,zM 10 54,zM 11 55] (some [(0,5),(0,12),(5,12),(6,12),(0,17),(5,17),(6,17),(12,17)]))
 (.reg [zM 56 8,zM 57 2,zM 58 9,zG 59 (.iaddr 3 (.t 57) (.t 58)),zF 60 0 59,zL 61 60,zM 62 10,zG 63 (.call 80 [(.t 56),(.t 61),(.t 62)]),zM 8 63] none)))
 (.reg [zM 31 9,zG 32 (.bin .add (.t 31) (.c (.int .i64 1))),zM 9 32] none))))))
 (.seq (.reg [zM 64 8,zM 65 1,zF 66 2 3,zL 67 66,zG 68 (.build [.sl 2 [] (.exact 0),.int .i64 0,.int .i64 0] [(0,1,(.t 64)),(1,1,(.t 65)),(2,1,(.t 67))]),zH (.store 3 (.t 6) (.t 68)),zG 7 (.mov (.c (.int .i64 0)))] none)
 .ret))))))
theorem f35:aM Tryz.prog 35 69 c35 [.cell 6 (some 3),.tmp 7]:=⟨_,Tryz.func35,rfl,by kernel_rfl,rfl⟩
def c36:AC:=(.seq (.reg [zG 2 (.box (.t 0)),zG 4 (.alloc [.sl 2 [] (.exact 0),.int .i64 0,.int .i64 0]),zG 5 (.mov (.c (.int .i64 0)))] none)
 (.seq (.seq (.reg [zM 9 1,zF 10 2 2,zL 11 10,zG 12 (.bin .lss (.t 9) (.t 11)),zM 13 12,zm 14 13 false 1,zf 15 13 false 1 2,zl 16 13 false 15,zg 17 13 false (.bin .gtr (.t 14) (.t 16)),zO 18 13 17] none)
 (.cond (.t 18) (.seq (.reg [zW 19 3 2,zH (.store 3 (.t 4) (.t 19)),zG 5 (.mov (.c (.int .i64 2)))] none)
 .ret) .skip))
 (.seq (.reg [zG 6 (.mov (.c (.sl 2 [] (.exact 0))))] none)
 (.seq (.seq (.reg [zG 7 (.mov (.c (.int .i64 0)))] none)
 (.block 0 (.loop (.seq (.seq (.reg [zM 20 7,zF 21 0 2,zL 22 21,zG 23 (.len false (.t 22)),zG 24 (.bin .lss (.t 20) (.t 23))] none)
 (.cond (.t 24) .skip (.exit 0)))
 (.seq (.block 1 (.seq (.reg [zF 27 0 2,zL 28 27,zM 29 7,zG 30 (.iaddr 2 (.t 28) (.t 29)),zF 31 1 30,zL 32 31,zM 33 1,zG 34 (.call 81 [(.t 32),(.t 33)]),zM 8 34] none)
 (.seq (.reg [zM 35 8,zG 36 (.len false (.t 35)),zG 37 (.bin .gtr (.t 36) (.c (.int .i64 0)))] none)
 (.cond (.t 37) (.reg [zM 38 6,zF 39 0 2,zL 40 39,zM 41 7,zG 42 (.iaddr 2 (.t 40) (.t 41)),zF 43 0 42,zL 44 43,zM 45 8,zG 46 (.build [.str [],.sl 3 [] (.exact 0)] [(0,1,(.t 44)),(1,1,(.t 45))]),zG 47 (.buildSl 2 [(.t 46)]),zG 48 (.app false 2 40 (.t 38) (.t 47)),zM 6 48] none) .skip))))
 (.reg [zM 25 7,zG 26 (.bin .add (.t 25) (.c (.int .i64 1))),zM 7 26] none))))))
 (.seq (.reg [zM 49 6,zF 50 1 2,zL 51 50,zM 52 1,zG 53 (.build [.sl 2 [] (.exact 0),.int .i64 0,.int .i64 0] [(0,1,(.t 49)),(1,1,(.t 51)),(2,1,(.t 52))]),zH (.store 3 (.t 4) (.t 53)),zG 5 (.mov (.c (.int .i64 0)))] none)
 .ret)))))
theorem f36:aM Tryz.prog 36 54 c36 [.cell 4 (some 3),.tmp 5]:=⟨_,Tryz.func36,rfl,by kernel_rfl,rfl⟩
def c37:AC:=(.seq (.reg [zG 4 (.mov (.c (.int .i64 0)))] none)
 (.seq (.block 0 (.seq (.reg [zM 8 0,zG 9 (.call 43 [(.t 8)]),zN 10 9,zM 7 10] none)
 (.cond (.t 7) (.seq (.reg [zG 4 (.mov (.c (.int .i64 1)))] none)
 .ret) (.seq (.reg [zM 12 1,zM 13 0,zK 14 13,zF 15 3 14,zL 16 15,zG 17 (.bin .lss (.t 12) (.t 16)),zM 18 17,zm 19 18 false 1,zm 20 18 false 0,zk 21 18 false 20,zf 22 18 false 2 21,zl 23 18 false 22,zg 24 18 false (.bin .gtr (.t 19) (.t 23)),zO 25 18 24,zM 11 25] none)
 (.cond (.t 11) (.seq (.reg [zG 4 (.mov (.c (.int .i64 2)))] none)
 .ret) .skip)))))
 (.seq (.seq (.reg [zM 26 0,zK 27 26,zF 28 0 27,zL 29 28,zG 30 (.call 61 [(.t 29)]),zG 31 (.len false (.t 30)),zG 32 (.mov (.c (.int .i64 0)))] none)
 (.block 1 (.loop (.seq (.reg [zG 33 (.bin .lss (.t 32) (.t 31))] none)
 (.seq (.cond (.t 33) .skip (.exit 1))
 (.seq (.block 2 (.seq (.reg [zG 34 (.iaddr 1 (.t 30) (.t 32)),zL 35 34,zM 6 35] none)
 (.reg [zM 36 0,zM 37 6,zM 38 0,zK 39 38,zF 40 1 39,zL 41 40,zM 42 6,zG 43 (.mlook (.sl 3 [] (.exact 0)) false (.t 41) (.t 42)),zM 44 1,zG 45 (.call 82 [(.t 43),(.t 44)]),zG 46 (.call 55 [(.t 36),(.t 37),(.t 45)])] none)))
 (.reg [zG 47 (.bin .add (.t 32) (.c (.int .i64 1))),zM 32 47] none)))))))
 (.seq (.reg [zM 48 0,zM 49 1,zK 50 48,zF 51 3 50,zH (.store 1 (.t 51) (.t 49))] none)
 (.seq (.reg [zG 4 (.mov (.c (.int .i64 0)))] none)
 .ret)))))
theorem f37:aM Tryz.prog 37 52 c37 [.tmp 4]:=⟨_,Tryz.func37,rfl,by kernel_rfl,rfl⟩
def c38:AC:=(.seq (.reg [zG 2 (.mov (.c (.int .i64 0)))] none)
 (.seq (.reg [zM 4 0,zG 5 (.call 83 [(.t 4)]),zM 3 5] none)
 (.seq (.seq (.reg [zM 6 3,zG 7 (.bin .eql (.t 6) (.c (.int .i64 0)))] none)
 (.cond (.t 7) (.reg [zM 8 0,zK 9 8,zF 10 6 9,zH (.store 1 (.t 10) (.c (.bool true)))] none) .skip))
 (.seq (.reg [zM 11 3,zM 2 11] none)
 .ret))))
theorem f38:aM Tryz.prog 38 12 c38 [.tmp 2]:=⟨_,Tryz.func38,rfl,by kernel_rfl,rfl⟩
def c39:AC:=(.seq (.reg [zG 2 (.box (.t 0)),zG 4 (.alloc [.int .i64 0,.sl 3 [] (.exact 0),.sl 1 [] (.exact 0),.sl 2 [] (.exact 0),.bool false]),zG 5 (.mov (.c (.int .i64 0)))] none)
 (.seq (.seq (.reg [zF 7 4 2,zL 8 7] none)
 (.cond (.t 8) (.seq (.reg [zW 9 5 2,zH (.store 5 (.t 4) (.t 9)),zG 5 (.mov (.c (.int .i64 17)))] none)
 .ret) .skip))
 (.seq (.seq (.reg [zM 10 1,zG 11 (.len false (.t 10)),zG 12 (.bin .gtr (.t 11) (.c (.int .i64 64)))] none)
 (.cond (.t 12) (.seq (.reg [zW 13 5 2,zH (.store 5 (.t 4) (.t 13)),zG 5 (.mov (.c (.int .i64 2)))] none)
 .ret) .skip))
 (.seq (.seq (.reg [zG 6 (.mov (.c (.int .i64 0)))] none)
 (.block 0 (.loop (.seq (.seq (.reg [zM 14 6,zM 15 1,zG 16 (.len false (.t 15)),zG 17 (.bin .lss (.t 14) (.t 16))] none)
 (.cond (.t 17) .skip (.exit 0)))
 (.seq (.block 1 (.seq (.reg [zM 20 1,zM 21 6,zG 22 (.iaddr 3 (.t 20) (.t 21)),zW 23 3 22,zG 24 (.call 71 [(.t 23)]),zN 25 24,zM 26 25,zm 27 26 false 6,zg 28 26 false (.bin .gtr (.t 27) (.c (.int .i64 0))),zm 29 26 false 28,zm 30 29 true 1,zm 31 29 true 6,zg 32 29 true (.bin .sub (.t 31) (.c (.int .i64 1))),zg 33 29 true (.iaddr 3 (.t 30) (.t 32)),zf 34 29 true 0 33,zl 35 29 true 34,zm 36 29 true 1,zm 37 29 true 6,zg 38 29 true (.iaddr 3 (.t 36) (.t 37)),zf 39 29 true 0 38,zl 40 29 true 39,zg 41 29 true (.call 72 [(.t 35),(.t 40)]),zn 42 29 true 41,zg 43 26 false (.pick (.t 29) (.t 42) (.c (.bool false))),zO 44 26 43] (some [(15,20)]))
 (.cond (.t 44) (.seq (.reg [zW 45 5 2,zH (.store 5 (.t 4) (.t 45)),zG 5 (.mov (.c (.int .i64 2)))] none)
 .ret) .skip)))
 (.reg [zM 18 6,zG 19 (.bin .add (.t 18) (.c (.int .i64 1))),zM 6 19] none))))))
 (.seq (.reg [zM 46 1,zF 47 1 2,zH (.store 1 (.t 47) (.t 46))] none)
 (.seq (.reg [zW 48 5 2,zH (.store 5 (.t 4) (.t 48)),zG 5 (.mov (.c (.int .i64 0)))] none)
 .ret))))))
theorem f39:aM Tryz.prog 39 49 c39 [.cell 4 (some 5),.tmp 5]:=⟨_,Tryz.func39,rfl,by kernel_rfl,rfl⟩
def c40:AC:=(.seq (.reg [zG 2 (.box (.t 0)),zG 3 (.box (.t 1)),zG 4 (.mov (.c (.int .i64 0)))] none)
 (.seq (.reg [zL 8 2,zG 9 (.mkfn (.func 85) [] [(.t 3),(.t 2)]),zG 10 (.call 84 [(.t 8),(.t 9)]),zM 7 10,zE 11 7 0,zE 12 7 1,zM 5 11,zM 6 12] none)
 (.seq (.reg [zM 13 6,zM 4 13] none)
 .ret)))
theorem f40:aM Tryz.prog 40 14 c40 [.tmp 4]:=⟨_,Tryz.func40,rfl,by kernel_rfl,rfl⟩
def c41:AC:=(.seq (.reg [zG 4 (.mov (.c (.int .i64 0)))] none)
 (.seq (.block 0 (.seq (.reg [zM 6 0,zG 7 (.call 43 [(.t 6)]),zN 8 7,zM 5 8] none)
 (.cond (.t 5) (.seq (.reg [zG 4 (.mov (.c (.int .i64 1)))] none)
 .ret) (.seq (.reg [zM 10 1,zM 11 0,zK 12 11,zF 13 3 12,zL 14 13,zG 15 (.bin .lss (.t 10) (.t 14)),zM 9 15] none)
 (.cond (.t 9) (.seq (.reg [zG 4 (.mov (.c (.int .i64 12)))] none)
 .ret) (.seq (.reg [zM 17 1,zM 18 0,zK 19 18,zF 20 2 19,zL 21 20,zG 22 (.bin .gtr (.t 17) (.t 21)),zM 16 22] none)
 (.cond (.t 16) (.seq (.reg [zG 4 (.mov (.c (.int .i64 13)))] none)
 .ret) .skip)))))))
 (.seq (.reg [zG 4 (.mov (.c (.int .i64 0)))] none)
 .ret)))
theorem f41:aM Tryz.prog 41 23 c41 [.tmp 4]:=⟨_,Tryz.func41,rfl,by kernel_rfl,rfl⟩
def c42:AC:=(.seq (.reg [zG 4 (.mov (.c (.str []))),zG 5 (.mov (.c (.bool false)))] none)
 (.seq (.seq (.reg [zM 7 0,zG 8 (.call 86 [(.t 7)]),zG 9 (.bin .neq (.t 8) (.c (.int .i64 0)))] none)
 (.cond (.t 9) (.seq (.reg [zG 4 (.mov (.c (.str []))),zG 5 (.mov (.c (.bool false)))] none)
 .ret) .skip))
 (.seq (.reg [zM 10 0,zM 11 1,zG 12 (.call 87 [(.t 10),(.t 11)]),zM 6 12] none)
 (.seq (.seq (.reg [zM 13 6,zM 14 0,zG 15 (.len false (.t 14)),zG 16 (.bin .eql (.t 13) (.t 15))] none)
 (.cond (.t 16) (.seq (.reg [zG 4 (.mov (.c (.str []))),zG 5 (.mov (.c (.bool false)))] none)
 .ret) .skip))
 (.seq (.reg [zM 17 0,zM 18 6,zG 19 (.iaddr 3 (.t 17) (.t 18)),zF 20 1 19,zL 21 20,zM 22 0,zM 23 6,zG 24 (.iaddr 3 (.t 22) (.t 23)),zF 25 2 24,zL 26 25,zN 27 26,zM 4 21,zM 5 27] (some [(4,9)]))
 .ret)))))
theorem f42:aM Tryz.prog 42 28 c42 [.tmp 4,.tmp 5]:=⟨_,Tryz.func42,rfl,by kernel_rfl,rfl⟩
def c43:AC:=(.seq (.reg [zG 2 (.mov (.c (.bool false)))] none)
 (.seq (.reg [zM 3 0,zG 4 (.eqP true (.t 3) (.c (.sc (.pointer none)))),zM 5 4,zm 6 5 true 0,zk 7 5 true 6,zf 8 5 true 1 7,zl 9 5 true 8,zg 10 5 true (.eqM true (.t 9)),zA 11 5 10,zM 2 11] none)
 .ret))
theorem f43:aM Tryz.prog 43 12 c43 [.tmp 2]:=⟨_,Tryz.func43,rfl,by kernel_rfl,rfl⟩
def c44:AC:=(.seq (.reg [zG 2 (.box (.t 0)),zG 3 (.box (.t 1)),zG 4 (.mov (.c (.int .i64 0)))] none)
 (.seq (.reg [zL 8 2,zG 9 (.mkfn (.func 88) [] [(.t 3),(.t 2)]),zG 10 (.call 84 [(.t 8),(.t 9)]),zM 7 10,zE 11 7 0,zE 12 7 1,zM 5 11,zM 6 12] none)
 (.seq (.reg [zM 13 6,zM 4 13] none)
 .ret)))
theorem f44:aM Tryz.prog 44 14 c44 [.tmp 4]:=⟨_,Tryz.func44,rfl,by kernel_rfl,rfl⟩
def c45:AC:=(.seq (.reg [zG 4 (.mov (.c (.str []))),zG 5 (.mov (.c (.int .i64 0)))] none)
 (.seq (.reg [zG 6 (.mov (.c (.str [])))] none)
 (.seq (.seq (.reg [zM 10 0,zG 11 (.call 83 [(.t 10)]),zM 7 11] none)
 (.seq (.reg [zM 12 7,zG 13 (.bin .neq (.t 12) (.c (.int .i64 0)))] none)
 (.cond (.t 13) (.seq (.reg [zM 14 6,zM 15 7,zM 4 14,zM 5 15] none)
 .ret) .skip)))
 (.seq (.reg [zM 17 1,zG 18 (.callv (.t 17) []),zM 16 18,zE 19 16 0,zE 20 16 1,zM 8 19,zM 9 20] none)
 (.seq (.seq (.reg [zM 21 9,zG 22 (.bin .neq (.t 21) (.c (.int .i64 0)))] none)
 (.cond (.t 22) (.seq (.reg [zM 23 6,zM 24 9,zM 4 23,zM 5 24] none)
 .ret) .skip))
 (.seq (.reg [zM 25 8,zM 4 25,zG 5 (.mov (.c (.int .i64 0)))] none)
 .ret))))))
theorem f45:aM Tryz.prog 45 26 c45 [.tmp 4,.tmp 5]:=⟨_,Tryz.func45,rfl,by kernel_rfl,rfl⟩
def c46:AC:=(.seq (.reg [zG 2 (.mov (.c (.str []))),zG 3 (.mov (.c (.int .i64 0)))] none)
 (.seq (.seq (.reg [zL 11 0,zK 12 11,zF 13 2 12,zL 14 13,zL 15 1,zG 16 (.mlook (.agg [.str [],.str [],.bool false]) true (.t 14) (.t 15)),zM 10 16,zE 17 10 0,zE 18 10 1,zG 4 (.alloc [.str [],.str [],.bool false]),zH (.store 3 (.t 4) (.t 17)),zM 5 18] (some [(0,4),(3,4),(0,9),(3,9),(4,9),(5,9)]))
 (.seq (.reg [zM 19 5] none)
 (.cond (.t 19) (.seq (.seq (.reg [zF 20 2 4,zL 21 20] none)
 (.cond (.t 21) (.seq (.reg [zG 2 (.mov (.c (.str []))),zG 3 (.mov (.c (.int .i64 7)))] none)
 .ret) .skip))
 (.seq (.reg [zF 22 1 4,zL 23 22,zM 2 23,zG 3 (.mov (.c (.int .i64 0)))] none)
 .ret)) .skip)))
 (.seq (.reg [zL 25 0,zK 26 25,zF 27 0 26,zL 28 27,zL 29 1,zL 30 0,zK 31 30,zF 32 1 31,zL 33 32,zG 34 (.call 11 [(.t 28),(.t 29),(.t 33)]),zM 24 34,zE 35 24 0,zE 36 24 1,zM 6 35,zM 7 36] (some [(0,4),(3,4),(0,5),(3,5),(4,5),(0,8),(3,8),(4,8)]))
 (.seq (.seq (.reg [zM 37 7,zG 38 (.bin .eql (.t 37) (.c (.int .i64 12)))] none)
 (.cond (.t 38) (.seq (.reg [zM 39 7,zG 2 (.mov (.c (.str []))),zM 3 39] none)
 .ret) .skip))
 (.seq (.reg [zL 41 0,zK 42 41,zF 43 4 42,zW 44 2 43,zL 45 1,zG 46 (.call 47 [(.t 44),(.t 45)]),zM 40 46,zE 47 40 0,zE 48 40 1,zG 8 (.alloc [.sl 1 [] (.exact 0),.sl 2 [] (.exact 0)]),zH (.store 2 (.t 8) (.t 47)),zM 9 48] (some [(0,4),(3,4),(0,9),(3,9),(4,9),(5,9)]))
 (.seq (.seq (.reg [zM 49 9,zG 50 (.bin .neq (.t 49) (.c (.int .i64 0)))] none)
 (.cond (.t 50) (.seq (.reg [zM 51 9,zG 2 (.mov (.c (.str []))),zM 3 51] none)
 .ret) .skip))
 (.seq (.reg [zL 52 0,zW 53 2 8,zK 54 52,zF 55 4 54,zH (.store 2 (.t 55) (.t 53))] none)
 (.seq (.reg [zM 56 6,zM 57 7,zM 2 56,zM 3 57] none)
 .ret))))))))
theorem f46:aM Tryz.prog 46 58 c46 [.tmp 2,.tmp 3]:=⟨_,Tryz.func46,rfl,by kernel_rfl,rfl⟩
def c47:AC:=(.seq (.reg [zG 2 (.box (.t 0)),zG 4 (.alloc [.sl 1 [] (.exact 0),.sl 2 [] (.exact 0)]),zG 5 (.mov (.c (.int .i64 0)))] none)
 (.seq (.seq (.reg [zW 10 2 2,zG 11 (.call 91 [(.t 10)]),zM 6 11] none)
 (.seq (.reg [zM 12 6,zG 13 (.bin .neq (.t 12) (.c (.int .i64 0)))] none)
 (.cond (.t 13) (.seq (.reg [zG 14 (.build [.sl 1 [] (.exact 0),.sl 2 [] (.exact 0)] []),zM 15 6,zH (.store 2 (.t 4) (.t 14)),zM 5 15] none)
 .ret) .skip)))
 (.seq (.reg [zF 16 0 2,zL 17 16,zG 18 (.call 61 [(.t 17)]),zM 7 18] none)
 (.seq (.seq (.reg [zM 20 7,zM 21 1,zG 22 (.call 89 [(.t 20),(.t 21)]),zM 19 22,zE 23 19 0,zE 24 19 1,zM 8 23,zM 9 24] none)
 (.seq (.reg [zM 25 9,zN 26 25] none)
 (.cond (.t 26) (.reg [zM 27 7,zM 28 8,zM 29 1,zG 30 (.buildSl 1 [(.t 29)]),zG 31 (.call 90 [(.t 27),(.t 28),(.t 30)]),zM 7 31] none) .skip)))
 (.seq (.reg [zM 32 7,zF 33 1 2,zL 34 33,zG 35 (.call 62 [(.t 34)]),zG 36 (.call 92 [(.t 32),(.t 35)]),zE 37 36 0,zE 38 36 1,zH (.store 2 (.t 4) (.t 37)),zM 5 38] none)
 .ret)))))
theorem f47:aM Tryz.prog 47 39 c47 [.cell 4 (some 2),.tmp 5]:=⟨_,Tryz.func47,rfl,by kernel_rfl,rfl⟩
def c48:AC:=(.seq (.reg [zG 4 (.mov (.c (.sl 2 [] (.exact 0)))),zG 5 (.mov (.c (.int .i64 0)))] none)
 (.seq (.reg [zG 6 (.mov (.c (.sl 2 [] (.exact 0))))] none)
 (.seq (.seq (.reg [zM 10 0,zG 11 (.call 83 [(.t 10)]),zM 7 11] none)
 (.seq (.reg [zM 12 7,zG 13 (.bin .neq (.t 12) (.c (.int .i64 0)))] none)
 (.cond (.t 13) (.seq (.reg [zM 14 6,zM 15 7,zM 4 14,zM 5 15] none)
 .ret) .skip)))
 (.seq (.reg [zM 17 1,zG 18 (.callv (.t 17) []),zM 16 18,zE 19 16 0,zE 20 16 1,zM 8 19,zM 9 20] none)
 (.seq (.seq (.reg [zM 21 9,zG 22 (.bin .neq (.t 21) (.c (.int .i64 0)))] none)
 (.cond (.t 22) (.seq (.reg [zM 23 6,zM 24 9,zM 4 23,zM 5 24] none)
 .ret) .skip))
 (.seq (.reg [zM 25 8,zM 4 25,zG 5 (.mov (.c (.int .i64 0)))] none)
 .ret))))))
theorem f48:aM Tryz.prog 48 26 c48 [.tmp 4,.tmp 5]:=⟨_,Tryz.func48,rfl,by kernel_rfl,rfl⟩
def c49:AC:=(.seq (.reg [zG 4 (.mov (.c (.sl 2 [] (.exact 0)))),zG 5 (.mov (.c (.int .i64 0)))] none)
 (.seq (.reg [zL 10 0,zK 11 10,zF 12 0 11,zL 13 12,zL 14 1,zL 15 2,zL 16 0,zK 17 16,zF 18 1 17,zL 19 18,zG 20 (.call 50 [(.t 13),(.t 14),(.t 15),(.t 19),(.c (.int .i64 (-1)))]),zM 9 20,zE 21 9 0,zE 22 9 1,zM 6 21,zM 7 22] (some [(0,4),(3,4),(0,5),(3,5),(4,5),(0,6),(3,6),(4,6),(5,6),(0,9),(3,9),(4,9),(5,9)]))
 (.seq (.seq (.reg [zM 23 7,zG 24 (.bin .neq (.t 23) (.c (.int .i64 0))),zM 25 24,zl 26 25 false 3,zg 27 25 false (.bin .eql (.t 26) (.c (.int .i64 0))),zO 28 25 27] none)
 (.cond (.t 28) (.seq (.reg [zM 29 7,zG 4 (.mov (.c (.sl 2 [] (.exact 0)))),zM 5 29] none)
 .ret) .skip))
 (.seq (.seq (.reg [zL 30 2,zG 31 (.bin .eql (.t 30) (.c (.str []))),zM 32 31,zl 33 32 false 1,zl 34 32 false 2,zg 35 32 false (.bin .lss (.t 33) (.t 34)),zO 36 32 35] none)
 (.cond (.t 36) (.reg [zL 37 0,zM 38 6,zL 39 1,zL 40 2,zG 41 (.call 51 [(.t 37),(.t 38),(.t 39),(.t 40)]),zM 6 41] none) .skip))
 (.seq (.seq (.reg [zL 42 3,zG 43 (.bin .gtr (.t 42) (.c (.int .i64 0))),zM 44 43,zm 45 44 true 6,zg 46 44 true (.len false (.t 45)),zl 47 44 true 3,zg 48 44 true (.bin .geq (.t 46) (.t 47)),zA 49 44 48] none)
 (.cond (.t 49) (.seq (.reg [zM 50 6,zL 51 3,zG 52 (.slc false 2 (.t 50) none (some (.t 51)) none),zM 6 52] none)
 (.reg [zM 53 6,zL 54 3,zG 55 (.bin .sub (.t 54) (.c (.int .i64 1))),zG 56 (.iaddr 2 (.t 53) (.t 55)),zF 57 0 56,zL 58 57,zG 59 (.bin .add (.t 58) (.c (.str [0]))),zH (.store 1 (.t 2) (.t 59))] none)) .skip))
 (.seq (.reg [zL 61 0,zK 62 61,zF 63 4 62,zW 64 2 63,zL 65 1,zL 66 2,zG 67 (.call 52 [(.t 64),(.t 65),(.t 66)]),zM 60 67,zE 68 60 0,zE 69 60 1,zG 8 (.alloc [.sl 1 [] (.exact 0),.sl 2 [] (.exact 0)]),zH (.store 2 (.t 8) (.t 68)),zM 7 69] (some [(0,4),(3,4),(0,5),(3,5),(4,5),(0,10),(3,10),(4,10),(5,10),(6,10)]))
 (.seq (.seq (.reg [zM 70 7,zG 71 (.bin .neq (.t 70) (.c (.int .i64 0)))] none)
 (.cond (.t 71) (.seq (.reg [zM 72 7,zG 4 (.mov (.c (.sl 2 [] (.exact 0)))),zM 5 72] none)
 .ret) .skip))
 (.seq (.reg [zL 73 0,zW 74 2 8,zK 75 73,zF 76 4 75,zH (.store 2 (.t 76) (.t 74))] none)
 (.seq (.reg [zM 77 6,zM 4 77,zG 5 (.mov (.c (.int .i64 0)))] none)
 .ret)))))))))
theorem f49:aM Tryz.prog 49 78 c49 [.tmp 4,.tmp 5]:=⟨_,Tryz.func49,rfl,by kernel_rfl,rfl⟩
def c50:AC:=(.seq (.reg [zG 5 (.box (.t 0)),zG 8 (.box (.t 3)),zG 9 (.box (.t 4)),zG 10 (.mov (.c (.sl 2 [] (.exact 0)))),zG 11 (.mov (.c (.int .i64 0)))] none)
 (.seq (.seq (.reg [zL 17 5,zL 18 8,zG 19 (.call 41 [(.t 17),(.t 18)]),zM 12 19] none)
 (.seq (.reg [zM 20 12,zG 21 (.bin .neq (.t 20) (.c (.int .i64 0)))] none)
 (.cond (.t 21) (.seq (.reg [zM 22 12,zG 10 (.mov (.c (.sl 2 [] (.exact 0)))),zM 11 22] none)
 .ret) .skip)))
 (.seq (.reg [zG 13 (.alloc [.sl 2 [] (.exact 0)])] none)
 (.seq (.seq (.reg [zL 23 5,zM 24 1,zM 25 2,zG 26 (.call 93 [(.t 23),(.t 24),(.t 25)])] none)
 (.block 0 (.oE (.t 26) [27] (.reg [zM 14 27] none)
 (.block 1 (.seq (.seq (.reg [zL 28 9,zG 29 (.bin .geq (.t 28) (.c (.int .i64 0))),zM 30 29,zl 31 30 true 13,zg 32 30 true (.len false (.t 31)),zl 33 30 true 9,zg 34 30 true (.bin .geq (.t 32) (.t 33)),zA 35 30 34] none)
 (.cond (.t 35) (.exit 0) .skip))
 (.seq (.reg [zL 37 5,zK 38 37,zF 39 1 38,zL 40 39,zM 41 14,zG 42 (.mlook (.sl 3 [] (.exact 0)) false (.t 40) (.t 41)),zL 43 8,zG 44 (.call 42 [(.t 42),(.t 43)]),zM 36 44,zE 45 36 0,zE 46 36 1,zM 15 45,zM 16 46] (some [(0,6),(3,6),(5,6)]))
 (.seq (.reg [zM 47 16] none)
 (.cond (.t 47) (.reg [zL 48 13,zM 49 14,zM 50 15,zG 51 (.build [.str [],.str []] [(0,1,(.t 49)),(1,1,(.t 50))]),zG 52 (.buildSl 2 [(.t 51)]),zG 53 (.app false 2 32 (.t 48) (.t 52)),zH (.store 1 (.t 13) (.t 53))] none) .skip))))))))
 (.seq (.reg [zL 54 13,zM 10 54,zG 11 (.mov (.c (.int .i64 0)))] none)
 .ret)))))
theorem f50:aM Tryz.prog 50 55 c50 [.tmp 10,.tmp 11]:=⟨_,Tryz.func50,rfl,by kernel_rfl,rfl⟩
def c51:AC:=(.seq (.reg [zG 4 (.box (.t 0)),zG 8 (.mov (.c (.sl 2 [] (.exact 0))))] none)
 (.seq (.reg [zG 9 (.alloc [.sl 2 [] (.exact 0)])] none)
 (.seq (.reg [zG 22 (.mkfn (.func 94) [] [(.t 4),(.t 9)]),zM 10 22] none)
 (.seq (.reg [zL 24 4,zK 25 24,zF 26 3 25,zL 27 26,zM 28 2,zG 29 (.call 89 [(.t 27),(.t 28)]),zM 23 29,zE 30 23 0,zE 31 23 1,zM 11 30,zM 12 31] none)
 (.seq (.reg [zL 32 4,zK 33 32,zF 34 3 33,zL 35 34,zM 36 11,zG 37 (.slc false 1 (.t 35) (some (.t 36)) none none),zM 13 37] none)
 (.seq (.seq (.reg [zM 38 3,zG 39 (.bin .neq (.t 38) (.c (.str [])))] none)
 (.cond (.t 39) (.seq (.reg [zM 41 13,zM 42 3,zG 43 (.call 89 [(.t 41),(.t 42)]),zM 40 43,zE 44 40 0,zE 45 40 1,zM 14 44,zM 15 45] none)
 (.reg [zM 46 13,zM 47 14,zG 48 (.slc false 1 (.t 46) none (some (.t 47)) none),zM 13 48] none)) .skip))
 (.seq (.seq (.reg [zM 49 1,zG 50 (.len false (.t 49)),zG 51 (.mov (.c (.int .i64 0)))] none)
 (.block 0 (.loop (.seq (.reg [zG 52 (.bin .lss (.t 51) (.t 50))] none)
 (.seq (.cond (.t 52) .skip (.exit 0))
 (.seq (.block 1 (.seq (.reg [zG 53 (.iaddr 2 (.t 49) (.t 51)),zW 54 2 53,zG 17 (.alloc [.str [],.str []]),zH (.store 2 (.t 17) (.t 54))] none)
 (.seq (.block 2 (.loop (.seq (.seq (.reg [zM 55 13,zG 56 (.len false (.t 55)),zG 57 (.bin .gtr (.t 56) (.c (.int .i64 0))),zM 58 57,zm 59 58 true 13,zg 60 58 true (.iaddr 1 (.t 59) (.c (.int .i64 0))),zl 61 58 true 60,zf 62 58 true 0 17,zl 63 58 true 62,zg 64 58 true (.bin .lss (.t 61) (.t 63)),zA 65 58 64] (some [(6,8)]))
 (.cond (.t 65) .skip (.exit 2)))
 (.block 3 (.seq (.reg [zM 66 10,zM 67 13,zG 68 (.iaddr 1 (.t 67) (.c (.int .i64 0))),zL 69 68,zG 70 (.callv (.t 66) [(.t 69)])] none)
 (.reg [zM 71 13,zG 72 (.slc false 1 (.t 71) (some (.c (.int .i64 1))) none none),zM 13 72] none))))))
 (.seq (.reg [zL 74 4,zK 75 74,zF 76 2 75,zL 77 76,zF 78 0 17,zL 79 78,zG 80 (.mlook (.agg [.str [],.str [],.bool false]) true (.t 77) (.t 79)),zM 73 80,zE 81 73 0,zE 82 73 1,zG 18 (.alloc [.str [],.str [],.bool false]),zH (.store 3 (.t 18) (.t 81)),zM 19 82] (some [(0,5),(3,5),(0,10),(3,10),(5,10),(6,10)]))
 (.seq (.reg [zM 83 19,zN 84 83] none)
 (.cond (.t 84) (.reg [zL 85 9,zW 86 2 17,zG 87 (.buildSl 2 [(.t 86)]),zG 88 (.app false 2 32 (.t 85) (.t 87)),zH (.store 1 (.t 9) (.t 88))] none) .skip))))))
 (.reg [zG 89 (.bin .add (.t 51) (.c (.int .i64 1))),zM 51 89] none)))))))
 (.seq (.seq (.reg [zM 90 13,zG 91 (.len false (.t 90)),zG 92 (.mov (.c (.int .i64 0)))] none)
 (.block 4 (.loop (.seq (.reg [zG 93 (.bin .lss (.t 92) (.t 91))] none)
 (.seq (.cond (.t 93) .skip (.exit 4))
 (.seq (.block 5 (.seq (.reg [zG 94 (.iaddr 1 (.t 90) (.t 92)),zL 95 94,zM 21 95] none)
 (.reg [zM 96 10,zM 97 21,zG 98 (.callv (.t 96) [(.t 97)])] none)))
 (.reg [zG 99 (.bin .add (.t 92) (.c (.int .i64 1))),zM 92 99] none)))))))
 (.seq (.reg [zL 100 9,zM 8 100] none)
 .ret)))))))))
theorem f51:aM Tryz.prog 51 101 c51 [.tmp 8]:=⟨_,Tryz.func51,rfl,by kernel_rfl,rfl⟩
def c52:AC:=(.seq (.reg [zG 3 (.box (.t 0)),zG 6 (.alloc [.sl 1 [] (.exact 0),.sl 2 [] (.exact 0)]),zG 7 (.mov (.c (.int .i64 0)))] none)
 (.scope (.seq (.seq (.reg [zW 15 2 3,zG 16 (.call 91 [(.t 15)]),zM 8 16] none)
 (.seq (.reg [zM 17 8,zG 18 (.bin .neq (.t 17) (.c (.int .i64 0)))] none)
 (.cond (.t 18) (.seq (.reg [zG 19 (.build [.sl 1 [] (.exact 0),.sl 2 [] (.exact 0)] []),zM 20 8,zH (.store 2 (.t 6) (.t 19)),zM 7 20] none)
 .ret) .skip)))
 (.seq (.reg [zM 21 1,zM 22 2,zG 23 (.build [.str [],.str []] [(0,1,(.t 21)),(1,1,(.t 22))]),zG 9 (.alloc [.str [],.str []]),zH (.store 2 (.t 9) (.t 23))] none)
 (.seq (.reg [zF 24 1 3,zL 25 24,zG 26 (.call 62 [(.t 25)]),zM 10 26] none)
 (.seq (.seq (.reg [zW 27 2 9,zG 28 (.call 95 [(.t 27)]),zN 29 28] none)
 (.cond (.t 29) (.seq (.reg [zF 30 0 3,zL 31 30,zG 32 (.call 61 [(.t 31)]),zM 33 10,zG 34 (.call 92 [(.t 32),(.t 33)]),zE 35 34 0,zE 36 34 1,zH (.store 2 (.t 6) (.t 35)),zM 7 36] none)
 .ret) .skip))
 (.seq (.reg [zG 11 (.mov (.c (.sl 2 [] (.exact 0))))] none)
 (.seq (.reg [zG 12 (.mov (.c (.bool false)))] none)
 (.seq (.label 0)
 (.seq (.seq (.reg [zM 37 10,zG 38 (.len false (.t 37)),zG 39 (.mov (.c (.int .i64 0)))] none)
 (.block 0 (.loop (.seq (.reg [zG 40 (.bin .lss (.t 39) (.t 38))] none)
 (.seq (.cond (.t 40) .skip (.exit 0))
 (.seq (.block 1 (.seq (.reg [zG 41 (.iaddr 2 (.t 37) (.t 39)),zW 42 2 41,zG 14 (.alloc [.str [],.str []]),zH (.store 2 (.t 14) (.t 42))] none)
 (.seq (.block 2 (.seq (.reg [zW 44 2 14,zW 45 2 9,zG 46 (.call 96 [(.t 44),(.t 45)]),zM 43 46] none)
 (.cond (.t 43) (.seq (.reg [zM 47 11,zW 48 2 14,zG 49 (.buildSl 2 [(.t 48)]),zG 50 (.app false 2 32 (.t 47) (.t 49)),zM 11 50] none)
 (.exit 1)) (.seq (.reg [zW 52 2 9,zW 53 2 14,zG 54 (.call 96 [(.t 52),(.t 53)]),zN 55 54,zM 51 55] none)
 (.cond (.t 51) (.seq (.reg [zW 56 2 9,zW 57 2 14,zG 58 (.call 97 [(.t 56),(.t 57)]),zH (.store 2 (.t 9) (.t 58))] none)
 (.exit 1)) (.seq (.reg [zM 60 12,zN 61 60,zM 59 61] none)
 (.cond (.t 59) (.seq (.reg [zM 62 11,zW 63 2 9,zG 64 (.buildSl 2 [(.t 63)]),zG 65 (.app false 2 32 (.t 62) (.t 64)),zM 11 65] none)
 (.reg [zG 12 (.mov (.c (.bool true)))] none)) .skip)))))))
 (.reg [zM 66 11,zW 67 2 14,zG 68 (.buildSl 2 [(.t 67)]),zG 69 (.app false 2 32 (.t 66) (.t 68)),zM 11 69] none))))
 (.reg [zG 70 (.bin .add (.t 39) (.c (.int .i64 1))),zM 39 70] none)))))))
 (.seq (.seq (.reg [zM 71 12,zN 72 71] none)
 (.cond (.t 72) (.reg [zM 73 11,zW 74 2 9,zG 75 (.buildSl 2 [(.t 74)]),zG 76 (.app false 2 32 (.t 73) (.t 75)),zM 11 76] none) .skip))
 (.seq (.reg [zF 77 0 3,zL 78 77,zG 79 (.call 61 [(.t 78)]),zM 80 11,zG 81 (.call 92 [(.t 79),(.t 80)]),zE 82 81 0,zE 83 81 1,zH (.store 2 (.t 6) (.t 82)),zM 7 83] none)
 .ret))))))))))))
theorem f52:aM Tryz.prog 52 84 c52 [.cell 6 (some 2),.tmp 7]:=⟨_,Tryz.func52,rfl,by kernel_rfl,rfl⟩
def c53:AC:=(.seq (.reg [zG 2 (.mov (.c (.bool false)))] none)
 (.seq (.reg [zG 8 (.mkmap),zM 3 8] none)
 (.seq (.seq (.reg [zM 9 0,zG 10 (.len false (.t 9)),zG 11 (.mov (.c (.int .i64 0)))] none)
 (.block 0 (.loop (.seq (.reg [zG 12 (.bin .lss (.t 11) (.t 10))] none)
 (.seq (.cond (.t 12) .skip (.exit 0))
 (.seq (.block 1 (.seq (.reg [zM 13 11,zG 14 (.iaddr 3 (.t 9) (.t 11)),zW 15 3 14,zG 5 (.alloc [.str [],.str [],.bool false]),zM 4 13,zH (.store 3 (.t 5) (.t 15))] none)
 (.seq (.reg [zM 17 3,zF 18 0 5,zL 19 18,zG 20 (.mlook (.int .i64 0) true (.t 17) (.t 19)),zM 16 20,zE 21 16 0,zE 22 16 1,zM 6 21,zM 7 22] none)
 (.seq (.seq (.reg [zM 23 7,zM 24 23,zf 25 24 false 0 5,zl 26 24 false 25,zg 27 24 false (.len true (.t 26)),zg 28 24 false (.bin .gtr (.t 27) (.c (.int .i64 128))),zO 29 24 28,zM 30 29,zf 31 30 false 1 5,zl 32 30 false 31,zg 33 30 false (.len true (.t 32)),zg 34 30 false (.bin .gtr (.t 33) (.c (.int .i64 200))),zO 35 30 34,zM 36 35,zf 37 36 false 2 5,zl 38 36 false 37,zm 39 36 false 38,zf 40 39 true 1 5,zl 41 39 true 40,zg 42 39 true (.bin .neq (.t 41) (.c (.str []))),zg 43 36 false (.pick (.t 39) (.t 42) (.c (.bool false))),zO 44 36 43] none)
 (.cond (.t 44) (.seq (.reg [zG 2 (.mov (.c (.bool false)))] none)
 .ret) .skip))
 (.reg [zM 45 3,zF 46 0 5,zL 47 46,zM 48 4,zH (.fP (.t 45) (.t 47) (.t 48))] none)))))
 (.reg [zG 49 (.bin .add (.t 11) (.c (.int .i64 1))),zM 11 49] none)))))))
 (.seq (.reg [zG 2 (.mov (.c (.bool true)))] none)
 .ret))))
theorem f53:aM Tryz.prog 53 50 c53 [.tmp 2]:=⟨_,Tryz.func53,rfl,by kernel_rfl,rfl⟩
def c54:AC:=(.seq (.reg [zG 3 (.box (.t 1)),zG 4 (.mov (.c (.sl 3 [] (.exact 0)))),zG 5 (.mov (.c (.int .i64 0)))] none)
 (.seq (.block 0 (.seq (.reg [zM 7 0,zG 8 (.call 86 [(.t 7)]),zG 9 (.bin .neq (.t 8) (.c (.int .i64 0))),zM 6 9] none)
 (.cond (.t 6) (.seq (.reg [zG 4 (.mov (.c (.sl 3 [] (.exact 0)))),zG 5 (.mov (.c (.int .i64 4)))] none)
 .ret) (.seq (.reg [zW 11 3 3,zG 12 (.call 98 [(.t 11)]),zN 13 12,zM 10 13] none)
 (.cond (.t 10) (.seq (.reg [zG 4 (.mov (.c (.sl 3 [] (.exact 0)))),zG 5 (.mov (.c (.int .i64 2)))] none)
 .ret) (.seq (.reg [zM 15 0,zG 16 (.len false (.t 15)),zG 17 (.bin .gtr (.t 16) (.c (.int .i64 0))),zM 18 17,zf 19 18 true 0 3,zl 20 18 true 19,zm 21 18 true 0,zg 22 18 true (.iaddr 3 (.t 21) (.c (.int .i64 0))),zf 23 18 true 0 22,zl 24 18 true 23,zg 25 18 true (.bin .leq (.t 20) (.t 24)),zA 26 18 25,zM 14 26] (some [(5,9)]))
 (.cond (.t 14) (.seq (.reg [zG 4 (.mov (.c (.sl 3 [] (.exact 0)))),zG 5 (.mov (.c (.int .i64 18)))] none)
 .ret) .skip)))))))
 (.seq (.reg [zW 27 3 3,zG 28 (.buildSl 3 [(.t 27)]),zM 29 0,zG 30 (.buildSl 1 [(.t 28),(.t 29)]),zG 31 (.call 99 [(.t 30)]),zM 4 31,zG 5 (.mov (.c (.int .i64 0)))] none)
 .ret)))
theorem f54:aM Tryz.prog 54 32 c54 [.tmp 4,.tmp 5]:=⟨_,Tryz.func54,rfl,by kernel_rfl,rfl⟩
def c55:AC:=(.seq (.reg [zM 9 0,zK 10 9,zF 11 0 10,zL 12 11,zM 13 1,zG 14 (.call 89 [(.t 12),(.t 13)]),zM 8 14,zE 15 8 0,zE 16 8 1,zM 6 15,zM 7 16] none)
 (.block 0 (.seq (.reg [zM 18 2,zG 19 (.len false (.t 18)),zG 20 (.bin .eql (.t 19) (.c (.int .i64 0))),zM 21 20,zm 22 21 true 7,zA 23 21 22,zM 17 23] none)
 (.cond (.t 17) (.seq (.reg [zM 24 0,zM 25 0,zK 26 25,zF 27 0 26,zL 28 27,zM 29 6,zM 30 6,zG 31 (.bin .add (.t 30) (.c (.int .i64 1))),zG 32 (.call 100 [(.t 28),(.t 29),(.t 31)]),zK 33 24,zF 34 0 33,zH (.store 1 (.t 34) (.t 32))] none)
 (.reg [zM 35 0,zK 36 35,zF 37 1 36,zL 38 37,zM 39 1,zH (.hX (.t 38) (.t 39))] none)) (.seq (.reg [zM 41 2,zG 42 (.len false (.t 41)),zG 43 (.bin .gtr (.t 42) (.c (.int .i64 0))),zM 40 43] none)
 (.cond (.t 40) (.seq (.seq (.reg [zM 44 7,zN 45 44] none)
 (.cond (.t 45) (.reg [zM 46 0,zM 47 0,zK 48 47,zF 49 0 48,zL 50 49,zM 51 6,zM 52 1,zG 53 (.buildSl 1 [(.t 52)]),zG 54 (.call 90 [(.t 50),(.t 51),(.t 53)]),zK 55 46,zF 56 0 55,zH (.store 1 (.t 56) (.t 54))] none) .skip))
 (.reg [zM 57 0,zK 58 57,zF 59 1 58,zL 60 59,zM 61 1,zM 62 2,zH (.fP (.t 60) (.t 61) (.t 62))] none)) .skip))))))
theorem f55:aM Tryz.prog 55 63 c55 []:=⟨_,Tryz.func55,rfl,by kernel_rfl,rfl⟩
def c56:AC:=(.seq (.reg [zG 2 (.mov (.c (.bool false)))] none)
 (.seq (.reg [zM 3 0,zG 4 (.eqP true (.t 3) (.c (.sc (.pointer none)))),zM 5 4,zm 6 5 true 0,zk 7 5 true 6,zf 8 5 true 0 7,zl 9 5 true 8,zg 10 5 true (.eqP true (.t 9) (.c (.sc (.pointer none)))),zA 11 5 10,zM 2 11] none)
 .ret))
theorem f56:aM Tryz.prog 56 12 c56 [.tmp 2]:=⟨_,Tryz.func56,rfl,by kernel_rfl,rfl⟩
def c57:AC:=(.seq (.reg [zG 3 (.mov (.c (.bool false)))] none)
 (.seq (.reg [zL 4 1,zK 5 4,zF 6 0 5,zL 7 6,zM 8 0,zM 9 0,zG 10 (.bin .add (.t 9) (.c (.str [0]))),zL 11 1,zK 12 11,zF 13 1 12,zL 14 13,zG 15 (.call 58 [(.t 7),(.t 8),(.t 10),(.t 14)]),zM 3 15] (some [(0,7),(3,7),(0,10),(3,10)]))
 .ret))
theorem f57:aM Tryz.prog 57 16 c57 [.tmp 3]:=⟨_,Tryz.func57,rfl,by kernel_rfl,rfl⟩
def c58:AC:=(.seq (.reg [zG 4 (.box (.t 0)),zG 7 (.box (.t 3)),zG 8 (.alloc [.bool false])] none)
 (.seq (.seq (.reg [zL 10 4,zG 11 (.call 43 [(.t 10)]),zN 12 11] none)
 (.cond (.t 12) (.seq (.reg [zH (.store 1 (.t 8) (.c (.bool false)))] none)
 .ret) .skip))
 (.seq (.seq (.reg [zL 13 4,zM 14 1,zM 15 2,zG 16 (.call 93 [(.t 13),(.t 14),(.t 15)])] none)
 (.block 0 (.oE (.t 16) [17] (.reg [zM 9 17] none)
 (.block 1 (.seq (.reg [zL 18 4,zK 19 18,zF 20 1 19,zL 21 20,zM 22 9,zG 23 (.mlook (.sl 3 [] (.exact 0)) false (.t 21) (.t 22)),zL 24 7,zG 25 (.call 101 [(.t 23),(.t 24)])] (some [(0,6),(3,6),(5,6)]))
 (.cond (.t 25) (.seq (.reg [zH (.store 1 (.t 8) (.c (.bool true)))] none)
 .ret) .skip))))))
 (.seq (.reg [zH (.store 1 (.t 8) (.c (.bool false)))] none)
 .ret))))
theorem f58:aM Tryz.prog 58 26 c58 [.cell 8 none]:=⟨_,Tryz.func58,rfl,by kernel_rfl,rfl⟩
def c59:AC:=(.seq (.reg [zG 4 (.mov (.c (.bool false)))] none)
 (.seq (.reg [zM 5 0,zM 6 1,zG 7 (.call 102 [(.t 5),(.t 6)]),zG 8 (.bin .geq (.t 7) (.c (.int .i64 0))),zM 4 8] none)
 .ret))
theorem f59:aM Tryz.prog 59 9 c59 [.tmp 4]:=⟨_,Tryz.func59,rfl,by kernel_rfl,rfl⟩
def c60:AC:=(.seq (.reg [zG 3 (.box (.t 0)),zG 4 (.box (.t 1)),zG 5 (.box (.t 2)),zG 6 (.mov (.c (.bool false)))] none)
 (.seq (.seq (.reg [zW 7 2 3,zG 8 (.call 91 [(.t 7)]),zG 9 (.bin .neq (.t 8) (.c (.int .i64 0)))] none)
 (.cond (.t 9) (.seq (.reg [zG 6 (.mov (.c (.bool false)))] none)
 .ret) .skip))
 (.seq (.reg [zF 10 0 3,zL 11 10,zG 12 (.mkfn (.func 103) [] [(.t 4),(.t 5)]),zG 13 (.call 59 [(.t 11),(.t 12)]),zM 14 13,zf 15 14 false 1 3,zl 16 14 false 15,zg 17 14 false (.mkfn (.func 105) [] [(.t 4),(.t 5)]),zg 18 14 false (.call 104 [(.t 16),(.t 17)]),zO 19 14 18,zM 6 19] none)
 .ret)))
theorem f60:aM Tryz.prog 60 20 c60 [.tmp 6]:=⟨_,Tryz.func60,rfl,by kernel_rfl,rfl⟩
def c61:AC:=(.seq (.reg [zG 2 (.mov (.c (.sl 1 [] (.exact 0))))] none)
 (.seq (.seq (.reg [zM 3 0,zG 4 (.eqN false (.t 3))] none)
 (.cond (.t 4) (.seq (.reg [zG 2 (.mov (.c (.sl 1 [] (.exact 0))))] none)
 .ret) .skip))
 (.seq (.reg [zG 5 (.buildSl 1 []),zM 6 0,zG 7 (.app false 1 16 (.t 5) (.t 6)),zM 2 7] none)
 .ret)))
theorem f61:aM Tryz.prog 61 8 c61 [.tmp 2]:=⟨_,Tryz.func61,rfl,by kernel_rfl,rfl⟩
def c62:AC:=(.seq (.reg [zG 2 (.mov (.c (.sl 2 [] (.exact 0))))] none)
 (.seq (.seq (.reg [zM 3 0,zG 4 (.eqN false (.t 3))] none)
 (.cond (.t 4) (.seq (.reg [zG 2 (.mov (.c (.sl 2 [] (.exact 0))))] none)
 .ret) .skip))
 (.seq (.reg [zG 5 (.buildSl 2 []),zM 6 0,zG 7 (.app false 2 32 (.t 5) (.t 6)),zM 2 7] none)
 .ret)))
theorem f62:aM Tryz.prog 62 8 c62 [.tmp 2]:=⟨_,Tryz.func62,rfl,by kernel_rfl,rfl⟩
def c63:AC:=(.seq (.reg [zG 4 (.box (.t 0)),zG 8 (.mov (.c (.bool false)))] none)
 (.seq (.seq (.reg [zG 9 (.mov (.c (.int .i64 0)))] none)
 (.block 0 (.loop (.seq (.seq (.reg [zM 10 9,zF 11 0 4,zL 12 11,zG 13 (.len false (.t 12)),zG 14 (.bin .lss (.t 10) (.t 13))] none)
 (.cond (.t 14) .skip (.exit 0)))
 (.seq (.block 1 (.seq (.reg [zF 17 0 4,zL 18 17,zM 19 9,zG 20 (.iaddr 2 (.t 18) (.t 19)),zF 21 0 20,zL 22 21,zM 23 1,zM 24 2,zG 25 (.call 106 [(.t 22),(.t 23),(.t 24)]),zM 26 25,zf 27 26 true 0 4,zl 28 26 true 27,zm 29 26 true 9,zg 30 26 true (.iaddr 2 (.t 28) (.t 29)),zf 31 26 true 1 30,zl 32 26 true 31,zm 33 26 true 3,zg 34 26 true (.call 107 [(.t 32),(.t 33)]),zA 35 26 34] none)
 (.cond (.t 35) (.seq (.reg [zG 8 (.mov (.c (.bool true)))] none)
 .ret) .skip)))
 (.reg [zM 15 9,zG 16 (.bin .add (.t 15) (.c (.int .i64 1))),zM 9 16] none))))))
 (.seq (.reg [zG 8 (.mov (.c (.bool false)))] none)
 .ret)))
theorem f63:aM Tryz.prog 63 36 c63 [.tmp 8]:=⟨_,Tryz.func63,rfl,by kernel_rfl,rfl⟩
def c64:AC:=(.seq (.reg [zG 3 (.box (.t 0)),zG 4 (.box (.t 1)),zG 6 (.mov (.c (.bool false)))] none)
 (.seq (.seq (.reg [zG 7 (.mov (.c (.int .i64 0)))] none)
 (.block 0 (.loop (.seq (.seq (.reg [zM 8 7,zF 9 0 4,zL 10 9,zG 11 (.len false (.t 10)),zG 12 (.bin .lss (.t 8) (.t 11))] none)
 (.cond (.t 12) .skip (.exit 0)))
 (.seq (.block 1 (.seq (.reg [zW 15 2 3,zF 16 0 4,zL 17 16,zM 18 7,zG 19 (.iaddr 2 (.t 17) (.t 18)),zF 20 0 19,zL 21 20,zG 22 (.call 108 [(.t 15),(.t 21)]),zM 23 22,zw 24 23 true 3 4,zf 25 23 true 0 4,zl 26 23 true 25,zm 27 23 true 7,zg 28 23 true (.iaddr 2 (.t 26) (.t 27)),zf 29 23 true 0 28,zl 30 23 true 29,zf 31 23 true 0 4,zl 32 23 true 31,zm 33 23 true 7,zg 34 23 true (.iaddr 2 (.t 32) (.t 33)),zf 35 23 true 0 34,zl 36 23 true 35,zg 37 23 true (.bin .add (.t 36) (.c (.str [0]))),zm 38 23 true 2,zg 39 23 true (.call 63 [(.t 24),(.t 30),(.t 37),(.t 38)]),zA 40 23 39] (some [(0,2),(0,6),(9,11),(9,15),(9,17),(11,17),(15,17),(9,21),(11,21),(15,21)]))
 (.cond (.t 40) (.seq (.reg [zG 6 (.mov (.c (.bool true)))] none)
 .ret) .skip)))
 (.reg [zM 13 7,zG 14 (.bin .add (.t 13) (.c (.int .i64 1))),zM 7 14] none))))))
 (.seq (.reg [zG 6 (.mov (.c (.bool false)))] none)
 .ret)))
theorem f64:aM Tryz.prog 64 41 c64 [.tmp 6]:=⟨_,Tryz.func64,rfl,by kernel_rfl,rfl⟩
def c65:AC:=(.seq (.reg [zG 2 (.box (.t 0)),zG 3 (.mov (.c (.bool false)))] none)
 (.seq (.reg [zL 7 1,zK 8 7,zF 9 2 8,zL 10 9,zF 11 0 2,zL 12 11,zG 13 (.mlook (.agg [.str [],.str [],.bool false]) true (.t 10) (.t 12)),zM 6 13,zE 14 6 0,zE 15 6 1,zG 4 (.alloc [.str [],.str [],.bool false]),zH (.store 3 (.t 4) (.t 14)),zM 5 15] (some [(0,5),(3,5),(0,10),(3,10),(5,10),(6,10)]))
 (.seq (.reg [zM 16 5,zM 3 16] none)
 .ret)))
theorem f65:aM Tryz.prog 65 17 c65 [.tmp 3]:=⟨_,Tryz.func65,rfl,by kernel_rfl,rfl⟩
def c66:AC:=(.seq (.reg [zG 4 (.mov (.c (.bool false)))] none)
 (.seq (.reg [zM 5 0,zM 6 1,zG 7 (.call 109 [(.t 5),(.t 6)]),zG 8 (.bin .geq (.t 7) (.c (.int .i64 0))),zM 4 8] none)
 .ret))
theorem f66:aM Tryz.prog 66 9 c66 [.tmp 4]:=⟨_,Tryz.func66,rfl,by kernel_rfl,rfl⟩
def c67:AC:=(.seq (.reg [zG 2 (.box (.t 0)),zG 4 (.mov (.c (.bool false)))] none)
 (.seq (.reg [zW 5 2 2,zG 6 (.call 91 [(.t 5)]),zG 7 (.bin .eql (.t 6) (.c (.int .i64 0))),zM 8 7,zm 9 8 true 1,zg 10 8 true (.mkfn (.func 110) [] [(.t 2)]),zg 11 8 true (.call 66 [(.t 9),(.t 10)]),zA 12 8 11,zM 4 12] none)
 .ret))
theorem f67:aM Tryz.prog 67 13 c67 [.tmp 4]:=⟨_,Tryz.func67,rfl,by kernel_rfl,rfl⟩
def c68:AC:=(.seq (.reg [zG 2 (.box (.t 0)),zG 4 (.alloc [.str [],.str [],.bool false]),zG 5 (.mov (.c (.bool false)))] none)
 (.seq (.seq (.reg [zG 6 (.mov (.c (.int .i64 0)))] none)
 (.block 0 (.loop (.seq (.seq (.reg [zM 7 6,zF 8 1 2,zL 9 8,zG 10 (.len false (.t 9)),zG 11 (.bin .lss (.t 7) (.t 10))] none)
 (.cond (.t 11) .skip (.exit 0)))
 (.seq (.block 1 (.seq (.reg [zF 14 1 2,zL 15 14,zM 16 6,zG 17 (.iaddr 3 (.t 15) (.t 16)),zF 18 0 17,zL 19 18,zM 20 1,zG 21 (.bin .eql (.t 19) (.t 20))] none)
 (.cond (.t 21) (.seq (.reg [zF 22 1 2,zL 23 22,zM 24 6,zG 25 (.iaddr 3 (.t 23) (.t 24)),zW 26 3 25,zH (.store 3 (.t 4) (.t 26)),zG 5 (.mov (.c (.bool true)))] none)
 .ret) .skip)))
 (.reg [zM 12 6,zG 13 (.bin .add (.t 12) (.c (.int .i64 1))),zM 6 13] none))))))
 (.seq (.reg [zG 27 (.build [.str [],.str [],.bool false] []),zH (.store 3 (.t 4) (.t 27)),zG 5 (.mov (.c (.bool false)))] none)
 .ret)))
theorem f68:aM Tryz.prog 68 28 c68 [.cell 4 (some 3),.tmp 5]:=⟨_,Tryz.func68,rfl,by kernel_rfl,rfl⟩
def c69:AC:=(.seq (.reg [zG 2 (.box (.t 0)),zG 4 (.mov (.c (.bool false)))] none)
 (.seq (.seq (.reg [zG 5 (.mov (.c (.int .i64 0)))] none)
 (.block 0 (.loop (.seq (.seq (.reg [zM 6 5,zM 7 1,zG 8 (.len false (.t 7)),zG 9 (.bin .lss (.t 6) (.t 8))] none)
 (.cond (.t 9) .skip (.exit 0)))
 (.seq (.block 1 (.seq (.reg [zW 12 2 2,zM 13 1,zM 14 5,zG 15 (.iaddr 3 (.t 13) (.t 14)),zF 16 0 15,zL 17 16,zG 18 (.call 108 [(.t 12),(.t 17)])] (some [(0,5)]))
 (.cond (.t 18) (.seq (.reg [zG 4 (.mov (.c (.bool true)))] none)
 .ret) .skip)))
 (.reg [zM 10 5,zG 11 (.bin .add (.t 10) (.c (.int .i64 1))),zM 5 11] none))))))
 (.seq (.reg [zG 4 (.mov (.c (.bool false)))] none)
 .ret)))
theorem f69:aM Tryz.prog 69 19 c69 [.tmp 4]:=⟨_,Tryz.func69,rfl,by kernel_rfl,rfl⟩
def c70:AC:=(.seq (.reg [zG 3 (.box (.t 0)),zG 6 (.mov (.c (.str []))),zG 7 (.mov (.c (.int .i64 0)))] none)
 (.seq (.seq (.reg [zW 11 3 3,zM 12 2,zG 13 (.call 112 [(.t 11),(.t 12)]),zM 8 13] none)
 (.seq (.reg [zM 14 8,zG 15 (.bin .neq (.t 14) (.c (.int .i64 0)))] none)
 (.cond (.t 15) (.seq (.reg [zM 16 8,zG 6 (.mov (.c (.str []))),zM 7 16] none)
 .ret) .skip)))
 (.seq (.reg [zW 18 3 3,zM 19 1,zG 20 (.call 79 [(.t 18),(.t 19)]),zM 21 2,zG 22 (.call 113 [(.t 20),(.t 21)]),zM 17 22,zE 23 17 0,zE 24 17 1,zM 9 23,zM 10 24] none)
 (.seq (.seq (.reg [zM 25 10,zN 26 25] none)
 (.cond (.t 26) (.seq (.reg [zG 6 (.mov (.c (.str []))),zG 7 (.mov (.c (.int .i64 7)))] none)
 .ret) .skip))
 (.seq (.reg [zM 27 9,zM 6 27,zG 7 (.mov (.c (.int .i64 0)))] none)
 .ret)))))
theorem f70:aM Tryz.prog 70 28 c70 [.tmp 6,.tmp 7]:=⟨_,Tryz.func70,rfl,by kernel_rfl,rfl⟩
def c71:AC:=(.seq (.reg [zG 1 (.box (.t 0)),zG 2 (.mov (.c (.bool false)))] none)
 (.seq (.reg [zF 3 0 1,zL 4 3,zG 5 (.len true (.t 4)),zG 6 (.bin .leq (.t 5) (.c (.int .i64 120))),zM 7 6,zf 8 7 true 1 1,zl 9 7 true 8,zg 10 7 true (.len true (.t 9)),zg 11 7 true (.bin .leq (.t 10) (.c (.int .i64 199))),zA 12 7 11,zM 13 12,zf 14 13 true 2 1,zl 15 13 true 14,zn 16 13 true 15,zm 17 13 true 16,zf 18 17 false 1 1,zl 19 17 false 18,zg 20 17 false (.bin .eql (.t 19) (.c (.str []))),zg 21 13 true (.pick (.t 17) (.c (.bool true)) (.t 20)),zA 22 13 21,zM 2 22] none)
 .ret))
theorem f71:aM Tryz.prog 71 23 c71 [.tmp 2]:=⟨_,Tryz.func71,rfl,by kernel_rfl,rfl⟩
def c72:AC:=(.seq (.reg [zG 4 (.mov (.c (.bool false)))] none)
 (.seq (.seq (.reg [zG 5 (.mov (.c (.int .i64 0)))] none)
 (.block 0 (.loop (.seq (.seq (.reg [zM 6 5,zM 7 0,zG 8 (.len true (.t 7)),zG 9 (.bin .lss (.t 6) (.t 8)),zM 10 9,zm 11 10 true 5,zm 12 10 true 1,zg 13 10 true (.len true (.t 12)),zg 14 10 true (.bin .lss (.t 11) (.t 13)),zA 15 10 14] none)
 (.cond (.t 15) .skip (.exit 0)))
 (.seq (.block 1 (.seq (.reg [zM 18 0,zM 19 5,zG 20 (.idx (.t 18) (.t 19)),zM 21 1,zM 22 5,zG 23 (.idx (.t 21) (.t 22)),zG 24 (.bin .neq (.t 20) (.t 23))] (some []))
 (.cond (.t 24) (.seq (.reg [zM 25 0,zM 26 5,zG 27 (.idx (.t 25) (.t 26)),zM 28 1,zM 29 5,zG 30 (.idx (.t 28) (.t 29)),zG 31 (.bin .lss (.t 27) (.t 30)),zM 4 31] (some []))
 .ret) .skip)))
 (.reg [zM 16 5,zG 17 (.bin .add (.t 16) (.c (.int .i64 1))),zM 5 17] none))))))
 (.seq (.reg [zM 32 0,zG 33 (.len true (.t 32)),zM 34 1,zG 35 (.len true (.t 34)),zG 36 (.bin .lss (.t 33) (.t 35)),zM 4 36] none)
 .ret)))
theorem f72:aM Tryz.prog 72 37 c72 [.tmp 4]:=⟨_,Tryz.func72,rfl,by kernel_rfl,rfl⟩
def c73:AC:=(.seq (.reg [zG 2 (.box (.t 0)),zG 4 (.alloc [.sl 1 [] (.exact 0),.sl 2 [] (.exact 0)]),zG 5 (.mov (.c (.int .i64 0)))] none)
 (.seq (.seq (.reg [zW 11 2 2,zG 12 (.call 114 [(.t 11)]),zN 13 12] none)
 (.cond (.t 13) (.seq (.reg [zG 14 (.build [.sl 1 [] (.exact 0),.sl 2 [] (.exact 0)] []),zH (.store 2 (.t 4) (.t 14)),zG 5 (.mov (.c (.int .i64 4)))] none)
 .ret) .skip))
 (.seq (.reg [zG 6 (.mov (.c (.sl 1 [] (.exact 0))))] none)
 (.seq (.reg [zG 7 (.mov (.c (.bool false)))] none)
 (.seq (.seq (.reg [zG 8 (.mov (.c (.int .i64 0)))] none)
 (.block 0 (.loop (.seq (.seq (.reg [zM 15 8,zF 16 0 2,zL 17 16,zG 18 (.len false (.t 17)),zG 19 (.bin .lss (.t 15) (.t 18))] none)
 (.cond (.t 19) .skip (.exit 0)))
 (.seq (.block 1 (.seq (.seq (.reg [zM 22 7,zN 23 22,zM 24 23,zf 25 24 true 0 2,zl 26 24 true 25,zm 27 24 true 8,zg 28 24 true (.iaddr 1 (.t 26) (.t 27)),zl 29 24 true 28,zm 30 24 true 1,zg 31 24 true (.call 72 [(.t 29),(.t 30)]),zn 32 24 true 31,zA 33 24 32] none)
 (.cond (.t 33) (.seq (.reg [zM 34 6,zM 35 1,zG 36 (.buildSl 1 [(.t 35)]),zG 37 (.app false 1 16 (.t 34) (.t 36)),zM 6 37] none)
 (.reg [zG 7 (.mov (.c (.bool true)))] none)) .skip))
 (.seq (.reg [zF 38 0 2,zL 39 38,zM 40 8,zG 41 (.iaddr 1 (.t 39) (.t 40)),zL 42 41,zM 43 1,zG 44 (.bin .neq (.t 42) (.t 43))] none)
 (.cond (.t 44) (.reg [zM 45 6,zF 46 0 2,zL 47 46,zM 48 8,zG 49 (.iaddr 1 (.t 47) (.t 48)),zL 50 49,zG 51 (.buildSl 1 [(.t 50)]),zG 52 (.app false 1 16 (.t 45) (.t 51)),zM 6 52] none) .skip))))
 (.reg [zM 20 8,zG 21 (.bin .add (.t 20) (.c (.int .i64 1))),zM 8 21] none))))))
 (.seq (.seq (.reg [zM 53 7,zN 54 53] none)
 (.cond (.t 54) (.reg [zM 55 6,zM 56 1,zG 57 (.buildSl 1 [(.t 56)]),zG 58 (.app false 1 16 (.t 55) (.t 57)),zM 6 58] none) .skip))
 (.seq (.reg [zM 60 6,zF 61 1 2,zL 62 61,zG 63 (.call 115 [(.t 60),(.t 62)]),zM 59 63,zE 64 59 0,zE 65 59 1,zG 9 (.alloc [.sl 1 [] (.exact 0),.sl 2 [] (.exact 0)]),zH (.store 2 (.t 9) (.t 64)),zM 10 65] none)
 (.seq (.seq (.reg [zM 66 10,zN 67 66] none)
 (.cond (.t 67) (.seq (.reg [zG 68 (.build [.sl 1 [] (.exact 0),.sl 2 [] (.exact 0)] []),zH (.store 2 (.t 4) (.t 68)),zG 5 (.mov (.c (.int .i64 9)))] none)
 .ret) .skip))
 (.seq (.reg [zW 69 2 9,zH (.store 2 (.t 4) (.t 69)),zG 5 (.mov (.c (.int .i64 0)))] none)
 .ret)))))))))
theorem f73:aM Tryz.prog 73 70 c73 [.cell 4 (some 2),.tmp 5]:=⟨_,Tryz.func73,rfl,by kernel_rfl,rfl⟩
def c74:AC:=(.seq (.reg [zG 8 (.mov (.c (.sl 2 [] (.exact 0))))] none)
 (.seq (.reg [zG 9 (.mov (.c (.sl 2 [] (.exact 0))))] none)
 (.seq (.seq (.reg [zG 10 (.mov (.c (.int .i64 0)))] none)
 (.block 0 (.loop (.seq (.seq (.reg [zM 11 10,zM 12 0,zG 13 (.len false (.t 12)),zG 14 (.bin .lss (.t 11) (.t 13))] none)
 (.cond (.t 14) .skip (.exit 0)))
 (.seq (.block 1 (.seq (.reg [zM 17 0,zM 18 10,zG 19 (.iaddr 2 (.t 17) (.t 18)),zF 20 0 19,zL 21 20,zM 22 1,zG 23 (.call 72 [(.t 21),(.t 22)]),zN 24 23,zM 25 24,zm 26 25 true 2,zg 27 25 true (.bin .eql (.t 26) (.c (.str []))),zm 28 25 true 27,zm 29 28 false 0,zm 30 28 false 10,zg 31 28 false (.iaddr 2 (.t 29) (.t 30)),zf 32 28 false 0 31,zl 33 28 false 32,zm 34 28 false 2,zg 35 28 false (.call 72 [(.t 33),(.t 34)]),zg 36 25 true (.pick (.t 28) (.c (.bool true)) (.t 35)),zA 37 25 36,zM 38 37,zm 39 38 true 3,zg 40 38 true (.bin .lss (.t 39) (.c (.int .i64 0))),zm 41 38 true 40,zm 42 41 false 9,zg 43 41 false (.len false (.t 42)),zm 44 41 false 3,zg 45 41 false (.bin .lss (.t 43) (.t 44)),zg 46 38 true (.pick (.t 41) (.c (.bool true)) (.t 45)),zA 47 38 46] none)
 (.cond (.t 47) (.reg [zM 48 9,zM 49 0,zM 50 10,zG 51 (.iaddr 2 (.t 49) (.t 50)),zW 52 2 51,zG 53 (.buildSl 2 [(.t 52)]),zG 54 (.app false 2 32 (.t 48) (.t 53)),zM 9 54] none) .skip)))
 (.reg [zM 15 10,zG 16 (.bin .add (.t 15) (.c (.int .i64 1))),zM 10 16] none))))))
 (.seq (.reg [zM 55 9,zM 8 55] none)
 .ret))))
theorem f74:aM Tryz.prog 74 56 c74 [.tmp 8]:=⟨_,Tryz.func74,rfl,by kernel_rfl,rfl⟩
def c75:AC:=(.seq (.reg [zG 3 (.box (.t 0)),zG 4 (.box (.t 1)),zG 6 (.mov (.c (.sl 2 [] (.exact 0))))] none)
 (.seq (.reg [zW 11 3 4,zM 12 2,zG 13 (.call 116 [(.t 11),(.c (.str [])),(.c (.str [])),(.t 12),(.c (.int .i64 (-1)))]),zM 10 13,zE 14 10 0,zE 15 10 1,zM 7 14,zM 8 15] none)
 (.seq (.seq (.reg [zG 9 (.mov (.c (.int .i64 0)))] none)
 (.block 0 (.loop (.seq (.seq (.reg [zM 16 9,zF 17 1 3,zL 18 17,zG 19 (.len false (.t 18)),zG 20 (.bin .lss (.t 16) (.t 19))] none)
 (.cond (.t 20) .skip (.exit 0)))
 (.seq (.block 1 (.seq (.reg [zF 23 1 3,zL 24 23,zM 25 9,zG 26 (.iaddr 3 (.t 24) (.t 25)),zF 27 2 26,zL 28 27] none)
 (.cond (.t 28) (.reg [zM 30 7,zF 31 1 3,zL 32 31,zM 33 9,zG 34 (.iaddr 3 (.t 32) (.t 33)),zF 35 0 34,zL 36 35,zG 37 (.call 117 [(.t 30),(.t 36)]),zM 29 37,zE 38 29 0,zE 39 29 1,zM 7 38] none) (.reg [zM 41 7,zF 42 1 3,zL 43 42,zM 44 9,zG 45 (.iaddr 3 (.t 43) (.t 44)),zF 46 0 45,zL 47 46,zF 48 1 3,zL 49 48,zM 50 9,zG 51 (.iaddr 3 (.t 49) (.t 50)),zF 52 1 51,zL 53 52,zG 54 (.call 118 [(.t 41),(.t 47),(.t 53)]),zM 40 54,zE 55 40 0,zE 56 40 1,zM 7 55] (some [(2,8),(6,8),(2,12),(6,12)])))))
 (.reg [zM 21 9,zG 22 (.bin .add (.t 21) (.c (.int .i64 1))),zM 9 22] none))))))
 (.seq (.reg [zM 57 7,zM 6 57] none)
 .ret))))
theorem f75:aM Tryz.prog 75 58 c75 [.tmp 6]:=⟨_,Tryz.func75,rfl,by kernel_rfl,rfl⟩
def c76:AC:=(.seq (.reg [zG 3 (.box (.t 0)),zG 6 (.alloc [.sl 1 [] (.exact 0),.sl 2 [] (.exact 0)]),zG 7 (.mov (.c (.int .i64 0)))] none)
 (.seq (.seq (.reg [zW 15 2 3,zG 16 (.call 114 [(.t 15)]),zN 17 16] none)
 (.cond (.t 17) (.seq (.reg [zG 18 (.build [.sl 1 [] (.exact 0),.sl 2 [] (.exact 0)] []),zH (.store 2 (.t 6) (.t 18)),zG 7 (.mov (.c (.int .i64 4)))] none)
 .ret) .skip))
 (.seq (.reg [zM 19 1,zM 20 2,zG 21 (.build [.str [],.str []] [(0,1,(.t 19)),(1,1,(.t 20))]),zG 8 (.alloc [.str [],.str []]),zH (.store 2 (.t 8) (.t 21))] none)
 (.seq (.seq (.reg [zW 22 2 8,zG 23 (.call 119 [(.t 22)]),zN 24 23] none)
 (.cond (.t 24) (.seq (.reg [zW 25 2 3,zH (.store 2 (.t 6) (.t 25)),zG 7 (.mov (.c (.int .i64 0)))] none)
 .ret) .skip))
 (.seq (.reg [zG 9 (.mov (.c (.sl 2 [] (.exact 0)))),zG 10 (.mov (.c (.sl 2 [] (.exact 0))))] none)
 (.seq (.seq (.reg [zG 11 (.mov (.c (.int .i64 0)))] none)
 (.block 0 (.loop (.seq (.seq (.reg [zM 26 11,zF 27 1 3,zL 28 27,zG 29 (.len false (.t 28)),zG 30 (.bin .lss (.t 26) (.t 29))] none)
 (.cond (.t 30) .skip (.exit 0)))
 (.seq (.block 1 (.seq (.reg [zF 33 1 3,zL 34 33,zM 35 11,zG 36 (.iaddr 2 (.t 34) (.t 35)),zW 37 2 36,zG 12 (.alloc [.str [],.str []]),zH (.store 2 (.t 12) (.t 37))] none)
 (.block 2 (.seq (.reg [zW 65 2 12,zW 66 2 8,zG 67 (.call 120 [(.t 65),(.t 66)]),zM 64 67] none)
 (.cond (.t 64) (.reg [zM 68 9,zW 69 2 12,zG 70 (.buildSl 2 [(.t 69)]),zG 71 (.app false 2 32 (.t 68) (.t 70)),zM 9 71] none) (.seq (.reg [zW 73 2 8,zW 74 2 12,zG 75 (.call 120 [(.t 73),(.t 74)]),zM 72 75] none)
 (.cond (.t 72) (.reg [zM 76 10,zW 77 2 12,zG 78 (.buildSl 2 [(.t 77)]),zG 79 (.app false 2 32 (.t 76) (.t 78)),zM 10 79] none) (.seq (.seq (.reg [zF 38 0 12,zL 39 38,zF 40 0 8,zL 41 40,zG 42 (.call 72 [(.t 39),(.t 41)])] none)
 (.cond (.t 42) (.reg [zF 43 0 12,zL 44 43,zF 45 0 8,zH (.store 1 (.t 45) (.t 44))] none) .skip))
 (.seq (.reg [zF 46 1 12,zL 47 46,zG 48 (.bin .eql (.t 47) (.c (.str []))),zM 49 48,zf 50 49 false 1 8,zl 51 49 false 50,zg 52 49 false (.bin .neq (.t 51) (.c (.str []))),zm 53 49 false 52,zf 54 53 true 1 8,zl 55 53 true 54,zf 56 53 true 1 12,zl 57 53 true 56,zg 58 53 true (.call 72 [(.t 55),(.t 57)]),zg 59 49 false (.pick (.t 53) (.t 58) (.c (.bool false))),zO 60 49 59] none)
 (.cond (.t 60) (.reg [zF 61 1 12,zL 62 61,zF 63 1 8,zH (.store 1 (.t 63) (.t 62))] none) .skip))))))))))
 (.reg [zM 31 11,zG 32 (.bin .add (.t 31) (.c (.int .i64 1))),zM 11 32] none))))))
 (.seq (.reg [zF 81 0 3,zL 82 81,zM 83 9,zW 84 2 8,zG 85 (.buildSl 2 [(.t 84)]),zG 86 (.app false 2 32 (.t 83) (.t 85)),zM 87 10,zG 88 (.app false 2 32 (.t 86) (.t 87)),zG 89 (.call 115 [(.t 82),(.t 88)]),zM 80 89,zE 90 80 0,zE 91 80 1,zG 13 (.alloc [.sl 1 [] (.exact 0),.sl 2 [] (.exact 0)]),zH (.store 2 (.t 13) (.t 90)),zM 14 91] (some [(1,3),(1,4),(1,5),(1,7),(1,12),(3,12),(4,12),(5,12),(7,12),(8,12)]))
 (.seq (.seq (.reg [zM 92 14,zN 93 92] none)
 (.cond (.t 93) (.seq (.reg [zG 94 (.build [.sl 1 [] (.exact 0),.sl 2 [] (.exact 0)] []),zH (.store 2 (.t 6) (.t 94)),zG 7 (.mov (.c (.int .i64 9)))] none)
 .ret) .skip))
 (.seq (.reg [zW 95 2 13,zH (.store 2 (.t 6) (.t 95)),zG 7 (.mov (.c (.int .i64 0)))] none)
 .ret)))))))))
theorem f76:aM Tryz.prog 76 96 c76 [.cell 6 (some 2),.tmp 7]:=⟨_,Tryz.func76,rfl,by kernel_rfl,rfl⟩
def c77:AC:=(.seq (.reg [zG 2 (.mov (.c (.bool false)))] none)
 (.seq (.seq (.reg [zG 3 (.mov (.c (.int .i64 0)))] none)
 (.block 0 (.loop (.seq (.seq (.reg [zM 5 3,zM 6 0,zG 7 (.len false (.t 6)),zG 8 (.bin .lss (.t 5) (.t 7))] none)
 (.cond (.t 8) .skip (.exit 0)))
 (.seq (.block 1 (.seq (.seq (.reg [zM 11 0,zM 12 3,zG 13 (.iaddr 3 (.t 11) (.t 12)),zF 14 0 13,zL 15 14,zG 16 (.len true (.t 15)),zG 17 (.bin .gtr (.t 16) (.c (.int .i64 128))),zM 18 17,zm 19 18 false 0,zm 20 18 false 3,zg 21 18 false (.iaddr 3 (.t 19) (.t 20)),zf 22 18 false 1 21,zl 23 18 false 22,zg 24 18 false (.len true (.t 23)),zg 25 18 false (.bin .gtr (.t 24) (.c (.int .i64 200))),zO 26 18 25,zM 27 26,zm 28 27 false 0,zm 29 27 false 3,zg 30 27 false (.iaddr 3 (.t 28) (.t 29)),zf 31 27 false 2 30,zl 32 27 false 31,zm 33 27 false 32,zm 34 33 true 0,zm 35 33 true 3,zg 36 33 true (.iaddr 3 (.t 34) (.t 35)),zf 37 33 true 1 36,zl 38 33 true 37,zg 39 33 true (.bin .neq (.t 38) (.c (.str []))),zg 40 27 false (.pick (.t 33) (.t 39) (.c (.bool false))),zO 41 27 40] none)
 (.cond (.t 41) (.seq (.reg [zG 2 (.mov (.c (.bool false)))] none)
 .ret) .skip))
 (.seq (.reg [zG 4 (.mov (.c (.int .i64 0)))] none)
 (.block 2 (.loop (.seq (.seq (.reg [zM 42 4,zM 43 3,zG 44 (.bin .lss (.t 42) (.t 43))] none)
 (.cond (.t 44) .skip (.exit 2)))
 (.seq (.block 3 (.seq (.reg [zM 47 0,zM 48 4,zG 49 (.iaddr 3 (.t 47) (.t 48)),zF 50 0 49,zL 51 50,zM 52 0,zM 53 3,zG 54 (.iaddr 3 (.t 52) (.t 53)),zF 55 0 54,zL 56 55,zG 57 (.bin .eql (.t 51) (.t 56))] (some [(4,9)]))
 (.cond (.t 57) (.seq (.reg [zG 2 (.mov (.c (.bool false)))] none)
 .ret) .skip)))
 (.reg [zM 45 4,zG 46 (.bin .add (.t 45) (.c (.int .i64 1))),zM 4 46] none))))))))
 (.reg [zM 9 3,zG 10 (.bin .add (.t 9) (.c (.int .i64 1))),zM 3 10] none))))))
 (.seq (.reg [zG 2 (.mov (.c (.bool true)))] none)
 .ret)))
theorem f77:aM Tryz.prog 77 58 c77 [.tmp 2]:=⟨_,Tryz.func77,rfl,by kernel_rfl,rfl⟩
def c78:AC:=(.seq (.reg [zG 3 (.box (.t 1)),zG 4 (.mov (.c (.sl 3 [] (.exact 0)))),zG 5 (.mov (.c (.int .i64 0)))] none)
 (.seq (.seq (.reg [zM 6 0,zG 7 (.call 121 [(.t 6)]),zN 8 7] none)
 (.cond (.t 8) (.seq (.reg [zG 4 (.mov (.c (.sl 3 [] (.exact 0)))),zG 5 (.mov (.c (.int .i64 4)))] none)
 .ret) .skip))
 (.seq (.seq (.reg [zW 9 3 3,zG 10 (.call 122 [(.t 9)]),zN 11 10] none)
 (.cond (.t 11) (.seq (.reg [zG 4 (.mov (.c (.sl 3 [] (.exact 0)))),zG 5 (.mov (.c (.int .i64 2)))] none)
 .ret) .skip))
 (.seq (.seq (.reg [zM 12 0,zG 13 (.len false (.t 12)),zG 14 (.bin .gtr (.t 13) (.c (.int .i64 0))),zM 15 14,zf 16 15 true 0 3,zl 17 15 true 16,zm 18 15 true 0,zg 19 15 true (.iaddr 3 (.t 18) (.c (.int .i64 0))),zf 20 15 true 0 19,zl 21 15 true 20,zg 22 15 true (.bin .leq (.t 17) (.t 21)),zA 23 15 22] (some [(5,9)]))
 (.cond (.t 23) (.seq (.reg [zG 4 (.mov (.c (.sl 3 [] (.exact 0)))),zG 5 (.mov (.c (.int .i64 18)))] none)
 .ret) .skip))
 (.seq (.reg [zW 24 3 3,zG 25 (.buildSl 3 [(.t 24)]),zM 26 0,zG 27 (.app false 3 32 (.t 25) (.t 26)),zM 4 27,zG 5 (.mov (.c (.int .i64 0)))] none)
 .ret)))))
theorem f78:aM Tryz.prog 78 28 c78 [.tmp 4,.tmp 5]:=⟨_,Tryz.func78,rfl,by kernel_rfl,rfl⟩
def c79:AC:=(.seq (.reg [zG 2 (.box (.t 0)),zG 4 (.mov (.c (.sl 3 [] (.exact 0))))] none)
 (.seq (.seq (.reg [zG 5 (.mov (.c (.int .i64 0)))] none)
 (.block 0 (.loop (.seq (.seq (.reg [zM 6 5,zF 7 0 2,zL 8 7,zG 9 (.len false (.t 8)),zG 10 (.bin .lss (.t 6) (.t 9))] none)
 (.cond (.t 10) .skip (.exit 0)))
 (.seq (.block 1 (.seq (.reg [zF 13 0 2,zL 14 13,zM 15 5,zG 16 (.iaddr 2 (.t 14) (.t 15)),zF 17 0 16,zL 18 17,zM 19 1,zG 20 (.bin .eql (.t 18) (.t 19))] none)
 (.cond (.t 20) (.seq (.reg [zF 21 0 2,zL 22 21,zM 23 5,zG 24 (.iaddr 2 (.t 22) (.t 23)),zF 25 1 24,zL 26 25,zM 4 26] none)
 .ret) .skip)))
 (.reg [zM 11 5,zG 12 (.bin .add (.t 11) (.c (.int .i64 1))),zM 5 12] none))))))
 (.seq (.reg [zG 4 (.mov (.c (.sl 3 [] (.exact 0))))] none)
 .ret)))
theorem f79:aM Tryz.prog 79 27 c79 [.tmp 4]:=⟨_,Tryz.func79,rfl,by kernel_rfl,rfl⟩
def c80:AC:=(.seq (.reg [zG 6 (.mov (.c (.sl 2 [] (.exact 0))))] none)
 (.seq (.reg [zG 7 (.mov (.c (.sl 2 [] (.exact 0))))] none)
 (.seq (.reg [zM 10 2,zG 11 (.len false (.t 10)),zG 12 (.bin .eql (.t 11) (.c (.int .i64 0))),zM 8 12] none)
 (.seq (.seq (.reg [zG 9 (.mov (.c (.int .i64 0)))] none)
 (.block 0 (.loop (.seq (.seq (.reg [zM 13 9,zM 14 0,zG 15 (.len false (.t 14)),zG 16 (.bin .lss (.t 13) (.t 15))] none)
 (.cond (.t 16) .skip (.exit 0)))
 (.seq (.block 1 (.seq (.seq (.reg [zM 19 8,zN 20 19,zM 21 20,zm 22 21 true 0,zm 23 21 true 9,zg 24 21 true (.iaddr 2 (.t 22) (.t 23)),zf 25 21 true 0 24,zl 26 21 true 25,zm 27 21 true 1,zg 28 21 true (.call 72 [(.t 26),(.t 27)]),zn 29 21 true 28,zA 30 21 29] none)
 (.cond (.t 30) (.seq (.reg [zM 31 7,zM 32 1,zM 33 2,zG 34 (.build [.str [],.sl 3 [] (.exact 0)] [(0,1,(.t 32)),(1,1,(.t 33))]),zG 35 (.buildSl 2 [(.t 34)]),zG 36 (.app false 2 40 (.t 31) (.t 35)),zM 7 36] none)
 (.reg [zG 8 (.mov (.c (.bool true)))] none)) .skip))
 (.seq (.reg [zM 37 0,zM 38 9,zG 39 (.iaddr 2 (.t 37) (.t 38)),zF 40 0 39,zL 41 40,zM 42 1,zG 43 (.bin .neq (.t 41) (.t 42))] none)
 (.cond (.t 43) (.reg [zM 44 7,zM 45 0,zM 46 9,zG 47 (.iaddr 2 (.t 45) (.t 46)),zW 48 2 47,zG 49 (.buildSl 2 [(.t 48)]),zG 50 (.app false 2 40 (.t 44) (.t 49)),zM 7 50] none) .skip))))
 (.reg [zM 17 9,zG 18 (.bin .add (.t 17) (.c (.int .i64 1))),zM 9 18] none))))))
 (.seq (.seq (.reg [zM 51 8,zN 52 51] none)
 (.cond (.t 52) (.reg [zM 53 7,zM 54 1,zM 55 2,zG 56 (.build [.str [],.sl 3 [] (.exact 0)] [(0,1,(.t 54)),(1,1,(.t 55))]),zG 57 (.buildSl 2 [(.t 56)]),zG 58 (.app false 2 40 (.t 53) (.t 57)),zM 7 58] none) .skip))
 (.seq (.reg [zM 59 7,zM 6 59] none)
 .ret))))))
theorem f80:aM Tryz.prog 80 60 c80 [.tmp 6]:=⟨_,Tryz.func80,rfl,by kernel_rfl,rfl⟩
def c81:AC:=(.seq (.reg [zG 4 (.mov (.c (.sl 3 [] (.exact 0))))] none)
 (.seq (.seq (.reg [zM 7 0,zG 8 (.call 121 [(.t 7)]),zN 9 8] none)
 (.cond (.t 9) (.seq (.reg [zG 4 (.mov (.c (.sl 3 [] (.exact 0))))] none)
 .ret) .skip))
 (.seq (.reg [zG 5 (.mov (.c (.sl 3 [] (.exact 0))))] none)
 (.seq (.seq (.reg [zG 6 (.mov (.c (.int .i64 0)))] none)
 (.block 0 (.loop (.seq (.seq (.reg [zM 10 6,zM 11 0,zG 12 (.len false (.t 11)),zG 13 (.bin .lss (.t 10) (.t 12))] none)
 (.cond (.t 13) .skip (.exit 0)))
 (.seq (.block 1 (.seq (.seq (.reg [zM 16 0,zM 17 6,zG 18 (.iaddr 3 (.t 16) (.t 17)),zF 19 0 18,zL 20 19,zM 21 1,zG 22 (.bin .leq (.t 20) (.t 21))] none)
 (.cond (.t 22) (.seq (.seq (.reg [zM 23 0,zM 24 6,zG 25 (.iaddr 3 (.t 23) (.t 24)),zF 26 2 25,zL 27 26,zN 28 27] none)
 (.cond (.t 28) (.reg [zM 29 5,zM 30 0,zM 31 6,zG 32 (.iaddr 3 (.t 30) (.t 31)),zW 33 3 32,zG 34 (.buildSl 3 [(.t 33)]),zG 35 (.app false 3 32 (.t 29) (.t 34)),zM 5 35] none) .skip))
 (.seq (.reg [zM 36 5,zM 4 36] none)
 .ret)) .skip))
 (.reg [zM 37 5,zM 38 0,zM 39 6,zG 40 (.iaddr 3 (.t 38) (.t 39)),zW 41 3 40,zG 42 (.buildSl 3 [(.t 41)]),zG 43 (.app false 3 32 (.t 37) (.t 42)),zM 5 43] none)))
 (.reg [zM 14 6,zG 15 (.bin .add (.t 14) (.c (.int .i64 1))),zM 6 15] none))))))
 (.seq (.reg [zM 44 5,zM 4 44] none)
 .ret)))))
theorem f81:aM Tryz.prog 81 45 c81 [.tmp 4]:=⟨_,Tryz.func81,rfl,by kernel_rfl,rfl⟩
def c82:AC:=(.seq (.reg [zG 4 (.mov (.c (.sl 3 [] (.exact 0))))] none)
 (.seq (.seq (.reg [zM 6 0,zG 7 (.call 86 [(.t 6)]),zG 8 (.bin .neq (.t 7) (.c (.int .i64 0)))] none)
 (.cond (.t 8) (.seq (.reg [zG 4 (.mov (.c (.sl 3 [] (.exact 0))))] none)
 .ret) .skip))
 (.seq (.reg [zM 9 0,zM 10 1,zG 11 (.call 87 [(.t 9),(.t 10)]),zM 5 11] none)
 (.seq (.seq (.reg [zM 12 5,zM 13 0,zG 14 (.len false (.t 13)),zG 15 (.bin .lss (.t 12) (.t 14)),zM 16 15,zm 17 16 true 0,zm 18 16 true 5,zg 19 16 true (.iaddr 3 (.t 17) (.t 18)),zf 20 16 true 2 19,zl 21 16 true 20,zn 22 16 true 21,zA 23 16 22] none)
 (.cond (.t 23) (.reg [zM 24 5,zG 25 (.bin .add (.t 24) (.c (.int .i64 1))),zM 5 25] none) .skip))
 (.seq (.reg [zM 26 0,zM 27 5,zM 28 5,zG 29 (.slc false 3 (.t 26) none (some (.t 27)) (some (.t 28))),zG 30 (.call 123 [(.t 29)]),zM 4 30] none)
 .ret)))))
theorem f82:aM Tryz.prog 82 31 c82 [.tmp 4]:=⟨_,Tryz.func82,rfl,by kernel_rfl,rfl⟩
def c83:AC:=(.seq (.reg [zG 2 (.mov (.c (.int .i64 0)))] none)
 (.seq (.block 0 (.seq (.reg [zM 4 0,zG 5 (.call 56 [(.t 4)]),zN 6 5,zM 3 6] none)
 (.cond (.t 3) (.seq (.reg [zG 2 (.mov (.c (.int .i64 1)))] none)
 .ret) (.seq (.reg [zM 8 0,zK 9 8,zF 10 6 9,zL 11 10,zM 7 11] none)
 (.cond (.t 7) (.seq (.reg [zG 2 (.mov (.c (.int .i64 17)))] none)
 .ret) .skip)))))
 (.seq (.reg [zG 2 (.mov (.c (.int .i64 0)))] none)
 .ret)))
theorem f83:aM Tryz.prog 83 12 c83 [.tmp 2]:=⟨_,Tryz.func83,rfl,by kernel_rfl,rfl⟩
def c84:AC:=(.seq (.reg [zG 4 (.mov (.c (.bool false))),zG 5 (.mov (.c (.int .i64 0)))] none)
 (.seq (.reg [zG 6 (.mov (.c (.bool false)))] none)
 (.seq (.seq (.reg [zM 10 0,zG 11 (.call 83 [(.t 10)]),zM 7 11] none)
 (.seq (.reg [zM 12 7,zG 13 (.bin .neq (.t 12) (.c (.int .i64 0)))] none)
 (.cond (.t 13) (.seq (.reg [zM 14 6,zM 15 7,zM 4 14,zM 5 15] none)
 .ret) .skip)))
 (.seq (.reg [zM 17 1,zG 18 (.callv (.t 17) []),zM 16 18,zE 19 16 0,zE 20 16 1,zM 8 19,zM 9 20] none)
 (.seq (.seq (.reg [zM 21 9,zG 22 (.bin .neq (.t 21) (.c (.int .i64 0)))] none)
 (.cond (.t 22) (.seq (.reg [zM 23 6,zM 24 9,zM 4 23,zM 5 24] none)
 .ret) .skip))
 (.seq (.reg [zM 25 8,zM 4 25,zG 5 (.mov (.c (.int .i64 0)))] none)
 .ret))))))
theorem f84:aM Tryz.prog 84 26 c84 [.tmp 4,.tmp 5]:=⟨_,Tryz.func84,rfl,by kernel_rfl,rfl⟩
def c85:AC:=(.seq (.reg [zG 2 (.mov (.c (.bool false))),zG 3 (.mov (.c (.int .i64 0)))] none)
 (.seq (.reg [zG 8 (.mkmap),zM 4 8] none)
 (.seq (.reg [zG 5 (.mov (.c (.sl 1 [] (.exact 0))))] none)
 (.seq (.seq (.reg [zL 9 0,zG 10 (.len false (.t 9)),zG 11 (.mov (.c (.int .i64 0)))] none)
 (.block 0 (.loop (.seq (.reg [zG 12 (.bin .lss (.t 11) (.t 10))] none)
 (.seq (.cond (.t 12) .skip (.exit 0))
 (.seq (.block 1 (.seq (.reg [zM 13 11,zG 14 (.iaddr 3 (.t 9) (.t 11)),zW 15 3 14,zG 7 (.alloc [.str [],.str [],.bool false]),zM 6 13,zH (.store 3 (.t 7) (.t 15))] none)
 (.seq (.seq (.reg [zF 16 0 7,zL 17 16,zG 18 (.len true (.t 17)),zG 19 (.bin .gtr (.t 18) (.c (.int .i64 120))),zM 20 19,zf 21 20 false 1 7,zl 22 20 false 21,zg 23 20 false (.len true (.t 22)),zg 24 20 false (.bin .gtr (.t 23) (.c (.int .i64 199))),zO 25 20 24,zM 26 25,zf 27 26 false 2 7,zl 28 26 false 27,zm 29 26 false 28,zf 30 29 true 1 7,zl 31 29 true 30,zg 32 29 true (.bin .neq (.t 31) (.c (.str []))),zg 33 26 false (.pick (.t 29) (.t 32) (.c (.bool false))),zO 34 26 33,zM 35 34,zm 36 35 false 6,zg 37 35 false (.bin .geq (.t 36) (.c (.int .i64 64))),zO 38 35 37,zM 39 38,zm 40 39 false 6,zg 41 39 false (.bin .gtr (.t 40) (.c (.int .i64 0))),zm 42 39 false 41,zl 43 42 true 0,zm 44 42 true 6,zg 45 42 true (.bin .sub (.t 44) (.c (.int .i64 1))),zg 46 42 true (.iaddr 3 (.t 43) (.t 45)),zf 47 42 true 0 46,zl 48 42 true 47,zf 49 42 true 0 7,zl 50 42 true 49,zg 51 42 true (.bin .geq (.t 48) (.t 50)),zg 52 39 false (.pick (.t 42) (.t 51) (.c (.bool false))),zO 53 39 52] (some [(27,34),(32,34)]))
 (.cond (.t 53) (.seq (.reg [zG 2 (.mov (.c (.bool false))),zG 3 (.mov (.c (.int .i64 2)))] none)
 .ret) .skip))
 (.seq (.reg [zM 54 4,zF 55 0 7,zL 56 55,zW 57 3 7,zH (.fP (.t 54) (.t 56) (.t 57))] none)
 (.reg [zM 58 5,zF 59 0 7,zL 60 59,zG 61 (.buildSl 1 [(.t 60)]),zG 62 (.app false 1 16 (.t 58) (.t 61)),zM 5 62] none)))))
 (.reg [zG 63 (.bin .add (.t 11) (.c (.int .i64 1))),zM 11 63] none)))))))
 (.seq (.reg [zL 64 1,zL 65 1,zM 66 4,zM 67 5,zK 68 64,zF 69 2 68,zH (.store 1 (.t 69) (.t 66)),zK 70 65,zF 71 3 70,zH (.store 1 (.t 71) (.t 67))] (some [(0,1),(1,6)]))
 (.seq (.reg [zG 2 (.mov (.c (.bool true))),zG 3 (.mov (.c (.int .i64 0)))] none)
 .ret))))))
theorem f85:aM Tryz.prog 85 72 c85 [.tmp 2,.tmp 3]:=⟨_,Tryz.func85,rfl,by kernel_rfl,rfl⟩
def c86:AC:=(.seq (.reg [zG 2 (.mov (.c (.int .i64 0)))] none)
 (.seq (.seq (.reg [zM 5 0,zG 6 (.len false (.t 5)),zG 7 (.mov (.c (.int .i64 0)))] none)
 (.block 0 (.loop (.seq (.reg [zG 8 (.bin .lss (.t 7) (.t 6))] none)
 (.seq (.cond (.t 8) .skip (.exit 0))
 (.seq (.block 1 (.seq (.reg [zM 9 7,zG 10 (.iaddr 3 (.t 5) (.t 7)),zW 11 3 10,zG 4 (.alloc [.int .i64 0,.str [],.bool false]),zM 3 9,zH (.store 3 (.t 4) (.t 11))] none)
 (.seq (.reg [zW 12 3 4,zG 13 (.call 98 [(.t 12)]),zN 14 13,zM 15 14,zm 16 15 false 3,zg 17 15 false (.bin .gtr (.t 16) (.c (.int .i64 0))),zm 18 15 false 17,zf 19 18 true 0 4,zl 20 18 true 19,zm 21 18 true 0,zm 22 18 true 3,zg 23 18 true (.bin .sub (.t 22) (.c (.int .i64 1))),zg 24 18 true (.iaddr 3 (.t 21) (.t 23)),zf 25 18 true 0 24,zl 26 18 true 25,zg 27 18 true (.bin .geq (.t 20) (.t 26)),zg 28 15 false (.pick (.t 18) (.t 27) (.c (.bool false))),zO 29 15 28] (some [(8,14)]))
 (.cond (.t 29) (.seq (.reg [zG 2 (.mov (.c (.int .i64 4)))] none)
 .ret) .skip))))
 (.reg [zG 30 (.bin .add (.t 7) (.c (.int .i64 1))),zM 7 30] none)))))))
 (.seq (.reg [zG 2 (.mov (.c (.int .i64 0)))] none)
 .ret)))
theorem f86:aM Tryz.prog 86 31 c86 [.tmp 2]:=⟨_,Tryz.func86,rfl,by kernel_rfl,rfl⟩
def c87:AC:=(.seq (.reg [zG 2 (.box (.t 0)),zG 3 (.box (.t 1)),zG 4 (.mov (.c (.int .i64 0)))] none)
 (.seq (.reg [zL 5 2,zG 6 (.len false (.t 5)),zG 7 (.mkfn (.func 125) [] [(.t 2),(.t 3)]),zG 8 (.call 124 [(.t 6),(.t 7)]),zM 4 8] none)
 .ret))
theorem f87:aM Tryz.prog 87 9 c87 [.tmp 4]:=⟨_,Tryz.func87,rfl,by kernel_rfl,rfl⟩
def c88:AC:=(.seq (.reg [zG 2 (.mov (.c (.bool false))),zG 3 (.mov (.c (.int .i64 0)))] none)
 (.seq (.seq (.reg [zF 6 0 0,zL 7 6,zG 8 (.len true (.t 7)),zG 9 (.bin .gtr (.t 8) (.c (.int .i64 120))),zM 10 9,zf 11 10 false 1 0,zl 12 10 false 11,zg 13 10 false (.len true (.t 12)),zg 14 10 false (.bin .gtr (.t 13) (.c (.int .i64 199))),zO 15 10 14] none)
 (.cond (.t 15) (.seq (.reg [zG 2 (.mov (.c (.bool false))),zG 3 (.mov (.c (.int .i64 2)))] none)
 .ret) .skip))
 (.seq (.seq (.reg [zL 17 1,zK 18 17,zF 19 3 18,zL 20 19,zF 21 0 0,zL 22 21,zG 23 (.call 89 [(.t 20),(.t 22)]),zM 16 23,zE 24 16 0,zE 25 16 1,zM 4 24,zM 5 25] (some [(0,5),(3,5)]))
 (.seq (.reg [zM 26 5,zN 27 26] none)
 (.cond (.t 27) (.seq (.seq (.reg [zL 28 1,zK 29 28,zF 30 3 29,zL 31 30,zG 32 (.len false (.t 31)),zG 33 (.bin .geq (.t 32) (.c (.int .i64 64)))] none)
 (.cond (.t 33) (.seq (.reg [zG 2 (.mov (.c (.bool false))),zG 3 (.mov (.c (.int .i64 9)))] none)
 .ret) .skip))
 (.reg [zL 34 1,zL 35 1,zK 36 35,zF 37 3 36,zL 38 37,zM 39 4,zF 40 0 0,zL 41 40,zG 42 (.buildSl 1 [(.t 41)]),zG 43 (.call 90 [(.t 38),(.t 39),(.t 42)]),zK 44 34,zF 45 3 44,zH (.store 1 (.t 45) (.t 43))] (some [(0,1),(0,4),(0,7),(1,7),(4,7),(0,8),(1,8),(4,8),(0,9)]))) .skip)))
 (.seq (.reg [zL 46 1,zK 47 46,zF 48 2 47,zL 49 48,zF 50 0 0,zL 51 50,zW 52 3 0,zH (.fP (.t 49) (.t 51) (.t 52))] (some [(0,5),(3,5),(0,6),(3,6),(5,6)]))
 (.seq (.reg [zG 2 (.mov (.c (.bool true))),zG 3 (.mov (.c (.int .i64 0)))] none)
 .ret)))))
theorem f88:aM Tryz.prog 88 53 c88 [.tmp 2,.tmp 3]:=⟨_,Tryz.func88,rfl,by kernel_rfl,rfl⟩
def c89:AC:=(.seq (.reg [zG 4 (.mov (.c (.int .i64 0))),zG 5 (.mov (.c (.bool false)))] none)
 (.seq (.reg [zM 10 0,zG 11 (.len false (.t 10)),zM 6 11] none)
 (.seq (.reg [zM 12 6,zG 7 (.mov (.c (.int .i64 0))),zM 8 12] none)
 (.seq (.block 0 (.loop (.seq (.seq (.reg [zM 13 7,zM 14 8,zG 15 (.bin .lss (.t 13) (.t 14))] none)
 (.cond (.t 15) .skip (.exit 0)))
 (.block 1 (.seq (.reg [zM 16 7,zM 17 8,zG 18 (.bin .add (.t 16) (.t 17)),zG 19 (.conv (.toInt .u64) (.t 18)),zG 20 (.bin .shr (.t 19) (.c (.int .u64 1))),zG 21 (.conv (.toInt .i64) (.t 20)),zM 9 21] none)
 (.seq (.reg [zM 22 0,zM 23 9,zG 24 (.iaddr 1 (.t 22) (.t 23)),zL 25 24,zM 26 1,zG 27 (.call 126 [(.t 25),(.t 26)])] none)
 (.cond (.t 27) (.reg [zM 28 9,zG 29 (.bin .add (.t 28) (.c (.int .i64 1))),zM 7 29] none) (.reg [zM 30 9,zM 8 30] none))))))))
 (.seq (.reg [zM 31 7,zM 32 7,zM 33 6,zG 34 (.bin .lss (.t 32) (.t 33)),zM 35 34,zm 36 35 true 0,zm 37 35 true 7,zg 38 35 true (.iaddr 1 (.t 36) (.t 37)),zl 39 35 true 38,zm 40 35 true 1,zg 41 35 true (.bin .eql (.t 39) (.t 40)),zm 42 35 true 41,zm 43 42 false 0,zm 44 42 false 7,zg 45 42 false (.iaddr 1 (.t 43) (.t 44)),zl 46 42 false 45,zg 47 42 false (.call 127 [(.t 46)]),zm 48 42 false 47,zm 49 48 true 1,zg 50 48 true (.call 127 [(.t 49)]),zg 51 42 false (.pick (.t 48) (.t 50) (.c (.bool false))),zg 52 35 true (.pick (.t 42) (.c (.bool true)) (.t 51)),zA 53 35 52,zM 4 31,zM 5 53] none)
 .ret)))))
theorem f89:aM Tryz.prog 89 54 c89 [.tmp 4,.tmp 5]:=⟨_,Tryz.func89,rfl,by kernel_rfl,rfl⟩
def c91:AC:=(.seq (.reg [zG 1 (.box (.t 0)),zG 2 (.mov (.c (.int .i64 0)))] none)
 (.seq (.seq (.reg [zF 7 0 1,zL 8 7,zG 9 (.len false (.t 8)),zG 10 (.bin .gtr (.t 9) (.c (.int .i64 64))),zM 11 10,zf 12 11 false 1 1,zl 13 11 false 12,zg 14 11 false (.len false (.t 13)),zg 15 11 false (.bin .gtr (.t 14) (.c (.int .i64 64))),zO 16 11 15] none)
 (.cond (.t 16) (.seq (.reg [zG 2 (.mov (.c (.int .i64 4)))] none)
 .ret) .skip))
 (.seq (.seq (.reg [zF 17 1 1,zL 18 17,zG 19 (.len false (.t 18)),zG 20 (.mov (.c (.int .i64 0)))] none)
 (.block 0 (.loop (.seq (.reg [zG 21 (.bin .lss (.t 20) (.t 19))] none)
 (.seq (.cond (.t 21) .skip (.exit 0))
 (.seq (.block 1 (.seq (.reg [zM 22 20,zG 23 (.iaddr 2 (.t 18) (.t 20)),zW 24 2 23,zG 4 (.alloc [.str [],.str []]),zM 3 22,zH (.store 2 (.t 4) (.t 24))] none)
 (.seq (.reg [zW 25 2 4,zG 26 (.call 95 [(.t 25)]),zN 27 26,zM 28 27,zm 29 28 false 3,zg 30 28 false (.bin .gtr (.t 29) (.c (.int .i64 0))),zm 31 28 false 30,zf 32 31 true 1 1,zl 33 31 true 32,zm 34 31 true 3,zg 35 31 true (.bin .sub (.t 34) (.c (.int .i64 1))),zg 36 31 true (.iaddr 2 (.t 33) (.t 35)),zw 37 31 true 2 36,zw 38 31 true 2 4,zg 39 31 true (.call 96 [(.t 37),(.t 38)]),zn 40 31 true 39,zg 41 28 false (.pick (.t 31) (.t 40) (.c (.bool false))),zO 42 28 41] (some [(8,13),(12,13)]))
 (.cond (.t 42) (.seq (.reg [zG 2 (.mov (.c (.int .i64 4)))] none)
 .ret) .skip))))
 (.reg [zG 43 (.bin .add (.t 20) (.c (.int .i64 1))),zM 20 43] none)))))))
 (.seq (.seq (.reg [zF 44 0 1,zL 45 44,zG 46 (.len false (.t 45)),zG 47 (.mov (.c (.int .i64 0)))] none)
 (.block 2 (.loop (.seq (.reg [zG 48 (.bin .lss (.t 47) (.t 46))] none)
 (.seq (.cond (.t 48) .skip (.exit 2))
 (.seq (.block 3 (.seq (.reg [zM 49 47,zG 50 (.iaddr 1 (.t 45) (.t 47)),zL 51 50,zM 5 49,zM 6 51] none)
 (.seq (.reg [zM 52 5,zG 53 (.bin .gtr (.t 52) (.c (.int .i64 0))),zM 54 53,zf 55 54 true 0 1,zl 56 54 true 55,zm 57 54 true 5,zg 58 54 true (.bin .sub (.t 57) (.c (.int .i64 1))),zg 59 54 true (.iaddr 1 (.t 56) (.t 58)),zl 60 54 true 59,zm 61 54 true 6,zg 62 54 true (.bin .geq (.t 60) (.t 61)),zA 63 54 62,zM 64 63,zf 65 64 false 1 1,zl 66 64 false 65,zm 67 64 false 6,zg 68 64 false (.call 130 [(.t 66),(.t 67)]),zO 69 64 68] none)
 (.cond (.t 69) (.seq (.reg [zG 2 (.mov (.c (.int .i64 4)))] none)
 .ret) .skip))))
 (.reg [zG 70 (.bin .add (.t 47) (.c (.int .i64 1))),zM 47 70] none)))))))
 (.seq (.reg [zG 2 (.mov (.c (.int .i64 0)))] none)
 .ret)))))
theorem f91:aM Tryz.prog 91 71 c91 [.tmp 2]:=⟨_,Tryz.func91,rfl,by kernel_rfl,rfl⟩
def c92:AC:=(.seq (.reg [zG 3 (.box (.t 1)),zG 4 (.alloc [.sl 1 [] (.exact 0),.sl 2 [] (.exact 0)]),zG 5 (.mov (.c (.int .i64 0)))] none)
 (.seq (.reg [zM 6 0,zG 7 (.mkfn (.func 132) [] [(.t 3)]),zG 8 (.call 131 [(.t 6),(.t 7)]),zM 0 8] none)
 (.seq (.seq (.reg [zM 9 0,zG 10 (.len false (.t 9)),zG 11 (.bin .gtr (.t 10) (.c (.int .i64 64))),zM 12 11,zl 13 12 false 3,zg 14 12 false (.len false (.t 13)),zg 15 12 false (.bin .gtr (.t 14) (.c (.int .i64 64))),zO 16 12 15] none)
 (.cond (.t 16) (.seq (.reg [zG 17 (.build [.sl 1 [] (.exact 0),.sl 2 [] (.exact 0)] []),zH (.store 2 (.t 4) (.t 17)),zG 5 (.mov (.c (.int .i64 9)))] none)
 .ret) .skip))
 (.seq (.reg [zM 18 0,zL 19 3,zG 20 (.build [.sl 1 [] (.exact 0),.sl 2 [] (.exact 0)] [(0,1,(.t 18)),(1,1,(.t 19))]),zH (.store 2 (.t 4) (.t 20)),zG 5 (.mov (.c (.int .i64 0)))] none)
 .ret))))
theorem f92:aM Tryz.prog 92 21 c92 [.cell 4 (some 2),.tmp 5]:=⟨_,Tryz.func92,rfl,by kernel_rfl,rfl⟩
def c93:AC:=(.seq (.reg [zG 3 (.box (.t 0)),zG 4 (.box (.t 1)),zG 5 (.box (.t 2)),zG 6 (.mov (.c (.sc .nilFunc)))] none)
 (.seq (.reg [zG 7 (.mkfn (.func 133) [] [(.t 3),(.t 4),(.t 5)]),zM 6 7] none)
 .ret))
theorem f93:aM Tryz.prog 93 8 c93 [.tmp 6]:=⟨_,Tryz.func93,rfl,by kernel_rfl,rfl⟩
def c94:AC:=(.seq (.reg [zL 5 1,zK 6 5,zF 7 2 6,zL 8 7,zM 9 0,zG 10 (.mlook (.agg [.str [],.str [],.bool false]) false (.t 8) (.t 9)),zG 4 (.alloc [.str [],.str [],.bool false]),zH (.store 3 (.t 4) (.t 10))] none)
 (.seq (.reg [zF 11 2 4,zL 12 11,zN 13 12] none)
 (.cond (.t 13) (.reg [zL 14 2,zM 15 0,zF 16 1 4,zL 17 16,zG 18 (.build [.str [],.str []] [(0,1,(.t 15)),(1,1,(.t 17))]),zG 19 (.buildSl 2 [(.t 18)]),zG 20 (.app false 2 32 (.t 14) (.t 19)),zH (.store 1 (.t 2) (.t 20))] none) .skip)))
theorem f94:aM Tryz.prog 94 21 c94 []:=⟨_,Tryz.func94,rfl,by kernel_rfl,rfl⟩
def c95:AC:=(.seq (.reg [zG 1 (.box (.t 0)),zG 2 (.mov (.c (.bool false)))] none)
 (.seq (.reg [zF 3 1 1,zL 4 3,zG 5 (.bin .eql (.t 4) (.c (.str []))),zM 6 5,zf 7 6 false 0 1,zl 8 6 false 7,zf 9 6 false 1 1,zl 10 6 false 9,zg 11 6 false (.bin .lss (.t 8) (.t 10)),zO 12 6 11,zM 2 12] none)
 .ret))
theorem f95:aM Tryz.prog 95 13 c95 [.tmp 2]:=⟨_,Tryz.func95,rfl,by kernel_rfl,rfl⟩
def c96:AC:=(.seq (.reg [zG 2 (.box (.t 0)),zG 3 (.box (.t 1)),zG 4 (.mov (.c (.bool false)))] none)
 (.seq (.reg [zF 5 1 2,zL 6 5,zG 7 (.bin .neq (.t 6) (.c (.str []))),zM 8 7,zf 9 8 true 1 2,zl 10 8 true 9,zf 11 8 true 0 3,zl 12 8 true 11,zg 13 8 true (.bin .lss (.t 10) (.t 12)),zA 14 8 13,zM 4 14] none)
 .ret))
theorem f96:aM Tryz.prog 96 15 c96 [.tmp 4]:=⟨_,Tryz.func96,rfl,by kernel_rfl,rfl⟩
def c97:AC:=(.seq (.reg [zG 2 (.box (.t 0)),zG 3 (.box (.t 1)),zG 4 (.alloc [.str [],.str []])] none)
 (.seq (.reg [zF 6 0 2,zL 7 6,zF 8 0 3,zL 9 8,zG 10 (.mm false (.t 7) (.t 9)),zF 11 1 2,zL 12 11,zF 13 1 3,zL 14 13,zG 15 (.mm true (.t 12) (.t 14)),zG 16 (.build [.str [],.str []] [(0,1,(.t 10)),(1,1,(.t 15))]),zG 5 (.alloc [.str [],.str []]),zH (.store 2 (.t 5) (.t 16))] none)
 (.seq (.seq (.reg [zF 17 1 2,zL 18 17,zG 19 (.bin .eql (.t 18) (.c (.str []))),zM 20 19,zf 21 20 false 1 3,zl 22 20 false 21,zg 23 20 false (.bin .eql (.t 22) (.c (.str []))),zO 24 20 23] none)
 (.cond (.t 24) (.reg [zF 25 1 5,zH (.store 1 (.t 25) (.c (.str [])))] none) .skip))
 (.seq (.reg [zW 26 2 5,zH (.store 2 (.t 4) (.t 26))] none)
 .ret))))
theorem f97:aM Tryz.prog 97 27 c97 [.cell 4 (some 2)]:=⟨_,Tryz.func97,rfl,by kernel_rfl,rfl⟩
def c98:AC:=(.seq (.reg [zG 1 (.box (.t 0)),zG 2 (.mov (.c (.bool false)))] none)
 (.seq (.reg [zF 3 0 1,zL 4 3,zG 5 (.bin .geq (.t 4) (.c (.int .i64 1))),zM 6 5,zf 7 6 true 0 1,zl 8 6 true 7,zg 9 6 true (.bin .leq (.t 8) (.c (.int .i64 1152921504606846976))),zA 10 6 9,zM 11 10,zf 12 11 true 1 1,zl 13 11 true 12,zg 14 11 true (.len true (.t 13)),zg 15 11 true (.bin .leq (.t 14) (.c (.int .i64 200))),zA 16 11 15,zM 17 16,zf 18 17 true 2 1,zl 19 17 true 18,zn 20 17 true 19,zm 21 17 true 20,zf 22 21 false 1 1,zl 23 21 false 22,zg 24 21 false (.bin .eql (.t 23) (.c (.str []))),zg 25 17 true (.pick (.t 21) (.c (.bool true)) (.t 24)),zA 26 17 25,zM 2 26] none)
 .ret))
theorem f98:aM Tryz.prog 98 27 c98 [.tmp 2]:=⟨_,Tryz.func98,rfl,by kernel_rfl,rfl⟩
def c99:AC:=(.seq (.reg [zG 2 (.mov (.c (.sl 3 [] (.exact 0))))] none)
 (.seq (.reg [zG 3 (.mov (.c (.int .i64 0)))] none)
 (.seq (.seq (.reg [zM 9 0,zG 10 (.len false (.t 9)),zG 11 (.mov (.c (.int .i64 0)))] none)
 (.block 0 (.loop (.seq (.reg [zG 12 (.bin .lss (.t 11) (.t 10))] none)
 (.seq (.cond (.t 12) .skip (.exit 0))
 (.seq (.block 1 (.seq (.reg [zG 13 (.iaddr 1 (.t 9) (.t 11)),zL 14 13,zM 5 14] none)
 (.seq (.reg [zM 15 3,zM 16 5,zG 17 (.len false (.t 16)),zG 18 (.bin .add (.t 15) (.t 17)),zM 3 18] none)
 (.seq (.reg [zM 19 3,zG 20 (.bin .lss (.t 19) (.c (.int .i64 0)))] none)
 (.cond (.t 20) (.reg [zG 21 (.ifc 9 (.c (.str [108,101,110,32,111,117,116,32,111,102,32,114,97,110,103,101]))),zH (.pan (.t 21))] none) .skip)))))
 (.reg [zG 22 (.bin .add (.t 11) (.c (.int .i64 1))),zM 11 22] none)))))))
 (.seq (.reg [zM 23 3,zG 24 (.call 134 [(.c (.sl 3 [] (.exact 0))),(.t 23)]),zM 6 24] none)
 (.seq (.seq (.reg [zM 25 0,zG 26 (.len false (.t 25)),zG 27 (.mov (.c (.int .i64 0)))] none)
 (.block 2 (.loop (.seq (.reg [zG 28 (.bin .lss (.t 27) (.t 26))] none)
 (.seq (.cond (.t 28) .skip (.exit 2))
 (.seq (.block 3 (.seq (.reg [zG 29 (.iaddr 1 (.t 25) (.t 27)),zL 30 29,zM 8 30] none)
 (.reg [zM 31 6,zM 32 8,zG 33 (.app false 3 32 (.t 31) (.t 32)),zM 6 33] none)))
 (.reg [zG 34 (.bin .add (.t 27) (.c (.int .i64 1))),zM 27 34] none)))))))
 (.seq (.reg [zM 35 6,zM 2 35] none)
 .ret))))))
theorem f99:aM Tryz.prog 99 36 c99 [.tmp 2]:=⟨_,Tryz.func99,rfl,by kernel_rfl,rfl⟩
def Cc:AC:=(.seq (.reg [zG 4 (.mov (.c (.bool false)))] none)
 (.seq (.reg [zM 5 0,zG 6 (.call 86 [(.t 5)]),zG 7 (.bin .eql (.t 6) (.c (.int .i64 0))),zM 8 7,zm 9 8 true 0,zm 10 8 true 1,zg 11 8 true (.call 87 [(.t 9),(.t 10)]),zg 12 8 true (.bin .gtr (.t 11) (.c (.int .i64 0))),zA 13 8 12,zM 4 13] none)
 .ret))
theorem f101:aM Tryz.prog 101 14 Cc [.tmp 4]:=⟨_,Tryz.func101,rfl,by kernel_rfl,rfl⟩
def zI:AC:=(.seq (.reg [zG 4 (.mov (.c (.int .i64 0)))] none)
 (.seq (.seq (.reg [zM 6 0,zG 7 (.len false (.t 6)),zG 8 (.mov (.c (.int .i64 0)))] none)
 (.block 0 (.loop (.seq (.reg [zG 9 (.bin .lss (.t 8) (.t 7))] none)
 (.seq (.cond (.t 9) .skip (.exit 0))
 (.seq (.block 1 (.seq (.reg [zM 10 8,zM 5 10] none)
 (.seq (.reg [zM 11 1,zM 12 0,zM 13 5,zG 14 (.iaddr 1 (.t 12) (.t 13)),zL 15 14,zG 16 (.callv (.t 11) [(.t 15)])] none)
 (.cond (.t 16) (.seq (.reg [zM 17 5,zM 4 17] none)
 .ret) .skip))))
 (.reg [zG 18 (.bin .add (.t 8) (.c (.int .i64 1))),zM 8 18] none)))))))
 (.seq (.reg [zG 4 (.mov (.c (.int .i64 (-1))))] none)
 .ret)))
theorem f102:aM Tryz.prog 102 19 zI [.tmp 4]:=⟨_,Tryz.func102,rfl,by kernel_rfl,rfl⟩
def Cd:AC:=(.seq (.reg [zG 4 (.mov (.c (.bool false)))] none)
 (.seq (.reg [zL 5 1,zM 6 0,zM 7 0,zG 8 (.bin .add (.t 7) (.c (.str [0]))),zL 9 2,zG 10 (.call 58 [(.t 5),(.t 6),(.t 8),(.t 9)]),zM 4 10] none)
 .ret))
theorem f103:aM Tryz.prog 103 11 Cd [.tmp 4]:=⟨_,Tryz.func103,rfl,by kernel_rfl,rfl⟩
def Bt:AC:=(.seq (.reg [zG 4 (.mov (.c (.bool false)))] none)
 (.seq (.reg [zM 5 0,zM 6 1,zG 7 (.call 135 [(.t 5),(.t 6)]),zG 8 (.bin .geq (.t 7) (.c (.int .i64 0))),zM 4 8] none)
 .ret))
theorem f104:aM Tryz.prog 104 9 Bt [.tmp 4]:=⟨_,Tryz.func104,rfl,by kernel_rfl,rfl⟩
def Ce:AC:=(.seq (.reg [zG 3 (.box (.t 0)),zG 4 (.mov (.c (.bool false)))] none)
 (.seq (.reg [zL 5 1,zF 6 0 3,zL 7 6,zF 8 1 3,zL 9 8,zL 10 2,zG 11 (.call 58 [(.t 5),(.t 7),(.t 9),(.t 10)]),zM 4 11] none)
 .ret))
theorem f105:aM Tryz.prog 105 12 Ce [.tmp 4]:=⟨_,Tryz.func105,rfl,by kernel_rfl,rfl⟩
def Bu:AC:=(.seq (.reg [zG 6 (.mov (.c (.bool false)))] none)
 (.seq (.reg [zM 7 0,zM 8 1,zG 9 (.call 72 [(.t 7),(.t 8)]),zN 10 9,zM 11 10,zm 12 11 true 2,zg 13 11 true (.bin .eql (.t 12) (.c (.str []))),zm 14 11 true 13,zm 15 14 false 0,zm 16 14 false 2,zg 17 14 false (.call 72 [(.t 15),(.t 16)]),zg 18 11 true (.pick (.t 14) (.c (.bool true)) (.t 17)),zA 19 11 18,zM 6 19] none)
 .ret))
theorem f106:aM Tryz.prog 106 20 Bu [.tmp 6]:=⟨_,Tryz.func106,rfl,by kernel_rfl,rfl⟩
def Cf:AC:=(.seq (.reg [zG 4 (.mov (.c (.bool false)))] none)
 (.seq (.reg [zM 5 0,zG 6 (.call 121 [(.t 5)]),zM 7 6,zm 8 7 true 0,zg 9 7 true (.len false (.t 8)),zg 10 7 true (.bin .gtr (.t 9) (.c (.int .i64 0))),zA 11 7 10,zM 12 11,zm 13 12 true 0,zg 14 12 true (.iaddr 3 (.t 13) (.c (.int .i64 0))),zf 15 12 true 0 14,zl 16 12 true 15,zm 17 12 true 1,zg 18 12 true (.bin .gtr (.t 16) (.t 17)),zA 19 12 18,zM 4 19] none)
 .ret))
theorem f107:aM Tryz.prog 107 20 Cf [.tmp 4]:=⟨_,Tryz.func107,rfl,by kernel_rfl,rfl⟩
def Cg:AC:=(.seq (.reg [zG 2 (.box (.t 0)),zG 4 (.mov (.c (.bool false)))] none)
 (.seq (.seq (.reg [zW 6 2 2,zG 7 (.call 114 [(.t 6)]),zN 8 7] none)
 (.cond (.t 8) (.seq (.reg [zG 4 (.mov (.c (.bool false)))] none)
 .ret) .skip))
 (.seq (.seq (.reg [zG 5 (.mov (.c (.int .i64 0)))] none)
 (.block 0 (.loop (.seq (.seq (.reg [zM 9 5,zF 10 0 2,zL 11 10,zG 12 (.len false (.t 11)),zG 13 (.bin .lss (.t 9) (.t 12))] none)
 (.cond (.t 13) .skip (.exit 0)))
 (.seq (.block 1 (.seq (.reg [zF 16 0 2,zL 17 16,zM 18 5,zG 19 (.iaddr 1 (.t 17) (.t 18)),zL 20 19,zM 21 1,zG 22 (.bin .eql (.t 20) (.t 21))] none)
 (.cond (.t 22) (.seq (.reg [zG 4 (.mov (.c (.bool true)))] none)
 .ret) .skip)))
 (.reg [zM 14 5,zG 15 (.bin .add (.t 14) (.c (.int .i64 1))),zM 5 15] none))))))
 (.seq (.reg [zF 23 1 2,zL 24 23,zM 25 1,zG 26 (.call 136 [(.t 24),(.t 25)]),zM 4 26] none)
 .ret))))
theorem f108:aM Tryz.prog 108 27 Cg [.tmp 4]:=⟨_,Tryz.func108,rfl,by kernel_rfl,rfl⟩
def Bv:AC:=(.seq (.reg [zG 4 (.mov (.c (.int .i64 0)))] none)
 (.seq (.seq (.reg [zM 6 0,zG 7 (.len false (.t 6)),zG 8 (.mov (.c (.int .i64 0)))] none)
 (.block 0 (.loop (.seq (.reg [zG 9 (.bin .lss (.t 8) (.t 7))] none)
 (.seq (.cond (.t 9) .skip (.exit 0))
 (.seq (.block 1 (.seq (.reg [zM 10 8,zM 5 10] none)
 (.seq (.reg [zM 11 1,zM 12 0,zM 13 5,zG 14 (.iaddr 3 (.t 12) (.t 13)),zW 15 3 14,zG 16 (.callv (.t 11) [(.t 15)])] none)
 (.cond (.t 16) (.seq (.reg [zM 17 5,zM 4 17] none)
 .ret) .skip))))
 (.reg [zG 18 (.bin .add (.t 8) (.c (.int .i64 1))),zM 8 18] none)))))))
 (.seq (.reg [zG 4 (.mov (.c (.int .i64 (-1))))] none)
 .ret)))
theorem f109:aM Tryz.prog 109 19 Bv [.tmp 4]:=⟨_,Tryz.func109,rfl,by kernel_rfl,rfl⟩
def Ci:AC:=(.seq (.reg [zG 2 (.box (.t 0)),zG 3 (.mov (.c (.bool false)))] none)
 (.seq (.reg [zW 4 2 1,zF 5 0 2,zL 6 5,zG 7 (.call 111 [(.t 4),(.t 6)]),zM 3 7] none)
 .ret))
theorem f110:aM Tryz.prog 110 8 Ci [.tmp 3]:=⟨_,Tryz.func110,rfl,by kernel_rfl,rfl⟩
def Cj:AC:=(.seq (.reg [zG 2 (.box (.t 0)),zG 4 (.mov (.c (.bool false)))] none)
 (.seq (.reg [zF 8 0 2,zL 9 8,zM 10 1,zG 11 (.call 89 [(.t 9),(.t 10)]),zM 7 11,zE 12 7 0,zE 13 7 1,zM 5 12,zM 6 13] none)
 (.seq (.reg [zM 14 6,zM 15 14,zf 16 15 false 1 2,zl 17 15 false 16,zm 18 15 false 1,zg 19 15 false (.call 130 [(.t 17),(.t 18)]),zO 20 15 19,zM 4 20] none)
 .ret)))
theorem f111:aM Tryz.prog 111 21 Cj [.tmp 4]:=⟨_,Tryz.func111,rfl,by kernel_rfl,rfl⟩
def Ck:AC:=(.seq (.reg [zG 2 (.box (.t 0)),zG 4 (.mov (.c (.int .i64 0)))] none)
 (.seq (.seq (.reg [zM 5 1,zF 6 2 2,zL 7 6,zG 8 (.bin .lss (.t 5) (.t 7))] none)
 (.cond (.t 8) (.seq (.reg [zG 4 (.mov (.c (.int .i64 12)))] none)
 .ret) .skip))
 (.seq (.seq (.reg [zM 9 1,zF 10 1 2,zL 11 10,zG 12 (.bin .gtr (.t 9) (.t 11))] none)
 (.cond (.t 12) (.seq (.reg [zG 4 (.mov (.c (.int .i64 13)))] none)
 .ret) .skip))
 (.seq (.reg [zG 4 (.mov (.c (.int .i64 0)))] none)
 .ret))))
theorem f112:aM Tryz.prog 112 13 Ck [.tmp 4]:=⟨_,Tryz.func112,rfl,by kernel_rfl,rfl⟩
def Cl:AC:=(.seq (.reg [zG 4 (.mov (.c (.str []))),zG 5 (.mov (.c (.bool false)))] none)
 (.seq (.seq (.reg [zM 7 0,zG 8 (.call 121 [(.t 7)]),zN 9 8] none)
 (.cond (.t 9) (.seq (.reg [zG 4 (.mov (.c (.str []))),zG 5 (.mov (.c (.bool false)))] none)
 .ret) .skip))
 (.seq (.seq (.reg [zG 6 (.mov (.c (.int .i64 0)))] none)
 (.block 0 (.loop (.seq (.seq (.reg [zM 10 6,zM 11 0,zG 12 (.len false (.t 11)),zG 13 (.bin .lss (.t 10) (.t 12))] none)
 (.cond (.t 13) .skip (.exit 0)))
 (.seq (.block 1 (.seq (.reg [zM 16 0,zM 17 6,zG 18 (.iaddr 3 (.t 16) (.t 17)),zF 19 0 18,zL 20 19,zM 21 1,zG 22 (.bin .leq (.t 20) (.t 21))] none)
 (.cond (.t 22) (.seq (.reg [zM 23 0,zM 24 6,zG 25 (.iaddr 3 (.t 23) (.t 24)),zF 26 1 25,zL 27 26,zM 28 0,zM 29 6,zG 30 (.iaddr 3 (.t 28) (.t 29)),zF 31 2 30,zL 32 31,zN 33 32,zM 4 27,zM 5 33] (some [(4,9)]))
 .ret) .skip)))
 (.reg [zM 14 6,zG 15 (.bin .add (.t 14) (.c (.int .i64 1))),zM 6 15] none))))))
 (.seq (.reg [zG 4 (.mov (.c (.str []))),zG 5 (.mov (.c (.bool false)))] none)
 .ret))))
theorem f113:aM Tryz.prog 113 34 Cl [.tmp 4,.tmp 5]:=⟨_,Tryz.func113,rfl,by kernel_rfl,rfl⟩
def Cm:AC:=(.seq (.reg [zG 1 (.box (.t 0)),zG 2 (.mov (.c (.bool false)))] none)
 (.seq (.seq (.reg [zF 5 0 1,zL 6 5,zG 7 (.len false (.t 6)),zG 8 (.bin .gtr (.t 7) (.c (.int .i64 64))),zM 9 8,zf 10 9 false 1 1,zl 11 9 false 10,zg 12 9 false (.len false (.t 11)),zg 13 9 false (.bin .gtr (.t 12) (.c (.int .i64 64))),zO 14 9 13] none)
 (.cond (.t 14) (.seq (.reg [zG 2 (.mov (.c (.bool false)))] none)
 .ret) .skip))
 (.seq (.seq (.reg [zG 3 (.mov (.c (.int .i64 0)))] none)
 (.block 0 (.loop (.seq (.seq (.reg [zM 15 3,zF 16 1 1,zL 17 16,zG 18 (.len false (.t 17)),zG 19 (.bin .lss (.t 15) (.t 18))] none)
 (.cond (.t 19) .skip (.exit 0)))
 (.seq (.block 1 (.seq (.reg [zF 22 1 1,zL 23 22,zM 24 3,zG 25 (.iaddr 2 (.t 23) (.t 24)),zW 26 2 25,zG 27 (.call 119 [(.t 26)]),zN 28 27,zM 29 28,zm 30 29 false 3,zg 31 29 false (.bin .gtr (.t 30) (.c (.int .i64 0))),zm 32 29 false 31,zf 33 32 true 1 1,zl 34 32 true 33,zm 35 32 true 3,zg 36 32 true (.bin .sub (.t 35) (.c (.int .i64 1))),zg 37 32 true (.iaddr 2 (.t 34) (.t 36)),zf 38 32 true 1 37,zl 39 32 true 38,zg 40 32 true (.bin .eql (.t 39) (.c (.str []))),zm 41 32 true 40,zf 42 41 false 1 1,zl 43 41 false 42,zm 44 41 false 3,zg 45 41 false (.bin .sub (.t 44) (.c (.int .i64 1))),zg 46 41 false (.iaddr 2 (.t 43) (.t 45)),zf 47 41 false 1 46,zl 48 41 false 47,zf 49 41 false 1 1,zl 50 41 false 49,zm 51 41 false 3,zg 52 41 false (.iaddr 2 (.t 50) (.t 51)),zf 53 41 false 0 52,zl 54 41 false 53,zg 55 41 false (.call 72 [(.t 48),(.t 54)]),zn 56 41 false 55,zg 57 32 true (.pick (.t 41) (.c (.bool true)) (.t 56)),zg 58 29 false (.pick (.t 32) (.t 57) (.c (.bool false))),zO 59 29 58] (some [(21,28),(26,28),(21,32),(26,32)]))
 (.cond (.t 59) (.seq (.reg [zG 2 (.mov (.c (.bool false)))] none)
 .ret) .skip)))
 (.reg [zM 20 3,zG 21 (.bin .add (.t 20) (.c (.int .i64 1))),zM 3 21] none))))))
 (.seq (.seq (.reg [zG 4 (.mov (.c (.int .i64 0)))] none)
 (.block 2 (.loop (.seq (.seq (.reg [zM 60 4,zF 61 0 1,zL 62 61,zG 63 (.len false (.t 62)),zG 64 (.bin .lss (.t 60) (.t 63))] none)
 (.cond (.t 64) .skip (.exit 2)))
 (.seq (.block 3 (.seq (.reg [zM 67 4,zG 68 (.bin .gtr (.t 67) (.c (.int .i64 0))),zM 69 68,zf 70 69 true 0 1,zl 71 69 true 70,zm 72 69 true 4,zg 73 69 true (.bin .sub (.t 72) (.c (.int .i64 1))),zg 74 69 true (.iaddr 1 (.t 71) (.t 73)),zl 75 69 true 74,zf 76 69 true 0 1,zl 77 69 true 76,zm 78 69 true 4,zg 79 69 true (.iaddr 1 (.t 77) (.t 78)),zl 80 69 true 79,zg 81 69 true (.call 72 [(.t 75),(.t 80)]),zn 82 69 true 81,zA 83 69 82,zM 84 83,zf 85 84 false 1 1,zl 86 84 false 85,zf 87 84 false 0 1,zl 88 84 false 87,zm 89 84 false 4,zg 90 84 false (.iaddr 1 (.t 88) (.t 89)),zl 91 84 false 90,zg 92 84 false (.call 136 [(.t 86),(.t 91)]),zO 93 84 92] (some [(4,10),(8,10),(4,13),(8,13),(19,21),(19,24)]))
 (.cond (.t 93) (.seq (.reg [zG 2 (.mov (.c (.bool false)))] none)
 .ret) .skip)))
 (.reg [zM 65 4,zG 66 (.bin .add (.t 65) (.c (.int .i64 1))),zM 4 66] none))))))
 (.seq (.reg [zG 2 (.mov (.c (.bool true)))] none)
 .ret)))))
theorem f114:aM Tryz.prog 114 94 Cm [.tmp 2]:=⟨_,Tryz.func114,rfl,by kernel_rfl,rfl⟩
def Cn:AC:=(.seq (.reg [zG 4 (.alloc [.sl 1 [] (.exact 0),.sl 2 [] (.exact 0)]),zG 5 (.mov (.c (.bool false)))] none)
 (.seq (.reg [zG 6 (.alloc [.sl 1 [] (.exact 0),.sl 2 [] (.exact 0)])] none)
 (.seq (.seq (.reg [zG 7 (.mov (.c (.int .i64 0)))] none)
 (.block 0 (.loop (.seq (.seq (.reg [zM 8 7,zM 9 0,zG 10 (.len false (.t 9)),zG 11 (.bin .lss (.t 8) (.t 10))] none)
 (.cond (.t 11) .skip (.exit 0)))
 (.seq (.block 1 (.seq (.reg [zM 14 1,zM 15 0,zM 16 7,zG 17 (.iaddr 1 (.t 15) (.t 16)),zL 18 17,zG 19 (.call 136 [(.t 14),(.t 18)]),zN 20 19] none)
 (.cond (.t 20) (.reg [zF 21 0 6,zL 22 21,zM 23 0,zM 24 7,zG 25 (.iaddr 1 (.t 23) (.t 24)),zL 26 25,zG 27 (.buildSl 1 [(.t 26)]),zG 28 (.app false 1 16 (.t 22) (.t 27)),zF 29 0 6,zH (.store 1 (.t 29) (.t 28))] (some [(1,5),(1,6)])) .skip)))
 (.reg [zM 12 7,zG 13 (.bin .add (.t 12) (.c (.int .i64 1))),zM 7 13] none))))))
 (.seq (.reg [zM 30 1,zF 31 1 6,zH (.store 1 (.t 31) (.t 30))] none)
 (.seq (.reg [zW 32 2 6,zF 33 0 6,zL 34 33,zG 35 (.len false (.t 34)),zG 36 (.bin .leq (.t 35) (.c (.int .i64 64))),zM 37 36,zf 38 37 true 1 6,zl 39 37 true 38,zg 40 37 true (.len false (.t 39)),zg 41 37 true (.bin .leq (.t 40) (.c (.int .i64 64))),zA 42 37 41,zH (.store 2 (.t 4) (.t 32)),zM 5 42] (some [(0,2),(0,7),(7,11)]))
 .ret)))))
theorem f115:aM Tryz.prog 115 43 Cn [.cell 4 (some 2),.tmp 5]:=⟨_,Tryz.func115,rfl,by kernel_rfl,rfl⟩
def Co:AC:=(.seq (.reg [zG 5 (.box (.t 0)),zG 10 (.mov (.c (.sl 2 [] (.exact 0)))),zG 11 (.mov (.c (.int .i64 0)))] none)
 (.seq (.seq (.reg [zW 17 3 5,zM 18 3,zG 19 (.call 112 [(.t 17),(.t 18)]),zM 12 19] none)
 (.seq (.reg [zM 20 12,zG 21 (.bin .neq (.t 20) (.c (.int .i64 0)))] none)
 (.cond (.t 21) (.seq (.reg [zM 22 12,zG 10 (.mov (.c (.sl 2 [] (.exact 0)))),zM 11 22] none)
 .ret) .skip)))
 (.seq (.reg [zG 13 (.mov (.c (.sl 2 [] (.exact 0))))] none)
 (.seq (.seq (.reg [zG 14 (.mov (.c (.int .i64 0)))] none)
 (.block 0 (.loop (.seq (.seq (.reg [zM 23 14,zF 24 0 5,zL 25 24,zG 26 (.len false (.t 25)),zG 27 (.bin .lss (.t 23) (.t 26))] none)
 (.cond (.t 27) .skip (.exit 0)))
 (.seq (.block 1 (.seq (.reg [zF 31 0 5,zL 32 31,zM 33 14,zG 34 (.iaddr 2 (.t 32) (.t 33)),zF 35 1 34,zL 36 35,zM 37 3,zG 38 (.call 113 [(.t 36),(.t 37)]),zM 30 38,zE 39 30 0,zE 40 30 1,zM 15 39,zM 16 40] none)
 (.seq (.reg [zM 41 16,zM 42 41,zf 43 42 true 0 5,zl 44 42 true 43,zm 45 42 true 14,zg 46 42 true (.iaddr 2 (.t 44) (.t 45)),zf 47 42 true 0 46,zl 48 42 true 47,zm 49 42 true 1,zm 50 42 true 2,zg 51 42 true (.call 106 [(.t 48),(.t 49),(.t 50)]),zA 52 42 51,zM 53 52,zm 54 53 true 4,zg 55 53 true (.bin .lss (.t 54) (.c (.int .i64 0))),zm 56 53 true 55,zm 57 56 false 13,zg 58 56 false (.len false (.t 57)),zm 59 56 false 4,zg 60 56 false (.bin .lss (.t 58) (.t 59)),zg 61 53 true (.pick (.t 56) (.c (.bool true)) (.t 60)),zA 62 53 61] none)
 (.cond (.t 62) (.reg [zM 63 13,zF 64 0 5,zL 65 64,zM 66 14,zG 67 (.iaddr 2 (.t 65) (.t 66)),zF 68 0 67,zL 69 68,zM 70 15,zG 71 (.build [.str [],.str []] [(0,1,(.t 69)),(1,1,(.t 70))]),zG 72 (.buildSl 2 [(.t 71)]),zG 73 (.app false 2 32 (.t 63) (.t 72)),zM 13 73] none) .skip))))
 (.reg [zM 28 14,zG 29 (.bin .add (.t 28) (.c (.int .i64 1))),zM 14 29] none))))))
 (.seq (.reg [zM 74 13,zM 10 74,zG 11 (.mov (.c (.int .i64 0)))] none)
 .ret)))))
theorem f116:aM Tryz.prog 116 75 Co [.tmp 10,.tmp 11]:=⟨_,Tryz.func116,rfl,by kernel_rfl,rfl⟩
def Cp:AC:=(.seq (.reg [zG 4 (.mov (.c (.sl 2 [] (.exact 0)))),zG 5 (.mov (.c (.int .i64 0)))] none)
 (.seq (.seq (.reg [zM 11 0,zM 12 1,zG 13 (.call 137 [(.t 11),(.t 12)]),zM 10 13,zE 14 10 0,zE 15 10 1,zM 6 14,zM 7 15] none)
 (.seq (.reg [zM 16 7,zG 17 (.bin .neq (.t 16) (.c (.int .i64 0)))] none)
 (.cond (.t 17) (.seq (.reg [zM 18 0,zM 4 18,zG 5 (.mov (.c (.int .i64 7)))] none)
 .ret) .skip)))
 (.seq (.reg [zG 8 (.mov (.c (.sl 2 [] (.exact 0))))] none)
 (.seq (.seq (.reg [zG 9 (.mov (.c (.int .i64 0)))] none)
 (.block 0 (.loop (.seq (.seq (.reg [zM 19 9,zM 20 0,zG 21 (.len false (.t 20)),zG 22 (.bin .lss (.t 19) (.t 21))] none)
 (.cond (.t 22) .skip (.exit 0)))
 (.seq (.block 1 (.seq (.reg [zM 25 0,zM 26 9,zG 27 (.iaddr 2 (.t 25) (.t 26)),zF 28 0 27,zL 29 28,zM 30 1,zG 31 (.bin .neq (.t 29) (.t 30))] none)
 (.cond (.t 31) (.reg [zM 32 8,zM 33 0,zM 34 9,zG 35 (.iaddr 2 (.t 33) (.t 34)),zW 36 2 35,zG 37 (.buildSl 2 [(.t 36)]),zG 38 (.app false 2 32 (.t 32) (.t 37)),zM 8 38] none) .skip)))
 (.reg [zM 23 9,zG 24 (.bin .add (.t 23) (.c (.int .i64 1))),zM 9 24] none))))))
 (.seq (.reg [zM 39 8,zM 4 39,zG 5 (.mov (.c (.int .i64 0)))] none)
 .ret)))))
theorem f117:aM Tryz.prog 117 40 Cp [.tmp 4,.tmp 5]:=⟨_,Tryz.func117,rfl,by kernel_rfl,rfl⟩
def Cq:AC:=(.seq (.reg [zG 6 (.mov (.c (.sl 2 [] (.exact 0)))),zG 7 (.mov (.c (.int .i64 0)))] none)
 (.seq (.seq (.reg [zM 11 1,zG 12 (.len true (.t 11)),zG 13 (.bin .gtr (.t 12) (.c (.int .i64 128))),zM 14 13,zm 15 14 false 2,zg 16 14 false (.len true (.t 15)),zg 17 14 false (.bin .gtr (.t 16) (.c (.int .i64 200))),zO 18 14 17] none)
 (.cond (.t 18) (.seq (.reg [zM 19 0,zM 6 19,zG 7 (.mov (.c (.int .i64 2)))] none)
 .ret) .skip))
 (.seq (.reg [zG 8 (.mov (.c (.sl 2 [] (.exact 0))))] none)
 (.seq (.reg [zG 9 (.mov (.c (.bool false)))] none)
 (.seq (.seq (.reg [zG 10 (.mov (.c (.int .i64 0)))] none)
 (.block 0 (.loop (.seq (.seq (.reg [zM 20 10,zM 21 0,zG 22 (.len false (.t 21)),zG 23 (.bin .lss (.t 20) (.t 22))] none)
 (.cond (.t 23) .skip (.exit 0)))
 (.seq (.block 1 (.seq (.seq (.reg [zM 26 9,zN 27 26,zM 28 27,zm 29 28 true 0,zm 30 28 true 10,zg 31 28 true (.iaddr 2 (.t 29) (.t 30)),zf 32 28 true 0 31,zl 33 28 true 32,zm 34 28 true 1,zg 35 28 true (.call 72 [(.t 33),(.t 34)]),zn 36 28 true 35,zA 37 28 36] none)
 (.cond (.t 37) (.seq (.reg [zM 38 8,zM 39 1,zM 40 2,zG 41 (.build [.str [],.str []] [(0,1,(.t 39)),(1,1,(.t 40))]),zG 42 (.buildSl 2 [(.t 41)]),zG 43 (.app false 2 32 (.t 38) (.t 42)),zM 8 43] none)
 (.reg [zG 9 (.mov (.c (.bool true)))] none)) .skip))
 (.seq (.reg [zM 44 0,zM 45 10,zG 46 (.iaddr 2 (.t 44) (.t 45)),zF 47 0 46,zL 48 47,zM 49 1,zG 50 (.bin .neq (.t 48) (.t 49))] none)
 (.cond (.t 50) (.reg [zM 51 8,zM 52 0,zM 53 10,zG 54 (.iaddr 2 (.t 52) (.t 53)),zW 55 2 54,zG 56 (.buildSl 2 [(.t 55)]),zG 57 (.app false 2 32 (.t 51) (.t 56)),zM 8 57] none) .skip))))
 (.reg [zM 24 10,zG 25 (.bin .add (.t 24) (.c (.int .i64 1))),zM 10 25] none))))))
 (.seq (.seq (.reg [zM 58 9,zN 59 58] none)
 (.cond (.t 59) (.reg [zM 60 8,zM 61 1,zM 62 2,zG 63 (.build [.str [],.str []] [(0,1,(.t 61)),(1,1,(.t 62))]),zG 64 (.buildSl 2 [(.t 63)]),zG 65 (.app false 2 32 (.t 60) (.t 64)),zM 8 65] none) .skip))
 (.seq (.reg [zM 66 8,zM 6 66,zG 7 (.mov (.c (.int .i64 0)))] none)
 .ret)))))))
theorem f118:aM Tryz.prog 118 67 Cq [.tmp 6,.tmp 7]:=⟨_,Tryz.func118,rfl,by kernel_rfl,rfl⟩
def Cr:AC:=(.seq (.reg [zG 1 (.box (.t 0)),zG 2 (.mov (.c (.bool false)))] none)
 (.seq (.reg [zF 3 1 1,zL 4 3,zG 5 (.bin .eql (.t 4) (.c (.str []))),zM 6 5,zf 7 6 false 0 1,zl 8 6 false 7,zf 9 6 false 1 1,zl 10 6 false 9,zg 11 6 false (.call 72 [(.t 8),(.t 10)]),zO 12 6 11,zM 2 12] none)
 .ret))
theorem f119:aM Tryz.prog 119 13 Cr [.tmp 2]:=⟨_,Tryz.func119,rfl,by kernel_rfl,rfl⟩
def Cs:AC:=(.seq (.reg [zG 2 (.box (.t 0)),zG 3 (.box (.t 1)),zG 4 (.mov (.c (.bool false)))] none)
 (.seq (.reg [zF 5 1 2,zL 6 5,zG 7 (.bin .neq (.t 6) (.c (.str []))),zM 8 7,zf 9 8 true 1 2,zl 10 8 true 9,zf 11 8 true 0 3,zl 12 8 true 11,zg 13 8 true (.call 72 [(.t 10),(.t 12)]),zA 14 8 13,zM 4 14] none)
 .ret))
theorem f120:aM Tryz.prog 120 15 Cs [.tmp 4]:=⟨_,Tryz.func120,rfl,by kernel_rfl,rfl⟩
def Ct:AC:=(.seq (.reg [zG 2 (.mov (.c (.bool false)))] none)
 (.seq (.seq (.reg [zG 3 (.mov (.c (.int .i64 0)))] none)
 (.block 0 (.loop (.seq (.seq (.reg [zM 4 3,zM 5 0,zG 6 (.len false (.t 5)),zG 7 (.bin .lss (.t 4) (.t 6))] none)
 (.cond (.t 7) .skip (.exit 0)))
 (.seq (.block 1 (.seq (.reg [zM 10 0,zM 11 3,zG 12 (.iaddr 3 (.t 10) (.t 11)),zW 13 3 12,zG 14 (.call 122 [(.t 13)]),zN 15 14,zM 16 15,zm 17 16 false 3,zg 18 16 false (.bin .gtr (.t 17) (.c (.int .i64 0))),zm 19 16 false 18,zm 20 19 true 0,zm 21 19 true 3,zg 22 19 true (.iaddr 3 (.t 20) (.t 21)),zf 23 19 true 0 22,zl 24 19 true 23,zm 25 19 true 0,zm 26 19 true 3,zg 27 19 true (.bin .sub (.t 26) (.c (.int .i64 1))),zg 28 19 true (.iaddr 3 (.t 25) (.t 27)),zf 29 19 true 0 28,zl 30 19 true 29,zg 31 19 true (.bin .geq (.t 24) (.t 30)),zg 32 16 false (.pick (.t 19) (.t 31) (.c (.bool false))),zO 33 16 32] (some [(14,20)]))
 (.cond (.t 33) (.seq (.reg [zG 2 (.mov (.c (.bool false)))] none)
 .ret) .skip)))
 (.reg [zM 8 3,zG 9 (.bin .add (.t 8) (.c (.int .i64 1))),zM 3 9] none))))))
 (.seq (.reg [zG 2 (.mov (.c (.bool true)))] none)
 .ret)))
theorem f121:aM Tryz.prog 121 34 Ct [.tmp 2]:=⟨_,Tryz.func121,rfl,by kernel_rfl,rfl⟩
def Cu:AC:=(.seq (.reg [zG 1 (.box (.t 0)),zG 2 (.mov (.c (.bool false)))] none)
 (.seq (.reg [zF 3 0 1,zL 4 3,zG 5 (.bin .geq (.t 4) (.c (.int .i64 1))),zM 6 5,zf 7 6 true 0 1,zl 8 6 true 7,zg 9 6 true (.bin .leq (.t 8) (.c (.int .i64 1152921504606846976))),zA 10 6 9,zM 11 10,zf 12 11 true 1 1,zl 13 11 true 12,zg 14 11 true (.len true (.t 13)),zg 15 11 true (.bin .leq (.t 14) (.c (.int .i64 200))),zA 16 11 15,zM 17 16,zf 18 17 true 2 1,zl 19 17 true 18,zn 20 17 true 19,zm 21 17 true 20,zf 22 21 false 1 1,zl 23 21 false 22,zg 24 21 false (.bin .eql (.t 23) (.c (.str []))),zg 25 17 true (.pick (.t 21) (.c (.bool true)) (.t 24)),zA 26 17 25,zM 2 26] none)
 .ret))
theorem f122:aM Tryz.prog 122 27 Cu [.tmp 2]:=⟨_,Tryz.func122,rfl,by kernel_rfl,rfl⟩
def C6:AC:=(.seq (.reg [zG 2 (.mov (.c (.sl 3 [] (.exact 0))))] none)
 (.seq (.seq (.reg [zM 3 0,zG 4 (.eqN false (.t 3))] none)
 (.cond (.t 4) (.seq (.reg [zG 2 (.mov (.c (.sl 3 [] (.exact 0))))] none)
 .ret) .skip))
 (.seq (.reg [zG 5 (.buildSl 3 []),zM 6 0,zG 7 (.app false 3 32 (.t 5) (.t 6)),zM 2 7] none)
 .ret)))
theorem f123:aM Tryz.prog 123 8 C6 [.tmp 2]:=⟨_,Tryz.func123,rfl,by kernel_rfl,rfl⟩
def Cv:AC:=(.seq (.reg [zG 4 (.mov (.c (.int .i64 0)))] none)
 (.seq (.reg [zM 8 0,zG 5 (.mov (.c (.int .i64 0))),zM 6 8] none)
 (.seq (.block 0 (.loop (.seq (.seq (.reg [zM 9 5,zM 10 6,zG 11 (.bin .lss (.t 9) (.t 10))] none)
 (.cond (.t 11) .skip (.exit 0)))
 (.block 1 (.seq (.reg [zM 12 5,zM 13 6,zG 14 (.bin .add (.t 12) (.t 13)),zG 15 (.conv (.toInt .u64) (.t 14)),zG 16 (.bin .shr (.t 15) (.c (.int .u64 1))),zG 17 (.conv (.toInt .i64) (.t 16)),zM 7 17] none)
 (.seq (.reg [zM 18 1,zM 19 7,zG 20 (.callv (.t 18) [(.t 19)]),zN 21 20] none)
 (.cond (.t 21) (.reg [zM 22 7,zG 23 (.bin .add (.t 22) (.c (.int .i64 1))),zM 5 23] none) (.reg [zM 24 7,zM 6 24] none))))))))
 (.seq (.reg [zM 25 5,zM 4 25] none)
 .ret))))
theorem f124:aM Tryz.prog 124 26 Cv [.tmp 4]:=⟨_,Tryz.func124,rfl,by kernel_rfl,rfl⟩
def Cw:AC:=(.seq (.reg [zG 4 (.mov (.c (.bool false)))] none)
 (.seq (.reg [zL 5 1,zM 6 0,zG 7 (.iaddr 3 (.t 5) (.t 6)),zF 8 0 7,zL 9 8,zL 10 2,zG 11 (.bin .leq (.t 9) (.t 10)),zM 4 11] (some [(0,5),(4,5)]))
 .ret))
theorem f125:aM Tryz.prog 125 12 Cw [.tmp 4]:=⟨_,Tryz.func125,rfl,by kernel_rfl,rfl⟩
def Cx:AC:=(.seq (.reg [zG 4 (.mov (.c (.bool false)))] none)
 (.seq (.reg [zM 5 0,zG 6 (.call 138 [(.t 5)]),zM 7 6,zm 8 7 true 1,zg 9 7 true (.call 138 [(.t 8)]),zn 10 7 true 9,zA 11 7 10,zM 12 11,zm 13 12 false 0,zm 14 12 false 1,zg 15 12 false (.bin .lss (.t 13) (.t 14)),zO 16 12 15,zM 4 16] none)
 .ret))
theorem f126:aM Tryz.prog 126 17 Cx [.tmp 4]:=⟨_,Tryz.func126,rfl,by kernel_rfl,rfl⟩
def Cy:AC:=(.seq (.reg [zG 2 (.mov (.c (.bool false)))] none)
 (.seq (.reg [zM 3 0,zM 4 0,zG 5 (.bin .neq (.t 3) (.t 4)),zM 2 5] none)
 .ret))
theorem f127:aM Tryz.prog 127 6 Cy [.tmp 2]:=⟨_,Tryz.func127,rfl,by kernel_rfl,rfl⟩
def Cz:AC:=(.seq (.reg [zG 3 (.box (.t 1)),zG 4 (.mov (.c (.bool false)))] none)
 (.seq (.reg [zM 5 0,zG 6 (.mkfn (.func 140) [] [(.t 3)]),zG 7 (.call 104 [(.t 5),(.t 6)]),zM 4 7] none)
 .ret))
theorem f130:aM Tryz.prog 130 8 Cz [.tmp 4]:=⟨_,Tryz.func130,rfl,by kernel_rfl,rfl⟩
def Bw:AC:=(.seq (.reg [zG 4 (.mov (.c (.sl 1 [] (.exact 0))))] none)
 (.seq (.reg [zM 8 0,zM 9 1,zG 10 (.call 102 [(.t 8),(.t 9)]),zM 5 10] none)
 (.seq (.seq (.reg [zM 11 5,zG 12 (.bin .eql (.t 11) (.c (.int .i64 (-1))))] none)
 (.cond (.t 12) (.seq (.reg [zM 13 0,zM 4 13] none)
 .ret) .skip))
 (.seq (.seq (.reg [zM 14 5,zG 15 (.bin .add (.t 14) (.c (.int .i64 1))),zM 6 15] none)
 (.block 0 (.loop (.seq (.seq (.reg [zM 16 6,zM 17 0,zG 18 (.len false (.t 17)),zG 19 (.bin .lss (.t 16) (.t 18))] none)
 (.cond (.t 19) .skip (.exit 0)))
 (.seq (.block 1 (.seq (.reg [zM 22 0,zM 23 6,zG 24 (.iaddr 1 (.t 22) (.t 23)),zL 25 24,zM 7 25] none)
 (.seq (.reg [zM 26 1,zM 27 7,zG 28 (.callv (.t 26) [(.t 27)]),zN 29 28] none)
 (.cond (.t 29) (.seq (.reg [zM 30 0,zM 31 5,zM 32 7,zG 33 (.iaddr 1 (.t 30) (.t 31)),zH (.store 1 (.t 33) (.t 32))] none)
 (.reg [zM 34 5,zG 35 (.bin .add (.t 34) (.c (.int .i64 1))),zM 5 35] none)) .skip))))
 (.reg [zM 20 6,zG 21 (.bin .add (.t 20) (.c (.int .i64 1))),zM 6 21] none))))))
 (.seq (.reg [zM 36 0,zM 37 5,zG 38 (.slc false 1 (.t 36) (some (.t 37)) none none),zH (.clr 1 [.str []] (.t 38))] none)
 (.seq (.reg [zM 39 0,zM 40 5,zG 41 (.slc false 1 (.t 39) none (some (.t 40)) none),zM 4 41] none)
 .ret))))))
theorem f131:aM Tryz.prog 131 42 Bw [.tmp 4]:=⟨_,Tryz.func131,rfl,by kernel_rfl,rfl⟩
def CA:AC:=(.seq (.reg [zG 3 (.mov (.c (.bool false)))] none)
 (.seq (.reg [zL 4 1,zM 5 0,zG 6 (.call 130 [(.t 4),(.t 5)]),zM 3 6] none)
 .ret))
theorem f132:aM Tryz.prog 132 7 CA [.tmp 3]:=⟨_,Tryz.func132,rfl,by kernel_rfl,rfl⟩
def CB:AC:=(.seq (.reg [zL 10 1,zK 11 10,zF 12 0 11,zL 13 12,zL 14 2,zG 15 (.call 89 [(.t 13),(.t 14)]),zM 9 15,zE 16 9 0,zE 17 9 1,zM 5 16,zM 6 17] (some [(0,4),(3,4)]))
 (.seq (.reg [zL 18 1,zK 19 18,zF 20 0 19,zL 21 20,zM 22 5,zG 23 (.slc false 1 (.t 21) (some (.t 22)) none none),zG 24 (.len false (.t 23)),zG 25 (.mov (.c (.int .i64 0)))] none)
 (.block 0 (.loop (.seq (.reg [zG 26 (.bin .lss (.t 25) (.t 24))] none)
 (.seq (.cond (.t 26) .skip (.exit 0))
 (.seq (.block 1 (.seq (.reg [zG 27 (.iaddr 1 (.t 23) (.t 25)),zL 28 27,zM 8 28] none)
 (.seq (.reg [zL 29 3,zG 30 (.bin .neq (.t 29) (.c (.str []))),zM 31 30,zm 32 31 true 8,zl 33 31 true 3,zg 34 31 true (.bin .geq (.t 32) (.t 33)),zA 35 31 34,zM 36 35,zm 37 36 false 0,zm 38 36 false 8,zg 39 36 false (.callv (.t 37) [(.t 38)]),zn 40 36 false 39,zO 41 36 40] none)
 (.cond (.t 41) .ret .skip))))
 (.reg [zG 42 (.bin .add (.t 25) (.c (.int .i64 1))),zM 25 42] none))))))))
theorem f133:aM Tryz.prog 133 43 CB []:=⟨_,Tryz.func133,rfl,by kernel_rfl,rfl⟩
def CC:AC:=(.seq (.reg [zG 4 (.mov (.c (.sl 3 [] (.exact 0))))] none)
 (.seq (.seq (.reg [zM 5 1,zG 6 (.bin .lss (.t 5) (.c (.int .i64 0)))] none)
 (.cond (.t 6) (.reg [zG 7 (.ifc 9 (.c (.str [99,97,110,110,111,116,32,98,101,32,110,101,103,97,116,105,118,101]))),zH (.pan (.t 7))] none) .skip))
 (.seq (.seq (.reg [zM 8 1,zM 9 0,zG 10 (.cap (.t 9)),zM 11 0,zG 12 (.len false (.t 11)),zG 13 (.bin .sub (.t 10) (.t 12)),zG 14 (.bin .sub (.t 8) (.t 13)),zM 1 14] none)
 (.seq (.reg [zM 15 1,zG 16 (.bin .gtr (.t 15) (.c (.int .i64 0)))] none)
 (.cond (.t 16) (.reg [zM 17 0,zM 18 0,zG 19 (.cap (.t 18)),zG 20 (.slc false 3 (.t 17) none (some (.t 19)) none),zM 21 1,zG 22 (.appz 32 (.agg [.int .i64 0,.str [],.bool false]) 3 (.t 20) (.t 21)),zM 23 0,zG 24 (.len false (.t 23)),zG 25 (.slc false 3 (.t 22) none (some (.t 24)) none),zM 0 25] none) .skip)))
 (.seq (.reg [zM 26 0,zM 4 26] none)
 .ret))))
theorem f134:aM Tryz.prog 134 27 CC [.tmp 4]:=⟨_,Tryz.func134,rfl,by kernel_rfl,rfl⟩
def Bx:AC:=(.seq (.reg [zG 4 (.mov (.c (.int .i64 0)))] none)
 (.seq (.seq (.reg [zM 6 0,zG 7 (.len false (.t 6)),zG 8 (.mov (.c (.int .i64 0)))] none)
 (.block 0 (.loop (.seq (.reg [zG 9 (.bin .lss (.t 8) (.t 7))] none)
 (.seq (.cond (.t 9) .skip (.exit 0))
 (.seq (.block 1 (.seq (.reg [zM 10 8,zM 5 10] none)
 (.seq (.reg [zM 11 1,zM 12 0,zM 13 5,zG 14 (.iaddr 2 (.t 12) (.t 13)),zW 15 2 14,zG 16 (.callv (.t 11) [(.t 15)])] none)
 (.cond (.t 16) (.seq (.reg [zM 17 5,zM 4 17] none)
 .ret) .skip))))
 (.reg [zG 18 (.bin .add (.t 8) (.c (.int .i64 1))),zM 8 18] none)))))))
 (.seq (.reg [zG 4 (.mov (.c (.int .i64 (-1))))] none)
 .ret)))
theorem f135:aM Tryz.prog 135 19 Bx [.tmp 4]:=⟨_,Tryz.func135,rfl,by kernel_rfl,rfl⟩
def CD:AC:=(.seq (.reg [zG 4 (.mov (.c (.bool false)))] none)
 (.seq (.seq (.reg [zG 5 (.mov (.c (.int .i64 0)))] none)
 (.block 0 (.loop (.seq (.seq (.reg [zM 6 5,zM 7 0,zG 8 (.len false (.t 7)),zG 9 (.bin .lss (.t 6) (.t 8))] none)
 (.cond (.t 9) .skip (.exit 0)))
 (.seq (.block 1 (.seq (.reg [zM 12 1,zM 13 0,zM 14 5,zG 15 (.iaddr 2 (.t 13) (.t 14)),zF 16 0 15,zL 17 16,zM 18 0,zM 19 5,zG 20 (.iaddr 2 (.t 18) (.t 19)),zF 21 1 20,zL 22 21,zG 23 (.call 106 [(.t 12),(.t 17),(.t 22)])] (some [(5,10)]))
 (.cond (.t 23) (.seq (.reg [zG 4 (.mov (.c (.bool true)))] none)
 .ret) .skip)))
 (.reg [zM 10 5,zG 11 (.bin .add (.t 10) (.c (.int .i64 1))),zM 5 11] none))))))
 (.seq (.reg [zG 4 (.mov (.c (.bool false)))] none)
 .ret)))
theorem f136:aM Tryz.prog 136 24 CD [.tmp 4]:=⟨_,Tryz.func136,rfl,by kernel_rfl,rfl⟩
def CE:AC:=(.seq (.reg [zG 4 (.mov (.c (.str []))),zG 5 (.mov (.c (.int .i64 0)))] none)
 (.seq (.seq (.reg [zG 6 (.mov (.c (.int .i64 0)))] none)
 (.block 0 (.loop (.seq (.seq (.reg [zM 7 6,zM 8 0,zG 9 (.len false (.t 8)),zG 10 (.bin .lss (.t 7) (.t 9))] none)
 (.cond (.t 10) .skip (.exit 0)))
 (.seq (.block 1 (.seq (.reg [zM 13 0,zM 14 6,zG 15 (.iaddr 2 (.t 13) (.t 14)),zF 16 0 15,zL 17 16,zM 18 1,zG 19 (.bin .eql (.t 17) (.t 18))] none)
 (.cond (.t 19) (.seq (.reg [zM 20 0,zM 21 6,zG 22 (.iaddr 2 (.t 20) (.t 21)),zF 23 1 22,zL 24 23,zM 4 24,zG 5 (.mov (.c (.int .i64 0)))] none)
 .ret) .skip)))
 (.reg [zM 11 6,zG 12 (.bin .add (.t 11) (.c (.int .i64 1))),zM 6 12] none))))))
 (.seq (.reg [zG 4 (.mov (.c (.str []))),zG 5 (.mov (.c (.int .i64 7)))] none)
 .ret)))
theorem f137:aM Tryz.prog 137 25 CE [.tmp 4,.tmp 5]:=⟨_,Tryz.func137,rfl,by kernel_rfl,rfl⟩
def CF:AC:=(.seq (.reg [zG 2 (.mov (.c (.bool false)))] none)
 (.seq (.reg [zM 3 0,zM 4 0,zG 5 (.bin .neq (.t 3) (.t 4)),zM 2 5] none)
 .ret))
theorem f138:aM Tryz.prog 138 6 CF [.tmp 2]:=⟨_,Tryz.func138,rfl,by kernel_rfl,rfl⟩
def CG:AC:=(.seq (.reg [zG 2 (.box (.t 0)),zG 3 (.mov (.c (.bool false)))] none)
 (.seq (.reg [zW 4 2 2,zL 5 1,zG 6 (.call 141 [(.t 4),(.t 5)]),zM 3 6] none)
 .ret))
theorem f140:aM Tryz.prog 140 7 CG [.tmp 3]:=⟨_,Tryz.func140,rfl,by kernel_rfl,rfl⟩
def CH:AC:=(.seq (.reg [zG 2 (.box (.t 0)),zG 4 (.mov (.c (.bool false)))] none)
 (.seq (.reg [zM 5 1,zF 6 0 2,zL 7 6,zG 8 (.bin .geq (.t 5) (.t 7)),zM 9 8,zf 10 9 true 1 2,zl 11 9 true 10,zg 12 9 true (.bin .eql (.t 11) (.c (.str []))),zm 13 9 true 12,zm 14 13 false 1,zf 15 13 false 1 2,zl 16 13 false 15,zg 17 13 false (.bin .lss (.t 14) (.t 16)),zg 18 9 true (.pick (.t 13) (.c (.bool true)) (.t 17)),zA 19 9 18,zM 4 19] none)
 .ret))
theorem f141:aM Tryz.prog 141 20 CH [.tmp 4]:=⟨_,Tryz.func141,rfl,by kernel_rfl,rfl⟩
end Go.Proofs.YtpehfflehebmbaaGreat.C
end
section
set_option maxRecDepth 100000
namespace Go.Proofs.YtpehfflehebmbaaGreat.C
open Go.Av
end Go.Proofs.YtpehfflehebmbaaGreat.C
end
section
set_option maxRecDepth 10000
namespace Go.Av
section
variable {P:Program}
def ky (sz bytes:Nat):AC:=(.seq (.reg [⟨some 2,none,.mov (.c (.sl sz [] (.exact 0)))⟩] none)
 (.seq (.seq (.reg [⟨some 3,none,.mov (.t 0)⟩,⟨some 4,none,.eqN false (.t 3)⟩] none)
 (.cond (.t 4) (.seq (.reg [⟨some 2,none,.mov (.c (.sl sz [] (.exact 0)))⟩] none)
 .ret) .skip))
 (.seq (.reg [⟨some 5,none,.buildSl sz []⟩,⟨some 6,none,.mov (.t 0)⟩,⟨some 7,none,.app false sz bytes (.t 5) (.t 6)⟩,⟨some 2,none,.mov (.t 7)⟩] none)
 .ret)))
theorem ab.own {sz:Nat} {xs:List AV} {t:Nat}:ab (.sl sz xs (.own t)) (.sl sz xs .any):=ab.cap
theorem ab.ra {sz:Nat} {a:Option Addr} {C:Nat} (h:C=0∨∃B off,a=some ⟨B,off,none⟩):ab (.sc (.slice a 0 C)) (.sl sz [] .any):=by
 intro G w v hv
 simp only[ah] at hv
 subst hv
 unfold ah
 rcases h with rfl|⟨B,off,rfl⟩
 ·exact .inl ⟨rfl,⟨a,rfl⟩,trivial⟩
 ·exact .inr ⟨B,off,C,[],rfl,Nat.zero_le _,by simp,by simp[aB],Imm.nil,trivial⟩
theorem bn.mA {f:FuncId} {sz:Nat} {c:Cap} {rest:List AV} {h h':H} {r:AV} (hc:∀a C,(C=0∨∃B off,a=some ⟨B,off,none⟩)→bn P f (.sc (.slice a 0 C)::rest) h r h'):bn P f (.sl sz [] c::rest) h r h':=by
 intro G w vs hv R F
 simp only[aq] at hv
 obtain ⟨v,us,rfl,hv,hr⟩:=hv
 simp only[ah] at hv
 rcases hv with ⟨-,⟨a,rfl⟩,-⟩|⟨B,off,C,ws,rfl,-⟩
 ·exact hc a 0 (.inl rfl) G w _ (.cons (by simp[ah]) hr) R F
 ·exact hc _ C (.inr ⟨B,off,rfl⟩) G w _ (.cons (by simp[ah]) hr) R F
theorem jL {f:FuncId} {sz bytes:Nat} (hF:aM P f 8 (ky sz bytes) [.tmp 2]) (xs:List AV) (hp:al xs=true) (hb:xs.length*bytes≤140737488355328) (hl:xs.length<4611686018427387904):aA P f [.sl sz xs .any] (.sl sz xs .any):=by
 cases xs with
 |nil=>
  intro n m
  refine bn.mA fun a C hC=>?_
  have:aA P f [.sc (.slice a 0 C)] (.sl sz [] .any):=by
   refine hF.p7 (by simp) (ct _ rfl) (dN _ rfl) fun n m=>?_
   unfold ky
   refine Wp.aw (by simp only[go_sem,reduceIte,Nat.reduceEqDiff,Nat.reduceAdd,bx];exact rfl) (by trivial) ?_
   refine Wp.seq ?_
   refine Wp.aw (by simp only[go_sem,reduceIte,Nat.reduceEqDiff,Nat.reduceAdd,bx];exact rfl) (by trivial) ?_
   cases ha:a.isNone with
   |true=>
    refine Wp.cond_true (by simp only[go_sem,reduceIte,Nat.reduceEqDiff,Nat.reduceAdd,bx,ha]) ?_
    refine Wp.aw (by simp only[go_sem,reduceIte,Nat.reduceEqDiff,Nat.reduceAdd,bx];exact rfl) (by trivial) ?_
    refine Wp.ret ⟨trivial,_,rfl,?_⟩
    simp only[go_sem,reduceIte,Nat.reduceEqDiff,Nat.reduceAdd,bx]
    exact ab.cap
   |false=>
    refine Wp.cond_false (by simp only[go_sem,reduceIte,Nat.reduceEqDiff,Nat.reduceAdd,bx,ha]) ?_
    refine Wp.skip ?_
    refine Wp.le (s':=⟨tm [(0,.sl sz [] .any)],_⟩) (aU.tm ⟨ab.ra hC,trivial⟩) ?_
    refine Wp.aw (by simp only[go_sem,reduceIte,Nat.reduceEqDiff,Nat.reduceAdd,bx,Nat.zero_mul,Nat.zero_le,and_self,or_true,if_true,Nat.reduceMul,Nat.reduceLT,Nat.reduceLeDiff,decide_true];exact rfl) (by trivial) ?_
    refine Wp.ret ⟨trivial,_,rfl,?_⟩
    simp only[go_sem,reduceIte,Nat.reduceEqDiff,Nat.reduceAdd,bx]
    exact ab.cap
  exact this n m
 |cons x xs=>
  refine hF.p7 (by simp) (ct _ (by simp[al,av,aG] at hp ⊢;exact hp)) (dN _ (by simp[al,av,aG] at hp ⊢;exact hp)) fun n m=>?_
  unfold ky
  refine Wp.aw (by simp only[go_sem,reduceIte,Nat.reduceEqDiff,Nat.reduceAdd,bx];exact rfl) (by trivial) ?_
  refine Wp.seq ?_
  refine Wp.aw (by simp only[go_sem,reduceIte,Nat.reduceEqDiff,Nat.reduceAdd,bx];exact rfl) (by trivial) ?_
  refine Wp.cond_false (by simp only[go_sem,reduceIte,Nat.reduceEqDiff,Nat.reduceAdd,bx]) ?_
  refine Wp.skip ?_
  simp only[List.length_cons] at hb hl
  have h1:(0+(xs.length+1))*bytes≤140737488355328:=by rw[Nat.zero_add];exact hb
  have h2:0+(xs.length+1)<4611686018427387904:=by omega
  refine Wp.aw (by simp only[go_sem,reduceIte,Nat.reduceEqDiff,Nat.reduceAdd,bx,Nat.zero_mul,Nat.zero_le,and_self,or_true,true_or,if_true,Nat.reduceMul,Nat.reduceLT,Nat.reduceLeDiff,decide_true,hb,hl];exact rfl) (by trivial) ?_
  refine Wp.ret ⟨trivial,_,rfl,?_⟩
  simp only[go_sem,reduceIte,Nat.reduceEqDiff,Nat.reduceAdd,bx]
  exact ab.cap
def OLe (f f':Nat→Option Obj):Prop:=∀j o',f' j=some o'→∃o,f j=some o∧cq o o'
theorem OLe.refl (f:Nat→Option Obj):OLe f f:=fun j o h=>⟨o,h,cq.refl o⟩
theorem OLe.none (f:Nat→Option Obj):OLe f ag:=fun j o h=>by cases h
theorem OLe.upd {f f':Nat→Option Obj} {i:Nat} {o o':Obj} (h:OLe f f') (hs:cq o o'):OLe (upd f i (some o)) (upd f' i (some o')):=by
 intro j p hp
 simp only[Go.Av.upd] at hp ⊢
 split at hp
 ·rename_i e;rw[if_pos e];cases hp;exact ⟨o,rfl,hs⟩
 ·rename_i e;rw[if_neg e];exact h j p hp
theorem aU.of {t t':Tm} {f f':Nat→Option Obj} {n n' m m':Nat} {k k':List Nat} (ht:∀i,ab (t i) (t' i)) (ho:OLe f f') (hk:∀x∈k',x∈k) (hn:n≤n') (hm:m≤m'):aU ⟨t,⟨f,n,k,m⟩⟩ ⟨t',⟨f',n',k',m'⟩⟩:=
 aU.mk' ht ⟨ho,hk⟩ hn hm
theorem ab.eL {sz:Nat} {xs:List AV} {k t:Nat} (h:k=xs.length):ab (.sl sz xs (.exact k)) (.sl sz xs (.own t)):=by
 intro G w v hv
 unfold ah at hv ⊢
 rcases hv with ⟨a,b,-⟩|⟨B,off,C,vs,h1,h2,h3,h4,h5,h6⟩
 ·exact .inl ⟨a,b,trivial⟩
 ·exact .inr ⟨B,off,C,vs,h1,h2,h3,h4,h5,.inl (by simp only[cC] at h6;omega)⟩
theorem OLe.put {f f':Nat→Option Obj} {i:Nat} {o o':Obj} (h:OLe f f') (hf:f i=some o) (hs:cq o o'):OLe f (Go.Av.upd f' i (some o')):=by
 intro j p hp
 simp only[Go.Av.upd] at hp
 split at hp
 ·rename_i e;subst e;cases hp;exact ⟨o,hf,hs⟩
 ·exact h j p hp
end
end Go.Av
end
section
namespace Go.Av
open Classical in
section
variable {P:Program} {G:aI} {h:H} {w:World}
def H.DO (h:H) (G:aI) (d:Nat→Bool) (B:Nat):Prop:=∃id o,d id=true∧h.objs id=some o∧G.ι id=B
def H.drop (h:H) (d:Nat→Bool):H:={h with objs:=fun j=>if d j then none else h.objs j}
noncomputable def aI.frz (G:aI) (h:H) (d:Nat→Bool):aI:=
 {G with own:=fun B=>G.own B∧¬h.DO G d B,lim:=fun B=>if h.DO G d B then none else G.lim B}
theorem vD {d:Nat→Bool} {B:Nat} (x:h.DO G d B):h.O G B:=by
 obtain ⟨id,o,-,a,b⟩:=x
 exact ⟨id,o,a,b⟩
theorem bw (d:Nat→Bool):Trans G w h (G.frz h d) w (h.drop d):=by
 have hsub:∀B,(h.drop d).O (G.frz h d) B→h.O G B:=by
  rintro B ⟨id,o,a,b⟩
  simp only[H.drop] at a
  split at a
  ·cases a
  ·exact ⟨id,o,a,b⟩
 constructor
 ·exact fun _ x=>x
 ·exact fun _=> .inl
 ·exact fun _ _=>rfl
 ·exact fun _ x=>x
 ·exact fun _=> .inl
 ·exact fun _ _=>rfl
 ·exact Nat.le_refl _
 ·exact Nat.le_refl _
 ·exact Nat.le_refl _
 ·rfl
 ·rfl
 ·intro B hB
  exact bE.refl _
 ·exact fun _ _ _ _=>rfl
 ·intro B hB hO
  have:¬h.DO G d B:=fun x=>hO (vD x)
  simp[aI.frz,this]
 ·intro B hB hO hT
  have:¬h.DO G d B:=fun x=>hO (vD x)
  simp[aI.frz,this]
 ·intro B hB hT hO e he
  have:¬h.DO G d B:=fun x=>hO (vD x)
  refine ⟨fun _ _=>rfl,fun e' he'=>?_⟩
  simp only[aI.frz,this,if_false] at he'
  rw[he] at he'
  cases he'
  exact Nat.le_refl _
 ·exact fun B _ x=>hsub B x
 ·exact fun B _ x=>x
 ·intro j o a
  simp only[H.drop] at a
  split at a
  ·cases a
  ·exact .inl ⟨o,a⟩
 ·exact fun t x=> .inl x
theorem uk (R:bf G h w) (d:Nat→Bool):bf (G.frz h d) (h.drop d) w:=by
 have hd:∀{id o},(h.drop d).objs id=some o→h.objs id=some o∧d id=false:=by
  intro id o a
  simp only[H.drop] at a
  split at a
  ·cases a
  ·rename_i q;exact ⟨a,by simpa using q⟩
 constructor
 ·intro id o a
  obtain ⟨a,q⟩:=hd a
  obtain ⟨r1,r2,r3,r4⟩:=R.obj id o a
  refine ⟨r1,⟨r2,?_⟩,r3,?_⟩
  ·rintro ⟨id',o',x1,x2,x3⟩
   have:=R.inj _ _ _ _ x2 a x3
   subst this
   rw[x1] at q;cases q
  ·cases o with
   |cells cs=>
    obtain ⟨vs,rest,T,fr,y1,y2,y3⟩:=r4
    exact ⟨vs,rest,T,fr,y1,aq.mono R (bw d) _ _ y2,y3⟩
   |map es=>
    obtain ⟨en,clock,y1,y2⟩:=r4
    exact ⟨en,clock,y1,Entries.mono R (bw d) _ _ y2⟩
   |loop N t ps asg body st pend=>
    obtain ⟨r,y1,y2,y3,y4⟩:=r4
    exact ⟨r,y1,y2,fun i=>ah.mono R (bw d) _ _ (y3 i),y4⟩
 ·intro id id' o o' a b e
  exact R.inj _ _ _ _ (hd a).1 (hd b).1 e
 ·intro t ht
  obtain ⟨r1,r2⟩:=R.tok t ht
  refine ⟨r1,fun B e q=>?_⟩
  obtain ⟨x1,x2,x3⟩:=r2 B e q
  have:¬h.DO G d B:=by
   rintro ⟨id,o,y1,y2,y3⟩
   have:=(R.obj id o y2).2.1
   rw[y3] at this
   exact x2 this
  refine ⟨by simp only[aI.frz,this,if_false];exact x1,fun x=>x2 x.1,x3⟩
 ·exact fun t ht t' ht' B e e' a b=>R.tinj t ht t' ht' B e e' a b
theorem o5 {v:Value} (h:One v):v.cells= #[v]:=by
 obtain ⟨a,b⟩:=h
 cases v<;>first|rfl|exact absurd rfl (a _)|exact absurd rfl (b _)
theorem mT (R:bf G h w) {d:Nat→Bool} {id off len:Nat} {c:Option Nat} {cs:List AV} {v:Value} (ho:h.objs id=some (.cells cs)) (hd:d id=true) (hl:off+len≤cs.length) (r:ah G w (.tsl 1 id off len c) v):
  ah (G.frz h d) w (.sl 1 ((cs.drop off).take len) .any) v:=by
 simp only[ah] at r
 obtain ⟨-,⟨C,cc,Tt,fr,rfl,⟨h2,-⟩,-⟩|⟨h0,⟨a,rfl⟩,-⟩⟩:=r
 ·obtain ⟨-,r2,r3,vs,rest,T,fr',y1,y2,y3,y4⟩:=R.obj id _ ho
  have hlen:=aq.length y2
  have hx:aq (G.frz h d) w ((cs.drop off).take len) ((vs.drop off).take len):=aq.mono R (bw d) _ _ (aq.take len (aq.drop off y2))
  have h1:∀v∈(vs.drop off).take len,One v:=fun v hv=>y4 v (List.mem_of_mem_drop (List.mem_of_mem_take hv))
  have he:=fC (sz:=1) hx (fun v hv=>by rw[o5 (h1 v hv)];rfl)
  have hfl:((vs.drop off).take len).flatMap (·.cells.toList)=(vs.drop off).take len:=by
   have:∀l:List Value,(∀v∈l,One v)→l.flatMap (·.cells.toList)=l:=by
    intro l
    induction l with
    |nil=>intro _;rfl
    |cons x l ih=>intro hl;rw[List.flatMap_cons,o5 (hl x (by simp)),ih (fun v hv=>hl v (by simp[hv]))];rfl
   exact this _ h1
  rw[hfl] at he
  unfold ah
  refine .inr ⟨G.ι id,off,C,(vs.drop off).take len,?_,?_,?_,he,?_,trivial⟩
  ·rw[List.length_take,List.length_drop];congr 1;omega
  ·rw[List.length_take];omega
  ·simp only[List.length_take,List.length_drop];omega
  ·intro i v hi
   have hi':=(List.getElem?_eq_some_iff.1 hi).1
   rw[List.length_take,List.length_drop] at hi'
   have hv1:vs[off+i]? =some v:=by
    rw[List.getElem?_take_of_lt (by omega),List.getElem?_drop] at hi
    exact hi
   refine ⟨?_,h1 v (List.mem_of_getElem? hi),?_,?_⟩
   ·unfold World.cell?
    simp only[y1]
    simp[List.getElem?_append_left (show off+i<vs.length by omega),hv1]
   ·exact fun x=>x.2 ⟨id,_,hd,ho,rfl⟩
   ·intro e he'
    have:h.DO G d (G.ι id):=⟨id,_,hd,ho,rfl⟩
    simp[aI.frz,this] at he'
 ·subst h0
  unfold ah
  exact .inl ⟨by simp,⟨_,rfl⟩,trivial⟩
theorem zJ (R:bf G h w) {d:Nat→Bool} {id off:Nat} {cs:List AV} {v:Value} (ho:h.objs id=some (.cells cs)) (hd:d id=true) (r:ah G w (.ptr id off) v):
  ah (G.frz h d) w (.ref (cs.drop off)) v:=by
 simp only[ah] at r
 obtain ⟨-,rfl⟩:=r
 obtain ⟨-,r2,r3,vs,rest,T,fr',y1,y2,y3,y4⟩:=R.obj id _ ho
 unfold ah
 refine ⟨G.ι id,off,vs.drop off,rfl,aq.mono R (bw d) _ _ (aq.drop off y2),?_⟩
 intro i v hi
 have hv1:vs[off+i]? =some v:=by rw[List.getElem?_drop] at hi;exact hi
 have hi':=(List.getElem?_eq_some_iff.1 hv1).1
 refine ⟨?_,y4 v (List.mem_of_getElem? hv1),?_,?_⟩
 ·unfold World.cell?
  simp only[y1]
  simp[List.getElem?_append_left hi',hv1]
 ·exact fun x=>x.2 ⟨id,_,hd,ho,rfl⟩
 ·intro e he'
  have:h.DO G d (G.ι id):=⟨id,_,hd,ho,rfl⟩
  simp[aI.frz,this] at he'
mutual
def unT (h:H) (d:Nat→Bool):AV→AV
 | .tsl sz id off len c=>if sz=1∧d id=true then (match h.objs id with
  |some (.cells cs)=>if off+len≤cs.length then .sl 1 ((cs.drop off).take len) .any else .any
  |_=> .any) else .tsl sz id off len c
 | .ptr id off=>if d id=true then (match h.objs id with
  |some (.cells cs)=> .ref (cs.drop off)
  |_=> .any) else .ptr id off
 | .agg xs=> .agg (eB h d xs)
 | .tup xs=> .tup (eB h d xs)
 | .clo fn a b=> .clo fn (eB h d a) (eB h d b)
 |x=>x
def eB (h:H) (d:Nat→Bool):List AV→List AV
 |[]=>[]
 |x::xs=>unT h d x::eB h d xs
end
mutual
theorem p9 (R:bf G h w) (d:Nat→Bool):∀(x:AV) (v:Value),ah G w x v→ah (G.frz h d) w (unT h d x) v
 | .tsl sz id off len c,v,r=>by
  unfold unT
  split
  ·rename_i hs
   obtain ⟨rfl,hd⟩:=hs
   split
   ·rename_i cs ho
    split
    ·rename_i hl
     exact mT R ho hd hl r
    ·simp[ah]
   ·simp[ah]
  ·exact ah.mono R (bw d) _ _ r
 | .agg xs,v,r=>by
  simp only[unT,ah] at r ⊢
  obtain ⟨vs,e,r⟩:=r
  exact ⟨vs,e,jk R d xs vs r⟩
 | .tup xs,v,r=>by
  simp only[unT,ah] at r ⊢
  obtain ⟨vs,e,r⟩:=r
  exact ⟨vs,e,jk R d xs vs r⟩
 | .any,v,r=>by simp[unT,ah]
 | .int k n,v,r=>by unfold unT;exact ah.mono R (bw d) _ _ r
 | .bool b,v,r=>by unfold unT;exact ah.mono R (bw d) _ _ r
 | .str l,v,r=>by unfold unT;exact ah.mono R (bw d) _ _ r
 | .sc x,v,r=>by unfold unT;exact ah.mono R (bw d) _ _ r
 | .sl sz xs c,v,r=>by unfold unT;exact ah.mono R (bw d) _ _ r
 | .ref cs,v,r=>by unfold unT;exact ah.mono R (bw d) _ _ r
 | .ptr id off,v,r=>by
  unfold unT
  split
  ·rename_i hd
   split
   ·rename_i cs ho
    exact zJ R ho hd r
   ·simp[ah]
  ·exact ah.mono R (bw d) _ _ r
 | .clo fn a b,v,r=>by
  simp only[unT,ah] at r ⊢
  obtain ⟨vs,us,e,r1,r2⟩:=r
  exact ⟨vs,us,e,jk R d a vs r1,jk R d b us r2⟩
 | .ifc t x,v,r=>by unfold unT;exact ah.mono R (bw d) _ _ r
 | .mp id,v,r=>by unfold unT;exact ah.mono R (bw d) _ _ r
 | .yld id,v,r=>by unfold unT;exact ah.mono R (bw d) _ _ r
 | .slt sz xs ys,v,r=>by unfold unT;exact ah.mono R (bw d) _ _ r
theorem jk (R:bf G h w) (d:Nat→Bool):∀(xs:List AV) (vs:List Value),aq G w xs vs→aq (G.frz h d) w (eB h d xs) vs
 |[],vs,r=>by simpa [eB,aq] using r
 |x::xs,vs,r=>by
  simp only[eB,aq] at r ⊢
  obtain ⟨v,us,e,r1,r2⟩:=r
  exact ⟨v,us,e,p9 R d x v r1,jk R d xs us r2⟩
end
theorem By (t:Tm) (h:H) (d:Nat→Bool):aU ⟨t,h⟩ ⟨fun i=>unT h d (t i),h.drop d⟩ where
 n:=Nat.le_refl _
 m:=Nat.le_refl _
 go:=fun N G w a r _=>⟨G.frz h d,bw d,⟨r.size,fun i=>p9 r.h d _ _ (r.t i),uk r.h d,r.df.mono (bw d)⟩⟩
theorem bn.frz {f:FuncId} {args:List AV} {h h':H} {r:AV} (hc:bn P f args h r h') (d:Nat→Bool):bn P f args h (unT h' d r) (h'.drop d):=by
 intro G w vs hv R F
 refine (hc G w vs hv R F).mono ?_
 rintro e w' ⟨v,G',rfl,T,R',V⟩
 exact ⟨v,G'.frz h' d,rfl,T.trans R R' (bw d),uk R' d,p9 R' d _ _ V⟩
theorem aM.um {f:FuncId} {N:Nat} {ac:AC} {args:List AV} {ds:List RV} {r:AV} (hF:aM P f N ac ds) (hl:args.length≤N) (ha:al args=true) (hp:av r=true) (hw:Wp P N ac ⟨gv args,H0 0 0⟩ fun e s'=>gw e∧∃q,bR ds s'.t s'.h=some q∧ab (unT s'.h (fun _=>true) q) r):aA P f args r:=by
 obtain ⟨r',h',hcall,hs⟩:=hF.iH (Q:=fun r' h'=>ab (unT h' (fun _=>true) r') r) hl hw
 exact (hcall.frz _).Ba (ct _ ha) hs (dN _ hp)
end
end Go.Av
end
section
namespace Go.Av
section
variable {P:Program} {N:Nat} {o:Oper} {t:Tm} {h:H} {en:Ent}
theorem vE {x:AV} (h:shaped x=true):cx x=true∨∃cs,x= .agg cs:=by
 unfold shaped at h
 simp only[Bool.or_eq_true] at h
 rcases h with h|h
 ·exact .inl h
 ·cases x<;>simp at h
  exact .inr ⟨_,rfl⟩
theorem eC {G:aI} {w:World} {sz:Nat}:∀{els:List AV} {vs:List Value},aB G w sz els vs→els.all shaped=true→aq G w (els.flatMap cellsOf) vs
 |[],vs,h,_=>by simpa [aB,aq] using h
 |x::els,vs,h,ha=>by
  simp only[aB] at h
  obtain ⟨v,us,rfl,h1,h2,h3⟩:=h
  simp only[List.all_cons,Bool.and_eq_true] at ha
  rw[List.flatMap_cons]
  exact (dG h2 (vE ha.1)).append (eC h3 ha.2)
theorem xi {c:Call} {zs zx:Operand} {ys yx:Opd} {T U e:TypeId} {d:TypeDesc} {i:TypeInfo} {s:Nat} {els:List AV} (hop:o.op= .call c) (hc:c.callee= .builtin .append) (ha:c.args.toList=[zs,zx]) (hta:c.argTypes.toList=[T,U])
  (hT:P.underlying T=some (.slice e)) (hU:P.underlying U=some d) (hd:(∃e',d= .slice e')∨d= .string) (hi:P.info? e=some i) (hz:i.zero.any (fun z=>z.cells.size == i.size)=true) (hsz:0<i.size)
  (hys:opd P T zs=some ys) (hyx:opd P U zx=some yx) (hs:ev t ys= .sl s [] (.exact 0)) (hx:∃s' c',ev t yx= .sl s' els c'∧s'=i.size) (hsh:els.all shaped=true) (hne:0<els.length)
  (hb:els.length*i.bytes≤140737488355328) (hlen:els.length<4611686018427387904):
  Loc P o t h (.tsl i.size h.n 0 els.length none) {h with objs:=upd h.objs h.n (some (.cells (els.flatMap cellsOf))),n:=h.n+1} ⟨[],[h.n],[]⟩:=by
 have ha':c.args= #[zs,zx]:=by rw[←Array.toArray_toList (xs:=c.args),ha]
 have hta':c.argTypes= #[T,U]:=by rw[←Array.toArray_toList (xs:=c.argTypes),hta]
 obtain ⟨z,hz1,hz2⟩:∃z,i.zero=some z∧z.cells.size=i.size:=by
  cases hzz:i.zero with
  |none=>rw[hzz] at hz;simp at hz
  |some z=>rw[hzz] at hz;exact ⟨z,rfl,by simpa using hz⟩
 refine ⟨_,_,dL h _,fun G w a ht R F=>?_⟩
 have r1:=aE hys ht
 have r2:=aE hyx ht
 rw[hs] at r1
 obtain ⟨s',c',hx,hs'⟩:=hx
 rw[hx] at r2
 obtain ⟨news,n1,n2,n3⟩:=ic (P:=P) (.inl hs') r2
 have hbase:∃a0,a.eval zs= .slice a0 0 0:=by
  simp only[ah,cC] at r1
  rcases r1 with ⟨-,h,-⟩|⟨B,off,C,vs,q1,-,-,-,-,q6⟩
  ·exact h
  ·subst q6;exact ⟨_,by simpa using q1⟩
 obtain ⟨a0,ha0⟩:=hbase
 obtain ⟨w',C,rest,e1,e2,e3,e4⟩:=dZ (ty:=o.type) hT hU hd hi hz1 hz2 hsz n1 (jd a0) (by omega) (Nat.le_refl _) (by simpa using hb) (by simpa using hlen)
 rw[List.nil_append] at e2
 simp only[Nat.zero_add] at e1 e3 e4
 have hnl:=n2.length
 obtain ⟨G',T1,R1,V⟩:=kJ (m:=h.m) (sz:=i.size) e2 (eC n2 hsh) n3 (jH F (by simp[H.only])) e3 (by omega)
 refine ⟨.value _,_,w',G',?_,.inl rfl,T1,R1,V⟩
 simp[execOp,hop,resolve,hc,ha',hta',invoke,builtin,ha0,e1]
theorem qa {ty e:TypeId} {len:Nat} {parts:Array (Nat × Operand)} {ys:List Opd} {z:Value} (hop:o.op= .buildSlice ty len parts) (hu:P.underlying ty=some (.slice e)) (hi:(P.info? e).isSome=true) (hn:parts.size=len) (hpos:0<P.cellsOf e)
  (hz:(P.info? e).bind (·.zero)=some z) (hzs:z.cells.size=P.cellsOf e)
  (hys:gO P e 0 parts.toList=some ys) (hs:∀y∈ys,(cellsOf (ev t y)).length=P.cellsOf e∧shaped (ev t y)=true) (hle:ys.length*P.cellsOf e≤16777216):
  Loc P o t h (.tsl (P.cellsOf e) h.n 0 ys.length none) {h with objs:=upd h.objs h.n (some (.cells ((ys.map (ev t)).flatMap cellsOf))),n:=h.n+1} ⟨[],[h.n],[]⟩:=by
 refine ⟨_,_,dL h _,fun G w a ht R F=>?_⟩
 obtain ⟨r1,r2,r3⟩:=je ht hys
 simp only[Array.length_toList,hn] at r2 r3
 have hsz:∀v∈parts.toList.map (fun p=>a.eval p.2),v.cells.size=P.cellsOf e∧∀u∈v.cells.toList,One u:=by
  intro v hv
  obtain ⟨k,hk⟩:=List.getElem?_of_mem hv
  have hlt:k<(parts.toList.map (fun p=>a.eval p.2)).length:=by
   rcases Nat.lt_or_ge k (parts.toList.map (fun p=>a.eval p.2)).length with h|h
   ·exact h
   ·rw[List.getElem?_eq_none h] at hk;cases hk
  have hlt':k<ys.length:=by simp at hlt;omega
  obtain ⟨u,hu1,hu2⟩:=r1.get (i:=k) (x:=ev t ys[k]) (by simp[List.getElem?_eq_getElem hlt'])
  have e:u=v:=Option.some.inj (hu1.symm.trans hk)
  subst e
  obtain ⟨s1,s2⟩:=hs ys[k] (List.getElem_mem hlt')
  obtain ⟨c1,c2⟩:=ef hu2 s2
  have:=c1.length
  exact ⟨by simpa [s1] using this,dM c1 c2⟩
 generalize hV:parts.toList.map (fun p=>a.eval p.2)=vals at*
 have hvl:vals.length=len:=by rw[←hV];simp[hn]
 have he:=fC r1 fun v hv=>(hsz v hv).1
 have hfl:(vals.flatMap (·.cells.toList)).length=len*P.cellsOf e:=by
  have:=he.length;rw[this];simp[r3]
 have hfill:∀cells:Array Value,cells.size=len*P.cellsOf e→Instr.fill (fun i=>some (i*P.cellsOf e,P.cellsOf e)) cells ((parts.map fun (i,x)=>(i,a.eval x)).toList)=some (vals.flatMap (·.cells.toList)).toArray:=by
  intro cells hc
  have hz:(parts.map fun (i,x)=>(i,a.eval x)).toList=(List.range' 0 vals.length).zip vals:=by
   have:∀l:List (Nat × Operand),l.map (fun (i,x)=>(i,a.eval x))=(l.map (·.1)).zip (l.map fun p=>a.eval p.2):=by
    intro l;induction l with
    |nil=>rfl
    |cons p l ih=>simp[ih]
   rw[Array.toList_map,this,r2,hV,hvl]
  rw[hz]
  have:=kq (sz:=P.cellsOf e) (cells:=cells) vals 0 [] cells (by simp) (by simp) (by rw[hc,hvl];simp) (fun v hv=>(hsz v hv).1)
  simpa using this
 have hle':¬(len*P.cellsOf e>16777216):=by rw[←r3];omega
 obtain ⟨G',T1,R1,V⟩:=kJ (m:=h.m) (sz:=P.cellsOf e) (len:=len) (C:=len) (rest:=[]) (vs:=vals.flatMap fun v:Value=>v.cells.toList) (ed w (.cells ((vals.flatMap fun v:Value=>v.cells.toList)++[]).toArray e (0,0))) (eC he (by
  rw[List.all_map]
  exact List.all_eq_true.2 fun y hy=>(hs y hy).2)) (by
  intro u hu
  obtain ⟨v,hv,hu'⟩:=List.mem_flatMap.1 hu
  exact (hsz v hv).2 u hu') (jH F (by simp[H.only])) ⟨Nat.le_refl _,by
  have:=Nat.le_mul_of_pos_right len hpos
  omega⟩ (by rw[hfl];simp)
 rw[List.append_nil] at T1 R1 V
 refine ⟨.value (.slice (some ⟨w.heap.size,0,none⟩) len len),_,_,G',?_,.inl rfl,T1,R1,by rw[r3];exact V⟩
 obtain ⟨i,hi1,hi2⟩:=Option.bind_eq_some_iff.1 hz
 have hle2:¬(16777216<len*P.cellsOf e):=by omega
 have hmap:∀(zc:Array Value),((Array.range (len*P.cellsOf e)).map (zc[· %zc.size]!)).size=len*P.cellsOf e:=by intro zc;simp
 have hrz:(zeroValue e).run P w= .ok z w:=by simp[zeroValue,typeInfo,hi1,hi2]
 simp only[execOp,hop,Sem.run_bind,Instr.buildSlice,run_underlying hu,Result.andThen_ok,dH P w e hi,if_neg hle2,Sem.run_pure,Sem.run_ite,hrz,hfill _ (hmap _)]
 by_cases h0:len*P.cellsOf e=0
 ·rw[if_pos h0];simp[newRow]
 ·rw[if_neg h0];simp[newRow]
theorem xj {c:Call} {zs zx:Operand} {ys yx:Opd} {T U e:TypeId} {d:TypeDesc} {i:TypeInfo} {s s':Nat} {xs:List AV} {cp c':Cap} (hop:o.op= .call c) (hc:c.callee= .builtin .append) (ha:c.args.toList=[zs,zx]) (hta:c.argTypes.toList=[T,U])
  (hT:P.underlying T=some (.slice e)) (hU:P.underlying U=some d) (hd:(∃e',d= .slice e')∨d= .string) (hi:P.info? e=some i)
  (hys:opd P T zs=some ys) (hyx:opd P U zx=some yx) (hs:ev t ys= .sl s xs cp) (hx:ev t yx= .sl s' [] c'):Loc P o t h (.sl s xs cp) h aH:=by
 have ha':c.args= #[zs,zx]:=by rw[←Array.toArray_toList (xs:=c.args),ha]
 have hta':c.argTypes= #[T,U]:=by rw[←Array.toArray_toList (xs:=c.argTypes),hta]
 refine Loc.plain fun G w a ht=>?_
 have r1:=aE hys ht
 have r2:=aE hyx ht
 rw[hs] at r1
 rw[hx] at r2
 obtain ⟨news,n1,n2,-⟩:=ic (P:=P) (sz:=i.size) (.inr rfl) r2
 have hnn:news=[]:=by simpa [aB] using n2
 subst hnn
 obtain ⟨base,len,C,hv,hlC⟩:∃base len C,a.eval zs= .slice base len C∧len≤C:=by
  simp only[ah] at r1
  rcases r1 with ⟨-,⟨a0,h⟩,-⟩|⟨B,off,C,vs,q1,q2,-⟩
  ·exact ⟨_,_,_,h,Nat.le_refl _⟩
  ·exact ⟨_,_,_,q1,q2⟩
 have hrun:=run_append_fits (ty:=o.type) (base:=base) (sLen:=len) (sCap:=C) (w':=w) hT hU hd hi n1 (by simpa using hlC) (by cases base<;>simp[storeCells])
 refine ⟨a.eval zs,?_,r1⟩
 simp[execOp,hop,resolve,hc,ha',hta',invoke,builtin,hv] at hrun ⊢
 rw[hrun]
 rfl
def fX (ρ:Opd→AV) (h:H):AOp→Option (AV × H × Ent)
 | .app false sz bytes s x=>match ρ s,ρ x with
  | .sl s xs c,.sl _ [] _=>some (.sl s xs c,h,aH)
  | .sl _ [] (.exact 0),.sl s' els _=>if s'=sz∧els.all shaped=true∧0<els.length∧els.length*bytes≤140737488355328∧els.length<4611686018427387904 then
    some (.tsl sz h.n 0 els.length none,{h with objs:=upd h.objs h.n (some (.cells (els.flatMap cellsOf))),n:=h.n+1},⟨[],[h.n],[]⟩) else none
  |_,_=>none
 | .buildSl sz parts=>if parts.all (fun x=>(cellsOf (ρ x)).length=sz∧shaped (ρ x))=true∧parts.length*sz≤16777216 then
   some (.tsl sz h.n 0 parts.length none,{h with objs:=upd h.objs h.n (some (.cells ((parts.map ρ).flatMap cellsOf))),n:=h.n+1},⟨[],[h.n],[]⟩) else none
 |_=>none
theorem uo {sz bytes:Nat} {ys yx:Opd} (h:cOp P o=some (.app false sz bytes ys yx)):∃c zs zx T U e e' i,o.op= .call c∧c.callee= .builtin .append∧c.args.toList=[zs,zx]∧c.argTypes.toList=[T,U]∧
  opd P T zs=some ys∧opd P U zx=some yx∧P.underlying T=some (.slice e)∧P.underlying U=some (.slice e')∧P.info? e=some i∧0<i.size∧(i.zero.any fun z=>z.cells.size == i.size)=true∧i.size=sz∧i.bytes=bytes:=by
 unfold cOp at h
 split at h
 case h_28 c hop=>
  split at h
  case h_7 hcal=>
   split at h
   ·rename_i zs zx T U ha hta
    split at h
    ·split at h
     ·split at h
      ·rename_i hq
       cases h
       exact ⟨c,zs,zx,T,U,_,_,_,hop,hcal,ha,hta,‹_›,‹_›,‹_›,‹_›,‹_›,hq.1,hq.2,rfl,rfl⟩
      ·cases h
     ·cases h
    ·(repeat' split at h)<;>(try cases h)<;>simp at h
    ·(repeat' split at h)<;>(try cases h)<;>simp at h
    ·cases h
   ·cases h
  all_goals first
   |(cases h;done)
   |((repeat' split at h)<;>(try cases h)<;>simp at h)
 all_goals first
  |(cases h;done)
  |(simp at h;done)
  |((repeat' split at h)<;>(try cases h)<;>(try simp at h);done)
  |skip
theorem re {sz:Nat} {ys:List Opd} (h:cOp P o=some (.buildSl sz ys)):∃ty e len parts z,o.op= .buildSlice ty len parts∧P.underlying ty=some (.slice e)∧(P.info? e).isSome=true∧parts.size=len∧0<P.cellsOf e∧(P.info? e).bind (·.zero)=some z∧z.cells.size=P.cellsOf e∧
  gO P e 0 parts.toList=some ys∧sz=P.cellsOf e:=by
 unfold cOp at h
 split at h
 case h_7 ty len parts hop=>
  split at h
  ·split at h
   ·rename_i hq
    simp only[Option.map_eq_some_iff] at h
    obtain ⟨l,h1,h2⟩:=h
    cases h2
    obtain ⟨q1,q2,q3,q4⟩:=hq
    cases hz:(P.info? _).bind (·.zero) with
    |none=>rw[hz] at q4;simp at q4
    |some z=>rw[hz] at q4;exact ⟨ty,_,len,parts,z,hop,‹_›,q2,q1,q3,hz,by simpa using q4,h1,rfl⟩
   ·cases h
  ·cases h
 all_goals first
  |(cases h;done)
  |(simp at h;done)
  |((repeat' split at h)<;>(try cases h)<;>(try simp at h);done)
  |skip
theorem xk {op:AOp} {x:AV} {h':H} (hc:cOp P o=some op) (hx:fX (ev t) h op=some (x,h',en)):Loc P o t h x h' en:=by
 cases op<;>(try (simp [fX] at hx;done))
 case app str sz bytes s x0=>
  cases str<;>(try (simp [fX] at hx;done))
  obtain ⟨c,zs,zx,T,U,e,e',i,hop,hcal,ha,hta,hys,hyx,hT,hU,hi,hs1,hs2,rfl,rfl⟩:=uo hc
  simp only[fX] at hx
  split at hx
  ·cases hx
   exact xj hop hcal ha hta hT hU (.inl ⟨_,rfl⟩) hi hys hyx ‹_› ‹_›
  ·split at hx
   ·rename_i hq
    cases hx
    exact xi hop hcal ha hta hT hU (.inl ⟨_,rfl⟩) hi hs2 hs1 hys hyx ‹_› ⟨_,_,‹_›,hq.1⟩ hq.2.1 hq.2.2.1 hq.2.2.2.1 hq.2.2.2.2
   ·cases hx
  ·cases hx
 case buildSl sz parts=>
  obtain ⟨ty,e,len,ps,z,hop,hu,hi,hn,hpos,hz,hzs,hys,rfl⟩:=re hc
  simp only[fX] at hx
  split at hx
  ·rename_i hq
   cases hx
   exact qa hop hu hi hn hpos hz hzs hys (fun y hy=>by simpa using List.all_eq_true.1 hq.1 y hy) hq.2
  ·cases hx
theorem s5 {ρ ρ':Opd→AV} {op:AOp} (hx:∀y∈cE op,ρ y=ρ' y):fX ρ h op=fX ρ' h op:=by
 cases op<;>(try rfl)
 case app str sz bytes s x0=>
  cases str
  ·simp only[fX,hx s (by simp[cE]),hx x0 (by simp[cE])]
  ·rfl
 case buildSl sz parts=>
  have e1:parts.map ρ=parts.map ρ':=List.map_congr_left fun y hy=>hx y (by simpa [cE] using hy)
  have e2:parts.all (fun x=>(cellsOf (ρ x)).length=sz∧shaped (ρ x))=parts.all (fun x=>(cellsOf (ρ' x)).length=sz∧shaped (ρ' x)):=by
   refine Bool.eq_iff_iff.2 ?_
   simp only[List.all_eq_true]
   exact ⟨fun h y hy=>by rw[←hx y (by simpa [cE] using hy)];exact h y hy,fun h y hy=>by rw[hx y (by simpa [cE] using hy)];exact h y hy⟩
  simp only[fX,e1,e2]
theorem o6 {ops:Array Oper} {i:Nat} {o:Oper} {it:aO} {t:Tm} {h h':H} {x:AV} {en:Ent} (ho:ops[i]? =some o) (hit:dn P N ops o=some it) (hg:guardOf t it.guard=some true) (hx:fX (ev t) h it.op=some (x,h',en)):
  ∃h1 h1',Touch h h1 h1' h' en∧iT P ops i o t h1 x h1':=by
 unfold dn at hit
 split at hit
 ·rename_i op g hop hgd
  split at hit<;>cases hit
  rename_i hcond
  simp only[Bool.and_eq_true] at hcond
  have hop:=iE hop (by rintro rfl;simp[fX] at hx)
  have hx':fX (ev (jh (names ops o) t)) h op=some (x,h',en):=by
   rw[s5 (ku hcond.2)];exact hx
  obtain ⟨h1,h1',tc,loc⟩:=xk hop hx'
  refine ⟨h1,h1',tc,fun G w a ht R F K Q hK ro=>?_⟩
  obtain ⟨nx,v,w',G',e1,e2,T1,R1,V⟩:=loc G w a (fW ht) R F
  unfold wpOpIn
  rw[ho]
  simp only[dd hgd ht hg,if_true]
  refine ⟨fun _ _=>trivial,?_⟩
  rw[Oper.semAt_eq _ _ _ (fp hop),e1]
  rcases e2 with rfl|⟨rfl,rfl⟩
  ·rw[Oper.uponIn_value];exact hK G' w' v T1 R1 V
  ·rw[Oper.uponIn_skip];exact hK G' w' undef T1 R1 V
 ·cases hit
theorem aa.opT {dst:Option Nat} {g:Option (Nat × Bool)} {op:AOp} {its:List aO} {t:Tm} {h h':H} {log:List Ent} {en:Ent} {K:Tm→H→List Ent→Prop} {x:AV} (hg:guardOf t g=some true) (hx:fX (ev t) h op=some (x,h',en)) (ht:eW op=true)
  (rest:aa P N its (cL t dst x) h' (en::log) K):aa P N (⟨dst,g,op⟩::its) t h log K:=by
 intro ops i hi hc
 obtain ⟨o,ho,hit,hi',hc'⟩:=gu hi hc
 obtain ⟨h1,h1',tc,run⟩:=o6 ho hit hg hx
 obtain ⟨recs,t',hh',ch,hk,hen⟩:=rest ops (i+1) hi' hc'
 have hdst:dst=o.dst:=by
  unfold dn at hit
  split at hit
  ·split at hit<;>cases hit;rfl
  ·cases hit
 refine ⟨⟨t,h,h1,h1',h',x,en⟩::recs,t',hh',.cons ho rfl rfl tc run (by rw[←hdst];exact ch),by simpa using hk,?_⟩
 intro k r it' hr hit' ht'
 cases k with
 |zero=>
  simp at hr hit';subst hr hit'
  rw[ht] at ht';cases ht'
 |succ k=>simp at hr hit';exact hen k r it' hr hit' ht'
theorem s6 {f:FuncId} {sz bytes:Nat} (hF:aM P f 8 (ky sz bytes) [.tmp 2]) (x:AV) (xs:List AV) (hsh:(x::xs).all shaped=true) (hb:(xs.length+1)*bytes≤140737488355328) (hl:xs.length+1<4611686018427387904) (n m:Nat):
  bn P f [.sl sz (x::xs) .any] (H0 n m) (.tsl sz n 0 (xs.length+1) none) (.only (upd ag n (some (.cells ((x::xs).flatMap cellsOf)))) [] (n+1) m):=by
 obtain ⟨r,h',hc,rfl,rfl⟩:=hF.iH (args:=[.sl sz (x::xs) .any]) (h:=H0 n m) (Q:=fun r h'=>r= .tsl sz n 0 (xs.length+1) none∧h'= .only (upd ag n (some (.cells ((x::xs).flatMap cellsOf)))) [] (n+1) m) (by simp) (by
  unfold ky
  refine Wp.aw (by simp only[go_sem,reduceIte,Nat.reduceEqDiff,Nat.reduceAdd,bx];exact rfl) (by trivial) ?_
  refine Wp.seq ?_
  refine Wp.aw (by simp only[go_sem,reduceIte,Nat.reduceEqDiff,Nat.reduceAdd,bx];exact rfl) (by trivial) ?_
  refine Wp.cond_false (by simp only[go_sem,reduceIte,Nat.reduceEqDiff,Nat.reduceAdd,bx]) ?_
  refine Wp.skip ?_
  refine Wp.seq (Wp.reg ?_)
  refine aa.part 2 (by simp only[go_sem,reduceIte,Nat.reduceEqDiff,Nat.reduceAdd,bx,Nat.zero_mul,Nat.zero_le,and_self,if_true];exact rfl) ?_
  simp only[List.drop_succ_cons,List.drop_zero,List.drop_nil]
  refine aa.opT (by simp only[go_sem,reduceIte,Nat.reduceEqDiff,Nat.reduceAdd,bx]) (by simp only[fX,go_sem,reduceIte,Nat.reduceEqDiff,Nat.reduceAdd,bx,hsh,hb,hl,List.length_cons,and_self,if_true,Nat.zero_lt_succ];exact rfl) rfl ?_
  refine aa.eval (by simp only[go_sem,reduceIte,Nat.reduceEqDiff,Nat.reduceAdd,bx];exact rfl) ?_
  refine aa.nil ⟨by trivial,?_⟩
  refine Wp.ret ⟨trivial,_,rfl,rfl,?_⟩
  rfl)
 exact hc
theorem s7 (h:H) {id:Nat} {ob:Obj} (ho:h.objs id=some ob):Touch h (.only (upd ag id (some ob)) [] h.n h.m) (H0 h.n h.m) {h with objs:=fun j=>if j=id then none else h.objs j} ⟨[],[id],[]⟩ where
 sub:=(fh h ho).sub
 n:=rfl
 m:=rfl
 eq:=H.ext (fun j=>by
  simp only[H.patch,H0,H.only,upd,ag]
  by_cases e:j=id
  ·subst e;simp
  ·simp[e];omega) rfl (by simp[H.patch,H0,H.only,ec]) rfl
 rd j x:=by
  simp only[H.only,upd,ag] at x
  split at x
  ·rename_i e;subst e;simp
  ·cases x
 wr id a b:=by simp only[H0,H.only] at a b;omega
 chg j x hj:=by
  simp only[H.only,upd,ag] at x
  split at x
  ·rename_i e;subst e;simp at hj
  ·cases x
 tk t x:=by simp[H.only] at x
 tn t x:=by simp[H0,H.only] at x
 le:=Nat.le_refl _
 lem:=Nat.le_refl _
theorem gy {f:FuncId} {sz bytes:Nat} (hF:aM P f 8 (ky sz bytes) [.tmp 2]):aA P f [.sl sz [] .any] (.sl sz [] (.exact 0)):=by
 intro n m
 refine bn.mA fun a C hC=>?_
 have:aA P f [.sc (.slice a 0 C)] (.sl sz [] (.exact 0)):=by
  refine hF.p7 (by simp) (ct _ rfl) (dN _ rfl) fun n m=>?_
  unfold ky
  refine Wp.aw (by simp only[go_sem,reduceIte,Nat.reduceEqDiff,Nat.reduceAdd,bx];exact rfl) (by trivial) ?_
  refine Wp.seq ?_
  refine Wp.aw (by simp only[go_sem,reduceIte,Nat.reduceEqDiff,Nat.reduceAdd,bx];exact rfl) (by trivial) ?_
  cases ha:a.isNone with
  |true=>
   refine Wp.cond_true (by simp only[go_sem,reduceIte,Nat.reduceEqDiff,Nat.reduceAdd,bx,ha]) ?_
   refine Wp.aw (by simp only[go_sem,reduceIte,Nat.reduceEqDiff,Nat.reduceAdd,bx];exact rfl) (by trivial) ?_
   refine Wp.ret ⟨trivial,_,rfl,?_⟩
   simp only[go_sem,reduceIte,Nat.reduceEqDiff,Nat.reduceAdd,bx]
   exact ab.refl _
  |false=>
   refine Wp.cond_false (by simp only[go_sem,reduceIte,Nat.reduceEqDiff,Nat.reduceAdd,bx,ha]) ?_
   refine Wp.skip ?_
   refine Wp.le (s':=⟨tm [(0,.sl sz [] .any)],_⟩) (aU.tm ⟨ab.ra hC,trivial⟩) ?_
   refine Wp.seq (Wp.reg ?_)
   refine aa.part 2 (by simp only[go_sem,reduceIte,Nat.reduceEqDiff,Nat.reduceAdd,bx,Nat.zero_mul,Nat.zero_le,and_self,if_true];exact rfl) ?_
   simp only[List.drop_succ_cons,List.drop_zero,List.drop_nil]
   refine aa.opT (by simp only[go_sem,reduceIte,Nat.reduceEqDiff,Nat.reduceAdd,bx]) (by simp only[fX,go_sem,reduceIte,Nat.reduceEqDiff,Nat.reduceAdd,bx];exact rfl) rfl ?_
   refine aa.eval (by simp only[go_sem,reduceIte,Nat.reduceEqDiff,Nat.reduceAdd,bx];exact rfl) ?_
   refine aa.nil ⟨by trivial,?_⟩
   refine Wp.ret ⟨trivial,_,rfl,?_⟩
   simp only[go_sem,reduceIte,Nat.reduceEqDiff,Nat.reduceAdd,bx]
   exact ab.refl _
 exact this n m
def aQ (P:Program) (N:Nat) (items:List aO) (t:Tm) (h:H) (K:Tm→H→Prop):Prop:=
 ∀ops i,i≤ops.size→fj P N ops (ops.toList.drop i)=some items→∃recs t' h',ka P ops i recs t h t' h'∧K t' h'
theorem aa.toN {items:List aO} {t:Tm} {h:H} {log:List Ent} {K:Tm→H→Prop} (hw:aa P N items t h log fun t h _=>K t h):aQ P N items t h K:=by
 intro ops i hi hc
 obtain ⟨recs,t',h',ch,hk,-⟩:=hw ops i hi hc
 exact ⟨recs,t',h',ch,hk⟩
theorem aQ.step {it:aO} {its:List aO} {t:Tm} {h h':H} {x:AV} {en:Ent} {K:Tm→H→Prop}
  (run:∀(ops:Array Oper) i o,ops[i]? =some o→dn P N ops o=some it→∃h1 h1',Touch h h1 h1' h' en∧iT P ops i o t h1 x h1') (rest:aQ P N its (cL t it.dst x) h' K):aQ P N (it::its) t h K:=by
 intro ops i hi hc
 obtain ⟨o,ho,hit,hi',hc'⟩:=gu hi hc
 obtain ⟨h1,h1',tc,run⟩:=run ops i o ho hit
 obtain ⟨recs,t',hh',ch,hk⟩:=rest ops (i+1) hi' hc'
 have hdst:it.dst=o.dst:=by
  unfold dn at hit
  split at hit
  ·split at hit<;>cases hit;rfl
  ·cases hit
 exact ⟨⟨t,h,h1,h1',h',x,en⟩::recs,t',hh',.cons ho rfl rfl tc run (by rw[←hdst];exact ch),hk⟩
theorem aQ.op {dst:Option Nat} {g:Option (Nat × Bool)} {op:AOp} {its:List aO} {t:Tm} {h h':H} {en:Ent} {K:Tm→H→Prop} {x:AV} (hg:guardOf t g=some true) (hx:aop (ev t) h op=some (x,h',en))
  (rest:aQ P N its (cL t dst x) h' K):aQ P N (⟨dst,g,op⟩::its) t h K:=
 aQ.step (fun ops i o ho hit=>qV ho hit hg hx) rest
theorem aQ.opT {dst:Option Nat} {g:Option (Nat × Bool)} {op:AOp} {its:List aO} {t:Tm} {h h':H} {en:Ent} {K:Tm→H→Prop} {x:AV} (hg:guardOf t g=some true) (hx:fX (ev t) h op=some (x,h',en))
  (rest:aQ P N its (cL t dst x) h' K):aQ P N (⟨dst,g,op⟩::its) t h K:=
 aQ.step (fun ops i o ho hit=>o6 ho hit hg hx) rest
theorem aQ.eR {dst:Option Nat} {g:Option (Nat × Bool)} {f:FuncId} {l:List Opd} {its:List aO} {t:Tm} {h h' h1 h1':H} {en:Ent} {K:Tm→H→Prop} {vals:List AV} {r:AV} (hg:guardOf t g=some true) (hs:af (l.map (ev t)) vals) (hc:bn P f vals h1 r h1')
  (tc:Touch h h1 h1' h' en) (rest:aQ P N its (cL t dst r) h' K):aQ P N (⟨dst,g,.call f l⟩::its) t h K:=
 aQ.step (fun ops i o ho hit=>⟨h1,h1',tc,kv ho hit hg rfl hs hc⟩) rest
theorem aQ.bF {dst:Option Nat} {g:Option (Nat × Bool)} {f:FuncId} {l:List Opd} {its:List aO} {t:Tm} {h:H} {K:Tm→H→Prop} {vals:List AV} {r:AV} (hg:guardOf t g=some true) (hs:af (l.map (ev t)) vals) (hc:aA P f vals r)
  (rest:aQ P N its (cL t dst r) h K):aQ P N (⟨dst,g,.call f l⟩::its) t h K:=
 aQ.eR hg hs (hc h.n h.m) (dT h) rest
theorem Wp.vF {items:List aO} {s:St} {Q:aP→St→Prop} (h:aQ P N items s.t s.h fun t' h'=>Q .normal ⟨t',h'⟩):Wp P N (.reg items none) s Q:=by
 intro code hc
 obtain ⟨id,ops,draw,rfl,hi,hd⟩:=qX hc
 obtain ⟨recs,t',h',ch,hq⟩:=h ops 0 (Nat.zero_le _) (by simpa using hi)
 obtain ⟨nm,-,-⟩:=kL ch
 obtain ⟨cl,ci⟩:=kx hi
 have hN:∀(i:Nat) o d,ops[i]? =some o→o.dst=some d→d<N:=by
  intro i o d ho hdd
  have hlt:i<ops.size:=(Array.getElem?_eq_some_iff.1 ho).1
  have hit:i<items.length:=by rw[cl];simpa using hlt
  have:=ci i o items[i] (by simpa using ho) (List.getElem?_eq_getElem hit)
  generalize items[i]=it at this
  unfold dn at this
  split at this
  ·split at this<;>cases this
   rename_i hcond
   simp only[Bool.and_eq_true] at hcond
   have:=hcond.1
   rw[hdd] at this
   simpa using this
  ·cases this
 refine ⟨.normal,⟨t',h'⟩,⟨nm,fun ro okc G w a r F=>?_⟩,hq⟩
 rcases hd with ⟨rfl,-⟩|⟨-,-,-,hn⟩
 ·refine wpIn_region ?_
  rw[List.range_eq_range']
  have:=oX ro (Q:=fun e' a' w'=>aP.normal.ey e'∧kM w a.defers a'.defers∧∃G',Trans G w s.h G' w' h'∧Rel N ⟨t',h'⟩ G' w' a') hN ch G w a r.size r.t r.h F
   (fun G' w' a' T1 t1 R1 s1 d1=>⟨trivial,by rw[d1];exact .refl,G',T1,⟨s1,t1,R1,by rw[d1];exact r.df.mono T1⟩⟩)
  simpa using this
 ·cases hn
end
end Go.Av
end
section
namespace Go.Av
variable {P:Program} {N:Nat} {s:St} {Q:aP→St→Prop}
def aP.noGoto (Q:aP→St→Prop):aP→St→Prop
 | .goto _,_=>False
 |e,s=>Q e s
theorem Wp.xl {c:AC} (h:Wp P N c s (aP.noGoto Q)):Wp P N (.scope c) s Q:=by
 refine Wp.scope (WpS.step (Wp.mono h ?_))
 intro e s' h
 cases e with
 |normal=>exact h
 |exit id=>exact h
 |goto l=>exact h.elim
 |ret=>exact h
 |panic v=>exact h
theorem aU.tmN {t:Tm} {f f':Nat→Option Obj} {n n' m:Nat} {k:List Nat} {l:List (Nat × AV)} (hn:n≤n') (ho:OLe f f') (h:aC t l):aU ⟨t,⟨f,n,k,m⟩⟩ ⟨Go.Av.tm l,⟨f',n',k,m⟩⟩:=
 aU.trans (aU.tm h) (aU.of (fun i=>ab.refl _) ho (fun x hx=>hx) hn (Nat.le_refl _))
theorem OLe.skip {f:Nat→Option Obj} {i:Nat} {o:Option Obj} (h:f i=Option.none):OLe (Go.Av.upd f i o) f:=by
 intro j p hp
 refine ⟨p,?_,cq.refl p⟩
 simp only[Go.Av.upd]
 split
 ·rename_i e;subst e;rw[h] at hp;cases hp
 ·exact hp
theorem OLe.at {g:Nat→Option Obj} {k:Nat} {A:Obj} (h:g k=some A):OLe g (Go.Av.upd ag k (some A)):=by
 intro j p hp
 simp only[Go.Av.upd,ag] at hp
 split at hp
 ·rename_i e;subst e;cases hp;exact ⟨_,h,cq.refl _⟩
 ·cases hp
theorem Wp.uq {β:Type} (L:List Nat) {K:List (Nat × AV)} {c:AC} {h:H} {t:Tm} (hK:(L.map fun i=>(i,t i))=K) (ch:β→List (Nat × AV)) (I:β→Prop) (μ:β→Nat) (b0:β) (h0:I b0) (hs:aC t (ch b0))
  (round:∀b n,h.n≤n→I b→Wp P N c ⟨tm (K++ch b),{h with n:=n}⟩ (aP.andThen (fun s'=>∃b' n',h.n≤n'∧I b'∧μ b'<μ b∧aU s' ⟨tm (K++ch b'),{h with n:=n'}⟩) Q)):Wp P N (.loop c) ⟨t,h⟩ Q:=by
 refine Wp.mz (β:=β × Nat) L hK (fun j=>ch j.1) (fun j=>{h with n:=j.2}) (fun j=>h.n≤j.2∧I j.1) (fun j=>μ j.1) (b0,h.n) ⟨Nat.le_refl _,h0⟩ rfl hs ?_
 rintro ⟨b,n⟩ ⟨hn,hb⟩
 refine Wp.mono (round b n hn hb) ?_
 intro e s' h
 cases e with
 |normal=>obtain ⟨b',n',h1,h2,h3,h4⟩:=h;exact ⟨(b',n'),⟨h1,h2⟩,h3,h4⟩
 |exit id=>exact h
 |goto l=>exact h
 |ret=>exact h
 |panic v=>exact h
end Go.Av
end
