/- Parts of a proof: a layer of abstract values over the model, the functions' walks, plain laws. -/
import Derived.Deep.CondSized
import Derived.IntWalk
import Derived.KernelRfl
import Derived.Laws.Append
import Derived.Laws.AppendOwn
import Derived.Laws.BytesArg
import Derived.Laws.ComplexArith
import Derived.Laws.Cover3
import Derived.Laws.Entries
import Derived.Laws.FloatBits
import Derived.Laws.IdiomCopy
import Derived.Laws.IdiomStrings
import Derived.Laws.Pointers
import Derived.Laws.Small
import Derived.Laws.Strings
import Derived.Laws.StructEq
import Derived.Lib.Small
import Derived.Lib.Walk
import Derived.MapKept
import Derived.OpenShut
import Derived.Orders
import Derived.OrdersIn
import Derived.ProofKit
import Derived.RangeFuncRecord
import Derived.RangeFuncSeq
import Derived.ReadAgain
import Derived.Scope
import Derived.Shelf.Lay
import Derived.Shelf.SlSortCmp.InsertionK
import Derived.Shelf.SlSortCmp.WholeK
import Derived.SizedLaws
import Derived.Test.YtjnoobmaedgooaaGreatProg
import Derived.Test.YtjnoobmaedgooaaGreatRows
import Derived.WalkKit
import Derived.Test.YtjnoobmaedgooaaGreatAWB
set_option linter.unusedSimpArgs false
set_option linter.unusedVariables false
section
namespace Go.Av
section
variable {P:Program} {N:Nat} {ops:Array Oper}
def kW (P:Program) (ops:Array Oper) (i:Nat) (o:Oper) (t:Tm) (h:H) (x:AV) (h':H):Prop:=
 (h.n≤h'.n∧h.m≤h'.m)∧∀G w a,bk G w t a→aK G h w→bD G h h'→∀(K:Act→World→Prop) Q,
  (∀G' w' v,Trans G w h G' w' h'→aK G' h' w'→ak G' w' x v→K (a.put o.dst v) w')→∀ro,wpOpIn (rd ro) 0 P ops Q i K a w
theorem kW.of {i:Nat} {o:Oper} {t:Tm} {h h1 h1' h':H} {x:AV} {en:Ent} (tc:Touch h h1 h1' h' en) (run:dK P ops i o t h1 x h1'):kW P ops i o t h x h':=by
 have e3:h'.n=h1'.n:=by rw[tc.eq];rfl
 have e4:h'.m=h1'.m:=by rw[tc.eq];rfl
 have e1:=tc.n
 have e2:=tc.m
 have l1:=tc.le
 have l2:=tc.lem
 refine ⟨⟨by omega,by omega⟩,fun G w a ht R U K Q hK ro=>?_⟩
 have F:bD G h1 h1':=U.sub (by omega) (by omega) (by omega) (by omega)
 refine run G w a (fun k _=>ht k) (R.sub tc.sub) F _ Q (fun G' w' v T1 R1 V=>?_) ro
 obtain ⟨R2,T2⟩:=frame R tc.sub tc.n tc.m R1 T1 F
 rw[←tc.eq] at R2 T2
 exact hK G' w' v T2 R2 V
theorem kW.full {i:Nat} {o:Oper} {t:Tm} {h h':H} {x:AV} (hn:h.n≤h'.n∧h.m≤h'.m) (run:dK P ops i o t h x h'):kW P ops i o t h x h':=
 ⟨hn,fun G w a ht R U K Q hK ro=>run G w a (fun k _=>ht k) R U K Q hK ro⟩
inductive jk (P:Program) (ops:Array Oper):Nat→Tm→H→Tm→H→Prop where
 |nil {i:Nat} {t:Tm} {h:H} (hi:i=ops.size):jk P ops i t h t h
 |cons {i:Nat} {o:Oper} {t t':Tm} {h h2 h':H} {x:AV} (ho:ops[i]? =some o) (run:kW P ops i o t h x h2) (rest:jk P ops (i+1) (aY t o.dst x) h2 t' h'):jk P ops i t h t' h'
theorem jk.nm {i:Nat} {t t':Tm} {h h':H} (c:jk P ops i t h t' h'):h.n≤h'.n∧h.m≤h'.m:=by
 induction c with
 |nil _=>exact ⟨Nat.le_refl _,Nat.le_refl _⟩
 |cons ho run rest ih=>have:=run.1;omega
theorem r5 (ro:Option Nat) {Q:Exit→Act→World→Prop} (hN:∀(i:Nat) o d,ops[i]? =some o→o.dst=some d→d<N):∀{i:Nat} {t t':Tm} {h h':H},jk P ops i t h t' h'→
  ∀(G:aD) (w:World) (a:Act),a.tmps.size=N→bk G w t a→aK G h w→bD G h h'→
   (∀G' w' a',Trans G w h G' w' h'→bk G' w' t' a'→aK G' h' w'→a'.tmps.size=N→a'.defers=a.defers→Q .normal a' w')→wpOpsIn (rd ro) 0 P ops Q (List.range' i (ops.size - i)) a w:=by
 intro i t t' h h' hc
 induction hc with
 |nil hi=>
  intro G w a hs ht R U hq
  subst hi
  simp only[Nat.sub_self,List.range'_zero,wpOpsIn]
  exact hq G w a (Trans.refl _ _ _) ht R hs rfl
 | @cons i o t t' h h2 h' x ho run rest ih=>
  intro G w a hs ht R U hq
  have hi:i<ops.size:=(Array.getElem?_eq_some_iff.1 ho).1
  have:ops.size - i=(ops.size - (i+1))+1:=by omega
  rw[this,List.range'_succ,wpOpsIn_cons]
  have nm:=rest.nm
  have nm2:=run.1
  refine run.2 G w a ht R (U.sub (Nat.le_refl _) nm.1 (Nat.le_refl _) nm.2) _ Q (fun G' w' v T2 R2 V=>?_) ro
  refine ih G' w' _ (by rw[lX];exact hs) (oG (ht.mono R T2) V fun k hk=>by rw[hs];exact hN i o k ho hk) R2 (U.step T2) fun G'' w'' a'' T3 h1 h2 h3 h4=>?_
  exact hq G'' w'' a'' (T2.trans R R2 T3) h1 h2 h3 (h4.trans (put_defers _ _ _))
def ah (P:Program) (N:Nat) (items:List aE) (t:Tm) (h:H) (K:Tm→H→Prop):Prop:=
 ∀ops i,i≤ops.size→dm P N ops (ops.toList.drop i)=some items→∃t' h',jk P ops i t h t' h'∧K t' h'
theorem ah.nil {t:Tm} {h:H} {K:Tm→H→Prop} (hk:K t h):ah P N [] t h K:=by
 intro ops i hi hc
 have:i=ops.size:=by
  cases hd:ops.toList.drop i with
  |nil=>have:=List.drop_eq_nil_iff.1 hd;simp at this;omega
  |cons a l=>rw[hd] at hc;simp only[dm] at hc;split at hc<;>cases hc
 exact ⟨t,h,.nil this,hk⟩
theorem nO {it:aE} {o:Oper} (hit:bA P N ops o=some it):it.dst=o.dst:=by
 unfold bA at hit
 split at hit
 ·split at hit<;>cases hit;rfl
 ·cases hit
theorem ah.step {it:aE} {its:List aE} {t:Tm} {h h':H} {x:AV} {K:Tm→H→Prop}
  (run:∀(ops:Array Oper) i o,ops[i]? =some o→bA P N ops o=some it→kW P ops i o t h x h') (rest:ah P N its (aY t it.dst x) h' K):ah P N (it::its) t h K:=by
 intro ops i hi hc
 obtain ⟨o,ho,hit,hi',hc'⟩:=cM hi hc
 obtain ⟨t',hh',ch,hk⟩:=rest ops (i+1) hi' hc'
 exact ⟨t',hh',.cons ho (run ops i o ho hit) (by rw[←nO hit];exact ch),hk⟩
theorem Wp.xn {items:List aE} {s:St} {Q:aC→St→Prop} (h:ah P N items s.t s.h fun t' h'=>Q .normal ⟨t',h'⟩):Wp P N (.reg items none) s Q:=by
 intro code hc
 obtain ⟨id,ops,draw,rfl,hi,hd⟩:=pW hc
 obtain ⟨t',h',ch,hq⟩:=h ops 0 (Nat.zero_le _) (by simpa using hi)
 have nm:=ch.nm
 obtain ⟨cl,ci⟩:=ji hi
 have hN:∀(i:Nat) o d,ops[i]? =some o→o.dst=some d→d<N:=by
  intro i o d ho hdd
  have hlt:i<ops.size:=(Array.getElem?_eq_some_iff.1 ho).1
  have hit:i<items.length:=by rw[cl];simpa using hlt
  have:=ci i o items[i] (by simpa using ho) (List.getElem?_eq_getElem hit)
  generalize items[i]=it at this
  unfold bA at this
  split at this
  ·split at this<;>cases this
   rename_i hcond
   simp only[Bool.and_eq_true] at hcond
   have:=hcond.1
   rw[hdd] at this
   simpa using this
  ·cases this
 refine ⟨.normal,⟨t',h'⟩,⟨nm,fun ro okc G w a r F=>?_⟩,hq⟩
 rcases hd with ⟨rfl,-⟩|⟨-,-,-,hn⟩
 ·refine wpIn_region ?_
  rw[List.range_eq_range']
  have:=r5 ro (Q:=fun e' a' w'=>aC.normal.cU e'∧jB w a.defers a'.defers∧∃G',Trans G w s.h G' w' h'∧Rel N ⟨t',h'⟩ G' w' a') hN ch G w a r.size r.t r.h F
   (fun G' w' a' T1 t1 R1 s1 d1=>⟨trivial,by rw[d1];exact .refl,G',T1,⟨s1,t1,R1,by rw[d1];exact r.df.mono T1⟩⟩)
  simpa using this
 ·cases hn
end
structure SZ where
 t:TR AV
 h:HZ
noncomputable def SZ.st (s:SZ):St:=⟨s.t.env,s.h.hp⟩
abbrev dY:=Nat→List AV→HZ→Option (AV × HZ × Ent)
abbrev RnZ:=Nat→AC→SZ→Option (aC × SZ)
noncomputable def Ee (i:Nat) (l:List Nat):Bool:=List.rec (motive:=fun _=>Bool) false (fun j _ ih=>match Nat.beq i j with
 |true=>true
 |false=>ih) l
noncomputable def xo (at':Nat→Option Obj) (k:Nat):List Nat→List Nat→List Nat:=
 Nat.rec (motive:=fun _=>List Nat→List Nat→List Nat) (fun _ seen=>seen) (fun _ ih todo seen=>match todo with
  |[]=>seen
  |i::todo=>match Ee i seen with
   |true=>ih todo seen
   |false=>match at' i with
    |some (.cells cs)=>ih (eI cs++todo) (i::seen)
    |some (.map es)=>ih (es.flatMap (fun e=>uV e.1++uV e.2)++todo) (i::seen)
    |some (.loop N t _ _ _ _ _)=>ih (eI ((List.range N).map t)++todo) (i::seen)
    |some (.raw _)=>ih todo (i::seen)
    |none=>ih todo seen) k
noncomputable def xp (x:AV):Bool:=
 AV.rec (motive_1:=fun _=>Bool) (motive_2:=fun _=>Bool) true (fun _ _=>true) (fun _=>true) (fun _=>true) (fun _=>true) (fun _ _ c i=>Bool.rec (motive:=fun _=>Bool) false i (aZ c)) (fun _ i=>i) (fun _ i=>i) (fun _ i=>i) (fun _ _=>false) (fun _ _ _ _ _=>false)
  (fun _ _ _ i j=>Bool.rec (motive:=fun _=>Bool) false j i) (fun _ _ i=>i) (fun _=>false) (fun _ _ _ i j=>Bool.rec (motive:=fun _=>Bool) false j i) (fun _=>false) (fun _=>true) (fun _=>true) (fun _=>true) true true (fun _ _ i j=>Bool.rec (motive:=fun _=>Bool) false j i) x
noncomputable def xq (l:List AV):Bool:=List.rec (motive:=fun _=>Bool) true (fun x _ j=>Bool.rec (motive:=fun _=>Bool) false j (xp x)) l
theorem iy (a b:Bool):Bool.rec (motive:=fun _=>Bool) false b a=(a&&b):=by cases a<;>rfl
mutual
theorem jH:∀x:AV,xp x=aJ x
 | .any=>rfl
 | .int _ _=>rfl
 | .bool _=>rfl
 | .str _=>rfl
 | .sc _=>rfl
 | .sl _ xs c=>by
  have:=ct xs
  rw[aJ,←this,←iy];rfl
 | .ref xs=>by rw[aJ,←ct xs];rfl
 | .agg xs=>by rw[aJ,←ct xs];rfl
 | .tup xs=>by rw[aJ,←ct xs];rfl
 | .ptr _ _=>rfl
 | .tsl _ _ _ _ _=>rfl
 | .clo _ a b=>by rw[aJ,←ct a,←ct b,←iy];rfl
 | .ifc _ x=>by rw[aJ,←jH x];rfl
 | .mp _=>rfl
 | .slt _ a b=>by rw[aJ,←ct a,←ct b,←iy];rfl
 | .yld _=>rfl
 | .sup _=>rfl
 | .supb _=>rfl
 | .kR _=>rfl
 | .one=>rfl
theorem ct:∀l:List AV,AV.rec_1 (motive_1:=fun _=>Bool) (motive_2:=fun _=>Bool) true (fun _ _=>true) (fun _=>true) (fun _=>true) (fun _=>true) (fun _ _ c i=>Bool.rec (motive:=fun _=>Bool) false i (aZ c)) (fun _ i=>i) (fun _ i=>i) (fun _ i=>i) (fun _ _=>false) (fun _ _ _ _ _=>false)
  (fun _ _ _ i j=>Bool.rec (motive:=fun _=>Bool) false j i) (fun _ _ i=>i) (fun _=>false) (fun _ _ _ i j=>Bool.rec (motive:=fun _=>Bool) false j i) (fun _=>false) (fun _=>true) (fun _=>true) (fun _=>true) true true (fun _ _ i j=>Bool.rec (motive:=fun _=>Bool) false j i) l=aA l
 |[]=>by rw[aA]
 |x::xs=>by rw[aA,←jH x,←ct xs,←iy];rfl
end
theorem nP:∀l:List AV,xq l=aA l
 |[]=>by rw[aA];rfl
 |x::xs=>by
  rw[aA,←jH x,←nP xs,←iy];rfl
noncomputable def Aa (f:Nat) (T:FT):Option Fun:=
 FT.rec (motive:=fun _=>Option Fun) none (fun k F _ _ il ir=>Bool.rec (motive:=fun _=>Option Fun) (Bool.rec (motive:=fun _=>Option Fun) ir il (Nat.ble f k)) (some F) (Nat.beq f k)) T
theorem oW (f:Nat):∀T:FT,Aa f T=T.get f
 | .leaf=>rfl
 | .node k F l r=>by
  rw[FT.get,←oW f l,←oW f r]
  change Bool.rec (motive:=fun _=>Option Fun) (Bool.rec (motive:=fun _=>Option Fun) (Aa f r) (Aa f l) (Nat.ble f k)) (some F) (Nat.beq f k)=_
  cases Nat.beq f k<;>cases Nat.ble f k<;>rfl
noncomputable def BA (ds:List RV) (t:TR AV) (h:HZ):Option AV:=
 match ds with
 |[.tmp d]=>some (t.env d)
 |ds=>dL ds t.env h.hp
theorem Ab (ds:List RV) (t:TR AV) (h:HZ):BA ds t h=dL ds t.env h.hp:=by
 unfold BA
 split
 ·rfl
 ·rfl
noncomputable def xr (x:AV):Option Bool:=
 AV.rec (motive_1:=fun _=>Option Bool) (motive_2:=fun _=>Unit) none (fun _ _=>none) (fun b=>some b)
  (fun _=>none) (fun _=>none) (fun _ _ _ _=>none) (fun _ _=>none) (fun _ _=>none) (fun _ _=>none) (fun _ _=>none) (fun _ _ _ _ _=>none) (fun _ _ _ _ _=>none) (fun _ _ _=>none) (fun _=>none) (fun _ _ _ _ _=>none) (fun _=>none) (fun _=>none) (fun _=>none) (fun _=>none) none () (fun _ _ _ _=>()) x
theorem xt {x:AV} {b:Bool} (h:xr x=some b):x= .bool b:=by
 cases x<;>first|(cases h;done)|(cases h;rfl)
noncomputable def AX (a b:Bool):Bool:=Bool.rec (motive:=fun _=>Bool) (Bool.rec (motive:=fun _=>Bool) true false b) b a
theorem xu (a b:Bool):AX a b=(a == b):=by cases a<;>cases b<;>rfl
noncomputable def r6 (t:TR AV) (d:Nat) (w:Bool):Option Bool:=
 Option.rec (motive:=fun _=>Option Bool) (guardOf t.env (some (d,w))) (fun b=>some (AX b w)) (xr (t.env d))
theorem vn (t:TR AV) (d:Nat) (w:Bool):r6 t d w=guardOf t.env (some (d,w)):=by
 unfold r6
 cases e:xr (t.env d) with
 |none=>rfl
 |some b=>simp only[guardOf,xt e,xu]
noncomputable def vp (ds:List RV) (r:Option (aC × SZ)):Option (AV × HZ):=
 match r with
 |some (e,s)=>match jj e,BA ds s.t s.h with
  |true,some x=>some (x,s.h)
  |_,_=>none
 |none=>none
noncomputable def leZ (h h':HZ):Bool:=Nat.ble h.n h'.n&&Nat.ble h.m h'.m
noncomputable def nQ (T:FT) (pr:dY) (rn:RnZ) (full:Bool) (f:Nat) (args:List AV) (h:HZ):Option (AV × HZ × Ent):=
 match pr f args h with
 |some r=>some r
 |none=>match Aa f T with
 |none=>none
 |some F=>match Nat.ble args.length F.N with
  |false=>none
  |true=>match xq args with
   |true=>match vp F.ds (rn F.N F.ac ⟨kI args 0 (.leaf []),HZ0 h.n h.m⟩) with
    |some (r,h')=>match xp r with
     |true=>some (r,h,aF)
     |false=>match leZ h h' with
      |true=>some (r,h.patch [] [] h',⟨[],fJ h.n h'.n,h'.toks⟩)
      |false=>none
    |none=>none
   |false=>match full with
    |true=>match vp F.ds (rn F.N F.ac ⟨kI args 0 (.leaf []),h⟩) with
     |some (r,h')=>match leZ h h' with
      |true=>some (r,h',aF)
      |false=>none
     |none=>none
    |false=>
     let ids:=xo h.at 1000000 (eI args) []
     let h1:=h.cut ids (cV args++tC h.at ids)
     match vp F.ds (rn F.N F.ac ⟨kI args 0 (.leaf []),h1⟩) with
     |some (r,h')=>match leZ h h' with
      |true=>some (r,h.patch ids h1.toks h',⟨[],ids++fJ h.n h'.n,h1.toks++h'.toks⟩)
      |false=>none
     |none=>none
noncomputable def oX (rn:RnZ) (r:LR) (args:List AV) (h1:HZ):Option (AV × HZ):=
 match h1.at r.id with
 |some (.loop M t ps a b .ready none)=>match Nat.beq M r.N&&Nat.beq args.length ps.length&&ps.all (fun p=>Nat.blt p M) with
  |true=>match rn M r.x ⟨rX (iv t ps args) M,h1⟩ with
   |some (.normal,s)=>match s.h.at r.id with
    |some (.loop M1 t1 ps1 _ _ .ready none)=>match Nat.beq M1 M&&u7 ps1 ps with
     |true=>match rn M r.y ⟨s.t,s.h.set r.id (some (.loop M t1 ps a b .busy none))⟩ with
      |some (e,s2)=>match s2.h.at r.id,rT e with
       |some (.loop M2 t2 ps2 _ _ .busy none),some (v,st,pd)=>match Nat.beq M2 M&&u7 ps2 ps with
        |true=>some (.bool v,s2.h.set r.id (some (.loop M t2 ps a b st pd)))
        |false=>none
       |_,_=>none
      |none=>none
     |false=>none
    |_=>none
   |_=>none
  |false=>none
 |_=>none
noncomputable def Ac (L:List LR) (rn:RnZ) (full:Bool) (id:Nat) (args:List AV) (h:HZ):Option (AV × HZ × Ent):=
 match oT L id with
 |none=>none
 |some r=>match full with
  |true=>match oX rn r args h with
   |some (v,h')=>match leZ h h' with
    |true=>some (v,h',aF)
    |false=>none
   |none=>none
  |false=>
   let ids:=xo h.at 1000000 (id::eI args) []
   let h1:=h.cut ids (cV args++tC h.at ids)
   match oX rn r args h1 with
   |some (v,h')=>match leZ h h' with
    |true=>some (v,h.patch ids h1.toks h',⟨[],ids++fJ h.n h'.n,h1.toks++h'.toks⟩)
    |false=>none
   |none=>none
noncomputable def p9 (x:AV):Option Nat:=
 AV.rec (motive_1:=fun _=>Option Nat) (motive_2:=fun _=>Unit) none (fun k n=>IntKind.rec (motive:=fun _=>Option Nat) none none none (Int.rec (motive:=fun _=>Option Nat) (fun a=>some a) (fun _=>none) n) none none none none k)
  (fun _=>none) (fun _=>none) (fun _=>none) (fun _ _ _ _=>none) (fun _ _=>none) (fun _ _=>none) (fun _ _=>none) (fun _ _=>none) (fun _ _ _ _ _=>none) (fun _ _ _ _ _=>none) (fun _ _ _=>none) (fun _=>none) (fun _ _ _ _ _=>none) (fun _=>none) (fun _=>none) (fun _=>none) (fun _=>none) none () (fun _ _ _ _=>()) x
theorem qa {x:AV} {a:Nat} (h:p9 x=some a):x= .int .i64 (a:Int):=by
 cases x<;>try (cases h;done)
 rename_i k n
 cases k<;>try (cases h;done)
 cases n with
 |ofNat b=>cases h;rfl
 |negSucc b=>cases h
structure IZ where
 run:(Nat→List AV→HZ→Option (AV × HZ × Ent))→(Nat→List AV→HZ→Option (AV × HZ × Ent))→TR AV→HZ→Option (AV × HZ × Ent)
def isW:AOp→Bool
 | .buildSl _ _=>true
 | .conv .s2s _=>true
 | .app _ _ _ _ _=>true
 |_=>false
theorem r7 {op:AOp} (h:isW op=false) (ρ:Opd→AV) (hp:H) (dst:Option Nat) (its:List aE):mn ρ hp dst its op=aop ρ hp op:=by
 unfold mn
 split<;>first|rfl|(simp [isW] at h)
noncomputable def r8 (dst:Option Nat) (its:List aE) (op:AOp):IZ:=
 match isW op with
 |true=>⟨fun _ _ t h=>vk h (mn (ev t.env) h.hp dst its op)⟩
 |false=>⟨fun _ _ t h=>vk h ((compile op).run (ev t.env) h.hp)⟩
noncomputable def iz (dst:Option Nat) (its:List aE) (op:AOp):IZ:=
 match op with
 | .call f args=>⟨fun call _ t h=>call f (args.map (ev t.env)) h⟩
 | .callv y args=>⟨fun call yld t h=>match ev t.env y with
  | .clo (.func f) first caps=>call f (first++args.map (ev t.env)++caps) h
  | .yld id=>yld id (args.map (ev t.env)) h
  |_=>none⟩
 |op=>r8 dst its op
noncomputable def dC (call yld:Nat→List AV→HZ→Option (AV × HZ × Ent)) (items:List aE):TR AV→HZ→List Ent→Option (TR AV × HZ × List Ent):=
 List.rec (motive:=fun _=>TR AV→HZ→List Ent→Option (TR AV × HZ × List Ent)) (fun t h l=>some (t,h,l)) (fun it its ih t h l=>match guardOf t.env it.guard with
  |some true=>match (iz it.dst its it.op).run call yld t h with
   |some r=>ih (kV t it.dst r.1) r.2.1 (r.2.2::l)
   |none=>none
  |some false=>ih (kV t it.dst (.sc undef)) h (aF::l)
  |none=>none) items
theorem iZ (call yld:Nat→List AV→HZ→Option (AV × HZ × Ent)) (t:TR AV) (h:HZ) (l:List Ent):dC call yld [] t h l=some (t,h,l):=rfl
theorem ff (call yld:Nat→List AV→HZ→Option (AV × HZ × Ent)) (it:aE) (its:List aE) (t:TR AV) (h:HZ) (l:List Ent):dC call yld (it::its) t h l=(match guardOf t.env it.guard with
  |some true=>match (iz it.dst its it.op).run call yld t h with
   |some r=>dC call yld its (kV t it.dst r.1) r.2.1 (r.2.2::l)
   |none=>none
  |some false=>dC call yld its (kV t it.dst (.sc undef)) h (aF::l)
  |none=>none):=rfl
structure FB where
 f:Nat→Nat→Option AV
noncomputable def fb (op:BinOp):FB:=
 match op with
 | .add=>⟨fun a b=>Bool.rec (motive:=fun _=>Option AV) none (some (.int .i64 (Int.ofNat (a+b)))) (Nat.ble (a+b) 9223372036854775807)⟩
 | .sub=>⟨fun a b=>Bool.rec (motive:=fun _=>Option AV) none (Bool.rec (motive:=fun _=>Option AV) none (some (.int .i64 (Int.ofNat (a - b)))) (Nat.ble a 9223372036854775807)) (Nat.ble b a)⟩
 | .eql=>⟨fun a b=>some (.bool (Nat.beq a b))⟩
 | .neq=>⟨fun a b=>some (.bool (Bool.rec (motive:=fun _=>Bool) true false (Nat.beq a b)))⟩
 | .lss=>⟨fun a b=>some (.bool (Nat.ble (Nat.succ a) b))⟩
 | .leq=>⟨fun a b=>some (.bool (Nat.ble a b))⟩
 | .gtr=>⟨fun a b=>some (.bool (Nat.ble (Nat.succ b) a))⟩
 | .geq=>⟨fun a b=>some (.bool (Nat.ble b a))⟩
 |_=>⟨fun _ _=>none⟩
theorem tE (a b:Nat):Nat.beq a b=decide ((a:Int)=(b:Int)):=by
 by_cases h:a=b
 ·subst h;simp
 ·rw[nbf h,decide_eq_false (by omega)]
theorem lv (a b:Nat):Nat.ble a b=decide ((a:Int)≤(b:Int)):=by
 by_cases h:a≤b
 ·rw[Nat.ble_eq_true_of_le h,decide_eq_true (by omega)]
 ·rw[decide_eq_false (by omega)]
  cases e:Nat.ble a b with
  |false=>rfl
  |true=>exact absurd (Nat.le_of_ble_eq_true e) h
theorem CM {op:BinOp} {a b:Nat} {v:AV} (h:(fb op).f a b=some v):bin op (.int .i64 (a:Int)) (.int .i64 (b:Int))=some v:=by
 cases op<;>simp only[fb] at h<;>try (cases h;done)
 case add=>
  cases e:Nat.ble (a+b) 9223372036854775807 with
  |false=>rw[e] at h;cases h
  |true=>
   rw[e] at h
   cases h
   have:=Nat.le_of_ble_eq_true e
   simp only[bin,dg,dO,Bool.false_eq_true,if_false,if_true]
   rw[IntWalk.i64_in _ (by omega)];rfl
 case sub=>
  cases e:Nat.ble b a with
  |false=>rw[e] at h;cases h
  |true=>
   rw[e] at h
   cases e2:Nat.ble a 9223372036854775807 with
   |false=>rw[e2] at h;cases h
   |true=>
    rw[e2] at h
    cases h
    have:=Nat.le_of_ble_eq_true e
    have:=Nat.le_of_ble_eq_true e2
    simp only[bin,dg,dO,Bool.false_eq_true,if_false,if_true]
    rw[IntWalk.i64_in _ (by omega)]
    have:(a:Int) - (b:Int)=Int.ofNat (a - b):=by simp;omega
    rw[this]
 case eql=>cases h;simp only[bin,dg,dO,Bool.false_eq_true,if_false,if_true,tE]
 case neq=>
  cases h
  simp only[bin,dg,dO,Bool.false_eq_true,if_false,if_true]
  rw[tE]
  cases decide ((a:Int)=(b:Int))<;>rfl
 case lss=>
  cases h
  simp only[bin,dg,dO,Bool.false_eq_true,if_false,if_true,lv]
  congr 2
 case leq=>cases h;simp only[bin,dg,dO,Bool.false_eq_true,if_false,if_true,lv]
 case gtr=>
  cases h
  simp only[bin,dg,dO,Bool.false_eq_true,if_false,if_true,lv]
  congr 2
 case geq=>cases h;simp only[bin,dg,dO,Bool.false_eq_true,if_false,if_true,lv]
abbrev mv:=Nat→List AV→HZ→Option (AV × HZ × Ent)
structure RI where
 go:mv→mv→TR AV→HZ→List Ent→Option (TR AV × HZ × List Ent)
noncomputable def qb (dst:Option Nat) (ih:RI) (call yld:mv) (t:TR AV) (l:List Ent) (r:Option (AV × HZ × Ent)):Option (TR AV × HZ × List Ent):=
 Option.rec (motive:=fun _=>Option (TR AV × HZ × List Ent)) none (fun r=>ih.go call yld (kV t dst r.1) r.2.1 (r.2.2::l)) r
noncomputable def nR (dst:Option Nat) (its:List aE) (op:AOp) (ih:RI):RI:=
 match op with
 | .mov (.t j)=>⟨fun call yld t h l=>ih.go call yld (kV t dst (t.env j)) h (aF::l)⟩
 | .mov (.c a)=>⟨fun call yld t h l=>ih.go call yld (kV t dst a) h (aF::l)⟩
 | .bin op x y=>⟨fun call yld t h l=>
   Option.rec (motive:=fun _=>Option (TR AV × HZ × List Ent)) (qb dst ih call yld t l ((iz dst its (.bin op x y)).run call yld t h)) (fun v=>ih.go call yld (kV t dst v) h (aF::l))
    (Option.rec (motive:=fun _=>Option AV) none (fun a=>Option.rec (motive:=fun _=>Option AV) none (fun b=>(fb op).f a b) (p9 (ev t.env y))) (p9 (ev t.env x)))⟩
 |op=>⟨fun call yld t h l=>qb dst ih call yld t l ((iz dst its op).run call yld t h)⟩
theorem qc (dst:Option Nat) (its:List aE) (op:AOp) (ih:RI) (call yld:mv) (t:TR AV) (h:HZ) (l:List Ent):(nR dst its op ih).go call yld t h l=qb dst ih call yld t l ((iz dst its op).run call yld t h):=by
 cases op<;>try rfl
 case mov x=>cases x<;>rfl
 case bin op x y=>
  simp only[nR]
  cases e1:p9 (ev t.env x) with
  |none=>rfl
  |some a=>
   simp only
   cases e2:p9 (ev t.env y) with
   |none=>rfl
   |some b=>
    simp only
    cases e3:(fb op).f a b with
    |none=>rfl
    |some v=>
     have hb:=CM e3
     rw[←qa e1,←qa e2] at hb
     have:(iz dst its (.bin op x y)).run call yld t h=some (v,h,aF):=by
      change vk h ((bin op (ev t.env x) (ev t.env y)).map fun v=>(v,h.hp,aF))=_
      rw[hb];rfl
     rw[this];rfl
noncomputable def r9 (d:Nat) (w:Bool) (dst:Option Nat) (a b:RI):RI:=
 ⟨fun call yld t h l=>Option.rec (motive:=fun _=>Option (TR AV × HZ × List Ent)) none (fun q=>Bool.rec (motive:=fun _=>Option (TR AV × HZ × List Ent)) (b.go call yld (kV t dst (.sc undef)) h (aF::l)) (a.go call yld t h l) q) (r6 t d w)⟩
noncomputable def dZ (items:List aE):RI:=
 List.rec (motive:=fun _=>RI) ⟨fun _ _ t h l=>some (t,h,l)⟩ (fun it its ih=>match it.guard with
  |none=>nR it.dst its it.op ih
  |some (d,w)=>r9 d w it.dst (nR it.dst its it.op ih) ih) items
theorem gF (call yld:mv):∀(items:List aE) (t:TR AV) (h:HZ) (l:List Ent),(dZ items).go call yld t h l=dC call yld items t h l
 |[],t,h,l=>rfl
 |it::its,t,h,l=>by
  have cont:qb it.dst (dZ its) call yld t l ((iz it.dst its it.op).run call yld t h)=(match (iz it.dst its it.op).run call yld t h with
   |some r=>dC call yld its (kV t it.dst r.1) r.2.1 (r.2.2::l)
   |none=>none):=by
   unfold qb
   cases (iz it.dst its it.op).run call yld t h with
   |none=>rfl
   |some r=>exact gF call yld its _ _ _
  rw[ff]
  change RI.go (match it.guard with
   |none=>nR it.dst its it.op (dZ its)
   |some (d,w)=>r9 d w it.dst (nR it.dst its it.op (dZ its)) (dZ its)) call yld t h l=_
  cases hg:it.guard with
  |none=>
   simp only[guardOf]
   rw[qc,cont]
  |some g=>
   obtain ⟨d,w⟩:=g
   simp only[r9]
   rw[vn]
   cases hq:guardOf t.env (some (d,w)) with
   |none=>rfl
   |some b=>
    cases b with
    |true=>simp only;rw[qc,cont]
    |false=>exact gF call yld its _ _ _
noncomputable def CN (T:FT) (pr:dY) (rn:RnZ) (L:List LR) (items:List aE) (p:Option (List (Nat × Nat))) (s:SZ):Option (aC × SZ):=
 match p with
 |none=>match (dZ items).go (nQ T pr rn true) (Ac L rn true) s.t s.h [] with
  |some r=>some (.normal,⟨r.1,r.2.1⟩)
  |none=>none
 |some q=>match (dZ items).go (nQ T pr rn false) (Ac L rn false) s.t s.h [] with
  |some r=>match mg q r.2.2.reverse with
   |true=>some (.normal,⟨r.1,r.2.1⟩)
   |false=>none
  |none=>none
noncomputable def CO (rn:AC→SZ→Option (aC × SZ)) (a b:AC) (s:SZ):Option (aC × SZ):=
 match rn a s with
 |some (.normal,s')=>rn b s'
 |r=>r
noncomputable def AY (rn:AC→SZ→Option (aC × SZ)) (c:Opd) (a b:AC) (s:SZ):Option (aC × SZ):=
 match ev s.t.env c with
 | .bool true=>rn a s
 | .bool false=>rn b s
 |_=>none
noncomputable def xv (rn:AC→SZ→Option (aC × SZ)) (id:Nat) (a:AC) (s:SZ):Option (aC × SZ):=
 match rn a s with
 |some (.exit i,s')=>match Nat.beq i id with
  |true=>some (.normal,s')
  |false=>some (.exit i,s')
 |r=>r
noncomputable def AZ (rn:AC→SZ→Option (aC × SZ)) (a:AC) (s:SZ):Option (aC × SZ):=
 match rn a s with
 |some (.normal,s')=>rn (.loop a) s'
 |r=>r
noncomputable def qd (rn:AC→SZ→Option (aC × SZ)) (c:AC) (k:Nat):AC→SZ→Option (aC × SZ):=
 Nat.rec (motive:=fun _=>AC→SZ→Option (aC × SZ)) (fun _ _=>none) (fun _ ih cur s=>match rn cur s with
  |some (.goto l,s1)=>match dA c l with
   |some rest=>ih rest s1
   |none=>some (.goto l,s1)
  |r=>r) k
noncomputable def xw (T:FT) (rn:List LR→RnZ) (L:List LR) (N:Nat) (g:Opd) (ps:List Nat) (x y:AC) (s:SZ):Option (aC × SZ):=
 match ev s.t.env g with
 | .clo (.func fi) first caps=>match T.get fi with
  |none=>none
  |some F=>match s.h.at s.h.n with
   |some _=>none
   |none=>match Nat.ble (first++[AV.yld s.h.n]++caps).length F.N with
    |false=>none
    |true=>
     match rn (⟨s.h.n,N,x,y⟩::L.filter fun r=> !Nat.beq r.id s.h.n) F.N F.ac ⟨kI (first++[AV.yld s.h.n]++caps) 0 (.leaf []),⟨s.h.o.set 6 s.h.n (some (.loop N s.t.env ps .skip .skip .ready none)),s.h.n+1,s.h.toks,s.h.m⟩⟩ with
     |some (e,s2)=>match jj e,dL F.ds s2.t.env s2.h.hp,s2.h.at s.h.n with
      |true,some _,some (.loop N2 _ ps2 _ _ st pd)=>match Nat.beq N2 N&&u7 ps2 ps&&zX st&&(Nat.ble (s.h.n+1) s2.h.n&&Nat.ble s.h.m s2.h.m),endLoop pd with
       |true,some e2=>some (e2,⟨s.t,s2.h.set s.h.n none⟩)
       |_,_=>none
      |_,_,_=>none
     |none=>none
 |_=>none
noncomputable def fC (T:FT) (pr:dY) (k:Nat) (rn:List LR→RnZ) (L:List LR) (N:Nat) (c:AC) (s:SZ):Option (aC × SZ):=
 match c with
 | .skip=>some (.normal,s)
 | .ret=>some (.ret,s)
 | .exit i=>some (.exit i,s)
 | .reg items p=>CN T pr (rn L) L items p s
 | .seq a b=>CO (rn L N) a b s
 | .cond c a b=>AY (rn L N) c a b s
 | .block id a=>xv (rn L N) id a s
 | .loop a=>AZ (rn L N) a s
 | .label _=>some (.normal,s)
 | .goto l=>some (.goto l,s)
 | .scope a=>qd (rn L N) a k a s
 | .jY g ps x y=>xw T rn L N g ps x y s
noncomputable def sa (T:FT) (pr:dY) (k:Nat):List LR→RnZ:=
 Nat.rec (motive:=fun _=>List LR→RnZ) (fun _ _ _ _=>none) (fun k rn L N c s=>fC T pr k rn L N c s) k
theorem nS (T:FT) (pr:dY) (L:List LR) (N:Nat) (c:AC) (s:SZ):sa T pr 0 L N c s=none:=rfl
theorem nT (T:FT) (pr:dY) (k:Nat) (L:List LR) (N:Nat) (c:AC) (s:SZ):sa T pr (k+1) L N c s=fC T pr k (sa T pr k) L N c s:=rfl
section
variable {P:Program} {T:FT}
def fK (full:Bool) (h h1 h1' h':H) (en:Ent):Prop:=Touch h h1 h1' h' en∨(full=true∧h1=h∧h1'=h'∧h.n≤h'.n∧h.m≤h'.m)
theorem fK.qe {N:Nat} {ops:Array Oper} {full:Bool} {i:Nat} {o:Oper} {t:Tm} {h h1 h1' h':H} {x:AV} {en:Ent} (hn:fK full h h1 h1' h' en) (run:dK P ops i o t h1 x h1'):kW P ops i o t h x h':=by
 rcases hn with tc|⟨-,rfl,rfl,a,b⟩
 ·exact kW.of tc run
 ·exact kW.full ⟨a,b⟩ run
theorem fK.CP {h h1 h1' h':H} {en:Ent} (hn:fK false h h1 h1' h' en):Touch h h1 h1' h' en:=by
 rcases hn with tc|⟨a,-⟩
 ·exact tc
 ·cases a
def mw (P:Program) (f:Nat):Prop:=∃fn,P.funcs[f]? =some fn∧fn.body.isSome=true∧fn.name≠ "runtime.NumGoroutine"
def iA (P:Program) (pr:dY):Prop:=∀σ f args h r h' en,pr f args h=some (r,h',en)→(∃h1 h1',Touch (h.hp.sg σ) h1 h1' (h'.hp.sg σ) en∧aM P f args h1 r h1')∧mw P f
def iQ (P:Program) (σ:Sg) (rn:RnZ):Prop:=∀N c s e s',rn N c s=some (e,s')→Wp P N c (s.st.sg σ) fun e2 s2=>e2=e∧s2=s'.st.sg σ
theorem my {h h':HZ} (e:leZ h h'=true):h.n≤h'.n∧h.m≤h'.m:=by
 simp only[leZ,Bool.and_eq_true] at e
 exact ⟨Nat.le_of_ble_eq_true e.1,Nat.le_of_ble_eq_true e.2⟩
theorem qf (ds:List RV) (r:Option (aC × SZ)):vp ds r=(match r with
 |some (e,s)=>match jj e,dL ds s.t.env s.h.hp with
  |true,some x=>some (x,s.h)
  |_,_=>none
 |none=>none):=by
 unfold vp
 simp only[Ab]
theorem ly {σ:Sg} {rn:RnZ} (hr:iQ P σ rn) {f:Nat} {F:Fun} (hF:aG P f F.N F.ac F.ds) {args:List AV} (hl:args.length≤F.N) {h1:HZ} {r:AV} {h':HZ} (he:vp F.ds (rn F.N F.ac ⟨kI args 0 (.leaf []),h1⟩)=some (r,h')):aM P f args (h1.hp.sg σ) r (h'.hp.sg σ):=by
 rw[qf] at he
 split at he
 ·rename_i e s hrun
  split at he
  ·rename_i x h1 h2
   cases he
   obtain ⟨r',h',hc,e1,e2⟩:=hF.dp (args:=args) (h:=_) (Q:=fun q h=>q=r∧h=s.h.hp.sg σ) hl (by
    have:=hr _ _ _ _ _ hrun
    simp only[SZ.st,St.sg,rW] at this
    exact Wp.mono this fun e2 s2 ⟨a,b⟩=>by
     subst a b
     exact ⟨uW h1,r,xf h2,rfl,rfl⟩)
   subst e1 e2
   exact hc
  ·cases he
 ·cases he
theorem qg (σ:Sg) (h h':HZ) (h1:H) (ids tk:List Nat) (hn:h1.n=h.n) (hi:∀j,(h1.objs j).isSome=(ids.contains j&&(h.at j).isSome)) (ht:h1.toks=tk):(h.patch ids tk h').hp.sg σ=(h.hp.patch h1 h'.hp).sg σ:=by
 rw[HZ.xj h h' h1 ids tk hn hi ht]
theorem Ad (h:H) (ids toks:List Nat) (j:Nat):((h.cut ids toks).objs j).isSome=(ids.contains j&&(h.objs j).isSome):=by
 simp only[H.cut]
 split<;>simp_all
theorem nU (σ:Sg) (h h2:HZ) (ids tks:List Nat) (hb:h.n≤h2.n∧h.m≤h2.m):Touch (h.hp.sg σ) ((h.hp.cut ids tks).sg σ) (h2.hp.sg σ) ((h.patch ids (h.cut ids tks).toks h2).hp.sg σ) ⟨[],ids++fJ h.n h2.n,(h.cut ids tks).toks++h2.toks⟩:=by
 have e:=qg σ h h2 (h.hp.cut ids tks) ids (h.cut ids tks).toks rfl (fun j=>Ad _ _ _ j) rfl
 rw[e]
 exact mq σ h.hp _ h2.hp (zr h.hp _ _) rfl rfl (zt h.hp _ _) hb.1 hb.2
theorem jI (ok:T.Ok P) (nm:T.named P=true) {σ:Sg} {pr:dY} (hpr:iA P pr) {rn:RnZ} (hr:iQ P σ rn) {full:Bool} {f:Nat} {args:List AV} {h h':HZ} {r:AV} {en:Ent} (hc:nQ T pr rn full f args h=some (r,h',en)):
  (∃h1 h1',fK full (h.hp.sg σ) h1 h1' (h'.hp.sg σ) en∧aM P f args h1 r h1')∧mw P f:=by
 unfold nQ at hc
 split at hc
 ·rename_i q hq
  cases hc
  obtain ⟨⟨h1,h1',tc,ac⟩,nf⟩:=hpr σ _ _ _ _ _ _ hq
  exact ⟨⟨h1,h1',.inl tc,ac⟩,nf⟩
 split at hc
 ·cases hc
 ·rename_i F hF
  rw[oW] at hF
  obtain ⟨fi,fx⟩:=FT.oM ok nm hF
  refine ⟨?_,fx⟩
  split at hc
  ·cases hc
  ·rename_i hl
   have hl:=Nat.le_of_ble_eq_true hl
   split at hc
   ·rename_i hp
    rw[nP] at hp
    split at hc
    ·rename_i r' h2 he
     have ac:=ly hr fi hl he
     rw[rZ,tD] at ac
     split at hc
     ·rename_i hpr
      rw[jH] at hpr
      cases hc
      exact ⟨_,_,.inl (bF (h.hp.sg σ)),ac.pure (bo _ hp) (aa.refl _) (bW _ hpr)⟩
     ·split at hc
      ·rename_i hb
       have hb:=my hb
       cases hc
       refine ⟨_,_,.inl ?_,ac⟩
       have:=mq σ h.hp (H0 h.n h.m) h2.hp (ids:=[]) ⟨fun j o hj=>by simp[H0,H.only,af] at hj,fun t ht=>by simp[H0,H.only] at ht⟩ rfl rfl (fun id hx=>by simp[H0,H.only,af] at hx) hb.1 hb.2
       rw[tD,←qg σ h h2 (H0 h.n h.m) [] [] rfl (fun j=>by simp[H0,H.only,af]) rfl] at this
       simp only[List.nil_append,H0,H.only] at this ⊢
       exact this
      ·cases hc
    ·cases hc
   ·split at hc
    ·split at hc
     ·rename_i r' h2 he
      have ac:=ly hr fi hl he
      split at hc
      ·rename_i hb
       have hb:=my hb
       cases hc
       exact ⟨_,_,.inr ⟨rfl,rfl,rfl,hb.1,hb.2⟩,ac⟩
      ·cases hc
     ·cases hc
    ·simp only at hc
     split at hc
     ·rename_i r' h2 he
      have ac:=ly hr fi hl he
      rw[HZ.xk] at ac
      split at hc
      ·rename_i hb
       have hb:=my hb
       cases hc
       exact ⟨_,_,.inl (nU σ h h2 _ _ hb),ac⟩
      ·cases hc
     ·cases hc
theorem HZ.sb (h:HZ) (j:Nat) (x:Option Obj):(h.set j x).hp= {h.hp with objs:=upd h.hp.objs j x}:=H.ext (fun i=>by
 change (h.set j x).at i=upd h.at j x i
 rw[HZ.p7]) rfl rfl rfl
theorem nV {σ:Sg} {L:List LR} (hL:u6 P σ L) {rn:RnZ} (hr:iQ P σ rn) {lr:LR} (hmem:lr∈L) {args:List AV} {h h':HZ} {r:AV} (hc:oX rn lr args h=some (r,h')):eY P lr.id args (h.hp.sg σ) r (h'.hp.sg σ):=by
 obtain ⟨c1,c2,c3,c4⟩:=hL lr hmem
 unfold oX at hc
 split at hc
 ·rename_i M t ps a b ho
  split at hc
  ·rename_i hcond
   simp only[Bool.and_eq_true,List.all_eq_true] at hcond
   have hM:M=lr.N:=Nat.eq_of_beq_eq_true hcond.1.1
   have hlen:args.length=ps.length:=Nat.eq_of_beq_eq_true hcond.1.2
   have hps:∀p∈ps,p<M:=fun p hp=>Nat.le_of_ble_eq_true (hcond.2 p hp)
   split at hc
   ·rename_i s1 hrun1
    split at hc
    ·rename_i M1 t1 ps1 a1 b1 ho1
     split at hc
     ·rename_i hcond1
      simp only[Bool.and_eq_true] at hcond1
      have hM1:=Nat.eq_of_beq_eq_true hcond1.1
      have hp1:=lu hcond1.2
      subst hM1 hp1
      split at hc
      ·rename_i e s2 hrun2
       split at hc
       ·rename_i M2 t2 ps2 a2 b2 v st pd ho2 hre
        split at hc
        ·rename_i hcond2
         simp only[Bool.and_eq_true] at hcond2
         have hM2:=Nat.eq_of_beq_eq_true hcond2.1
         have hp2:=lu hcond2.2
         subst hM2 hp2
         simp only[Option.some.injEq,Prod.mk.injEq] at hc
         obtain ⟨rfl,rfl⟩:=hc
         subst hM
         have w1:=hr _ _ _ _ _ hrun1
         have w2:=hr _ _ _ _ _ hrun2
         have ho:h.hp.objs lr.id=some (.loop lr.N t ps2 a b .ready none):=ho
         have ho1:s1.h.hp.objs lr.id=some (.loop lr.N t1 ps2 a1 b1 .ready none):=ho1
         have ho2:s2.h.hp.objs lr.id=some (.loop lr.N t2 ps2 a2 b2 .busy none):=ho2
         have e0:(H.sg σ h.hp).objs lr.id=some (.loop lr.N t ps2 (σ lr.id).1 (σ lr.id).2 .ready none):=by simp only[H.sg,ho];rfl
         have:=nH (P:=P) (id:=lr.id) (M:=lr.N) (n:=h.hp.n) (m:=h.hp.m) (f:=(H.sg σ h.hp).objs) (T:=h.hp.toks) (t:=t) (ps:=ps2) (args:=args)
          (Q:=fun r' h''=>r'= .bool v∧h''=H.sg σ {s2.h.hp with objs:=upd s2.h.hp.objs lr.id (some (.loop lr.N t2 ps2 a b st pd))}) e0 c1 c2 c3 c4 hlen hps (Wp.le (s':=(SZ.st ⟨rX (iv t ps2 args) lr.N,h⟩).sg σ) (z7 _ _ _) (Wp.mono w1 fun e' s' ⟨q1,q2⟩=>by
           subst q1 q2
           refine ⟨rfl,t1,by simp only[SZ.st,St.sg,H.sg,ho1];rfl,?_⟩
           have e3:(St.sg σ (SZ.st ⟨s1.t,s1.h.set lr.id (some (.loop lr.N t1 ps2 a b .busy none))⟩))=⟨(s1.st.sg σ).t,{(s1.st.sg σ).h with objs:=upd (s1.st.sg σ).h.objs lr.id (some (.loop lr.N t1 ps2 (σ lr.id).1 (σ lr.id).2 .busy none))}⟩:=by
            simp only[SZ.st,St.sg,HZ.sb,H.sg,kH]
           rw[e3] at w2
           refine Wp.mono w2 fun e' s' ⟨q1,q2⟩=>?_
           subst q1 q2
           refine ⟨t2,v,st,pd,by simp only[SZ.st,St.sg,H.sg,ho2];rfl,u9 hre,rfl,?_⟩
           simp only[SZ.st,St.sg,H.sg,kH]))
         obtain ⟨r',h'',hy,rfl,rfl⟩:=this
         rw[HZ.sb]
         exact hy
        ·cases hc
       ·cases hc
      ·cases hc
     ·cases hc
    ·cases hc
   ·cases hc
  ·cases hc
 ·cases hc
theorem tF {σ:Sg} {L:List LR} (hL:u6 P σ L) {rn:RnZ} (hr:iQ P σ rn) {full:Bool} {id:Nat} {args:List AV} {h h':HZ} {r:AV} {en:Ent} (hc:Ac L rn full id args h=some (r,h',en)):
  ∃h1 h1',fK full (h.hp.sg σ) h1 h1' (h'.hp.sg σ) en∧eY P id args h1 r h1':=by
 unfold Ac at hc
 split at hc
 ·cases hc
 rename_i lr hlr
 obtain ⟨hmem,rfl⟩:=mo hlr
 split at hc
 ·split at hc
  ·rename_i v h2 hy
   have yc:=nV hL hr hmem hy
   split at hc
   ·rename_i hb
    have hb:=my hb
    cases hc
    exact ⟨_,_,.inr ⟨rfl,rfl,rfl,hb.1,hb.2⟩,yc⟩
   ·cases hc
  ·cases hc
 ·simp only at hc
  split at hc
  ·rename_i v h2 hy
   have yc:=nV hL hr hmem hy
   rw[HZ.xk] at yc
   split at hc
   ·rename_i hb
    have hb:=my hb
    cases hc
    exact ⟨_,_,.inl (nU σ h h2 _ _ hb),yc⟩
   ·cases hc
  ·cases hc
theorem qh {σ:Sg} {full:Bool} {call yld:Nat→List AV→HZ→Option (AV × HZ × Ent)} (cZ:∀f args h r h' en,call f args h=some (r,h',en)→(∃h1 h1',fK full (h.hp.sg σ) h1 h1' (h'.hp.sg σ) en∧aM P f args h1 r h1')∧mw P f)
  (hyld:∀id args h r h' en,yld id args h=some (r,h',en)→∃h1 h1',fK full (h.hp.sg σ) h1 h1' (h'.hp.sg σ) en∧eY P id args h1 r h1') {N:Nat} {ops:Array Oper} {i:Nat} {o:Oper} {it:aE} {its:List aE} {t:TR AV} {h h':HZ} {x:AV} {en:Ent}
  (ho:ops[i]? =some o) (hit:bA P N ops o=some it) (hg:guardOf t.env it.guard=some true) (hx:(iz it.dst its it.op).run call yld t h=some (x,h',en)):
  (∃h1 h1',fK full (h.hp.sg σ) h1 h1' (h'.hp.sg σ) en∧dK P ops i o t.env h1 x h1')∧(bS it.op=false→en=aF):=by
 obtain ⟨dst,g,op⟩:=it
 simp only at hg hx ⊢
 have plain:(r8 dst its op).run call yld t h=some (x,h',en)→(∃h1 h1',fK full (h.hp.sg σ) h1 h1' (h'.hp.sg σ) en∧dK P ops i o t.env h1 x h1')∧(bS op=false→en=aF):=by
  intro hx
  have hw:vk h (mn (ev t.env) h.hp dst its op)=some (x,h',en):=by
   unfold r8 at hx
   split at hx
   ·exact hx
   ·rename_i hw
    simp only[p8] at hx
    rw[r7 hw];exact hx
  have hx:=z8 hw (fun x h' en e j hj=>vj e hj)
  refine ⟨?_,fun ht=>?_⟩
  ·rcases tB (σ:=σ) hx with hx|⟨hx|hx|hx,-⟩
   ·obtain ⟨h1,h1',tc,run⟩:=ij ho hit hg hx;exact ⟨h1,h1',.inl tc,run⟩
   ·obtain ⟨h1,h1',tc,run⟩:=nI ho hit hg hx;exact ⟨h1,h1',.inl tc,run⟩
   ·obtain ⟨h1,h1',tc,run⟩:=iP ho hit hg hx;exact ⟨h1,h1',.inl tc,run⟩
   ·obtain ⟨h1,h1',tc,run⟩:=iO ho hit hg hx;exact ⟨h1,h1',.inl tc,run⟩
  ·rcases tB (σ:=σ) hx with hx|⟨-,ht'⟩
   ·rcases tp ht hx with h|⟨n,y,h⟩
    ·exact h
    ·rw[h] at ht;simp[bS] at ht
   ·rw[ht'] at ht;cases ht
 cases op
 case call f args=>
  obtain ⟨⟨h1,h1',tc,ac⟩,-⟩:=cZ _ _ _ _ _ _ hx
  exact ⟨⟨h1,h1',tc,dV ho hit hg rfl (al.refl _) ac⟩,fun hh=>by simp[bS] at hh⟩
 case callv y args=>
  simp only[iz] at hx
  split at hx
  ·rename_i f first caps hy
   obtain ⟨⟨h1,h1',tc,ac⟩,fn,f1,f2,f3⟩:=cZ _ _ _ _ _ _ hx
   exact ⟨⟨h1,h1',tc,pU ho hit hg rfl hy f1 f2 f3 (al.refl _) ac⟩,fun hh=>by simp[bS] at hh⟩
  ·rename_i id hy
   obtain ⟨h1,h1',tc,yc⟩:=hyld _ _ _ _ _ _ hx
   exact ⟨⟨h1,h1',tc,kG ho hit hg rfl hy (al.refl _) yc⟩,fun hh=>by simp[bS] at hh⟩
  ·cases hx
 all_goals exact plain hx
theorem fL {σ:Sg} {call yld:Nat→List AV→HZ→Option (AV × HZ × Ent)} (cZ:∀f args h r h' en,call f args h=some (r,h',en)→(∃h1 h1',fK true (h.hp.sg σ) h1 h1' (h'.hp.sg σ) en∧aM P f args h1 r h1')∧mw P f)
  (hyld:∀id args h r h' en,yld id args h=some (r,h',en)→∃h1 h1',fK true (h.hp.sg σ) h1 h1' (h'.hp.sg σ) en∧eY P id args h1 r h1') {N:Nat} {K:Tm→H→Prop}:
  ∀{items:List aE} {t t':TR AV} {h h':HZ} {log log':List Ent},dC call yld items t h log=some (t',h',log')→K t'.env (h'.hp.sg σ)→ah P N items t.env (h.hp.sg σ) K
 |[],t,t',h,h',log,log',hr,hk=>by
  rw[iZ] at hr
  simp only[Option.some.injEq,Prod.mk.injEq] at hr
  obtain ⟨rfl,rfl,rfl⟩:=hr
  exact ah.nil hk
 |it::its,t,t',h,h',log,log',hr,hk=>by
  rw[ff] at hr
  split at hr
  ·rename_i hg
   split at hr
   ·rename_i r hx
    obtain ⟨x,h2,en⟩:=r
    have ih:=fL (N:=N) cZ hyld hr hk
    rw[jG] at ih
    refine ah.step (fun ops i o ho hit=>?_) ih
    obtain ⟨⟨h1,h1',tc,run⟩,-⟩:=qh cZ hyld ho hit hg hx
    exact tc.qe (N:=N) run
   ·cases hr
  ·rename_i hg
   have ih:=fL (N:=N) cZ hyld hr hk
   rw[jG] at ih
   exact ah.step (fun ops i o ho hit=>kW.of (bF (h.hp.sg σ)) (gB ho hit hg)) ih
  ·cases hr
theorem gG {σ:Sg} {call yld:Nat→List AV→HZ→Option (AV × HZ × Ent)} (cZ:∀f args h r h' en,call f args h=some (r,h',en)→(∃h1 h1',fK false (h.hp.sg σ) h1 h1' (h'.hp.sg σ) en∧aM P f args h1 r h1')∧mw P f)
  (hyld:∀id args h r h' en,yld id args h=some (r,h',en)→∃h1 h1',fK false (h.hp.sg σ) h1 h1' (h'.hp.sg σ) en∧eY P id args h1 r h1') {N:Nat} {K:Tm→H→List Ent→Prop}:
  ∀{items:List aE} {t t':TR AV} {h h':HZ} {log log':List Ent},dC call yld items t h log=some (t',h',log')→K t'.env (h'.hp.sg σ) log'.reverse→ae P N items t.env (h.hp.sg σ) log K
 |[],t,t',h,h',log,log',hr,hk=>by
  rw[iZ] at hr
  simp only[Option.some.injEq,Prod.mk.injEq] at hr
  obtain ⟨rfl,rfl,rfl⟩:=hr
  exact ae.nil hk
 |it::its,t,t',h,h',log,log',hr,hk=>by
  rw[ff] at hr
  split at hr
  ·rename_i hg
   split at hr
   ·rename_i r hx
    obtain ⟨x,h2,en⟩:=r
    have ih:=gG (N:=N) cZ hyld hr hk
    rw[jG] at ih
    intro ops i hi hc
    obtain ⟨o,ho,hit,hi',hc'⟩:=cM hi hc
    obtain ⟨⟨h1,h1',tc,run⟩,hen0⟩:=qh cZ hyld ho hit hg hx
    obtain ⟨recs,t',hh',ch,hk2,hen⟩:=ih ops (i+1) hi' hc'
    refine ⟨⟨t.env,h.hp.sg σ,h1,h1',h2.hp.sg σ,x,en⟩::recs,t',hh',.cons ho rfl rfl tc.CP (fun _=>run) (by rw[←nO hit];exact ch),by simpa using hk2,?_⟩
    intro k r it' hr' hit' ht
    cases k with
    |zero=>
     simp at hr' hit';subst hr' hit'
     exact hen0 ht
    |succ k=>simp at hr' hit';exact hen k r it' hr' hit' ht
   ·cases hr
  ·rename_i hg
   have ih:=gG (N:=N) cZ hyld hr hk
   rw[jG] at ih
   exact ae.step (bF (h.hp.sg σ)) (fun ops i o ho hit=>gB ho hit hg) (fun _=>rfl) ih
  ·cases hr
theorem sd (rn:AC→SZ→Option (aC × SZ)) (c cur:AC) (s:SZ):qd rn c 0 cur s=none:=rfl
theorem se (rn:AC→SZ→Option (aC × SZ)) (c:AC) (k:Nat) (cur:AC) (s:SZ):qd rn c (k+1) cur s=(match rn cur s with
  |some (.goto l,s1)=>match dA c l with
   |some rest=>qd rn c k rest s1
   |none=>some (.goto l,s1)
  |r=>r):=rfl
theorem qi {σ:Sg} {rn:AC→SZ→Option (aC × SZ)} {N:Nat} (hr:∀c s e s',rn c s=some (e,s')→Wp P N c (s.st.sg σ) fun e2 s2=>e2=e∧s2=s'.st.sg σ) {c:AC}:
  ∀{k:Nat} {cur:AC} {s:SZ} {e:aC} {s':SZ},qd rn c k cur s=some (e,s')→WpS P N c cur (s.st.sg σ) fun e2 s2=>e2=e∧s2=s'.st.sg σ
 |0,_,_,_,_,h=>by rw[sd] at h;cases h
 |k+1,cur,s,e,s',h=>by
  rw[se] at h
  split at h
  ·rename_i l s1 h1
   refine WpS.step (Wp.mono (hr _ _ _ _ h1) fun e2 s2 ⟨e1,e3⟩=>?_)
   subst e1 e3
   simp only[aC.within]
   split at h
   ·rename_i rest hf
    simp only[hf]
    exact qi hr h
   ·rename_i hf
    simp only[hf]
    simp only[Option.some.injEq,Prod.mk.injEq] at h
    obtain ⟨rfl,rfl⟩:=h
    exact ⟨rfl,rfl⟩
  ·rename_i hne
   refine WpS.step (Wp.mono (hr _ _ _ _ h) fun e2 s2 ⟨e1,e3⟩=>?_)
   subst e1 e3
   cases e2 with
   |normal=>exact ⟨rfl,rfl⟩
   |exit i=>exact ⟨rfl,rfl⟩
   |goto l=>exact absurd h (hne l _)
   |ret=>exact ⟨rfl,rfl⟩
   |panic v=>exact ⟨rfl,rfl⟩
theorem xx (ok:T.Ok P) (nm:T.named P=true) {σ:Sg} {rn:List LR→RnZ} (hr:∀{σ:Sg} (L:List LR),u6 P σ L→iQ P σ (rn L)) {L:List LR} (hL:u6 P σ L) {N:Nat} {g:Opd} {ps:List Nat} {x y:AC} {s:SZ} {e:aC} {s':SZ}
  (h:xw T rn L N g ps x y s=some (e,s')):Wp P N (.jY g ps x y) (s.st.sg σ) fun e2 s2=>e2=e∧s2=s'.st.sg σ:=by
 unfold xw at h
 split at h
 ·rename_i fi first caps hg
  split at h
  ·cases h
  rename_i F hF
  obtain ⟨fx,fn,f1,f2,f3⟩:=FT.oM ok nm hF
  split at h
  ·cases h
  rename_i hfresh
  split at h
  ·cases h
  rename_i hl
  have hl:=Nat.le_of_ble_eq_true hl
  split at h
  ·rename_i e1 s2 hrun
   split at h
   ·rename_i r N2 t2 ps2 a2 b2 st pd he hres ho2
    split at h
    ·rename_i e2 hcond hend
     simp only[Bool.and_eq_true] at hcond
     have hN2:=Nat.eq_of_beq_eq_true hcond.1.1.1
     have hp2:=lu hcond.1.1.2
     subst hN2 hp2
     simp only[Option.some.injEq,Prod.mk.injEq] at h
     obtain ⟨rfl,rfl⟩:=h
     have hfresh:s.h.hp.objs s.h.hp.n=none:=hfresh
     have ho2:s2.h.hp.objs s.h.hp.n=some (.loop N2 t2 ps2 a2 b2 st pd):=ho2
     refine Wp.jY (P:=P) (t:=s.t.env) (f:=(s.h.hp.sg σ).objs) (n:=s.h.hp.n) (m:=s.h.hp.m) (T:=s.h.hp.toks) hg f1 f2 f3 (by simp[H.sg,hfresh]) fun asg body c1 c2 c3 c4=>?_
     have hL2:u6 P (upd σ s.h.n (asg,body)) (⟨s.h.n,N2,x,y⟩::L.filter fun r=> !Nat.beq r.id s.h.n):=by
      intro r hr
      rcases List.mem_cons.1 hr with rfl|hr
      ·simp only[upd,if_pos]
       exact ⟨c1,c2,c3,c4⟩
      ·obtain ⟨h1,h2⟩:=List.mem_filter.1 hr
       have hne:r.id≠s.h.n:=fun e=>by rw[e,Nat.beq_refl] at h2;cases h2
       simp only[upd,if_neg hne]
       exact hL r h1
     have ac:=ly (h':=s2.h) (r:=r) (hr _ hL2) fx hl (by rw[hrun,qf];simp only[he,hres])
     have e1:(H.sg (upd σ s.h.n (asg,body)) (HZ.hp ⟨s.h.o.set 6 s.h.n (some (.loop N2 s.t.env ps2 .skip .skip .ready none)),s.h.n+1,s.h.toks,s.h.m⟩))=⟨upd (s.h.hp.sg σ).objs s.h.hp.n (some (.loop N2 s.t.env ps2 asg body .ready none)),s.h.hp.n+1,s.h.hp.toks,s.h.hp.m⟩:=by
      refine H.ext (fun j=>?_) rfl rfl rfl
      have e2:(HZ.hp ⟨s.h.o.set 6 s.h.n (some (.loop N2 s.t.env ps2 .skip .skip .ready none)),s.h.n+1,s.h.toks,s.h.m⟩).objs j=upd s.h.hp.objs s.h.n (some (.loop N2 s.t.env ps2 .skip .skip .ready none)) j:=by
       have:=congrFun (HZ.p7 s.h s.h.n (some (.loop N2 s.t.env ps2 .skip .skip .ready none))) j
       exact this
      simp only[H.sg,e2]
      change Option.map _ (upd s.h.hp.objs s.h.n _ j)=upd _ s.h.n _ j
      simp only[upd]
      by_cases e:j=s.h.n
      ·simp only[if_pos e,Option.map_some,sgO]
      ·simp only[if_neg e]
     rw[e1] at ac
     refine ⟨r,_,_,_,_,t2,st,pd,e2,ac,Nat.le_of_ble_eq_true hcond.2.1,Nat.le_of_ble_eq_true hcond.2.2,?_,?_,rU hend,rfl,?_⟩
     ·change Option.map _ (s2.h.hp.objs s.h.hp.n)=_
      rw[ho2]
      simp only[Option.map_some,sgO,upd]
      simp only[if_pos (show s.h.hp.n=s.h.n from rfl)]
     ·have:=hcond.1.2
      intro e;rw[e] at this;cases this
     ·rw[SZ.st]
      refine congrArg (St.mk s.t.env) ?_
      rw[HZ.sb]
      refine H.ext (fun j=>?_) rfl rfl rfl
      simp only[H.sg,upd]
      change (if j=s.h.n then none else Option.map (sgO (if j=s.h.n then (asg,body) else σ j)) (s2.h.hp.objs j))=Option.map (sgO (σ j)) (if j=s.h.n then none else s2.h.hp.objs j)
      by_cases e:j=s.h.n
      ·simp only[if_pos e,Option.map_none]
      ·simp only[if_neg e]
    ·cases h
   ·cases h
  ·cases h
 ·cases h
theorem tG (ok:T.Ok P) (nm:T.named P=true) {pr:dY} (hpr:iA P pr):∀k σ L,u6 P σ L→iQ P σ (sa T pr k L):=by
 intro k
 induction k using Nat.strongRecOn with
 |_ k ih=>
  intro σ L hL N c s e s' h
  cases k with
  |zero=>rw[nS] at h;cases h
  |succ k=>
  have h0:=h
  rw[nT] at h
  have ihk:=ih k (Nat.lt_succ_self k) σ L hL
  cases c with
  |skip=>simp only[fC,Option.some.injEq,Prod.mk.injEq] at h;obtain ⟨rfl,rfl⟩:=h;exact Wp.skip ⟨rfl,rfl⟩
  |ret=>simp only[fC,Option.some.injEq,Prod.mk.injEq] at h;obtain ⟨rfl,rfl⟩:=h;exact Wp.ret ⟨rfl,rfl⟩
  |exit i=>simp only[fC,Option.some.injEq,Prod.mk.injEq] at h;obtain ⟨rfl,rfl⟩:=h;exact Wp.exit ⟨rfl,rfl⟩
  |label l=>simp only[fC,Option.some.injEq,Prod.mk.injEq] at h;obtain ⟨rfl,rfl⟩:=h;exact Wp.label ⟨rfl,rfl⟩
  |goto l=>simp only[fC,Option.some.injEq,Prod.mk.injEq] at h;obtain ⟨rfl,rfl⟩:=h;exact Wp.goto ⟨rfl,rfl⟩
  |jY g ps x y=>
   simp only[fC] at h
   exact xx ok nm (fun L hL=>ih k (Nat.lt_succ_self k) _ L hL) hL h
  |reg items p=>
   simp only[fC,CN,gF] at h
   split at h
   ·split at h
    ·rename_i r hi
     obtain ⟨t,h2,l⟩:=r
     simp only[Option.some.injEq,Prod.mk.injEq] at h
     obtain ⟨rfl,rfl⟩:=h
     exact Wp.xn (fL (σ:=σ) (fun f args h r h' en hx=>jI ok nm hpr ihk hx) (fun id args h r h' en hx=>tF hL ihk hx) hi ⟨rfl,rfl⟩)
    ·cases h
   ·split at h
    ·rename_i r hi
     obtain ⟨t,h2,l⟩:=r
     split at h
     ·rename_i hp
      simp only[Option.some.injEq,Prod.mk.injEq] at h
      obtain ⟨rfl,rfl⟩:=h
      exact Wp.reg (gG (σ:=σ) (fun f args h r h' en hx=>jI ok nm hpr ihk hx) (fun id args h r h' en hx=>tF hL ihk hx) hi ⟨nE hp,rfl,rfl⟩)
     ·cases h
    ·cases h
  |seq a b=>
   simp only[fC,CO] at h
   split at h
   ·rename_i s1 ha
    refine Wp.seq (Wp.mono (ihk _ _ _ _ _ ha) fun e2 s2 ⟨e1,e3⟩=>?_)
    subst e1 e3
    exact ihk _ _ _ _ _ h
   ·rename_i hne
    refine Wp.seq (Wp.mono (ihk _ _ _ _ _ h) fun e2 s2 ⟨e1,e3⟩=>?_)
    subst e1 e3
    cases e2 with
    |normal=>exact absurd h (hne _)
    |exit i=>exact ⟨rfl,rfl⟩
    |goto l=>exact ⟨rfl,rfl⟩
    |ret=>exact ⟨rfl,rfl⟩
    |panic v=>exact ⟨rfl,rfl⟩
  |scope a=>
   simp only[fC] at h
   exact Wp.scope (qi (fun c s e s'=>ihk N c s e s') h)
  |cond c a b=>
   simp only[fC,AY] at h
   split at h
   ·rename_i hb;exact Wp.cond_true hb (ihk _ _ _ _ _ h)
   ·rename_i hb;exact Wp.cond_false hb (ihk _ _ _ _ _ h)
   ·cases h
  |block id a=>
   simp only[fC,xv] at h
   split at h
   ·rename_i i s1 ha
    refine Wp.block (Wp.mono (ihk _ _ _ _ _ ha) fun e2 s2 ⟨e1,e3⟩=>?_)
    subst e1 e3
    split at h
    ·rename_i hid
     have hid:=Nat.eq_of_beq_eq_true hid
     simp only[Option.some.injEq,Prod.mk.injEq] at h
     obtain ⟨rfl,rfl⟩:=h
     simp only[aC.inBlock,hid,if_true,and_self]
    ·rename_i hid
     have hid:=Nat.ne_of_beq_eq_false hid
     simp only[Option.some.injEq,Prod.mk.injEq] at h
     obtain ⟨rfl,rfl⟩:=h
     simp only[aC.inBlock,if_neg hid,and_self]
   ·rename_i hne
    refine Wp.block (Wp.mono (ihk _ _ _ _ _ h) fun e2 s2 ⟨e1,e3⟩=>?_)
    subst e1 e3
    cases e2 with
    |normal=>exact ⟨rfl,rfl⟩
    |exit i=>exact absurd h (hne i _)
    |goto l=>exact ⟨rfl,rfl⟩
    |ret=>exact ⟨rfl,rfl⟩
    |panic v=>exact ⟨rfl,rfl⟩
  |loop a=>
   refine Wp.loop (β:=Nat × SZ) (fun b=>b.2.st.sg σ) (fun b=>b.1≤k∧sa T pr (b.1+1) L N (.loop a) b.2=some (e,s')) (fun b=>b.1) (k,s) ⟨Nat.le_refl _,h0⟩ (aI.refl _) ?_
   rintro ⟨j,s0⟩ ⟨hj,hb⟩
   rw[nT] at hb
   simp only[fC,AZ] at hb
   simp only at hj
   have ihj:=ih j (by omega) σ L hL
   split at hb
   ·rename_i s1 ha
    refine Wp.mono (ihj _ _ _ _ _ ha) fun e2 s2 ⟨e1,e3⟩=>?_
    subst e1 e3
    cases j with
    |zero=>rw[nS] at hb;cases hb
    |succ j=>exact ⟨(j,s1),⟨by simp only;omega,hb⟩,Nat.lt_succ_self _,aI.refl _⟩
   ·rename_i hne
    refine Wp.mono (ihj _ _ _ _ _ hb) fun e2 s2 ⟨e1,e3⟩=>?_
    subst e1 e3
    cases e2 with
    |normal=>exact absurd hb (hne _)
    |exit i=>exact ⟨rfl,rfl⟩
    |goto l=>exact ⟨rfl,rfl⟩
    |ret=>exact ⟨rfl,rfl⟩
    |panic v=>exact ⟨rfl,rfl⟩
def NoL (h:H):Prop:=∀j o,h.objs j=some o→∀σ,sgO σ o=o
theorem NoL.sg {h:H} (hn:NoL h) (σ:Sg):h.sg σ=h:=H.ext (fun j=>by
 simp only[H.sg]
 cases e:h.objs j with
 |none=>rfl
 |some o=>simp[hn j o e]) rfl rfl rfl
theorem NoL.none {n:Nat} {T:List Nat} {m:Nat}:NoL (.only af T n m):=fun j o h=>by simp[H.only,af] at h
theorem NoL.upd {f:Nat→Option Obj} {i:Nat} {cs:List AV} {n n':Nat} {T T':List Nat} {m m':Nat} (h:NoL ⟨f,n,T,m⟩):NoL ⟨Av.upd f i (some (.cells cs)),n',T',m'⟩:=fun j o e=>by
 simp only[Av.upd] at e
 split at e
 ·cases e;intro σ;rfl
 ·exact h j o e
noncomputable def qj (T:FT) (pr:dY) (k f:Nat) (args:List AV) (b:Bool):Bool:=
 match aA args,nQ T pr (sa T pr k []) true f args (HZ0 0 0) with
 |true,some (.bool x,_,_)=>match x,b with
  |true,true=>true
  |false,false=>true
  |_,_=>false
 |_,_=>false
theorem ql (ok:T.Ok P) (nm:T.named P=true) {pr:dY} (hpr:iA P pr) {k f:Nat} {args:List AV} {b:Bool} (h:qj T pr k f args b=true):aB P f args (.bool b):=by
 unfold qj at h
 split at h
 ·rename_i x h' en hp hc
  have e0:x=b:=by cases x<;>cases b<;>first|rfl|cases h
  subst e0
  obtain ⟨⟨h1,h1',tc,ac⟩,-⟩:=jI (σ:=fun _=>(.skip,.skip)) ok nm hpr (tG ok nm hpr k _ [] (fun r h=>by cases h)) hc
  rw[rZ,tD] at tc
  have e:h1=H0 0 0:=by
   rcases tc with tc|⟨-,e,-⟩
   ·refine H.ext (fun j=>?_) tc.n ?_ tc.m
    ·cases hj:h1.objs j with
     |none=>rfl
     |some o=>have:=tc.sub.1 j o hj;simp[H0,H.only,af] at this
    ·cases ht:h1.toks with
     |nil=>rfl
     |cons t l=>have:=tc.sub.2 t (by rw[ht];simp);simp[H0,H.only] at this
   ·exact e
  subst e
  exact ac.pZ (bo _ hp) (aa.refl _) (bW _ rfl)
 ·cases h
noncomputable def xy:dY:=fun _ _ _=>none
theorem kJ:iA P xy:=fun _ _ _ _ _ _ _ h=>by cases h
end
end Go.Av
end
section
namespace Go.Av
section
variable {P:Program} {N:Nat}
theorem ah.evA:∀{items its:List aE} {t t':Tm} {h h':H} {log log':List Ent} {K:Tm→H→Prop},bM items t h log=(its,t',h',log')→ah P N its t' h' K→ah P N items t h K
 |[],its,t,t',h,h',log,log',K,he,hw=>by simp only[bM,Prod.mk.injEq] at he;obtain ⟨rfl,rfl,rfl,rfl⟩:=he;exact hw
 |it::items,its,t,t',h,h',log,log',K,he,hw=>by
  simp only[bM] at he
  split at he
  ·rename_i hg
   split at he
   ·rename_i x h2 en hx
    refine ah.step (fun ops i o ho hit=>?_) (ah.evA he hw)
    obtain ⟨h1,h1',tc,run⟩:=ij ho hit hg hx
    exact (fK.qe (N:=N) (full:=false) (.inl tc) run)
   ·simp only[Prod.mk.injEq] at he;obtain ⟨rfl,rfl,rfl,rfl⟩:=he;exact hw
  ·rename_i hg
   exact ah.step (fun ops i o ho hit=>fK.qe (N:=N) (full:=false) (.inl (bF h)) (gB ho hit hg)) (ah.evA he hw)
  ·simp only[Prod.mk.injEq] at he;obtain ⟨rfl,rfl,rfl,rfl⟩:=he;exact hw
theorem ah.evF {items its:List aE} {t t':Tm} {h h':H} {log:List Ent} {K:Tm→H→Prop} (he:gP items t h []=some (its,t',h',log)) (hw:ah P N its t' h' K):ah P N items t h K:=ah.evA (fZ he) hw
theorem Wp.cW {items its:List aE} {s:St} {Q:aC→St→Prop} {t':Tm} {h':H} {log:List Ent} (he:gP items s.t s.h []=some (its,t',h',log)) (h:ah P N its t' h' fun t h=>Q .normal ⟨t,h⟩):Wp P N (.reg items none) s Q:=Wp.xn (ah.evF he h)
theorem Wp.bw {items its:List aE} {y:AC} {s:St} {Q:aC→St→Prop} {t':Tm} {h':H} {log:List Ent} (he:gP items s.t s.h []=some (its,t',h',log)) (h:ah P N its t' h' fun t h=>Wp P N y ⟨t,h⟩ Q):Wp P N (.seq (.reg items none) y) s Q:=Wp.seq (Wp.cW he h)
theorem ah.kC {dst:Option Nat} {g:Option (Nat × Bool)} {f:FuncId} {l:List Opd} {its:List aE} {t:Tm} {h h':H} {K:Tm→H→Prop} {vals:List AV} {r:AV} (hg:guardOf t g=some true) (hs:al (l.map (ev t)) vals) (hn:h.n≤h'.n∧h.m≤h'.m) (hc:aM P f vals h r h')
  (rest:ah P N its (aY t dst r) h' K):ah P N (⟨dst,g,.call f l⟩::its) t h K:=
 ah.step (fun ops i o ho hit=>kW.full hn (dV ho hit hg rfl hs hc)) rest
theorem ah.aN {dst:Option Nat} {g:Option (Nat × Bool)} {f:FuncId} {l:List Opd} {its:List aE} {t:Tm} {h:H} {K:Tm→H→Prop} {vals:List AV} {r:AV} (hg:guardOf t g=some true) (hs:al (l.map (ev t)) vals) (hc:aB P f vals r)
  (rest:ah P N its (aY t dst r) h K):ah P N (⟨dst,g,.call f l⟩::its) t h K:=
 ah.step (fun ops i o ho hit=>fK.qe (N:=N) (full:=false) (.inl (bF h)) (dV ho hit hg rfl hs (hc h.n h.m))) rest
theorem aM.frame {f:FuncId} {args:List AV} {h h1 h1':H} {r:AV} (hs:h1.sub h) (hn:h1.n=h.n) (hm:h1.m=h.m) (ln:h1.n≤h1'.n) (lm:h1.m≤h1'.m) (hc:aM P f args h1 r h1'):aM P f args h r (h.patch h1 h1'):=by
 intro G w vs hv R F
 have F1:bD G h1 h1':=⟨fun id a b=>F.1 id (by omega) b,fun t a b=>F.2 t (by omega) b⟩
 refine (hc G w vs hv (R.sub hs) F1).mono ?_
 rintro e w' ⟨v,G',rfl,T,R',V⟩
 obtain ⟨R2,T2⟩:=Av.frame R hs hn hm R' T F1
 exact ⟨v,G',rfl,T2,R2,V⟩
end
end Go.Av
end
section
namespace Go.Av
theorem rf0 {F X Y:Prop} (f:F) (y:Y) (h:F→Hid Y→X:=by
 intro f y
 repeat (first
  |refine ah.nil ?_
  |((first|apply Wp.bw|apply Wp.cW);(· simp only[go_sem,reduceIte,Nat.reduceEqDiff,Nat.reduceAdd,bx,ax,if_true,if_false,Nat.reduceMul,Nat.reduceLeDiff,f];exact rfl))
  |(apply Wp.aL;(· simp only[go_sem,reduceIte,Nat.reduceEqDiff,Nat.reduceAdd,bx,ax,if_true,if_false,Nat.reduceMul,Nat.reduceLeDiff,f];exact rfl);(· rfl))
  |refine Wp.skip ?_
  |refine Wp.label ?_
  |refine Wp.block ?_
  |refine Wp.exit ?_
  |refine Wp.seq ?_
  |exact y.1)):X:=h f ⟨y⟩
theorem gV {X Y:Prop} (y:Y) (h:Hid Y→X:=by
 intro y
 repeat (first
  |refine ah.nil ?_
  |((first|apply Wp.bw|apply Wp.cW);(· simp only[go_sem,reduceIte,Nat.reduceEqDiff,Nat.reduceAdd,bx,ax,if_true,if_false,Nat.reduceMul,Nat.reduceLeDiff];exact rfl))
  |(apply Wp.aL;(· simp only[go_sem,reduceIte,Nat.reduceEqDiff,Nat.reduceAdd,bx,ax,if_true,if_false,Nat.reduceMul,Nat.reduceLeDiff];exact rfl);(· rfl))
  |refine Wp.skip ?_
  |refine Wp.label ?_
  |refine Wp.block ?_
  |refine Wp.exit ?_
  |refine Wp.seq ?_
  |exact y.1)):X:=h ⟨y⟩
theorem rf1 {F C0 X Y:Prop} (f:F) (c0:C0) (y:Y) (h:F→C0→Hid Y→X:=by
 intro f c0 y
 repeat (first
  |refine ah.nil ?_
  |((first|apply Wp.bw|apply Wp.cW|((first
   |(refine ah.aN ?_ ?_ c0 ?_;(· simp only[go_sem,reduceIte,Nat.reduceEqDiff,Nat.reduceAdd,bx]);(· simp only[go_sem,reduceIte,Nat.reduceEqDiff,Nat.reduceAdd,bx,List.map,go_sem,reduceIte,Nat.reduceEqDiff,Nat.reduceAdd,bx,ax,if_true,if_false,Nat.reduceMul,Nat.reduceLeDiff,f];first|exact al.refl _|assumption|(repeat (first|exact al.nil|refine al.cons (by first|exact aa.refl _|assumption|exact aa.cap|exact aa.any _) ?_)))));apply ah.evF));(· simp only[go_sem,reduceIte,Nat.reduceEqDiff,Nat.reduceAdd,bx,ax,if_true,if_false,Nat.reduceMul,Nat.reduceLeDiff,f];exact rfl))
  |(apply Wp.aL;(· simp only[go_sem,reduceIte,Nat.reduceEqDiff,Nat.reduceAdd,bx,ax,if_true,if_false,Nat.reduceMul,Nat.reduceLeDiff,f];exact rfl);(· rfl))
  |refine Wp.skip ?_
  |refine Wp.label ?_
  |refine Wp.block ?_
  |refine Wp.exit ?_
  |refine Wp.seq ?_
  |exact y.1)):X:=h f c0 ⟨y⟩
theorem oY {C0 X Y:Prop} (c0:C0) (y:Y) (h:C0→Hid Y→X:=by
 intro c0 y
 repeat (first
  |refine ah.nil ?_
  |((first|apply Wp.bw|apply Wp.cW|((first
   |(refine ah.aN ?_ ?_ c0 ?_;(· simp only[go_sem,reduceIte,Nat.reduceEqDiff,Nat.reduceAdd,bx]);(· simp only[go_sem,reduceIte,Nat.reduceEqDiff,Nat.reduceAdd,bx,List.map,go_sem,reduceIte,Nat.reduceEqDiff,Nat.reduceAdd,bx,ax,if_true,if_false,Nat.reduceMul,Nat.reduceLeDiff];first|exact al.refl _|assumption|(repeat (first|exact al.nil|refine al.cons (by first|exact aa.refl _|assumption|exact aa.cap|exact aa.any _) ?_)))));apply ah.evF));(· simp only[go_sem,reduceIte,Nat.reduceEqDiff,Nat.reduceAdd,bx,ax,if_true,if_false,Nat.reduceMul,Nat.reduceLeDiff];exact rfl))
  |(apply Wp.aL;(· simp only[go_sem,reduceIte,Nat.reduceEqDiff,Nat.reduceAdd,bx,ax,if_true,if_false,Nat.reduceMul,Nat.reduceLeDiff];exact rfl);(· rfl))
  |refine Wp.skip ?_
  |refine Wp.label ?_
  |refine Wp.block ?_
  |refine Wp.exit ?_
  |refine Wp.seq ?_
  |exact y.1)):X:=h c0 ⟨y⟩
theorem rf2 {F C0 C1 X Y:Prop} (f:F) (c0:C0) (c1:C1) (y:Y) (h:F→C0→C1→Hid Y→X:=by
 intro f c0 c1 y
 repeat (first
  |refine ah.nil ?_
  |((first|apply Wp.bw|apply Wp.cW|((first
   |(refine ah.aN ?_ ?_ c0 ?_;(· simp only[go_sem,reduceIte,Nat.reduceEqDiff,Nat.reduceAdd,bx]);(· simp only[go_sem,reduceIte,Nat.reduceEqDiff,Nat.reduceAdd,bx,List.map,go_sem,reduceIte,Nat.reduceEqDiff,Nat.reduceAdd,bx,ax,if_true,if_false,Nat.reduceMul,Nat.reduceLeDiff,f];first|exact al.refl _|assumption|(repeat (first|exact al.nil|refine al.cons (by first|exact aa.refl _|assumption|exact aa.cap|exact aa.any _) ?_))))
   |(refine ah.aN ?_ ?_ c1 ?_;(· simp only[go_sem,reduceIte,Nat.reduceEqDiff,Nat.reduceAdd,bx]);(· simp only[go_sem,reduceIte,Nat.reduceEqDiff,Nat.reduceAdd,bx,List.map,go_sem,reduceIte,Nat.reduceEqDiff,Nat.reduceAdd,bx,ax,if_true,if_false,Nat.reduceMul,Nat.reduceLeDiff,f];first|exact al.refl _|assumption|(repeat (first|exact al.nil|refine al.cons (by first|exact aa.refl _|assumption|exact aa.cap|exact aa.any _) ?_)))));apply ah.evF));(· simp only[go_sem,reduceIte,Nat.reduceEqDiff,Nat.reduceAdd,bx,ax,if_true,if_false,Nat.reduceMul,Nat.reduceLeDiff,f];exact rfl))
  |(apply Wp.aL;(· simp only[go_sem,reduceIte,Nat.reduceEqDiff,Nat.reduceAdd,bx,ax,if_true,if_false,Nat.reduceMul,Nat.reduceLeDiff,f];exact rfl);(· rfl))
  |refine Wp.skip ?_
  |refine Wp.label ?_
  |refine Wp.block ?_
  |refine Wp.exit ?_
  |refine Wp.seq ?_
  |exact y.1)):X:=h f c0 c1 ⟨y⟩
theorem CQ {C0 C1 X Y:Prop} (c0:C0) (c1:C1) (y:Y) (h:C0→C1→Hid Y→X:=by
 intro c0 c1 y
 repeat (first
  |refine ah.nil ?_
  |((first|apply Wp.bw|apply Wp.cW|((first
   |(refine ah.aN ?_ ?_ c0 ?_;(· simp only[go_sem,reduceIte,Nat.reduceEqDiff,Nat.reduceAdd,bx]);(· simp only[go_sem,reduceIte,Nat.reduceEqDiff,Nat.reduceAdd,bx,List.map,go_sem,reduceIte,Nat.reduceEqDiff,Nat.reduceAdd,bx,ax,if_true,if_false,Nat.reduceMul,Nat.reduceLeDiff];first|exact al.refl _|assumption|(repeat (first|exact al.nil|refine al.cons (by first|exact aa.refl _|assumption|exact aa.cap|exact aa.any _) ?_))))
   |(refine ah.aN ?_ ?_ c1 ?_;(· simp only[go_sem,reduceIte,Nat.reduceEqDiff,Nat.reduceAdd,bx]);(· simp only[go_sem,reduceIte,Nat.reduceEqDiff,Nat.reduceAdd,bx,List.map,go_sem,reduceIte,Nat.reduceEqDiff,Nat.reduceAdd,bx,ax,if_true,if_false,Nat.reduceMul,Nat.reduceLeDiff];first|exact al.refl _|assumption|(repeat (first|exact al.nil|refine al.cons (by first|exact aa.refl _|assumption|exact aa.cap|exact aa.any _) ?_)))));apply ah.evF));(· simp only[go_sem,reduceIte,Nat.reduceEqDiff,Nat.reduceAdd,bx,ax,if_true,if_false,Nat.reduceMul,Nat.reduceLeDiff];exact rfl))
  |(apply Wp.aL;(· simp only[go_sem,reduceIte,Nat.reduceEqDiff,Nat.reduceAdd,bx,ax,if_true,if_false,Nat.reduceMul,Nat.reduceLeDiff];exact rfl);(· rfl))
  |refine Wp.skip ?_
  |refine Wp.label ?_
  |refine Wp.block ?_
  |refine Wp.exit ?_
  |refine Wp.seq ?_
  |exact y.1)):X:=h c0 c1 ⟨y⟩
end Go.Av
end
section
namespace Go.Av
section
variable {P:Program} {N:Nat}
def tH (P:Program) (f:FuncId) (args:Nat→List AV) (r:Nat→AV):Prop:=∀t n m,∃t' n' m',n≤n'∧m≤m'∧aM P f (args t) (.only af [t] n m) (r t') (.only af [t'] n' m')
theorem ah.BB {dst:Option Nat} {g:Option (Nat × Bool)} {f:FuncId} {l:List Opd} {its:List aE} {t:Tm} {h:H} {K:Tm→H→Prop} {args:Nat→List AV} {r:Nat→AV} (tk:Nat) (hg:guardOf t g=some true) (hs:al (l.map (ev t)) (args tk)) (hk:tk∈h.toks) (hz:∀j,h.n≤j→h.objs j=none) (hc:tH P f args r)
  (rest:∀tk' n' m',h.n≤n'→h.m≤m'→ah P N its (aY t dst (r tk')) {h with n:=n',toks:=tk'::h.toks.filter (· ≠tk),m:=m'} K):ah P N (⟨dst,g,.call f l⟩::its) t h K:=by
 obtain ⟨tk',n',m',hn,hm,ha⟩:=hc tk h.n h.m
 have hsub:(H.only af [tk] h.n h.m).sub h:=⟨fun id o a=>absurd a (by simp[H.only,af]),fun t ht=>by
  have:t=tk:=by simpa [H.only] using ht
  subst this;exact hk⟩
 have hf:=aM.frame (h:=h) (h1':= .only af [tk'] n' m') hsub rfl rfl hn hm ha
 have e:h.patch (.only af [tk] h.n h.m) (.only af [tk'] n' m')= {h with n:=n',toks:=tk'::h.toks.filter (· ≠tk),m:=m'}:=by
  unfold H.patch
  simp only[H.only]
  congr 1
  ·funext j
   simp only[af,Option.isSome_none,Bool.false_eq_true,false_or]
   split
   ·rename_i hj;rw[hz j hj.1]
   ·rfl
  ·simp only[List.singleton_append,List.cons.injEq,true_and]
   congr 1
   funext t
   by_cases h:t=tk<;>simp[h]
 rw[e] at hf
 exact ah.kC hg hs ⟨hn,hm⟩ hf (rest tk' n' m' hn hm)
theorem ah.bJ {dst:Option Nat} {g:Option (Nat × Bool)} {f:FuncId} {l:List Opd} {its:List aE} {t:Tm} {h:H} {K:Tm→H→Prop} {args:Nat→List AV} {r:Nat→AV} (tk:Nat) (hg:guardOf t g=some true) (hs:al (l.map (ev t)) (args tk)) (hk:tk∈h.toks) (hc:fH P f args r)
  (rest:∀tk' m',h.m≤m'→ah P N its (aY t dst (r tk')) {h with toks:=tk'::h.toks.filter (· ≠tk),m:=m'} K):ah P N (⟨dst,g,.call f l⟩::its) t h K:=by
 obtain ⟨tk',m',hm,ha⟩:=hc tk h.n h.m
 obtain ⟨s1,s2,s3,s4,-⟩:=jD (tk':=tk') h hk hm
 have hf:=aM.frame (h:=h) (h1':= .only af [tk'] h.n m') s1 s2 s3 (Nat.le_refl _) hm ha
 rw[←s4] at hf
 exact ah.kC (h':={h with toks:=tk'::h.toks.filter (· ≠tk),m:=m'}) hg hs ⟨Nat.le_refl _,hm⟩ hf (rest tk' m' hm)
end
end Go.Av
end
section
namespace Go.Av
section
variable {P:Program} {N:Nat} {o:Oper} {t:Tm} {h:H}
end
end Go.Av
end
section
namespace Go.Av
section
variable {P:Program} {N:Nat} {o:Oper} {t:Tm} {h:H} {G:aD} {w:World}
def u8V (l:List UInt8):List Value:=l.map fun b=>Value.int .u8 b.toNat
def xz (l:List UInt8) (x:Option Go.Obj):Prop:=∃rest T fr,x=some (.cells (u8V l++rest).toArray T fr)∧∀j,j<l.length+rest.length→¬(fr.1≤j∧j<fr.2)
def cH (l:List UInt8):Obj:= .raw (xz l)
theorem sf (l:List UInt8):(u8V l).length=l.length:=by simp[u8V]
theorem Ae (l:List UInt8):aq G w (an l) (u8V l):=by
 induction l with
 |nil=>simp[an,u8V,aq]
 |cons b l ih=>
  simp only[an,u8V,List.map_cons,aq]
  exact ⟨_,_,rfl,by simp[byte,ak],ih⟩
theorem Af {w':World} {ob:Go.Obj} {p:Option Go.Obj→Prop} {n m:Nat} (hp:bR w w' ob) (hr:p (some ob)) (hf:¬G.dom n):
  ∃G',Trans G w (.only af [] n m) G' w' (.only (upd af n (some (.raw p))) [] (n+1) m)∧aK G' (.only (upd af n (some (.raw p))) [] (n+1) m) w'∧G'.dom n∧G'.ι n=w.heap.size:=by
 let G':aD:={G with dom:=fun id=>G.dom id∨id=n,ι:=upd G.ι n w.heap.size,own:=fun B=>if B=w.heap.size then True else G.own B}
 have hi:G'.ι n=w.heap.size:=by simp[G',upd]
 have hO:∀B,¬(H.only af [] n m).O G B:=fun B ⟨id,o,ho,_⟩=>by simp[H.only,af] at ho
 have hT:∀B,¬(H.only af [] n m).T G B:=fun B ⟨t,ht,_⟩=>by simp[H.only] at ht
 have hobj:∀{id o},(H.only (upd af n (some (.raw p))) [] (n+1) m).objs id=some o→id=n∧o= .raw p:=by
  intro id o ho
  simp only[H.only,upd,af] at ho
  split at ho
  ·cases ho;exact ⟨‹_›,rfl⟩
  ·cases ho
 have T:Trans G w (.only af [] n m) G' w' (.only (upd af n (some (.raw p))) [] (n+1) m):=by
  refine eW hp hO (fun B ht=>absurd ht (hT B)) (fun _=> .inl) ?_ ?_ (fun _ x=>x) (fun _=> .inl) (fun _ _=>rfl) (by simp[H.only]) (by simp[H.only]) ?_ (fun _ _=>rfl) ?_ ?_ ?_ ?_
  ·rintro id (x|rfl)
   ·exact .inl x
   ·exact .inr ⟨by simp[H.only],by simp[H.only]⟩
  ·intro id hd
   simp only[G',upd]
   split
   ·rename_i e;subst e;exact absurd hd hf
   ·rfl
  ·intro B hB
   simp only[G']
   rw[if_neg (by omega)]
  ·rintro B hB ⟨id,o,ho,e⟩
   obtain ⟨rfl,rfl⟩:=hobj ho
   rw[hi] at e;omega
  ·rintro B hB ⟨t,ht,_⟩
   simp[H.only] at ht
  ·intro j o ho
   obtain ⟨rfl,rfl⟩:=hobj ho
   exact .inr ⟨by simp[H.only],by simp[H.only]⟩
  ·intro t ht;simp[H.only] at ht
 refine ⟨G',T,⟨?_,?_,?_,?_⟩,.inr rfl,hi⟩
 ·intro id o ho
  obtain ⟨rfl,rfl⟩:=hobj ho
  refine ⟨.inr rfl,by rw[hi];simp[G'],by rw[hi,hp.size];omega,?_⟩
  rw[hi,hp.new]
  exact hr
 ·intro id id' o o' ho ho' _
  rw[(hobj ho).1,(hobj ho').1]
 ·intro t ht;simp[H.only] at ht
 ·intro t ht;simp[H.only] at ht
theorem iB {id n m:Nat} {c:Obj} {j:Nat} {o:Obj} (ho:(H.only (upd af id (some c)) [] n m).objs j=some o):j=id∧o=c:=by
 simp only[H.only,upd,af] at ho
 split at ho
 ·cases ho;exact ⟨‹_›,rfl⟩
 ·cases ho
theorem xA {src dst e:TypeId} {z:Operand} {y:Opd} {l:List UInt8} (hop:o.op= .convert src dst z) (hs:P.underlying src=some .string) (hd:P.underlying dst=some (.slice e)) (he:P.underlying e=some (.int .u8))
  (hy:opd P src z=some y) (hx:ev t y= .str l) (hl:l.length≤1000000):Loc P o t h (.tsl 1 h.n 0 l.length none) {h with objs:=upd h.objs h.n (some (cH l)),n:=h.n+1} ⟨[],[h.n],[]⟩:=by
 refine ⟨_,_,dT h _,fun G w a ht R F=>?_⟩
 have r:=ar hy ht
 rw[hx] at r
 simp only[ak] at r
 have hsz:(ByteArray.mk l.toArray).size=l.length:=by simp[ByteArray.size]
 have hrun:=run_bytes_of_string w src dst e ⟨l.toArray⟩ hs hd he
 rw[hsz] at hrun
 have hge:=grownCap_ge w l.length 0 e
 have hle:=grownCap_le_maxLen w l.length 0 e (by unfold maxLen;omega)
 unfold maxLen at hle
 generalize grownCap w l.length 0 e=C at*
 have hrow:bytesRow ⟨l.toArray⟩ C=(u8V l++List.replicate (C - l.length) (Value.int .u8 0)).toArray:=by
  simp[bytesRow,hsz,u8V]
 have hsz2:(u8V l++List.replicate (C - l.length) (Value.int .u8 0)).toArray.size=l.length+(C - l.length):=by simp[u8V]
 rw[hrow,hsz2] at hrun
 have hp:bR w (w.drew.alloc (.cells (u8V l++List.replicate (C - l.length) (Value.int .u8 0)).toArray e (l.length+(C - l.length),l.length+(C - l.length)+1))) _:=⟨rfl,rfl,rfl⟩
 obtain ⟨G',T1,R1,d1,i1⟩:=Af (n:=h.n) (m:=h.m) (p:=xz l) hp ⟨_,_,_,rfl,by intro j hj;simp at hj ⊢;omega⟩ (gx F (by simp[H.only]))
 refine ⟨.value (.slice (some ⟨w.heap.size,0,none⟩) l.length C),_,_,G',?_,.inl rfl,T1,R1,?_⟩
 ·simp only[execOp,hop,r,Sem.run_bind,hrun,Result.andThen_ok,Sem.run_pure]
 ·unfold ak
  refine ⟨d1,.inl ⟨C,_,_,_,by rw[i1],⟨hge,by omega⟩,(fun _ h=>by cases h),by rw[i1];exact hp.new,by simp[u8V];omega⟩⟩
theorem vq {ty:TypeId} {z:Operand} {y:Opd} {id off:Nat} {l:List UInt8} (hop:o.op= .load ty z) (h1:(P.info? ty).isSome=true) (h2:(P.underlying ty).isSome=true) (hag:aT P ty=false) (hy:opd P 0 z=some y)
  (hp:ev t y= .ptr id off) (ho:h.objs id=some (cH l)) (hl:off<l.length):Loc P o t h (.int .u8 (l.getD off 0).toNat) h ⟨[id],[],[]⟩:=by
 refine ⟨_,_,di h ho,fun G w a ht R F=>?_⟩
 have r1:=ar hy ht
 rw[hp] at r1
 simp only[ak] at r1
 obtain ⟨-,-,-,rest,T,fr,hg,-⟩:=R.obj id (cH l) (by simp[H.only,upd])
 have hc:∀j v,(u8V l)[j]? =some v→w.cell? ⟨G.ι id,j,none⟩=some v:=by
  intro j v hj
  have hj':j<(u8V l).length:=(List.getElem?_eq_some_iff.1 hj).1
  unfold World.cell?;simp only[hg];simpa [List.getElem?_append_left hj'] using hj
 have hx':part 0 (if aT P ty then some (P.cellsOf ty) else none) ((an l).drop off)=some (.int .u8 (l.getD off 0).toNat):=by
  rw[hag]
  simp[part,an,byte,hl,List.getD,List.getElem?_drop,List.getElem?_eq_getElem hl]
 obtain ⟨v,e1,e2⟩:=jg hop h1 h2 hy ht r1.2 ((Ae l).drop off) (fun j v hj=>hc _ v (by simpa [List.getElem?_drop] using hj)) hx'
 exact ⟨_,v,w,G,e1,.inl rfl,Trans.refl _ _ _,R,e2⟩
theorem si {ty:TypeId} {z1 z2:Operand} {y1 y2:Opd} {id off:Nat} {l:List UInt8} {b:UInt8} (hop:o.op= .store ty z1 z2) (h1:(P.info? ty).isSome=true) (hone:P.cellsOf ty=1) (hy1:opd P 0 z1=some y1) (hy2:opd P ty z2=some y2)
  (hp:ev t y1= .ptr id off) (ho:h.objs id=some (cH l)) (hv:ev t y2= .int .u8 b.toNat) (hl:off<l.length):
  Loc P o t h .any {h with objs:=upd h.objs id (some (cH (l.set off b)))} ⟨[],[id],[]⟩:=by
 refine ⟨_,_,eC h ho,fun G w a ht R F=>?_⟩
 have r1:=ar hy1 ht
 have r2:=ar hy2 ht
 rw[hp] at r1
 rw[hv] at r2
 simp only[ak] at r1 r2
 have hme:∀{c:Obj},(H.only (upd af id (some c)) [] h.n h.m).objs id=some c:=by intro c;simp[H.only,upd]
 obtain ⟨d1,d2,d3,rest,T,fr,hg,hfr⟩:=R.obj id (cH l) hme
 have hul:=sf l
 have hcell:∀j,j< [Value.int .u8 b.toNat].length→(w.cell? ⟨G.ι id,off+0+j,none⟩).isSome=true:=fun j hj=>by
  simp only[List.length_cons,List.length_nil] at hj
  unfold World.cell?;simp only[hg];simp;omega
 have hfrz:∀j,j< [Value.int .u8 b.toNat].length→w.frozen? ⟨G.ι id,off+0+j,none⟩=false:=fun j hj=>by
  simp only[List.length_cons,List.length_nil] at hj
  unfold World.frozen?;simp only[hg]
  simpa using hfr (off+0+j) (by omega)
 have hrun:=run_storeCells_cells (P:=P) (G.ι id) off [Value.int .u8 b.toNat] 0 w hcell hfrz (fun v hv=>by
  simp only[List.mem_singleton] at hv;subst hv;rfl)
 rw[Nat.add_zero] at hrun
 obtain ⟨a1,a2,a3,a4,a5⟩:=cX (G.ι id) T fr [Value.int .u8 b.toNat] off (u8V l++rest) w hg (by simp;omega)
 have ecur:(u8V l++rest).take off++[Value.int .u8 b.toNat]++(u8V l++rest).drop (off+[Value.int .u8 b.toNat].length)=u8V (l.set off b)++rest:=by
  rw[List.take_append_of_le_length (by omega),List.drop_append_of_le_length (by simp;omega)]
  rw[←List.append_assoc]
  congr 1
  simp only[u8V,List.length_cons,List.length_nil,←List.map_take,←List.map_drop,List.map_set]
  rw[List.set_eq_take_append_cons_drop,if_pos (by simpa using hl)]
  simp[List.map_take,List.map_drop]
 rw[ecur] at a1
 clear hcell hfrz
 generalize w.setCells (G.ι id) off [Value.int .u8 b.toNat]=w1 at*
 have T1:Trans G w (.only (upd af id (some (cH l))) [] h.n h.m) G w1 (.only (upd af id (some (cH (l.set off b)))) [] h.n h.m):=by
  constructor
  ·exact fun _ x=>x
  ·exact fun _=> .inl
  ·exact fun _ _=>rfl
  ·exact fun _ x=>x
  ·exact fun _=> .inl
  ·exact fun _ _=>rfl
  ·exact Nat.le_refl _
  ·exact Nat.le_refl _
  ·rw[a3];exact Nat.le_refl _
  ·exact a4
  ·exact a5
  ·intro B hB
   by_cases hBi:B=G.ι id
   ·subst hBi
    rw[a1,hg]
    exact ⟨_,_,rfl,by simp[u8V],fun _ _ h=>h⟩
   ·rw[a2 B hBi];exact aU.refl _
  ·intro B hB hO _
   exact a2 B fun e=>hO ⟨id,_,hme,e.symm⟩
  ·exact fun _ _ _=>Iff.rfl
  ·exact fun _ _ _ _=>rfl
  ·rintro B hB ⟨t,ht,_⟩;simp[H.only] at ht
  ·rintro B hB ⟨j,o,ho,e⟩
   obtain ⟨rfl,rfl⟩:=iB ho
   exact ⟨_,_,hme,e⟩
  ·rintro B hB ⟨t,ht,_⟩;simp[H.only] at ht
  ·intro j o ho
   obtain ⟨rfl,rfl⟩:=iB ho
   exact .inl ⟨_,hme⟩
  ·intro t ht;simp[H.only] at ht
 refine ⟨.skip,undef,w1,G,?_,.inr ⟨rfl,rfl⟩,T1,⟨?_,?_,?_,?_⟩,by simp[ak]⟩
 ·simp[execOp,hop,Instr.storeAt,r1.2,Instr.sureAddr,storeVar,bm P w ty h1,hone,r2,Value.cells,hrun]
 ·intro j o ho
  obtain ⟨rfl,rfl⟩:=iB ho
  refine ⟨d1,d2,by rw[a3];exact d3,?_⟩
  rw[a1]
  exact ⟨rest,T,fr,rfl,fun j hj=>hfr j (by simpa using hj)⟩
 ·intro j j' o o' ho ho' _
  rw[(iB ho).1,(iB ho').1]
 ·intro t ht;simp[H.only] at ht
 ·intro t ht;simp[H.only] at ht
theorem xB {src dst e:TypeId} {z:Operand} {y:Opd} {id:Nat} {cp:Option Nat} {l:List UInt8} (hop:o.op= .convert src dst z) (hs:P.underlying src=some (.slice e)) (he:P.underlying e=some (.int .u8)) (hd:P.underlying dst=some .string)
  (hy:opd P src z=some y) (hx:ev t y= .tsl 1 id 0 l.length cp) (ho:h.objs id=some (cH l)) (hl:0<l.length):Loc P o t h (.str l) h ⟨[id],[],[]⟩:=by
 refine ⟨_,_,di h ho,fun G w a ht R F=>?_⟩
 have r:=ar hy ht
 rw[hx] at r
 simp only[ak] at r
 obtain ⟨hd1,⟨C,c,T1,fr1,hv,hC,hk,hg1,hroom⟩|⟨h0,-⟩⟩:=r
 ·obtain ⟨-,-,-,rest,T,fr,hg,-⟩:=R.obj id (cH l) (by simp[H.only,upd])
  have hc:∀j v,(u8V l)[j]? =some v→w.cell? ⟨G.ι id,j,none⟩=some v:=by
   intro j v hj
   have hj':j<(u8V l).length:=(List.getElem?_eq_some_iff.1 hj).1
   unfold World.cell?;simp only[hg];simpa [List.getElem?_append_left hj'] using hj
  have:=run_convert_bytes_arg w src e hs he (G.ι id) 0 l.length C (l.map fun b=>(b.toNat:Int)) (by simp) (fun i hi=>by
   rw[Nat.zero_add]
   refine hc i _ ?_
   simp[u8V,List.getElem?_eq_getElem hi,List.getD]) dst hd
  refine ⟨.value (.string ⟨l.toArray⟩),_,w,G,?_,.inl rfl,Trans.refl _ _ _,R,by simp only[ak]⟩
  have hstr:strOfNums (l.map fun b=>(b.toNat:Int))=⟨l.toArray⟩:=by
   simp[strOfNums,Function.comp_def]
  rw[hstr] at this
  simp[execOp,hop,hv,this]
 ·omega
theorem vr {ops:Array Oper} {i:Nat} {o:Oper} {it:aE} {t:Tm} {h h':H} {x:AV} {en:Ent} (ho:ops[i]? =some o) (hit:bA P N ops o=some it) (hg:guardOf t it.guard=some true) (hn:it.op≠ .dead) (hr:nz it.op=false)
  (hx:∀t',(∀y∈aX it.op,ev t' y=ev t y)→cOp P o=some it.op→Loc P o t' h x h' en):
  ∃h1 h1',Touch h h1 h1' h' en∧dK P ops i o t h1 x h1':=by
 unfold bA at hit
 split at hit
 ·rename_i op g hop hgd
  split at hit<;>cases hit
  rename_i hcond
  simp only[Bool.and_eq_true] at hcond
  have hop:=fv hop hn hr
  obtain ⟨h1,h1',tc,loc⟩:=hx (fY (names ops o) t) (hX hcond.2) hop
  refine ⟨h1,h1',tc,fun G w a ht R F K Q hK ro=>?_⟩
  obtain ⟨nx,v,w',G',e1,e2,T1,R1,V⟩:=loc G w a (er ht) R F
  unfold wpOpIn
  rw[ho]
  simp only[bG hgd ht hg,if_true]
  refine ⟨fun _ _=>trivial,?_⟩
  rw[Oper.semAt_eq _ _ _ (dB hop),e1]
  rcases e2 with rfl|⟨rfl,rfl⟩
  ·rw[Oper.uponIn_value];exact hK G' w' v T1 R1 V
  ·rw[Oper.uponIn_skip];exact hK G' w' undef T1 R1 V
 ·cases hit
theorem ah.loc {it:aE} {its:List aE} {t:Tm} {h h':H} {en:Ent} {K:Tm→H→Prop} {x:AV} (hg:guardOf t it.guard=some true) (hn:it.op≠ .dead) (hr:nz it.op=false)
  (hx:∀(o:Oper) t',(∀y∈aX it.op,ev t' y=ev t y)→cOp P o=some it.op→Loc P o t' h x h' en)
  (rest:ah P N its (aY t it.dst x) h' K):ah P N (it::its) t h K:=
 ah.step (it:=it) (fun ops i o ho hit=>by
  obtain ⟨h1,h1',tc,run⟩:=vr ho hit hg hn hr (hx o)
  exact fK.qe (N:=N) (full:=false) (.inl tc) run) rest
theorem Ag {y:Opd} (h:cOp P o=some (.conv .s2b y)):∃src dst e z,o.op= .convert src dst z∧P.underlying src=some .string∧P.underlying dst=some (.slice e)∧P.underlying e=some (.int .u8)∧opd P src z=some y:=by
 unfold cOp at h
 split at h
 case h_12 src dst z hop=>
  split at h
  ·cases h
  ·split at h<;>cases h
  ·split at h
   ·rename_i hq
    cases h
    exact ⟨_,_,_,z,hop,‹_›,‹_›,jA hq.1,‹_›⟩
   ·cases h
  ·cases h
  ·split at h<;>cases h
  ·cases h
 all_goals first
  |(cases h;done)
  |(simp at h;done)
  |((repeat' split at h)<;>(try cases h)<;>(try simp at h);done)
  |skip
theorem Ah {y:Opd} (h:cOp P o=some (.conv .b2s y)):∃src dst e z,o.op= .convert src dst z∧P.underlying src=some (.slice e)∧P.underlying dst=some .string∧P.underlying e=some (.int .u8)∧opd P src z=some y:=by
 unfold cOp at h
 split at h
 case h_12 src dst z hop=>
  split at h
  ·cases h
  ·split at h
   ·rename_i hq
    cases h
    exact ⟨_,_,_,z,hop,‹_›,‹_›,jA hq.1,‹_›⟩
   ·cases h
  ·split at h<;>cases h
  ·cases h
  ·split at h<;>cases h
  ·cases h
 all_goals first
  |(cases h;done)
  |(simp at h;done)
  |((repeat' split at h)<;>(try cases h)<;>(try simp at h);done)
  |skip
theorem vt {y:Opd} (h:cOp P o=some (.load none y)):∃ty z,o.op= .load ty z∧(P.info? ty).isSome=true∧(P.underlying ty).isSome=true∧aT P ty=false∧opd P 0 z=some y:=by
 unfold cOp at h
 split at h
 case h_8 ty z hop=>
  split at h
  ·rename_i hq
   simp only[Option.map_eq_some_iff] at h
   obtain ⟨y',hy,h⟩:=h
   simp only[AOp.load.injEq] at h
   obtain ⟨h,rfl⟩:=h
   refine ⟨ty,z,hop,hq.1,hq.2,?_,hy⟩
   cases hh:aT P ty
   ·rfl
   ·rw[hh] at h;cases h
  ·cases h
 all_goals first
  |(cases h;done)
  |(simp at h;done)
  |((repeat' split at h)<;>(try cases h)<;>(try simp at h);done)
  |skip
theorem sj {y x:Opd} (h:cOp P o=some (.store 1 y x)):∃ty z1 z2,o.op= .store ty z1 z2∧(P.info? ty).isSome=true∧P.cellsOf ty=1∧opd P 0 z1=some y∧opd P ty z2=some x:=by
 unfold cOp at h
 split at h
 case h_9 ty z1 z2 hop=>
  split at h
  ·rename_i hq
   split at h
   ·simp only[Option.some.injEq,AOp.store.injEq] at h
    obtain ⟨h,rfl,rfl⟩:=h
    exact ⟨ty,z1,z2,hop,hq.1,h,‹_›,‹_›⟩
   ·cases h
  ·cases h
 all_goals first
  |(cases h;done)
  |(simp at h;done)
  |((repeat' split at h)<;>(try cases h)<;>(try simp at h);done)
  |skip
theorem ah.op1 {it:aE} {its:List aE} {t:Tm} {h h':H} {en:Ent} {K:Tm→H→Prop} {x:AV} (hg:guardOf t it.guard=some true) (hx:aop (ev t) h it.op=some (x,h',en))
  (rest:ah P N its (aY t it.dst x) h' K):ah P N (it::its) t h K:=
 ah.step (it:=it) (fun ops i o ho hit=>by
  obtain ⟨h1,h1',tc,run⟩:=ij ho hit hg hx
  exact fK.qe (N:=N) (full:=false) (.inl tc) run) rest
variable {dst:Option Nat} {g:Option (Nat × Bool)} {its:List aE} {K:Tm→H→Prop} {y x:Opd} {l:List UInt8} {id off:Nat}
theorem ah.s2b (hg:guardOf t g=some true) (hx:ev t y= .str l) (hl:l.length≤1000000)
  (rest:ah P N its (aY t dst (.tsl 1 h.n 0 l.length none)) {h with objs:=upd h.objs h.n (some (cH l)),n:=h.n+1} K):ah P N (⟨dst,g,.conv .s2b y⟩::its) t h K:=
 ah.loc hg (by simp) rfl (fun o t' e hc=>by
  obtain ⟨src,ds,el,z,h1,h2,h3,h4,h5⟩:=Ag hc
  exact xA h1 h2 h3 h4 h5 ((e y (by simp[aX])).trans hx) hl) rest
theorem ah.Ba (hg:guardOf t g=some true) (hx:ev t y= .ptr id off) (ho:h.objs id=some (cH l)) (hl:off<l.length)
  (rest:ah P N its (aY t dst (.int .u8 (l.getD off 0).toNat)) h K):ah P N (⟨dst,g,.load none y⟩::its) t h K:=
 ah.loc hg (by simp) rfl (fun o t' e hc=>by
  obtain ⟨ty,z,h1,h2,h3,h4,h5⟩:=vt hc
  exact vq h1 h2 h3 h4 h5 ((e y (by simp[aX])).trans hx) ho hl) rest
theorem ah.xC {b:UInt8} (hg:guardOf t g=some true) (hx:ev t y= .ptr id off) (ho:h.objs id=some (cH l)) (hv:ev t x= .int .u8 b.toNat) (hl:off<l.length)
  (rest:ah P N its (aY t dst .any) {h with objs:=upd h.objs id (some (cH (l.set off b)))} K):ah P N (⟨dst,g,.store 1 y x⟩::its) t h K:=
 ah.loc hg (by simp) rfl (fun o t' e hc=>by
  obtain ⟨ty,z1,z2,h1,h2,h3,h4,h5⟩:=sj hc
  exact si h1 h2 h3 h4 h5 ((e y (by simp[aX])).trans hx) ho ((e x (by simp[aX])).trans hv) hl) rest
theorem ah.b2s {cp:Option Nat} (hg:guardOf t g=some true) (hx:ev t y= .tsl 1 id 0 l.length cp) (ho:h.objs id=some (cH l)) (hl:0<l.length)
  (rest:ah P N its (aY t dst (.str l)) h K):ah P N (⟨dst,g,.conv .b2s y⟩::its) t h K:=
 ah.loc hg (by simp) rfl (fun o t' e hc=>by
  obtain ⟨src,ds,el,z,h1,h2,h3,h4,h5⟩:=Ah hc
  exact xB h1 h2 h4 h3 h5 ((e y (by simp[aX])).trans hx) ho hl) rest
end
end Go.Av
end
section
namespace Go.Av
section
variable {P:Program} {N:Nat}
def oZ (P:Program) (id:Nat) (args:List AV) (h:H) (Q:AV→H→Prop):Prop:=∃r h',eY P id args h r h'∧h.n≤h'.n∧h.m≤h'.m∧Q r h'
theorem ah.yield {dst:Option Nat} {g:Option (Nat × Bool)} {id:Nat} {y:Opd} {l:List Opd} {its:List aE} {t:Tm} {h:H} {K:Tm→H→Prop} {vals:List AV} {Q:AV→H→Prop}
  (hg:guardOf t g=some true) (hy:ev t y= .yld id) (hs:al (l.map (ev t)) vals) (hc:oZ P id vals h Q)
  (rest:∀r h',Q r h'→h.n≤h'.n→h.m≤h'.m→ah P N its (aY t dst r) h' K):ah P N (⟨dst,g,.callv y l⟩::its) t h K:=by
 obtain ⟨r,h',hc,hn,hm,hq⟩:=hc
 exact ah.step (fun ops i o ho hit=>kW.full ⟨hn,hm⟩ (kG ho hit hg rfl hy hs hc)) (rest r h' hq hn hm)
def jl (P:Program) (f:FuncId) (args:List AV) (h:H) (Q:AV→H→Prop):Prop:=∃r h',aM P f args h r h'∧h.n≤h'.n∧h.m≤h'.m∧Q r h'
theorem aG.BC {f:FuncId} {ac:AC} {args:List AV} {ds:List RV} {h:H} {Q:AV→H→Prop} (hF:aG P f N ac ds) (hl:args.length≤N)
  (hw:Wp P N ac ⟨fw args,h⟩ fun e s'=>iY e∧∃q,dL ds s'.t s'.h=some q∧Q q s'.h):jl P f args h Q:=by
 obtain ⟨q,h',hc,hq,hn,hm⟩:=hF.dp (Q:=fun q h'=>Q q h'∧h.n≤h'.n∧h.m≤h'.m) hl (hw.nm.mono fun e s' ⟨⟨h1,q,h2,h3⟩,h4,h5⟩=>⟨h1,q,h2,h3,h4,h5⟩)
 exact ⟨q,h',hc,hn,hm,hq⟩
theorem jl.mono {f:FuncId} {args:List AV} {h:H} {Q Q':AV→H→Prop} (hc:jl P f args h Q) (hq:∀r h',Q r h'→Q' r h'):jl P f args h Q':=by
 obtain ⟨r,h',a,b,c,d⟩:=hc
 exact ⟨r,h',a,b,c,hq _ _ d⟩
theorem ah.cZ {dst:Option Nat} {g:Option (Nat × Bool)} {f:FuncId} {l:List Opd} {its:List aE} {t:Tm} {h:H} {K:Tm→H→Prop} {vals:List AV} {Q:AV→H→Prop}
  (hg:guardOf t g=some true) (hs:al (l.map (ev t)) vals) (hc:jl P f vals h Q)
  (rest:∀r h',Q r h'→h.n≤h'.n→h.m≤h'.m→ah P N its (aY t dst r) h' K):ah P N (⟨dst,g,.call f l⟩::its) t h K:=by
 obtain ⟨r,h',hc,hn,hm,hq⟩:=hc
 exact ah.kC hg hs ⟨hn,hm⟩ hc (rest r h' hq hn hm)
theorem Wp.CR {g:Opd} {ps:List Nat} {x y:AC} {t:Tm} {h:H} {Q:aC→St→Prop} {fi:FuncId} {fn:Func} {first caps:List AV} (hg:ev t g= .clo (.func fi) first caps) (hf:P.funcs[fi]? =some fn) (hfb:fn.body.isSome=true) (hfn:fn.name≠ "runtime.NumGoroutine")
  (hfresh:h.objs h.n=none)
  (hw:∀asg body,cCode P N asg=some x→cCode P N body=some y→dG asg=true→dG body=true→
   jl P fi (first++[.yld h.n]++caps) ⟨upd h.objs h.n (some (.loop N t ps asg body .ready none)),h.n+1,h.toks,h.m⟩ fun r h'=>∃t2 st pend e,h'.objs h.n=some (.loop N t2 ps asg body st pend)∧st≠ .busy∧gE pend e∧
    Q e ⟨t,{h' with objs:=fun j=>if j=h.n then none else h'.objs j}⟩):Wp P N (.jY g ps x y) ⟨t,h⟩ Q:=by
 obtain ⟨f,n,T,m⟩:=h
 refine Wp.jY hg hf hfb hfn hfresh fun asg body h1 h2 h3 h4=>?_
 obtain ⟨r,⟨f2,n2,T2,m2⟩,k1,k2,k3,t2,st,pend,e,k4,k5,k6,k7⟩:=hw asg body h1 h2 h3 h4
 exact ⟨r,f2,n2,T2,m2,t2,st,pend,e,k1,k2,k3,k4,k5,k6,k7⟩
theorem sk {id M:Nat} {h:H} {t:Tm} {ps:List Nat} {asg body:Code} {x y:AC} {args:List AV} {Q:AV→H→Prop} (ho:h.objs id=some (.loop M t ps asg body .ready none)) (ha:cCode P M asg=some x) (hb:cCode P M body=some y) (hna:dG asg=true) (hnb:dG body=true)
  (hl:args.length=ps.length) (hps:∀p∈ps,p<M)
  (hw:Wp P M x ⟨iv t ps args,h⟩ fun e s=>e= .normal∧∃t1,s.h.objs id=some (.loop M t1 ps asg body .ready none)∧
   Wp P M y ⟨s.t,{s.h with objs:=upd s.h.objs id (some (.loop M t1 ps asg body .busy none))}⟩ fun e2 s2=>∃t2 b st pend,s2.h.objs id=some (.loop M t2 ps asg body .busy none)∧eZ e2 b st pend∧
    (h.n≤s2.h.n→h.m≤s2.h.m→Q (.bool b) {s2.h with objs:=upd s2.h.objs id (some (.loop M t2 ps asg body st pend))})):oZ P id args h Q:=by
 obtain ⟨f,n,T,m⟩:=h
 obtain ⟨r,h',hy,hn,hm,hq⟩:=nH (P:=P) (Q:=fun r h'=>n≤h'.n∧m≤h'.m∧Q r h') ho ha hb hna hnb hl hps (by
  refine hw.nm.mono ?_
  rintro e s ⟨⟨rfl,t1,k1,k2⟩,k3,k4⟩
  refine ⟨rfl,t1,k1,k2.nm.mono ?_⟩
  rintro e2 s2 ⟨⟨t2,b,st,pend,q1,q2,q3⟩,q4,q5⟩
  have e4:n≤s2.h.n:=Nat.le_trans k3 q4
  have e5:m≤s2.h.m:=Nat.le_trans k4 q5
  exact ⟨t2,b,st,pend,q1,q2,e4,e5,q3 e4 e5⟩)
 exact ⟨r,h',hy,hn,hm,hq⟩
end
end Go.Av
end
section
namespace Go.Av
theorem aa.sup {l:List UInt8} {B:Nat} (h:l.length≤B):aa (.str l) (.sup B):=by
 intro G w v hv
 simp only[ak] at hv ⊢
 exact ⟨l,hv,h⟩
theorem aB.sup {P:Program} {f:FuncId} {a b:List AV} {B:Nat} {r:AV} (h:∀l:List UInt8,l.length≤B→aB P f (a++ .str l::b) r):aB P f (a++ .sup B::b) r:=by
 intro n m G w vs hv R F
 have key:∀(a:List AV) (vs:List Value),aq G w (a++ .sup B::b) vs→∃l:List UInt8,l.length≤B∧aq G w (a++ .str l::b) vs:=by
  intro a
  induction a with
  |nil=>
   intro vs hv
   simp only[List.nil_append,aq,ak] at hv ⊢
   obtain ⟨v,us,e,⟨l,h1,h2⟩,h3⟩:=hv
   exact ⟨l,h2,v,us,e,h1,h3⟩
  |cons x a ih=>
   intro vs hv
   simp only[List.cons_append,aq] at hv ⊢
   obtain ⟨v,us,e,h1,h2⟩:=hv
   obtain ⟨l,h3,h4⟩:=ih us h2
   exact ⟨l,h3,v,us,e,h1,h4⟩
 obtain ⟨l,h1,h2⟩:=key a vs hv
 exact h l h1 n m G w vs h2 R F
theorem aM.sup {P:Program} {f:FuncId} {a b:List AV} {B:Nat} {h h':H} {r:AV} (hc:∀l:List UInt8,l.length≤B→aM P f (a++ .str l::b) h r h'):aM P f (a++ .sup B::b) h r h':=by
 intro G w vs hv R F
 have key:∀(a:List AV) (vs:List Value),aq G w (a++ .sup B::b) vs→∃l:List UInt8,l.length≤B∧aq G w (a++ .str l::b) vs:=by
  intro a
  induction a with
  |nil=>
   intro vs hv
   simp only[List.nil_append,aq,ak] at hv ⊢
   obtain ⟨v,us,e,⟨l,h1,h2⟩,h3⟩:=hv
   exact ⟨l,h2,v,us,e,h1,h3⟩
  |cons x a ih=>
   intro vs hv
   simp only[List.cons_append,aq] at hv ⊢
   obtain ⟨v,us,e,h1,h2⟩:=hv
   obtain ⟨l,h3,h4⟩:=ih us h2
   exact ⟨l,h3,v,us,e,h1,h4⟩
 obtain ⟨l,h1,h2⟩:=key a vs hv
 exact hc l h1 G w vs h2 R F
theorem aa.kR {k:IntKind} {n:Int}:aa (.int k n) (.kR k):=by
 intro G w v h
 simp only[ak] at h ⊢
 exact ⟨n,h⟩
theorem aB.args {P:Program} {f:FuncId} {l m:List AV} {r:AV} (hs:al l m) (h:aB P f m r):aB P f l r:=
 fun n k G w vs hv=>h n k G w vs (hs G w vs hv)
theorem o5 {P:Program} {T:FT} (ok:T.Ok P) (nm:T.named P=true) {pr:dY} (hpr:iA P pr) {k f:Nat} {args:List AV} {r:AV} (hp:aA args=true) (hq:aJ r=true) (h:(nQ T pr (sa T pr k []) true f args (HZ0 0 0)).map (·.1)=some r):aB P f args r:=by
 obtain ⟨⟨x,h',en⟩,hc,rfl⟩:=Option.map_eq_some_iff.1 h
 obtain ⟨⟨h1,h1',tc,ac⟩,-⟩:=jI (σ:=fun _=>(.skip,.skip)) ok nm hpr (tG ok nm hpr k _ [] (fun r h=>by cases h)) hc
 rw[rZ,tD] at tc
 have e:h1=H0 0 0:=by
  rcases tc with tc|⟨-,e,-⟩
  ·refine H.ext (fun j=>?_) tc.n ?_ tc.m
   ·cases hj:h1.objs j with
    |none=>rfl
    |some o=>have:=tc.sub.1 j o hj;simp[H0,H.only,af] at this
   ·cases ht:h1.toks with
    |nil=>rfl
    |cons t l=>have:=tc.sub.2 t (by rw[ht];simp);simp[H0,H.only] at this
  ·exact e
 subst e
 exact ac.pZ (bo _ hp) (aa.refl _) (bW _ hq)
end Go.Av
end
section
namespace Go.Av
section
variable {P:Program} {N:Nat}
theorem ah.opT {dst:Option Nat} {g:Option (Nat × Bool)} {op:AOp} {its:List aE} {t:Tm} {h h':H} {en:Ent} {K:Tm→H→Prop} {x:AV} (hg:guardOf t g=some true) (hx:dr (ev t) h op=some (x,h',en))
  (rest:ah P N its (aY t dst x) h' K):ah P N (⟨dst,g,op⟩::its) t h K:=
 ah.step (it:=⟨dst,g,op⟩) (fun ops i o ho hit=>by
  obtain ⟨h1,h1',tc,run⟩:=iO ho hit hg hx
  exact fK.qe (N:=N) (full:=false) (.inl tc) run) rest
theorem ah.opK {dst:Option Nat} {g:Option (Nat × Bool)} {op:AOp} {its:List aE} {t:Tm} {h h':H} {en:Ent} {K:Tm→H→Prop} {x:AV} (hg:guardOf t g=some true) (hx:dX (ev t) h op=some (x,h',en))
  (rest:ah P N its (aY t dst x) h' K):ah P N (⟨dst,g,op⟩::its) t h K:=
 ah.step (it:=⟨dst,g,op⟩) (fun ops i o ho hit=>by
  obtain ⟨h1,h1',tc,run⟩:=iP ho hit hg hx
  exact fK.qe (N:=N) (full:=false) (.inl tc) run) rest
end
end Go.Av
end
section
set_option maxRecDepth 100000
namespace Go.Proofs.YtjnoobmaedgooaaGreat.C
open Go.Av
abbrev zM (n a:Nat):aE:=⟨some n,none,.mov (.t a)⟩
abbrev zm (n g:Nat)(b:Bool)(a:Nat):aE:=⟨some n,some (g,b),.mov (.t a)⟩
abbrev zK (n a:Nat):aE:=⟨some n,none,.nilck (.t a)⟩
abbrev zk (n g:Nat)(b:Bool)(a:Nat):aE:=⟨some n,some (g,b),.nilck (.t a)⟩
abbrev zF (n k a:Nat):aE:=⟨some n,none,.faddr k (.t a)⟩
abbrev zf (n g:Nat)(b:Bool)(k a:Nat):aE:=⟨some n,some (g,b),.faddr k (.t a)⟩
abbrev zL (n a:Nat):aE:=⟨some n,none,.load none (.t a)⟩
abbrev zl (n g:Nat)(b:Bool)(a:Nat):aE:=⟨some n,some (g,b),.load none (.t a)⟩
abbrev zW (n k a:Nat):aE:=⟨some n,none,.load (some k) (.t a)⟩
abbrev zw (n g:Nat)(b:Bool)(k a:Nat):aE:=⟨some n,some (g,b),.load (some k) (.t a)⟩
abbrev zE (n a k:Nat):aE:=⟨some n,none,.ext (.t a) k⟩
abbrev zN (n a:Nat):aE:=⟨some n,none,.un .not (.t a)⟩
abbrev zn (n g:Nat)(b:Bool)(a:Nat):aE:=⟨some n,some (g,b),.un .not (.t a)⟩
abbrev zO (n c a:Nat):aE:=⟨some n,none,.pick (.t c) (.c (.bool true)) (.t a)⟩
abbrev zA (n c a:Nat):aE:=⟨some n,none,.pick (.t c) (.t a) (.c (.bool false))⟩
abbrev zD (n:Nat)(v:AV):aE:=⟨some n,none,.mov (.c v)⟩
abbrev zG (n:Nat)(o:AOp):aE:=⟨some n,none,o⟩
abbrev zg (n g:Nat)(b:Bool)(o:AOp):aE:=⟨some n,some (g,b),o⟩
abbrev zH (o:AOp):aE:=⟨none,none,o⟩
abbrev zP (a:Nat):Opd:=.t a
theorem zz:(∀(n a:Nat),zM n a=⟨some n,none,.mov (.t a)⟩)∧(∀(n g:Nat) (b:Bool) (a:Nat),zm n g b a=⟨some n,some (g,b),.mov (.t a)⟩)∧(∀(n a:Nat),zK n a=⟨some n,none,.nilck (.t a)⟩)∧(∀(n g:Nat) (b:Bool) (a:Nat),zk n g b a=⟨some n,some (g,b),.nilck (.t a)⟩)∧(∀(n k a:Nat),zF n k a=⟨some n,none,.faddr k (.t a)⟩)∧(∀(n g:Nat) (b:Bool) (k a:Nat),zf n g b k a=⟨some n,some (g,b),.faddr k (.t a)⟩)∧(∀(n a:Nat),zL n a=⟨some n,none,.load none (.t a)⟩)∧(∀(n g:Nat) (b:Bool) (a:Nat),zl n g b a=⟨some n,some (g,b),.load none (.t a)⟩)∧(∀(n k a:Nat),zW n k a=⟨some n,none,.load (some k) (.t a)⟩)∧(∀(n g:Nat) (b:Bool) (k a:Nat),zw n g b k a=⟨some n,some (g,b),.load (some k) (.t a)⟩)∧(∀(n a k:Nat),zE n a k=⟨some n,none,.ext (.t a) k⟩)∧(∀(n a:Nat),zN n a=⟨some n,none,.un .not (.t a)⟩)∧(∀(n g:Nat) (b:Bool) (a:Nat),zn n g b a=⟨some n,some (g,b),.un .not (.t a)⟩)∧(∀(n c a:Nat),zO n c a=⟨some n,none,.pick (.t c) (.c (.bool true)) (.t a)⟩)∧(∀(n c a:Nat),zA n c a=⟨some n,none,.pick (.t c) (.t a) (.c (.bool false))⟩)∧(∀(n:Nat) (v:AV),zD n v=⟨some n,none,.mov (.c v)⟩)∧(∀(n:Nat) (o:AOp),zG n o=⟨some n,none,o⟩)∧(∀(n g:Nat) (b:Bool) (o:AOp),zg n g b o=⟨some n,some (g,b),o⟩)∧(∀(o:AOp),zH o=⟨none,none,o⟩)∧(∀(a:Nat),zP a=.t a):=⟨fun _ _=>rfl,fun _ _ _ _=>rfl,fun _ _=>rfl,fun _ _ _ _=>rfl,fun _ _ _=>rfl,fun _ _ _ _ _=>rfl,fun _ _=>rfl,fun _ _ _ _=>rfl,fun _ _ _=>rfl,fun _ _ _ _ _=>rfl,fun _ _ _=>rfl,fun _ _=>rfl,fun _ _ _ _=>rfl,fun _ _ _=>rfl,fun _ _ _=>rfl,fun _ _=>rfl,fun _ _=>rfl,fun _ _ _ _=>rfl,fun _=>rfl,fun _=>rfl⟩
def c2:AC:=(.reg [zG 0 (.dead)] none)
theorem f2:aG Tryz.prog 2 1 c2 []:=⟨_,Tryz.func2,rfl,by kernel_rfl,rfl⟩
def c3:AC:=(.seq (.reg [zG 1 (.box (.t 0)),zG 2 (.mov (.c (.bool false)))] none)
 (.seq (.seq (.reg [zW 11 1 1,zG 12 (.call 9 [(.t 11)]),zN 13 12] none)
 (.cond (.t 13) (.seq (.reg [zG 14 (.call 10 []),zM 2 14] none)
 .ret) .skip))
 (.seq (.reg [zW 16 1 1,zG 17 (.call 11 [(.t 16)]),zM 15 17,zE 18 15 0,zE 19 15 1,zM 3 18,zM 4 19] none)
 (.seq (.reg [zW 21 1 1,zG 22 (.call 12 [(.t 21)]),zM 20 22,zE 23 20 0,zE 24 20 1,zM 5 23,zM 6 24] none)
 (.seq (.reg [zW 26 1 1,zG 27 (.call 13 [(.t 26)]),zM 25 27,zE 28 25 0,zE 29 25 1,zM 7 28,zM 8 29] none)
 (.seq (.reg [zW 31 1 1,zG 32 (.call 14 [(.t 31)]),zM 30 32,zE 33 30 0,zE 34 30 1,zM 9 33,zM 10 34] none)
 (.seq (.reg [zW 35 1 1,zG 36 (.call 15 [(.t 35)]),zW 37 1 1,zG 38 (.call 16 [(.t 37)]),zG 39 (.bin .eql (.t 36) (.t 38)),zM 40 39,zm 41 40 true 3,zg 42 40 true (.conv .b2s (.t 41)),zm 43 40 true 5,zg 44 40 true (.bin .eql (.t 42) (.t 43)),zA 45 40 44,zM 46 45,zm 47 46 true 4,zm 48 46 true 6,zg 49 46 true (.bin .eql (.t 47) (.t 48)),zA 50 46 49,zM 51 50,zm 52 51 true 7,zm 53 51 true 9,zg 54 51 true (.call 17 [(.t 52),(.t 53)]),zA 55 51 54,zM 56 55,zm 57 56 true 8,zm 58 56 true 10,zg 59 56 true (.bin .eql (.t 57) (.t 58)),zA 60 56 59,zM 61 60,zg 62 61 true (.call 10 []),zA 63 61 62,zM 2 63] (some [(0,2),(1,2)]))
 .ret)))))))
theorem f3:aG Tryz.prog 3 64 c3 [.tmp 2]:=⟨_,Tryz.func3,rfl,by kernel_rfl,rfl⟩
def c4:AC:=(.seq (.reg [zG 4 (.mov (.c (.bool false)))] none)
 (.seq (.seq (.reg [zM 13 0,zG 14 (.len false (.t 13)),zG 15 (.bin .gtr (.t 14) (.c (.int .i64 100000))),zM 16 15,zm 17 16 false 1,zg 18 16 false (.len false (.t 17)),zg 19 16 false (.bin .gtr (.t 18) (.c (.int .i64 100))),zO 20 16 19] none)
 (.cond (.t 20) (.seq (.reg [zG 21 (.call 10 []),zM 4 21] none)
 .ret) .skip))
 (.seq (.reg [zG 23 (.buildSl 1 []),zM 24 0,zG 25 (.app false 1 1 (.t 23) (.t 24)),zG 26 (.call 18 [(.t 25)]),zM 22 26,zE 27 22 0,zE 28 22 1,zG 5 (.alloc [.sl 3 [] (.exact 0)]),zH (.store 1 (.t 5) (.t 27)),zM 6 28] none)
 (.seq (.reg [zM 30 0,zG 31 (.conv .b2s (.t 30)),zG 32 (.call 19 [(.t 31)]),zM 29 32,zE 33 29 0,zE 34 29 1,zG 7 (.alloc [.sl 3 [] (.exact 0)]),zH (.store 1 (.t 7) (.t 33)),zM 8 34] none)
 (.seq (.reg [zG 36 (.buildSl 2 []),zM 37 1,zG 38 (.app false 2 32 (.t 36) (.t 37)),zG 39 (.call 20 [(.t 38)]),zM 35 39,zE 40 35 0,zE 41 35 1,zG 9 (.alloc [.sl 3 [] (.exact 0)]),zH (.store 1 (.t 9) (.t 40)),zM 10 41] none)
 (.seq (.reg [zM 43 1,zG 44 (.call 21 [(.t 43)]),zM 42 44,zE 45 42 0,zE 46 42 1,zG 11 (.alloc [.sl 3 [] (.exact 0)]),zH (.store 1 (.t 11) (.t 45)),zM 12 46] none)
 (.seq (.reg [zW 47 1 5,zW 48 1 7,zG 49 (.call 22 [(.t 47),(.t 48)]),zM 50 49,zm 51 50 true 6,zm 52 50 true 8,zg 53 50 true (.bin .eql (.t 51) (.t 52)),zA 54 50 53,zM 55 54,zw 56 55 true 1 9,zw 57 55 true 1 11,zg 58 55 true (.call 22 [(.t 56),(.t 57)]),zA 59 55 58,zM 60 59,zm 61 60 true 10,zm 62 60 true 12,zg 63 60 true (.bin .eql (.t 61) (.t 62)),zA 64 60 63,zM 65 64,zg 66 65 true (.call 10 []),zA 67 65 66,zM 4 67] none)
 .ret)))))))
theorem f4:aG Tryz.prog 4 68 c4 [.tmp 4]:=⟨_,Tryz.func4,rfl,by kernel_rfl,rfl⟩
def c5:AC:=(.seq (.reg [zG 3 (.box (.t 0)),zG 6 (.mov (.c (.bool false)))] none)
 (.seq (.seq (.reg [zW 24 1 3,zG 25 (.call 9 [(.t 24)]),zN 26 25,zM 27 26,zm 28 27 false 1,zg 29 27 false (.len false (.t 28)),zg 30 27 false (.bin .gtr (.t 29) (.c (.int .i64 100000))),zO 31 27 30,zM 32 31,zm 33 32 false 2,zg 34 32 false (.len false (.t 33)),zg 35 32 false (.bin .gtr (.t 34) (.c (.int .i64 100))),zO 36 32 35] none)
 (.cond (.t 36) (.seq (.reg [zG 37 (.call 10 []),zM 6 37] none)
 .ret) .skip))
 (.seq (.seq (.reg [zW 39 1 3,zG 40 (.call 11 [(.t 39)]),zM 38 40,zE 41 38 0,zE 42 38 1,zM 7 41,zM 8 42] none)
 (.seq (.reg [zM 43 8,zG 44 (.bin .eql (.t 43) (.c (.int .i64 0)))] none)
 (.cond (.t 44) (.seq (.reg [zM 46 7,zG 47 (.call 18 [(.t 46)]),zM 45 47,zE 48 45 0,zE 49 45 1,zG 9 (.alloc [.sl 3 [] (.exact 0)]),zH (.store 1 (.t 9) (.t 48)),zM 10 49] none)
 (.seq (.reg [zW 51 1 3,zG 52 (.call 13 [(.t 51)]),zM 50 52,zE 53 50 0,zE 54 50 1,zM 11 53,zM 12 54] none)
 (.seq (.reg [zM 56 11,zG 57 (.call 20 [(.t 56)]),zM 55 57,zE 58 55 0,zE 59 55 1,zG 13 (.alloc [.sl 3 [] (.exact 0)]),zH (.store 1 (.t 13) (.t 58)),zM 14 59] none)
 (.seq (.reg [zW 60 1 9,zW 61 1 3,zG 62 (.call 22 [(.t 60),(.t 61)]),zN 63 62,zM 64 63,zm 65 64 false 10,zg 66 64 false (.bin .neq (.t 65) (.c (.int .i64 0))),zO 67 64 66,zM 68 67,zm 69 68 false 12,zg 70 68 false (.bin .neq (.t 69) (.c (.int .i64 0))),zO 71 68 70,zM 72 71,zw 73 72 false 1 13,zw 74 72 false 1 3,zg 75 72 false (.call 22 [(.t 73),(.t 74)]),zn 76 72 false 75,zO 77 72 76,zM 78 77,zm 79 78 false 14,zg 80 78 false (.bin .neq (.t 79) (.c (.int .i64 0))),zO 81 78 80] none)
 (.cond (.t 81) (.seq (.reg [zG 6 (.mov (.c (.bool false)))] none)
 .ret) .skip))))) (.seq (.reg [zM 82 7,zG 83 (.len false (.t 82)),zG 84 (.bin .neq (.t 83) (.c (.int .i64 0))),zM 85 84,zm 86 85 false 8,zg 87 85 false (.bin .neq (.t 86) (.c (.int .i64 4))),zO 88 85 87] none)
 (.cond (.t 88) (.seq (.reg [zG 6 (.mov (.c (.bool false)))] none)
 .ret) .skip)))))
 (.seq (.seq (.reg [zM 90 1,zG 91 (.call 18 [(.t 90)]),zM 89 91,zE 92 89 0,zE 93 89 1,zG 15 (.alloc [.sl 3 [] (.exact 0)]),zH (.store 1 (.t 15) (.t 92)),zM 16 93] none)
 (.seq (.reg [zM 94 16,zG 95 (.bin .eql (.t 94) (.c (.int .i64 0)))] none)
 (.cond (.t 95) (.seq (.reg [zW 97 1 15,zG 98 (.call 11 [(.t 97)]),zM 96 98,zE 99 96 0,zE 100 96 1,zM 17 99,zM 18 100] none)
 (.seq (.reg [zM 101 17,zG 102 (.conv .b2s (.t 101)),zM 103 1,zG 104 (.conv .b2s (.t 103)),zG 105 (.bin .neq (.t 102) (.t 104)),zM 106 105,zm 107 106 false 18,zg 108 106 false (.bin .neq (.t 107) (.c (.int .i64 0))),zO 109 106 108] none)
 (.cond (.t 109) (.seq (.reg [zG 6 (.mov (.c (.bool false)))] none)
 .ret) .skip))) .skip)))
 (.seq (.reg [zM 111 2,zG 112 (.call 20 [(.t 111)]),zM 110 112,zE 113 110 0,zE 114 110 1,zG 19 (.alloc [.sl 3 [] (.exact 0)]),zH (.store 1 (.t 19) (.t 113)),zM 20 114] none)
 (.seq (.seq (.reg [zM 115 20,zG 116 (.bin .neq (.t 115) (.c (.int .i64 0)))] none)
 (.cond (.t 116) (.seq (.reg [zW 117 1 19,zG 118 (.build [.sl 3 [] (.exact 0)] []),zG 119 (.call 22 [(.t 117),(.t 118)]),zM 120 119,zg 121 120 true (.call 10 []),zA 122 120 121,zM 6 122] none)
 .ret) .skip))
 (.seq (.reg [zW 124 1 19,zG 125 (.call 13 [(.t 124)]),zM 123 125,zE 126 123 0,zE 127 123 1,zM 21 126,zM 22 127] none)
 (.seq (.seq (.reg [zM 128 21,zG 129 (.len false (.t 128)),zM 130 2,zG 131 (.len false (.t 130)),zG 132 (.bin .neq (.t 129) (.t 131)),zM 133 132,zm 134 133 false 22,zg 135 133 false (.bin .neq (.t 134) (.c (.int .i64 0))),zO 136 133 135] none)
 (.cond (.t 136) (.seq (.reg [zG 6 (.mov (.c (.bool false)))] none)
 .ret) .skip))
 (.seq (.seq (.reg [zG 23 (.mov (.c (.int .i64 0)))] none)
 (.block 0 (.loop (.seq (.seq (.reg [zM 137 23,zM 138 2,zG 139 (.len false (.t 138)),zG 140 (.bin .lss (.t 137) (.t 139))] none)
 (.cond (.t 140) .skip (.exit 0)))
 (.seq (.block 1 (.seq (.reg [zM 143 21,zM 144 23,zG 145 (.iaddr 2 (.t 143) (.t 144)),zW 146 2 145,zM 147 2,zM 148 23,zG 149 (.iaddr 2 (.t 147) (.t 148)),zW 150 2 149,zG 151 (.eqA true [.str,.str] (.t 146) (.t 150))] (some [(3,7)]))
 (.cond (.t 151) (.seq (.reg [zG 6 (.mov (.c (.bool false)))] none)
 .ret) .skip)))
 (.reg [zM 141 23,zG 142 (.bin .add (.t 141) (.c (.int .i64 1))),zM 23 142] none))))))
 (.seq (.reg [zG 152 (.call 10 []),zM 6 152] none)
 .ret))))))))))
theorem f5:aG Tryz.prog 5 153 c5 [.tmp 6]:=⟨_,Tryz.func5,rfl,by kernel_rfl,rfl⟩
def c6:AC:=(.seq (.reg [zG 2 (.box (.t 0)),zG 3 (.box (.t 1)),zG 4 (.mov (.c (.bool false)))] none)
 (.seq (.seq (.reg [zW 11 1 2,zG 12 (.call 9 [(.t 11)]),zN 13 12,zM 14 13,zw 15 14 false 1 3,zg 16 14 false (.call 9 [(.t 15)]),zn 17 14 false 16,zO 18 14 17] none)
 (.cond (.t 18) (.seq (.reg [zG 19 (.call 10 []),zM 4 19] none)
 .ret) .skip))
 (.seq (.reg [zW 21 1 2,zW 22 1 3,zG 23 (.call 23 [(.t 21),(.t 22)]),zM 20 23,zE 24 20 0,zE 25 20 1,zM 5 24,zM 6 25] none)
 (.seq (.seq (.reg [zM 26 6,zG 27 (.bin .neq (.t 26) (.c (.int .i64 0)))] none)
 (.cond (.t 27) (.seq (.reg [zM 28 5,zG 29 (.len false (.t 28)),zG 30 (.bin .eql (.t 29) (.c (.int .i64 0))),zM 31 30,zw 32 31 true 1 2,zg 33 31 true (.call 15 [(.t 32)]),zg 34 31 true (.bin .neq (.t 33) (.c (.int .i64 0))),zm 35 31 true 34,zw 36 35 false 1 3,zg 37 35 false (.call 15 [(.t 36)]),zg 38 35 false (.bin .neq (.t 37) (.c (.int .i64 0))),zg 39 31 true (.pick (.t 35) (.c (.bool true)) (.t 38)),zA 40 31 39,zM 41 40,zg 42 41 true (.call 10 []),zA 43 41 42,zM 4 43] none)
 .ret) .skip))
 (.seq (.reg [zW 45 1 2,zM 46 5,zG 47 (.call 24 [(.t 45),(.t 46)]),zM 44 47,zE 48 44 0,zE 49 44 1,zG 7 (.alloc [.sl 3 [] (.exact 0)]),zH (.store 1 (.t 7) (.t 48)),zM 8 49] none)
 (.seq (.reg [zW 51 1 2,zW 52 1 2,zG 53 (.call 23 [(.t 51),(.t 52)]),zM 50 53,zE 54 50 0,zE 55 50 1,zM 9 54,zM 10 55] none)
 (.seq (.reg [zW 56 1 7,zW 57 1 3,zG 58 (.call 22 [(.t 56),(.t 57)]),zM 59 58,zm 60 59 true 8,zg 61 59 true (.bin .eql (.t 60) (.c (.int .i64 0))),zA 62 59 61,zM 63 62,zm 64 63 true 9,zg 65 63 true (.len false (.t 64)),zg 66 63 true (.bin .eql (.t 65) (.c (.int .i64 0))),zA 67 63 66,zM 68 67,zm 69 68 true 10,zg 70 68 true (.bin .eql (.t 69) (.c (.int .i64 0))),zA 71 68 70,zM 72 71,zg 73 72 true (.call 10 []),zA 74 72 73,zM 4 74] none)
 .ret)))))))
theorem f6:aG Tryz.prog 6 75 c6 [.tmp 4]:=⟨_,Tryz.func6,rfl,by kernel_rfl,rfl⟩
def c7:AC:=(.seq (.reg [zG 3 (.box (.t 0)),zG 4 (.box (.t 1)),zG 6 (.mov (.c (.bool false)))] none)
 (.seq (.seq (.reg [zW 19 1 3,zG 20 (.call 9 [(.t 19)]),zN 21 20,zM 22 21,zw 23 22 false 1 4,zg 24 22 false (.call 9 [(.t 23)]),zn 25 22 false 24,zO 26 22 25,zM 27 26,zm 28 27 false 2,zg 29 27 false (.len false (.t 28)),zg 30 27 false (.bin .gtr (.t 29) (.c (.int .i64 60))),zO 31 27 30] none)
 (.cond (.t 31) (.seq (.reg [zG 32 (.call 10 []),zM 6 32] none)
 .ret) .skip))
 (.seq (.reg [zW 34 1 3,zG 35 (.call 25 [(.t 34)]),zM 33 35,zE 36 33 0,zE 37 33 1,zM 7 36,zM 8 37] none)
 (.seq (.reg [zW 39 1 3,zG 40 (.call 26 [(.t 39)]),zM 38 40,zE 41 38 0,zE 42 38 1,zM 9 41,zM 10 42] none)
 (.seq (.reg [zW 44 1 3,zW 45 1 4,zG 46 (.call 23 [(.t 44),(.t 45)]),zM 43 46,zE 47 43 0,zE 48 43 1,zM 11 47,zM 12 48] none)
 (.seq (.reg [zW 50 1 3,zW 51 1 4,zG 52 (.call 27 [(.t 50),(.t 51)]),zM 49 52,zE 53 49 0,zE 54 49 1,zM 13 53,zM 14 54] none)
 (.seq (.reg [zW 56 1 3,zG 57 (.buildSl 3 []),zM 58 2,zG 59 (.app false 3 40 (.t 57) (.t 58)),zG 60 (.call 24 [(.t 56),(.t 59)]),zM 55 60,zE 61 55 0,zE 62 55 1,zG 15 (.alloc [.sl 3 [] (.exact 0)]),zH (.store 1 (.t 15) (.t 61)),zM 16 62] (some [(0,1),(0,3),(0,8),(1,8),(3,8),(4,8)]))
 (.seq (.reg [zW 64 1 3,zM 65 2,zG 66 (.call 28 [(.t 64),(.t 65)]),zM 63 66,zE 67 63 0,zE 68 63 1,zG 17 (.alloc [.sl 3 [] (.exact 0)]),zH (.store 1 (.t 17) (.t 67)),zM 18 68] none)
 (.seq (.reg [zM 69 7,zM 70 9,zG 71 (.call 29 [(.t 69),(.t 70)]),zM 72 71,zm 73 72 true 8,zm 74 72 true 10,zg 75 72 true (.bin .eql (.t 73) (.t 74)),zA 76 72 75,zM 77 76,zm 78 77 true 11,zm 79 77 true 13,zg 80 77 true (.call 30 [(.t 78),(.t 79)]),zA 81 77 80,zM 82 81,zm 83 82 true 12,zm 84 82 true 14,zg 85 82 true (.bin .eql (.t 83) (.t 84)),zA 86 82 85,zM 87 86,zw 88 87 true 1 15,zw 89 87 true 1 17,zg 90 87 true (.call 22 [(.t 88),(.t 89)]),zA 91 87 90,zM 92 91,zm 93 92 true 16,zm 94 92 true 18,zg 95 92 true (.bin .eql (.t 93) (.t 94)),zA 96 92 95,zM 97 96,zg 98 97 true (.call 10 []),zA 99 97 98,zM 6 99] none)
 .ret)))))))))
def c8:AC:=(.seq (.reg [zG 1 (.box (.t 0)),zG 2 (.mov (.c (.bool false)))] none)
 (.seq (.seq (.reg [zW 11 1 1,zG 12 (.call 9 [(.t 11)]),zN 13 12] none)
 (.cond (.t 13) (.seq (.reg [zG 14 (.call 10 []),zM 2 14] none)
 .ret) .skip))
 (.seq (.reg [zW 16 1 1,zG 17 (.call 25 [(.t 16)]),zM 15 17,zE 18 15 0,zE 19 15 1,zM 3 18,zM 4 19] none)
 (.seq (.seq (.reg [zM 20 4,zG 21 (.bin .neq (.t 20) (.c (.int .i64 0)))] none)
 (.cond (.t 21) (.seq (.reg [zM 22 3,zG 23 (.len false (.t 22)),zG 24 (.bin .eql (.t 23) (.c (.int .i64 0))),zM 25 24,zg 26 25 true (.call 10 []),zA 27 25 26,zM 2 27] none)
 .ret) .skip))
 (.seq (.reg [zG 28 (.call 31 []),zM 5 28] none)
 (.seq (.seq (.reg [zG 6 (.mov (.c (.int .i64 0)))] none)
 (.block 0 (.loop (.seq (.seq (.reg [zM 29 6,zM 30 3,zG 31 (.len false (.t 30)),zG 32 (.bin .lss (.t 29) (.t 31))] none)
 (.cond (.t 32) .skip (.exit 0)))
 (.seq (.block 1 (.seq (.reg [zM 35 3,zM 36 6,zG 37 (.iaddr 1 (.t 35) (.t 36)),zL 38 37,zG 39 (.len false (.t 38)),zG 40 (.bin .eql (.t 39) (.c (.int .i64 0))),zM 41 40,zm 42 41 false 3,zm 43 41 false 6,zg 44 41 false (.iaddr 1 (.t 42) (.t 43)),zl 45 41 false 44,zg 46 41 false (.len false (.t 45)),zg 47 41 false (.bin .gtr (.t 46) (.c (.int .i64 64))),zO 48 41 47,zM 49 48,zm 50 49 false 5,zm 51 49 false 6,zg 52 49 false (.bin .add (.t 51) (.c (.int .i64 1))),zm 53 49 false 3,zm 54 49 false 6,zg 55 49 false (.iaddr 1 (.t 53) (.t 54)),zl 56 49 false 55,zg 57 49 false (.call 32 [(.t 50),(.t 52),(.t 56)]),zg 58 49 false (.bin .neq (.t 57) (.c (.int .i64 0))),zO 59 49 58] none)
 (.cond (.t 59) (.seq (.reg [zG 2 (.mov (.c (.bool false)))] none)
 .ret) .skip)))
 (.reg [zM 33 6,zG 34 (.bin .add (.t 33) (.c (.int .i64 1))),zM 6 34] none))))))
 (.seq (.reg [zM 61 5,zM 62 3,zG 63 (.len false (.t 62)),zG 64 (.call 33 [(.t 61),(.t 63)]),zM 60 64,zE 65 60 0,zE 66 60 1,zM 7 65,zM 8 66] none)
 (.seq (.seq (.reg [zM 67 7,zG 68 (.eqP false (.t 67) (.c (.sc (.pointer none)))),zM 69 68,zm 70 69 false 8,zg 71 69 false (.bin .neq (.t 70) (.c (.int .i64 0))),zO 72 69 71] none)
 (.cond (.t 72) (.seq (.reg [zG 2 (.mov (.c (.bool false)))] none)
 .ret) .skip))
 (.seq (.reg [zM 74 7,zG 75 (.call 34 [(.t 74)]),zM 73 75,zE 76 73 0,zE 77 73 1,zG 9 (.alloc [.sl 3 [] (.exact 0)]),zH (.store 1 (.t 9) (.t 76)),zM 10 77] none)
 (.seq (.reg [zW 78 1 9,zW 79 1 1,zG 80 (.call 22 [(.t 78),(.t 79)]),zM 81 80,zm 82 81 true 10,zg 83 81 true (.bin .eql (.t 82) (.c (.int .i64 0))),zA 84 81 83,zM 85 84,zg 86 85 true (.call 10 []),zA 87 85 86,zM 2 87] none)
 .ret))))))))))
def c9:AC:=(.seq (.reg [zG 1 (.box (.t 0)),zG 2 (.mov (.c (.bool false)))] none)
 (.seq (.reg [zF 5 0 1,zL 6 5,zG 7 (.len false (.t 6)),zM 3 7] none)
 (.seq (.seq (.reg [zG 4 (.mov (.c (.int .i64 0)))] none)
 (.block 0 (.loop (.seq (.seq (.reg [zM 8 4,zF 9 0 1,zL 10 9,zG 11 (.len false (.t 10)),zG 12 (.bin .lss (.t 8) (.t 11)),zM 13 12,zm 14 13 true 3,zg 15 13 true (.bin .leq (.t 14) (.c (.int .i64 60))),zA 16 13 15] none)
 (.cond (.t 16) .skip (.exit 0)))
 (.seq (.block 1 (.reg [zM 19 3,zF 20 0 1,zL 21 20,zM 22 4,zG 23 (.iaddr 3 (.t 21) (.t 22)),zF 24 2 23,zL 25 24,zG 26 (.len false (.t 25)),zG 27 (.bin .add (.t 19) (.t 26)),zM 3 27] none))
 (.reg [zM 17 4,zG 18 (.bin .add (.t 17) (.c (.int .i64 1))),zM 4 18] none))))))
 (.seq (.reg [zM 28 3,zG 29 (.bin .leq (.t 28) (.c (.int .i64 60))),zM 2 29] none)
 .ret))))
theorem f9:aG Tryz.prog 9 30 c9 [.tmp 2]:=⟨_,Tryz.func9,rfl,by kernel_rfl,rfl⟩
def c10:AC:=(.seq (.reg [zG 0 (.mov (.c (.bool false)))] none)
 (.seq (.reg [zG 8 (.build [.sl 3 [] (.exact 0)] []),zG 9 (.call 11 [(.t 8)]),zM 7 9,zE 10 7 0,zE 11 7 1,zM 1 10,zM 2 11] none)
 (.seq (.reg [zG 13 (.call 35 []),zG 14 (.call 13 [(.t 13)]),zM 12 14,zE 15 12 0,zE 16 12 1,zM 3 15,zM 4 16] none)
 (.seq (.reg [zG 18 (.build [.sl 3 [] (.exact 0)] []),zG 19 (.call 35 []),zG 20 (.call 23 [(.t 18),(.t 19)]),zM 17 20,zE 21 17 0,zE 22 17 1,zM 5 21,zM 6 22] none)
 (.seq (.reg [zM 23 1,zG 24 (.len false (.t 23)),zG 25 (.bin .eql (.t 24) (.c (.int .i64 10))),zM 26 25,zm 27 26 true 1,zg 28 26 true (.slc false 1 (.t 27) none (some (.c (.int .i64 6))) none),zg 29 26 true (.conv .b2s (.t 28)),zg 30 26 true (.bin .eql (.t 29) (.c (.str [65,82,67,72,0,0]))),zA 31 26 30,zM 32 31,zm 33 32 true 2,zg 34 32 true (.bin .eql (.t 33) (.c (.int .i64 0))),zA 35 32 34,zM 36 35,zm 37 36 true 3,zg 38 36 true (.len false (.t 37)),zg 39 36 true (.bin .eql (.t 38) (.c (.int .i64 1))),zA 40 36 39,zM 41 40,zm 42 41 true 4,zg 43 41 true (.bin .eql (.t 42) (.c (.int .i64 0))),zA 44 41 43,zM 45 44,zm 46 45 true 5,zg 47 45 true (.len false (.t 46)),zg 48 45 true (.bin .eql (.t 47) (.c (.int .i64 1))),zA 49 45 48,zM 50 49,zm 51 50 true 6,zg 52 50 true (.bin .eql (.t 51) (.c (.int .i64 0))),zA 53 50 52,zM 54 53,zm 55 54 true 5,zg 56 54 true (.iaddr 3 (.t 55) (.c (.int .i64 0))),zf 57 54 true 0 56,zl 58 54 true 57,zm 59 54 true 3,zg 60 54 true (.iaddr 2 (.t 59) (.c (.int .i64 0))),zf 61 54 true 0 60,zl 62 54 true 61,zg 63 54 true (.bin .eql (.t 58) (.t 62)),zA 64 54 63,zM 65 64,zm 66 65 true 5,zg 67 65 true (.iaddr 3 (.t 66) (.c (.int .i64 0))),zf 68 65 true 1 67,zl 69 65 true 68,zg 70 65 true (.bin .eql (.t 69) (.c (.str [48]))),zA 71 65 70,zM 0 71] (some [(35,39)]))
 .ret)))))
theorem f10:aG Tryz.prog 10 72 c10 [.tmp 0]:=⟨_,Tryz.func10,rfl,by kernel_rfl,rfl⟩
def c11:AC:=(.seq (.reg [zG 1 (.box (.t 0)),zG 2 (.mov (.c (.sl 1 [] (.exact 0)))),zG 3 (.mov (.c (.int .i64 0)))] none)
 (.seq (.seq (.reg [zW 12 1 1,zG 13 (.call 15 [(.t 12)]),zM 4 13] none)
 (.seq (.reg [zM 14 4,zG 15 (.bin .neq (.t 14) (.c (.int .i64 0)))] none)
 (.cond (.t 15) (.seq (.reg [zM 16 4,zG 2 (.mov (.c (.sl 1 [] (.exact 0)))),zM 3 16] none)
 .ret) .skip)))
 (.seq (.reg [zG 17 (.buildSl 1 [(.c (.int .u8 65)),(.c (.int .u8 82)),(.c (.int .u8 67)),(.c (.int .u8 72))]),zG 18 (.conv .s2s (.t 17)),zF 19 0 1,zL 20 19,zG 21 (.len false (.t 20)),zG 22 (.call 36 [(.t 18),(.t 21)]),zM 5 22] none)
 (.seq (.seq (.reg [zF 23 0 1,zL 24 23,zG 25 (.len false (.t 24)),zG 26 (.mov (.c (.int .i64 0)))] none)
 (.block 0 (.loop (.seq (.reg [zG 27 (.bin .lss (.t 26) (.t 25))] none)
 (.seq (.cond (.t 27) .skip (.exit 0))
 (.seq (.block 1 (.seq (.reg [zG 28 (.iaddr 3 (.t 24) (.t 26)),zW 29 3 28,zG 7 (.alloc [.str [],.int .i64 0,.sl 8 [] (.exact 0)]),zH (.store 3 (.t 7) (.t 29))] none)
 (.seq (.reg [zM 30 5,zF 31 0 7,zL 32 31,zG 33 (.call 39 [(.t 30),(.t 32)]),zF 34 1 7,zL 35 34,zG 36 (.call 38 [(.t 33),(.t 35)]),zF 37 2 7,zL 38 37,zG 39 (.len false (.t 38)),zG 40 (.call 37 [(.t 36),(.t 39)]),zM 5 40] (some [(2,5),(3,5),(2,8),(3,8),(5,8),(6,8)]))
 (.seq (.reg [zF 41 2 7,zL 42 41,zG 43 (.len false (.t 42)),zG 44 (.mov (.c (.int .i64 0)))] none)
 (.block 2 (.loop (.seq (.reg [zG 45 (.bin .lss (.t 44) (.t 43))] none)
 (.seq (.cond (.t 45) .skip (.exit 2))
 (.seq (.block 3 (.seq (.reg [zG 46 (.iaddr 8 (.t 42) (.t 44)),zW 47 8 46,zG 9 (.alloc [.str [],.int .i64 0,.int .i64 0,.int .i64 0,.int .i64 0,.bool false,.bool false,.str []]),zH (.store 8 (.t 9) (.t 47))] none)
 (.seq (.reg [zF 49 2 9,zW 50 5 49,zG 51 (.call 40 [(.t 50)]),zM 48 51,zE 52 48 0,zE 53 48 1,zM 10 52,zM 11 53] none)
 (.seq (.reg [zM 54 5,zF 55 0 9,zL 56 55,zG 57 (.call 39 [(.t 54),(.t 56)]),zF 58 1 9,zL 59 58,zG 60 (.call 41 [(.t 57),(.t 59)]),zM 61 10,zG 62 (.app true 1 1 (.t 60) (.t 61)),zM 5 62] (some [(2,5),(3,5)]))
 (.reg [zM 63 5,zF 64 7 9,zL 65 64,zG 66 (.len true (.t 65)),zG 67 (.call 36 [(.t 63),(.t 66)]),zF 68 7 9,zL 69 68,zG 70 (.app true 1 1 (.t 67) (.t 69)),zM 5 70] (some [(2,6),(4,6)]))))))
 (.reg [zG 71 (.bin .add (.t 44) (.c (.int .i64 1))),zM 44 71] none))))))))))
 (.reg [zG 72 (.bin .add (.t 26) (.c (.int .i64 1))),zM 26 72] none)))))))
 (.seq (.reg [zM 73 5,zM 74 5,zG 75 (.call 42 [(.t 74)]),zG 76 (.call 37 [(.t 73),(.t 75)]),zM 2 76,zG 3 (.mov (.c (.int .i64 0)))] none)
 .ret)))))
theorem f11:aG Tryz.prog 11 77 c11 [.tmp 2,.tmp 3]:=⟨_,Tryz.func11,rfl,by kernel_rfl,rfl⟩
def c12:AC:=(.seq (.reg [zG 1 (.box (.t 0)),zG 2 (.mov (.c (.str []))),zG 3 (.mov (.c (.int .i64 0)))] none)
 (.seq (.seq (.reg [zW 5 1 1,zG 6 (.call 16 [(.t 5)]),zM 4 6] none)
 (.seq (.reg [zM 7 4,zG 8 (.bin .neq (.t 7) (.c (.int .i64 0)))] none)
 (.cond (.t 8) (.seq (.reg [zM 9 4,zG 2 (.mov (.c (.str []))),zM 3 9] none)
 .ret) .skip)))
 (.seq (.reg [zW 10 1 1,zG 11 (.call 43 [(.t 10)]),zM 2 11,zG 3 (.mov (.c (.int .i64 0)))] none)
 .ret)))
theorem f12:aG Tryz.prog 12 12 c12 [.tmp 2,.tmp 3]:=⟨_,Tryz.func12,rfl,by kernel_rfl,rfl⟩
def c13:AC:=(.seq (.reg [zG 1 (.box (.t 0)),zG 2 (.mov (.c (.sl 2 [] (.exact 0)))),zG 3 (.mov (.c (.int .i64 0)))] none)
 (.seq (.seq (.reg [zW 11 1 1,zG 12 (.call 15 [(.t 11)]),zM 4 12] none)
 (.seq (.reg [zM 13 4,zG 14 (.bin .neq (.t 13) (.c (.int .i64 0)))] none)
 (.cond (.t 14) (.seq (.reg [zM 15 4,zG 2 (.mov (.c (.sl 2 [] (.exact 0)))),zM 3 15] none)
 .ret) .skip)))
 (.seq (.reg [zG 5 (.alloc [.sl 2 [] (.exact 0)])] none)
 (.seq (.seq (.reg [zF 16 0 1,zL 17 16,zG 18 (.len false (.t 17)),zG 19 (.mov (.c (.int .i64 0)))] none)
 (.block 0 (.loop (.seq (.reg [zG 20 (.bin .lss (.t 19) (.t 18))] none)
 (.seq (.cond (.t 20) .skip (.exit 0))
 (.seq (.block 1 (.seq (.reg [zG 21 (.iaddr 3 (.t 17) (.t 19)),zW 22 3 21,zG 7 (.alloc [.str [],.int .i64 0,.sl 8 [] (.exact 0)]),zH (.store 3 (.t 7) (.t 22))] none)
 (.seq (.reg [zW 23 3 7,zG 24 (.call 44 [(.t 23)])] none)
 (.block 2 (.jY (.t 24) [25] (.reg [zM 8 25] none)
 (.block 3 (.seq (.reg [zM 26 8,zG 27 (.len false (.t 26)),zG 28 (.mov (.c (.int .i64 0)))] none)
 (.block 4 (.loop (.seq (.reg [zG 29 (.bin .lss (.t 28) (.t 27))] none)
 (.seq (.cond (.t 29) .skip (.exit 4))
 (.seq (.block 5 (.seq (.reg [zG 30 (.iaddr 3 (.t 26) (.t 28)),zW 31 3 30,zG 10 (.alloc [.str [],.str [],.bool false]),zH (.store 3 (.t 10) (.t 31))] none)
 (.reg [zL 32 5,zF 33 0 10,zL 34 33,zF 35 1 10,zL 36 35,zG 37 (.build [.str [],.str []] [(0,1,(.t 34)),(1,1,(.t 36))]),zG 38 (.buildSl 2 [(.t 37)]),zG 39 (.app false 2 32 (.t 32) (.t 38)),zH (.store 1 (.t 5) (.t 39))] none)))
 (.reg [zG 40 (.bin .add (.t 28) (.c (.int .i64 1))),zM 28 40] none)))))))))))))
 (.reg [zG 41 (.bin .add (.t 19) (.c (.int .i64 1))),zM 19 41] none)))))))
 (.seq (.reg [zL 42 5,zG 43 (.call 45 [(.t 42),(.c (.clo (.func 46) [] []))])] none)
 (.seq (.reg [zL 44 5,zM 2 44,zG 3 (.mov (.c (.int .i64 0)))] none)
 .ret))))))
theorem f13:aG Tryz.prog 13 45 c13 [.tmp 2,.tmp 3]:=⟨_,Tryz.func13,rfl,by kernel_rfl,rfl⟩
def c14:AC:=(.seq (.reg [zG 1 (.box (.t 0)),zG 2 (.mov (.c (.sl 2 [] (.exact 0)))),zG 3 (.mov (.c (.int .i64 0)))] none)
 (.seq (.seq (.reg [zW 10 1 1,zG 11 (.call 16 [(.t 10)]),zM 4 11] none)
 (.seq (.reg [zM 12 4,zG 13 (.bin .neq (.t 12) (.c (.int .i64 0)))] none)
 (.cond (.t 13) (.seq (.reg [zM 14 4,zG 2 (.mov (.c (.sl 2 [] (.exact 0)))),zM 3 14] none)
 .ret) .skip)))
 (.seq (.reg [zG 5 (.mov (.c (.sl 2 [] (.exact 0))))] none)
 (.seq (.seq (.reg [zG 6 (.mov (.c (.int .i64 0)))] none)
 (.block 0 (.loop (.seq (.seq (.reg [zM 15 6,zF 16 0 1,zL 17 16,zG 18 (.len false (.t 17)),zG 19 (.bin .lss (.t 15) (.t 18))] none)
 (.cond (.t 19) .skip (.exit 0)))
 (.seq (.block 1 (.seq (.reg [zF 22 0 1,zL 23 22,zM 24 6,zG 25 (.iaddr 3 (.t 23) (.t 24)),zW 26 3 25,zG 27 (.call 47 [(.t 26)]),zM 7 27] none)
 (.seq (.reg [zG 8 (.mov (.c (.int .i64 0)))] none)
 (.block 2 (.loop (.seq (.seq (.reg [zM 28 8,zM 29 7,zG 30 (.len false (.t 29)),zG 31 (.bin .lss (.t 28) (.t 30))] none)
 (.cond (.t 31) .skip (.exit 2)))
 (.seq (.block 3 (.seq (.reg [zG 9 (.mov (.c (.int .i64 0)))] none)
 (.block 4 (.loop (.seq (.seq (.reg [zM 34 9,zM 35 7,zM 36 8,zG 37 (.iaddr 1 (.t 35) (.t 36)),zL 38 37,zG 39 (.len false (.t 38)),zG 40 (.bin .lss (.t 34) (.t 39))] none)
 (.cond (.t 40) .skip (.exit 4)))
 (.seq (.block 5 (.reg [zM 44 5,zM 45 7,zM 46 8,zG 47 (.iaddr 1 (.t 45) (.t 46)),zL 48 47,zM 49 9,zG 50 (.iaddr 3 (.t 48) (.t 49)),zF 51 0 50,zL 52 51,zM 53 7,zM 54 8,zG 55 (.iaddr 1 (.t 53) (.t 54)),zL 56 55,zM 57 9,zG 58 (.iaddr 3 (.t 56) (.t 57)),zF 59 1 58,zL 60 59,zG 61 (.call 48 [(.t 44),(.t 52),(.t 60)]),zM 43 61,zE 62 43 0,zE 63 43 1,zM 5 62] (some [(4,12),(8,12),(4,16),(8,16)])))
 (.reg [zM 41 9,zG 42 (.bin .add (.t 41) (.c (.int .i64 1))),zM 9 42] none)))))))
 (.reg [zM 32 8,zG 33 (.bin .add (.t 32) (.c (.int .i64 1))),zM 8 33] none))))))))
 (.reg [zM 20 6,zG 21 (.bin .add (.t 20) (.c (.int .i64 1))),zM 6 21] none))))))
 (.seq (.reg [zM 64 5,zM 2 64,zG 3 (.mov (.c (.int .i64 0)))] none)
 .ret)))))
theorem f14:aG Tryz.prog 14 65 c14 [.tmp 2,.tmp 3]:=⟨_,Tryz.func14,rfl,by kernel_rfl,rfl⟩
def c15:AC:=(.seq (.reg [zG 1 (.box (.t 0)),zG 2 (.mov (.c (.int .i64 0)))] none)
 (.seq (.seq (.reg [zF 7 0 1,zL 8 7,zG 9 (.len false (.t 8)),zG 10 (.bin .gtr (.t 9) (.c (.int .i64 65535)))] none)
 (.cond (.t 10) (.seq (.reg [zG 2 (.mov (.c (.int .i64 4)))] none)
 .ret) .skip))
 (.seq (.seq (.reg [zF 11 0 1,zL 12 11,zG 13 (.len false (.t 12)),zG 14 (.mov (.c (.int .i64 0)))] none)
 (.block 0 (.loop (.seq (.reg [zG 15 (.bin .lss (.t 14) (.t 13))] none)
 (.seq (.cond (.t 15) .skip (.exit 0))
 (.seq (.block 1 (.seq (.reg [zM 16 14,zG 17 (.iaddr 3 (.t 12) (.t 14)),zW 18 3 17,zG 4 (.alloc [.str [],.int .i64 0,.sl 8 [] (.exact 0)]),zM 3 16,zH (.store 3 (.t 4) (.t 18))] none)
 (.seq (.reg [zF 20 1 4,zL 21 20,zG 22 (.call 49 [(.t 21)]),zM 19 22,zE 23 19 0,zE 24 19 1,zM 5 23,zM 6 24] none)
 (.seq (.reg [zM 25 6,zG 26 (.bin .neq (.t 25) (.c (.int .i64 0))),zM 27 26,zf 28 27 false 0 4,zl 29 27 false 28,zg 30 27 false (.call 50 [(.t 29)]),zg 31 27 false (.bin .neq (.t 30) (.c (.int .i64 0))),zO 32 27 31,zM 33 32,zm 34 33 false 3,zg 35 33 false (.bin .gtr (.t 34) (.c (.int .i64 0))),zm 36 33 false 35,zf 37 36 true 0 1,zl 38 36 true 37,zm 39 36 true 3,zg 40 36 true (.bin .sub (.t 39) (.c (.int .i64 1))),zg 41 36 true (.iaddr 3 (.t 38) (.t 40)),zf 42 36 true 0 41,zl 43 36 true 42,zf 44 36 true 0 4,zl 45 36 true 44,zg 46 36 true (.bin .geq (.t 43) (.t 45)),zg 47 33 false (.pick (.t 36) (.t 46) (.c (.bool false))),zO 48 33 47,zM 49 48,zf 50 49 false 2 4,zl 51 49 false 50,zg 52 49 false (.call 51 [(.t 51)]),zn 53 49 false 52,zO 54 49 53] (some [(13,20),(18,20)]))
 (.cond (.t 54) (.seq (.reg [zG 2 (.mov (.c (.int .i64 4)))] none)
 .ret) .skip)))))
 (.reg [zG 55 (.bin .add (.t 14) (.c (.int .i64 1))),zM 14 55] none)))))))
 (.seq (.reg [zG 2 (.mov (.c (.int .i64 0)))] none)
 .ret))))
theorem f15:aG Tryz.prog 15 56 c15 [.tmp 2]:=⟨_,Tryz.func15,rfl,by kernel_rfl,rfl⟩
def c16:AC:=(.seq (.reg [zG 1 (.box (.t 0)),zG 2 (.mov (.c (.int .i64 0)))] none)
 (.seq (.seq (.reg [zF 4 0 1,zL 5 4,zG 6 (.len false (.t 5)),zG 7 (.bin .gtr (.t 6) (.c (.int .i64 65535)))] none)
 (.cond (.t 7) (.seq (.reg [zG 2 (.mov (.c (.int .i64 4)))] none)
 .ret) .skip))
 (.seq (.seq (.reg [zG 3 (.mov (.c (.int .i64 0)))] none)
 (.block 0 (.loop (.seq (.seq (.reg [zM 8 3,zF 9 0 1,zL 10 9,zG 11 (.len false (.t 10)),zG 12 (.bin .lss (.t 8) (.t 11))] none)
 (.cond (.t 12) .skip (.exit 0)))
 (.seq (.block 1 (.seq (.reg [zF 15 0 1,zL 16 15,zM 17 3,zG 18 (.iaddr 3 (.t 16) (.t 17)),zW 19 3 18,zG 20 (.call 52 [(.t 19)]),zN 21 20,zM 22 21,zm 23 22 false 3,zg 24 22 false (.bin .gtr (.t 23) (.c (.int .i64 0))),zm 25 22 false 24,zf 26 25 true 0 1,zl 27 25 true 26,zm 28 25 true 3,zg 29 25 true (.bin .sub (.t 28) (.c (.int .i64 1))),zg 30 25 true (.iaddr 3 (.t 27) (.t 29)),zf 31 25 true 0 30,zl 32 25 true 31,zf 33 25 true 0 1,zl 34 25 true 33,zm 35 25 true 3,zg 36 25 true (.iaddr 3 (.t 34) (.t 35)),zf 37 25 true 0 36,zl 38 25 true 37,zg 39 25 true (.call 53 [(.t 32),(.t 38)]),zn 40 25 true 39,zg 41 22 false (.pick (.t 25) (.t 40) (.c (.bool false))),zO 42 22 41] (some [(12,19),(17,19),(12,23),(17,23)]))
 (.cond (.t 42) (.seq (.reg [zG 2 (.mov (.c (.int .i64 4)))] none)
 .ret) .skip)))
 (.reg [zM 13 3,zG 14 (.bin .add (.t 13) (.c (.int .i64 1))),zM 3 14] none))))))
 (.seq (.reg [zG 2 (.mov (.c (.int .i64 0)))] none)
 .ret))))
theorem f16:aG Tryz.prog 16 43 c16 [.tmp 2]:=⟨_,Tryz.func16,rfl,by kernel_rfl,rfl⟩
def c17:AC:=(.seq (.reg [zG 4 (.mov (.c (.bool false)))] none)
 (.seq (.seq (.reg [zM 6 0,zG 7 (.len false (.t 6)),zM 8 1,zG 9 (.len false (.t 8)),zG 10 (.bin .neq (.t 7) (.t 9))] none)
 (.cond (.t 10) (.seq (.reg [zG 4 (.mov (.c (.bool false)))] none)
 .ret) .skip))
 (.seq (.seq (.reg [zG 5 (.mov (.c (.int .i64 0)))] none)
 (.block 0 (.loop (.seq (.seq (.reg [zM 11 5,zM 12 0,zG 13 (.len false (.t 12)),zG 14 (.bin .lss (.t 11) (.t 13))] none)
 (.cond (.t 14) .skip (.exit 0)))
 (.seq (.block 1 (.seq (.reg [zM 17 0,zM 18 5,zG 19 (.iaddr 2 (.t 17) (.t 18)),zW 20 2 19,zM 21 1,zM 22 5,zG 23 (.iaddr 2 (.t 21) (.t 22)),zW 24 2 23,zG 25 (.eqA true [.str,.str] (.t 20) (.t 24))] (some [(3,7)]))
 (.cond (.t 25) (.seq (.reg [zG 4 (.mov (.c (.bool false)))] none)
 .ret) .skip)))
 (.reg [zM 15 5,zG 16 (.bin .add (.t 15) (.c (.int .i64 1))),zM 5 16] none))))))
 (.seq (.reg [zG 4 (.mov (.c (.bool true)))] none)
 .ret))))
theorem f17:aG Tryz.prog 17 26 c17 [.tmp 4]:=⟨_,Tryz.func17,rfl,by kernel_rfl,rfl⟩
def c20:AC:=(.seq (.reg [zG 1 (.box (.t 0)),zG 2 (.alloc [.sl 3 [] (.exact 0)]),zG 3 (.mov (.c (.int .i64 0)))] none)
 (.seq (.reg [zG 6 (.mkmap),zG 7 (.build [.sl 3 [] (.exact 0),.sc (.map none)] [(1,1,(.t 6))]),zG 8 (.box (.t 7)),zG 4 (.alloc [.sc (.pointer none)]),zH (.store 1 (.t 4) (.t 8))] none)
 (.seq (.reg [zG 9 (.mkfn (.func 63) [] [(.t 1),(.t 4)]),zG 10 (.call 54 [(.t 9)]),zM 5 10] none)
 (.seq (.seq (.reg [zM 11 5,zG 12 (.bin .neq (.t 11) (.c (.int .i64 0)))] none)
 (.cond (.t 12) (.seq (.reg [zG 13 (.build [.sl 3 [] (.exact 0)] []),zM 14 5,zH (.store 1 (.t 2) (.t 13)),zM 3 14] none)
 .ret) .skip))
 (.seq (.reg [zL 15 4,zK 16 15,zF 17 0 16,zW 18 1 17,zH (.store 1 (.t 2) (.t 18)),zG 3 (.mov (.c (.int .i64 0)))] none)
 .ret)))))
theorem f20:aG Tryz.prog 20 19 c20 [.cell 2 (some 1),.tmp 3]:=⟨_,Tryz.func20,rfl,by kernel_rfl,rfl⟩
def c21:AC:=(.seq (.reg [zG 2 (.alloc [.sl 3 [] (.exact 0)]),zG 3 (.mov (.c (.int .i64 0)))] none)
 (.seq (.reg [zG 4 (.alloc [.sl 3 [] (.exact 0)])] none)
 (.seq (.seq (.reg [zG 5 (.mov (.c (.int .i64 0)))] none)
 (.block 0 (.loop (.seq (.seq (.reg [zM 19 5,zM 20 0,zG 21 (.len false (.t 20)),zG 22 (.bin .lss (.t 19) (.t 21))] none)
 (.cond (.t 22) .skip (.exit 0)))
 (.seq (.block 1 (.seq (.reg [zM 26 0,zM 27 5,zG 28 (.iaddr 2 (.t 26) (.t 27)),zF 29 0 28,zL 30 29,zG 31 (.call 66 [(.t 30)]),zM 25 31,zE 32 25 0,zE 33 25 1,zG 6 (.alloc [.int .i64 0,.str [],.str [],.sl 1 [] (.exact 0)]),zH (.store 4 (.t 6) (.t 32)),zM 7 33] none)
 (.seq (.seq (.reg [zM 34 7,zG 35 (.bin .neq (.t 34) (.c (.int .i64 0)))] none)
 (.cond (.t 35) (.seq (.reg [zG 36 (.build [.sl 3 [] (.exact 0)] []),zH (.store 1 (.t 2) (.t 36)),zG 3 (.mov (.c (.int .i64 4)))] none)
 .ret) .skip))
 (.seq (.reg [zF 37 0 6,zL 38 37,zG 39 (.bin .eql (.t 38) (.c (.int .i64 1)))] none)
 (.cond (.t 39) (.seq (.reg [zM 41 0,zM 42 5,zG 43 (.iaddr 2 (.t 41) (.t 42)),zF 44 1 43,zL 45 44,zG 46 (.call 67 [(.t 45)]),zM 40 46,zE 47 40 0,zE 48 40 1,zM 8 47,zM 9 48] none)
 (.reg [zF 49 0 4,zL 50 49,zF 51 1 6,zL 52 51,zM 53 8,zG 54 (.build [.str [],.int .i64 0,.sl 8 [] (.exact 0)] [(0,1,(.t 52)),(1,1,(.t 53))]),zG 55 (.buildSl 3 [(.t 54)]),zG 56 (.app false 3 48 (.t 50) (.t 55)),zF 57 0 4,zH (.store 1 (.t 57) (.t 56))] none)) .skip)))))
 (.reg [zM 23 5,zG 24 (.bin .add (.t 23) (.c (.int .i64 1))),zM 5 24] none))))))
 (.seq (.seq (.reg [zG 10 (.mov (.c (.int .i64 0)))] none)
 (.block 2 (.loop (.seq (.seq (.reg [zM 58 10,zF 59 0 4,zL 60 59,zG 61 (.len false (.t 60)),zG 62 (.bin .lss (.t 58) (.t 61))] none)
 (.cond (.t 62) .skip (.exit 2)))
 (.seq (.block 3 (.seq (.reg [zG 11 (.mov (.c (.int .i64 0)))] none)
 (.block 4 (.loop (.seq (.seq (.reg [zM 65 11,zM 66 0,zG 67 (.len false (.t 66)),zG 68 (.bin .lss (.t 65) (.t 67))] none)
 (.cond (.t 68) .skip (.exit 4)))
 (.seq (.block 5 (.seq (.reg [zM 72 0,zM 73 11,zG 74 (.iaddr 2 (.t 72) (.t 73)),zF 75 0 74,zL 76 75,zG 77 (.call 66 [(.t 76)]),zM 71 77,zE 78 71 0,zE 79 71 1,zG 12 (.alloc [.int .i64 0,.str [],.str [],.sl 1 [] (.exact 0)]),zH (.store 4 (.t 12) (.t 78)),zM 13 79] none)
 (.seq (.seq (.reg [zF 80 0 12,zL 81 80,zG 82 (.bin .neq (.t 81) (.c (.int .i64 2))),zM 83 82,zf 84 83 false 1 12,zl 85 83 false 84,zf 86 83 false 0 4,zl 87 83 false 86,zm 88 83 false 10,zg 89 83 false (.iaddr 3 (.t 87) (.t 88)),zf 90 83 false 0 89,zl 91 83 false 90,zg 92 83 false (.bin .neq (.t 85) (.t 91)),zO 93 83 92] (some [(5,7),(5,11)]))
 (.cond (.t 93) (.exit 5) .skip))
 (.seq (.reg [zM 95 0,zM 96 11,zG 97 (.iaddr 2 (.t 95) (.t 96)),zF 98 1 97,zL 99 98,zG 100 (.call 62 [(.t 99)]),zM 94 100,zE 101 94 0,zE 102 94 1,zG 14 (.alloc [.int .i64 0,.int .i64 0,.int .i64 0,.bool false,.bool false]),zH (.store 5 (.t 14) (.t 101)),zM 15 102] none)
 (.seq (.reg [zF 103 2 12,zL 104 103,zF 105 3 12,zL 106 105,zG 107 (.iaddr 1 (.t 106) (.c (.int .i64 0))),zL 108 107,zW 109 5 14,zG 110 (.build [.str [],.int .i64 0,.int .i64 0,.int .i64 0,.int .i64 0,.bool false,.bool false,.str []] [(0,1,(.t 104)),(1,1,(.t 108)),(2,5,(.t 109))]),zG 16 (.alloc [.str [],.int .i64 0,.int .i64 0,.int .i64 0,.int .i64 0,.bool false,.bool false,.str []]),zH (.store 8 (.t 16) (.t 110))] (some [(1,3),(1,5),(1,6),(3,6),(5,6),(1,8),(3,8),(5,8),(6,8)]))
 (.seq (.reg [zM 111 0,zF 112 1 12,zL 113 112,zW 114 8 16,zG 115 (.call 68 [(.t 111),(.t 113),(.t 114)]),zF 116 7 16,zH (.store 1 (.t 116) (.t 115))] none)
 (.reg [zF 117 0 4,zL 118 117,zM 119 10,zF 120 0 4,zL 121 120,zM 122 10,zG 123 (.iaddr 3 (.t 121) (.t 122)),zF 124 2 123,zL 125 124,zW 126 8 16,zG 127 (.buildSl 8 [(.t 126)]),zG 128 (.app false 8 72 (.t 125) (.t 127)),zG 129 (.iaddr 3 (.t 118) (.t 119)),zF 130 2 129,zH (.store 1 (.t 130) (.t 128))] (some [(1,4),(1,8),(1,9),(4,9),(8,9),(1,10),(4,10),(8,10),(1,11)]))))))))
 (.reg [zM 69 11,zG 70 (.bin .add (.t 69) (.c (.int .i64 1))),zM 11 70] none)))))))
 (.reg [zM 63 10,zG 64 (.bin .add (.t 63) (.c (.int .i64 1))),zM 10 64] none))))))
 (.seq (.reg [zW 132 1 4,zG 133 (.call 14 [(.t 132)]),zM 131 133,zE 134 131 0,zE 135 131 1,zM 17 134,zM 18 135] none)
 (.seq (.seq (.reg [zM 136 18,zG 137 (.bin .neq (.t 136) (.c (.int .i64 0))),zM 138 137,zm 139 138 false 17,zm 140 138 false 0,zg 141 138 false (.call 17 [(.t 139),(.t 140)]),zn 142 138 false 141,zO 143 138 142] none)
 (.cond (.t 143) (.seq (.reg [zG 144 (.build [.sl 3 [] (.exact 0)] []),zH (.store 1 (.t 2) (.t 144)),zG 3 (.mov (.c (.int .i64 4)))] none)
 .ret) .skip))
 (.seq (.reg [zW 145 1 4,zH (.store 1 (.t 2) (.t 145)),zG 3 (.mov (.c (.int .i64 0)))] none)
 .ret)))))))
theorem f21:aG Tryz.prog 21 146 c21 [.cell 2 (some 1),.tmp 3]:=⟨_,Tryz.func21,rfl,by kernel_rfl,rfl⟩
def c22:AC:=(.seq (.reg [zG 2 (.box (.t 0)),zG 3 (.box (.t 1)),zG 4 (.mov (.c (.bool false)))] none)
 (.seq (.seq (.reg [zF 9 0 2,zL 10 9,zG 11 (.len false (.t 10)),zF 12 0 3,zL 13 12,zG 14 (.len false (.t 13)),zG 15 (.bin .neq (.t 11) (.t 14))] none)
 (.cond (.t 15) (.seq (.reg [zG 4 (.mov (.c (.bool false)))] none)
 .ret) .skip))
 (.seq (.seq (.reg [zG 5 (.mov (.c (.int .i64 0)))] none)
 (.block 0 (.loop (.seq (.seq (.reg [zM 16 5,zF 17 0 2,zL 18 17,zG 19 (.len false (.t 18)),zG 20 (.bin .lss (.t 16) (.t 19))] none)
 (.cond (.t 20) .skip (.exit 0)))
 (.seq (.block 1 (.seq (.reg [zF 23 0 2,zL 24 23,zM 25 5,zG 26 (.iaddr 3 (.t 24) (.t 25)),zW 27 3 26,zF 28 0 3,zL 29 28,zM 30 5,zG 31 (.iaddr 3 (.t 29) (.t 30)),zW 32 3 31,zG 6 (.alloc [.str [],.int .i64 0,.sl 8 [] (.exact 0)]),zG 7 (.alloc [.str [],.int .i64 0,.sl 8 [] (.exact 0)]),zH (.store 3 (.t 6) (.t 27)),zH (.store 3 (.t 7) (.t 32))] (some [(1,6),(4,6),(1,9),(4,9),(1,10),(4,10),(6,10),(9,10),(1,11),(4,11),(6,11),(9,11),(10,11),(6,12),(9,12)]))
 (.seq (.seq (.reg [zF 33 0 6,zL 34 33,zF 35 0 7,zL 36 35,zG 37 (.bin .neq (.t 34) (.t 36)),zM 38 37,zf 39 38 false 1 6,zl 40 38 false 39,zf 41 38 false 1 7,zl 42 38 false 41,zg 43 38 false (.bin .neq (.t 40) (.t 42)),zO 44 38 43,zM 45 44,zf 46 45 false 2 6,zl 47 45 false 46,zg 48 45 false (.len false (.t 47)),zf 49 45 false 2 7,zl 50 45 false 49,zg 51 45 false (.len false (.t 50)),zg 52 45 false (.bin .neq (.t 48) (.t 51)),zO 53 45 52] none)
 (.cond (.t 53) (.seq (.reg [zG 4 (.mov (.c (.bool false)))] none)
 .ret) .skip))
 (.seq (.reg [zG 8 (.mov (.c (.int .i64 0)))] none)
 (.block 2 (.loop (.seq (.seq (.reg [zM 54 8,zF 55 2 6,zL 56 55,zG 57 (.len false (.t 56)),zG 58 (.bin .lss (.t 54) (.t 57))] none)
 (.cond (.t 58) .skip (.exit 2)))
 (.seq (.block 3 (.seq (.reg [zF 61 2 6,zL 62 61,zM 63 8,zG 64 (.iaddr 8 (.t 62) (.t 63)),zW 65 8 64,zF 66 2 7,zL 67 66,zM 68 8,zG 69 (.iaddr 8 (.t 67) (.t 68)),zW 70 8 69,zG 71 (.eqA true [.str,.int,.int,.int,.int,.bool,.bool,.str] (.t 65) (.t 70))] (some [(1,6),(4,6),(1,9),(4,9)]))
 (.cond (.t 71) (.seq (.reg [zG 4 (.mov (.c (.bool false)))] none)
 .ret) .skip)))
 (.reg [zM 59 8,zG 60 (.bin .add (.t 59) (.c (.int .i64 1))),zM 8 60] none)))))))))
 (.reg [zM 21 5,zG 22 (.bin .add (.t 21) (.c (.int .i64 1))),zM 5 22] none))))))
 (.seq (.reg [zG 4 (.mov (.c (.bool true)))] none)
 .ret))))
theorem f22:aG Tryz.prog 22 72 c22 [.tmp 4]:=⟨_,Tryz.func22,rfl,by kernel_rfl,rfl⟩
def c23:AC:=(.seq (.reg [zG 2 (.box (.t 0)),zG 3 (.box (.t 1)),zG 4 (.mov (.c (.sl 3 [] (.exact 0)))),zG 5 (.mov (.c (.int .i64 0)))] none)
 (.seq (.reg [zW 10 1 2,zG 11 (.call 13 [(.t 10)]),zM 9 11,zE 12 9 0,zE 13 9 1,zM 6 12,zM 7 13] none)
 (.seq (.seq (.reg [zM 14 7,zG 15 (.bin .neq (.t 14) (.c (.int .i64 0)))] none)
 (.cond (.t 15) (.seq (.reg [zM 16 7,zG 4 (.mov (.c (.sl 3 [] (.exact 0)))),zM 5 16] none)
 .ret) .skip))
 (.seq (.reg [zW 18 1 3,zG 19 (.call 13 [(.t 18)]),zM 17 19,zE 20 17 0,zE 21 17 1,zM 8 20,zM 7 21] none)
 (.seq (.seq (.reg [zM 22 7,zG 23 (.bin .neq (.t 22) (.c (.int .i64 0)))] none)
 (.cond (.t 23) (.seq (.reg [zM 24 7,zG 4 (.mov (.c (.sl 3 [] (.exact 0)))),zM 5 24] none)
 .ret) .skip))
 (.seq (.reg [zM 25 6,zM 26 8,zG 27 (.call 69 [(.t 25),(.t 26)]),zM 4 27,zG 5 (.mov (.c (.int .i64 0)))] none)
 .ret))))))
theorem f23:aG Tryz.prog 23 28 c23 [.tmp 4,.tmp 5]:=⟨_,Tryz.func23,rfl,by kernel_rfl,rfl⟩
def c24:AC:=(.seq (.reg [zG 2 (.box (.t 0)),zG 4 (.alloc [.sl 3 [] (.exact 0)]),zG 5 (.mov (.c (.int .i64 0)))] none)
 (.seq (.reg [zW 13 1 2,zG 14 (.call 13 [(.t 13)]),zM 12 14,zE 15 12 0,zE 16 12 1,zM 6 15,zM 7 16] none)
 (.seq (.seq (.reg [zM 17 7,zG 18 (.bin .neq (.t 17) (.c (.int .i64 0)))] none)
 (.cond (.t 18) (.seq (.reg [zG 19 (.build [.sl 3 [] (.exact 0)] []),zM 20 7,zH (.store 1 (.t 4) (.t 19)),zM 5 20] none)
 .ret) .skip))
 (.seq (.seq (.reg [zM 21 1,zG 22 (.len false (.t 21)),zG 23 (.mov (.c (.int .i64 0)))] none)
 (.block 0 (.loop (.seq (.reg [zG 24 (.bin .lss (.t 23) (.t 22))] none)
 (.seq (.cond (.t 24) .skip (.exit 0))
 (.seq (.block 1 (.seq (.reg [zG 25 (.iaddr 3 (.t 21) (.t 23)),zW 26 3 25,zG 9 (.alloc [.str [],.str [],.bool false]),zH (.store 3 (.t 9) (.t 26))] none)
 (.seq (.seq (.reg [zF 27 0 9,zL 28 27,zG 29 (.len true (.t 28)),zG 30 (.bin .gtr (.t 29) (.c (.int .i64 128))),zM 31 30,zf 32 31 false 2 9,zl 33 31 false 32,zn 34 31 false 33,zm 35 31 false 34,zf 36 35 true 1 9,zl 37 35 true 36,zg 38 35 true (.len true (.t 37)),zg 39 35 true (.bin .gtr (.t 38) (.c (.int .i64 200))),zg 40 31 false (.pick (.t 35) (.t 39) (.c (.bool false))),zO 41 31 40] none)
 (.cond (.t 41) (.seq (.reg [zG 42 (.build [.sl 3 [] (.exact 0)] []),zH (.store 1 (.t 4) (.t 42)),zG 5 (.mov (.c (.int .i64 4)))] none)
 .ret) .skip))
 (.seq (.reg [zM 44 6,zF 45 0 9,zL 46 45,zG 47 (.build [.str [],.str []] [(0,1,(.t 46))]),zG 48 (.call 70 [(.t 44),(.t 47),(.c (.clo (.func 46) [] []))]),zM 43 48,zE 49 43 0,zE 50 43 1,zM 10 49,zM 11 50] none)
 (.block 2 (.seq (.reg [zF 61 2 9,zL 62 61,zM 63 62,zm 64 63 true 11,zA 65 63 64,zM 60 65] none)
 (.cond (.t 60) (.reg [zM 66 6,zM 67 10,zM 68 10,zG 69 (.bin .add (.t 68) (.c (.int .i64 1))),zG 70 (.call 71 [(.t 66),(.t 67),(.t 69)]),zM 6 70] none) (.seq (.reg [zF 72 2 9,zL 73 72,zM 71 73] none)
 (.cond (.t 71) .skip (.seq (.reg [zM 75 11,zM 74 75] none)
 (.cond (.t 74) (.reg [zM 76 6,zM 77 10,zF 78 1 9,zL 79 78,zG 80 (.iaddr 2 (.t 76) (.t 77)),zF 81 1 80,zH (.store 1 (.t 81) (.t 79))] none) (.reg [zM 51 6,zM 52 10,zF 53 0 9,zL 54 53,zF 55 1 9,zL 56 55,zG 57 (.build [.str [],.str []] [(0,1,(.t 54)),(1,1,(.t 56))]),zG 58 (.buildSl 2 [(.t 57)]),zG 59 (.call 72 [(.t 51),(.t 52),(.t 58)]),zM 6 59] none))))))))))))
 (.reg [zG 82 (.bin .add (.t 23) (.c (.int .i64 1))),zM 23 82] none)))))))
 (.seq (.reg [zM 83 6,zG 84 (.call 20 [(.t 83)]),zE 85 84 0,zE 86 84 1,zH (.store 1 (.t 4) (.t 85)),zM 5 86] none)
 .ret)))))
theorem f24:aG Tryz.prog 24 87 c24 [.cell 4 (some 1),.tmp 5]:=⟨_,Tryz.func24,rfl,by kernel_rfl,rfl⟩
def c25:AC:=(.seq (.reg [zG 1 (.box (.t 0)),zG 2 (.mov (.c (.sl 1 [] (.exact 0)))),zG 3 (.mov (.c (.int .i64 0)))] none)
 (.seq (.seq (.reg [zW 10 1 1,zG 11 (.call 15 [(.t 10)]),zM 4 11] none)
 (.seq (.reg [zM 12 4,zG 13 (.bin .neq (.t 12) (.c (.int .i64 0)))] none)
 (.cond (.t 13) (.seq (.reg [zM 14 4,zG 2 (.mov (.c (.sl 1 [] (.exact 0)))),zM 3 14] none)
 .ret) .skip)))
 (.seq (.reg [zG 5 (.alloc [.sl 1 [] (.exact 0)])] none)
 (.seq (.seq (.reg [zF 15 0 1,zL 16 15,zG 17 (.len false (.t 16)),zG 18 (.mov (.c (.int .i64 0)))] none)
 (.block 0 (.loop (.seq (.reg [zG 19 (.bin .lss (.t 18) (.t 17))] none)
 (.seq (.cond (.t 19) .skip (.exit 0))
 (.seq (.block 1 (.seq (.reg [zG 20 (.iaddr 3 (.t 16) (.t 18)),zW 21 3 20,zG 7 (.alloc [.str [],.int .i64 0,.sl 8 [] (.exact 0)]),zH (.store 3 (.t 7) (.t 21))] none)
 (.seq (.reg [zW 22 3 7,zG 23 (.call 44 [(.t 22)])] none)
 (.block 2 (.jY (.t 23) [24] (.reg [zM 8 24] none)
 (.block 3 (.seq (.reg [zL 25 5,zG 26 (.len false (.t 25)),zM 9 26] none)
 (.seq (.seq (.reg [zM 27 9,zG 28 (.bin .gtr (.t 27) (.c (.int .i64 0))),zM 29 28,zl 30 29 true 5,zm 31 29 true 9,zg 32 29 true (.bin .sub (.t 31) (.c (.int .i64 1))),zg 33 29 true (.iaddr 1 (.t 30) (.t 32)),zl 34 29 true 33,zg 35 29 true (.len false (.t 34)),zm 36 29 true 8,zg 37 29 true (.len false (.t 36)),zg 38 29 true (.bin .add (.t 35) (.t 37)),zg 39 29 true (.bin .leq (.t 38) (.c (.int .i64 64))),zA 40 29 39] none)
 (.cond (.t 40) (.seq (.reg [zL 41 5,zM 42 9,zG 43 (.bin .sub (.t 42) (.c (.int .i64 1))),zL 44 5,zM 45 9,zG 46 (.bin .sub (.t 45) (.c (.int .i64 1))),zG 47 (.iaddr 1 (.t 44) (.t 46)),zL 48 47,zM 49 8,zG 50 (.app false 3 40 (.t 48) (.t 49)),zG 51 (.iaddr 1 (.t 41) (.t 43)),zH (.store 1 (.t 51) (.t 50))] (some [(0,3),(0,7),(0,9)]))
 (.exit 3)) .skip))
 (.reg [zL 52 5,zM 53 8,zG 54 (.buildSl 1 [(.t 53)]),zG 55 (.app false 1 24 (.t 52) (.t 54)),zH (.store 1 (.t 5) (.t 55))] none)))))))))
 (.reg [zG 56 (.bin .add (.t 18) (.c (.int .i64 1))),zM 18 56] none)))))))
 (.seq (.reg [zL 57 5,zM 2 57,zG 3 (.mov (.c (.int .i64 0)))] none)
 .ret)))))
theorem f25:aG Tryz.prog 25 58 c25 [.tmp 2,.tmp 3]:=⟨_,Tryz.func25,rfl,by kernel_rfl,rfl⟩
def c26:AC:=(.seq (.reg [zG 1 (.box (.t 0)),zG 2 (.mov (.c (.sl 1 [] (.exact 0)))),zG 3 (.mov (.c (.int .i64 0)))] none)
 (.seq (.seq (.reg [zW 10 1 1,zG 11 (.call 16 [(.t 10)]),zM 4 11] none)
 (.seq (.reg [zM 12 4,zG 13 (.bin .neq (.t 12) (.c (.int .i64 0)))] none)
 (.cond (.t 13) (.seq (.reg [zM 14 4,zG 2 (.mov (.c (.sl 1 [] (.exact 0)))),zM 3 14] none)
 .ret) .skip)))
 (.seq (.reg [zG 5 (.mov (.c (.sl 1 [] (.exact 0))))] none)
 (.seq (.seq (.reg [zG 6 (.mov (.c (.int .i64 0)))] none)
 (.block 0 (.loop (.seq (.seq (.reg [zM 15 6,zF 16 0 1,zL 17 16,zG 18 (.len false (.t 17)),zG 19 (.bin .lss (.t 15) (.t 18))] none)
 (.cond (.t 19) .skip (.exit 0)))
 (.seq (.block 1 (.seq (.reg [zF 22 0 1,zL 23 22,zM 24 6,zG 25 (.iaddr 3 (.t 23) (.t 24)),zW 26 3 25,zG 27 (.call 47 [(.t 26)]),zM 7 27] none)
 (.seq (.reg [zG 8 (.mov (.c (.int .i64 0)))] none)
 (.block 2 (.loop (.seq (.seq (.reg [zM 28 8,zM 29 7,zG 30 (.len false (.t 29)),zG 31 (.bin .lss (.t 28) (.t 30))] none)
 (.cond (.t 31) .skip (.exit 2)))
 (.seq (.block 3 (.seq (.reg [zM 34 5,zG 35 (.len false (.t 34)),zM 9 35] none)
 (.seq (.reg [zM 36 9,zG 37 (.bin .gtr (.t 36) (.c (.int .i64 0))),zM 38 37,zm 39 38 true 5,zm 40 38 true 9,zg 41 38 true (.bin .sub (.t 40) (.c (.int .i64 1))),zg 42 38 true (.iaddr 1 (.t 39) (.t 41)),zl 43 38 true 42,zg 44 38 true (.len false (.t 43)),zm 45 38 true 7,zm 46 38 true 8,zg 47 38 true (.iaddr 1 (.t 45) (.t 46)),zl 48 38 true 47,zg 49 38 true (.len false (.t 48)),zg 50 38 true (.bin .add (.t 44) (.t 49)),zg 51 38 true (.bin .leq (.t 50) (.c (.int .i64 64))),zA 52 38 51] (some [(7,12)]))
 (.cond (.t 52) (.reg [zM 53 5,zM 54 9,zG 55 (.bin .sub (.t 54) (.c (.int .i64 1))),zG 56 (.buildSl 3 []),zM 57 5,zM 58 9,zG 59 (.bin .sub (.t 58) (.c (.int .i64 1))),zG 60 (.iaddr 1 (.t 57) (.t 59)),zL 61 60,zG 62 (.app false 3 40 (.t 56) (.t 61)),zM 63 7,zM 64 8,zG 65 (.iaddr 1 (.t 63) (.t 64)),zL 66 65,zG 67 (.app false 3 40 (.t 62) (.t 66)),zG 68 (.iaddr 1 (.t 53) (.t 55)),zH (.store 1 (.t 68) (.t 67))] (some [(3,8),(3,13),(8,13),(9,13)])) (.reg [zM 69 5,zM 70 7,zM 71 8,zG 72 (.iaddr 1 (.t 70) (.t 71)),zL 73 72,zG 74 (.buildSl 1 [(.t 73)]),zG 75 (.app false 1 24 (.t 69) (.t 74)),zM 5 75] none)))))
 (.reg [zM 32 8,zG 33 (.bin .add (.t 32) (.c (.int .i64 1))),zM 8 33] none))))))))
 (.reg [zM 20 6,zG 21 (.bin .add (.t 20) (.c (.int .i64 1))),zM 6 21] none))))))
 (.seq (.reg [zM 76 5,zM 2 76,zG 3 (.mov (.c (.int .i64 0)))] none)
 .ret)))))
theorem f26:aG Tryz.prog 26 77 c26 [.tmp 2,.tmp 3]:=⟨_,Tryz.func26,rfl,by kernel_rfl,rfl⟩
def c27:AC:=(.seq (.reg [zG 2 (.box (.t 0)),zG 3 (.box (.t 1)),zG 4 (.mov (.c (.sl 3 [] (.exact 0)))),zG 5 (.mov (.c (.int .i64 0)))] none)
 (.seq (.reg [zW 10 1 2,zG 11 (.call 14 [(.t 10)]),zM 9 11,zE 12 9 0,zE 13 9 1,zM 6 12,zM 7 13] none)
 (.seq (.seq (.reg [zM 14 7,zG 15 (.bin .neq (.t 14) (.c (.int .i64 0)))] none)
 (.cond (.t 15) (.seq (.reg [zM 16 7,zG 4 (.mov (.c (.sl 3 [] (.exact 0)))),zM 5 16] none)
 .ret) .skip))
 (.seq (.reg [zW 18 1 3,zG 19 (.call 14 [(.t 18)]),zM 17 19,zE 20 17 0,zE 21 17 1,zM 8 20,zM 7 21] none)
 (.seq (.seq (.reg [zM 22 7,zG 23 (.bin .neq (.t 22) (.c (.int .i64 0)))] none)
 (.cond (.t 23) (.seq (.reg [zM 24 7,zG 4 (.mov (.c (.sl 3 [] (.exact 0)))),zM 5 24] none)
 .ret) .skip))
 (.seq (.reg [zM 25 6,zM 26 8,zG 27 (.call 73 [(.t 25),(.t 26)]),zM 4 27,zG 5 (.mov (.c (.int .i64 0)))] none)
 .ret))))))
theorem f27:aG Tryz.prog 27 28 c27 [.tmp 4,.tmp 5]:=⟨_,Tryz.func27,rfl,by kernel_rfl,rfl⟩
def c28:AC:=(.seq (.reg [zG 2 (.box (.t 0)),zG 4 (.alloc [.sl 3 [] (.exact 0)]),zG 5 (.mov (.c (.int .i64 0)))] none)
 (.seq (.reg [zW 12 1 2,zG 13 (.call 14 [(.t 12)]),zM 11 13,zE 14 11 0,zE 15 11 1,zM 6 14,zM 7 15] none)
 (.seq (.seq (.reg [zM 16 7,zG 17 (.bin .neq (.t 16) (.c (.int .i64 0)))] none)
 (.cond (.t 17) (.seq (.reg [zG 18 (.build [.sl 3 [] (.exact 0)] []),zM 19 7,zH (.store 1 (.t 4) (.t 18)),zM 5 19] none)
 .ret) .skip))
 (.seq (.seq (.reg [zG 8 (.mov (.c (.int .i64 0)))] none)
 (.block 0 (.loop (.seq (.seq (.reg [zM 20 8,zM 21 1,zG 22 (.len false (.t 21)),zG 23 (.bin .lss (.t 20) (.t 22))] none)
 (.cond (.t 23) .skip (.exit 0)))
 (.seq (.block 1 (.seq (.seq (.reg [zM 26 1,zM 27 8,zG 28 (.iaddr 3 (.t 26) (.t 27)),zF 29 0 28,zL 30 29,zG 31 (.len true (.t 30)),zG 32 (.bin .gtr (.t 31) (.c (.int .i64 128)))] none)
 (.cond (.t 32) (.seq (.reg [zG 33 (.build [.sl 3 [] (.exact 0)] []),zH (.store 1 (.t 4) (.t 33)),zG 5 (.mov (.c (.int .i64 4)))] none)
 .ret) .skip))
 (.seq (.seq (.reg [zM 34 1,zM 35 8,zG 36 (.iaddr 3 (.t 34) (.t 35)),zF 37 2 36,zL 38 37] none)
 (.cond (.t 38) (.seq (.reg [zM 40 6,zM 41 1,zM 42 8,zG 43 (.iaddr 3 (.t 41) (.t 42)),zF 44 0 43,zL 45 44,zG 46 (.call 74 [(.t 40),(.t 45)]),zM 39 46,zE 47 39 0,zE 48 39 1,zM 6 47] none)
 (.exit 1)) .skip))
 (.seq (.reg [zM 50 6,zM 51 1,zM 52 8,zG 53 (.iaddr 3 (.t 51) (.t 52)),zF 54 0 53,zL 55 54,zM 56 1,zM 57 8,zG 58 (.iaddr 3 (.t 56) (.t 57)),zF 59 1 58,zL 60 59,zG 61 (.call 48 [(.t 50),(.t 55),(.t 60)]),zM 49 61,zE 62 49 0,zE 63 49 1,zM 9 62,zM 10 63] (some [(5,10)]))
 (.seq (.seq (.reg [zM 64 10,zG 65 (.bin .neq (.t 64) (.c (.int .i64 0)))] none)
 (.cond (.t 65) (.seq (.reg [zG 66 (.build [.sl 3 [] (.exact 0)] []),zH (.store 1 (.t 4) (.t 66)),zG 5 (.mov (.c (.int .i64 4)))] none)
 .ret) .skip))
 (.reg [zM 67 9,zM 6 67] none))))))
 (.reg [zM 24 8,zG 25 (.bin .add (.t 24) (.c (.int .i64 1))),zM 8 25] none))))))
 (.seq (.reg [zM 68 6,zG 69 (.call 21 [(.t 68)]),zE 70 69 0,zE 71 69 1,zH (.store 1 (.t 4) (.t 70)),zM 5 71] none)
 .ret)))))
theorem f28:aG Tryz.prog 28 72 c28 [.cell 4 (some 1),.tmp 5]:=⟨_,Tryz.func28,rfl,by kernel_rfl,rfl⟩
def c29:AC:=(.seq (.reg [zG 4 (.mov (.c (.bool false)))] none)
 (.seq (.seq (.reg [zM 6 0,zG 7 (.len false (.t 6)),zM 8 1,zG 9 (.len false (.t 8)),zG 10 (.bin .neq (.t 7) (.t 9))] none)
 (.cond (.t 10) (.seq (.reg [zG 4 (.mov (.c (.bool false)))] none)
 .ret) .skip))
 (.seq (.seq (.reg [zG 5 (.mov (.c (.int .i64 0)))] none)
 (.block 0 (.loop (.seq (.seq (.reg [zM 11 5,zM 12 0,zG 13 (.len false (.t 12)),zG 14 (.bin .lss (.t 11) (.t 13))] none)
 (.cond (.t 14) .skip (.exit 0)))
 (.seq (.block 1 (.seq (.reg [zM 17 0,zM 18 5,zG 19 (.iaddr 1 (.t 17) (.t 18)),zL 20 19,zM 21 1,zM 22 5,zG 23 (.iaddr 1 (.t 21) (.t 22)),zL 24 23,zG 25 (.call 30 [(.t 20),(.t 24)]),zN 26 25] (some [(3,7)]))
 (.cond (.t 26) (.seq (.reg [zG 4 (.mov (.c (.bool false)))] none)
 .ret) .skip)))
 (.reg [zM 15 5,zG 16 (.bin .add (.t 15) (.c (.int .i64 1))),zM 5 16] none))))))
 (.seq (.reg [zG 4 (.mov (.c (.bool true)))] none)
 .ret))))
theorem f29:aG Tryz.prog 29 27 c29 [.tmp 4]:=⟨_,Tryz.func29,rfl,by kernel_rfl,rfl⟩
def c35:AC:=(.seq (.reg [zG 0 (.alloc [.sl 3 [] (.exact 0)])] none)
 (.seq (.reg [zG 1 (.build [.str [],.int .i64 0,.sl 8 [] (.exact 0)] [(0,1,(.c (.str [97,98,99])))]),zG 2 (.buildSl 3 [(.t 1)]),zG 3 (.build [.sl 3 [] (.exact 0)] [(0,1,(.t 2))]),zH (.store 1 (.t 0) (.t 3))] none)
 .ret))
theorem f35:aG Tryz.prog 35 4 c35 [.cell 0 (some 1)]:=⟨_,Tryz.func35,rfl,by kernel_rfl,rfl⟩
def c36:AC:=(.seq (.reg [zG 4 (.mov (.c (.sl 1 [] (.exact 0))))] none)
 (.seq (.reg [zM 5 0,zM 6 1,zG 7 (.conv (.toInt .u16) (.t 6)),zG 8 (.call 82 [(.t 5),(.t 7),(.c (.int .i64 2))]),zM 4 8] none)
 .ret))
theorem f36:aG Tryz.prog 36 9 c36 [.tmp 4]:=⟨_,Tryz.func36,rfl,by kernel_rfl,rfl⟩
def c37:AC:=(.seq (.reg [zG 4 (.mov (.c (.sl 1 [] (.exact 0))))] none)
 (.seq (.reg [zM 5 0,zM 6 1,zG 7 (.conv (.toInt .u32) (.t 6)),zG 8 (.call 83 [(.t 5),(.t 7),(.c (.int .i64 4))]),zM 4 8] none)
 .ret))
theorem f37:aG Tryz.prog 37 9 c37 [.tmp 4]:=⟨_,Tryz.func37,rfl,by kernel_rfl,rfl⟩
def c38:AC:=(.seq (.reg [zG 4 (.mov (.c (.sl 1 [] (.exact 0))))] none)
 (.seq (.reg [zM 5 0,zM 6 1,zG 7 (.conv (.toInt .u8) (.t 6)),zG 8 (.call 84 [(.t 5),(.t 7),(.c (.int .i64 1))]),zM 4 8] none)
 .ret))
theorem f38:aG Tryz.prog 38 9 c38 [.tmp 4]:=⟨_,Tryz.func38,rfl,by kernel_rfl,rfl⟩
def c39:AC:=(.seq (.reg [zG 4 (.mov (.c (.sl 1 [] (.exact 0))))] none)
 (.seq (.reg [zM 5 0,zM 6 1,zG 7 (.len true (.t 6)),zG 8 (.call 38 [(.t 5),(.t 7)]),zM 9 1,zG 10 (.app true 1 1 (.t 8) (.t 9)),zM 4 10] none)
 .ret))
theorem f39:aG Tryz.prog 39 11 c39 [.tmp 4]:=⟨_,Tryz.func39,rfl,by kernel_rfl,rfl⟩
def c40:AC:=(.seq (.reg [zG 1 (.box (.t 0)),zG 2 (.mov (.c (.str []))),zG 3 (.mov (.c (.int .i64 0)))] none)
 (.seq (.seq (.reg [zF 6 0 1,zL 7 6,zG 8 (.bin .lss (.t 7) (.c (.int .i64 0))),zM 9 8,zf 10 9 false 0 1,zl 11 9 false 10,zg 12 9 false (.bin .gtr (.t 11) (.c (.int .i64 2560))),zO 13 9 12,zM 14 13,zf 15 14 false 1 1,zw 16 14 false 2 15,zg 17 14 false (.call 85 [(.t 16)]),zg 18 14 false (.bin .neq (.t 17) (.c (.int .i64 0))),zO 19 14 18,zM 20 19,zf 21 20 false 3 1,zl 22 20 false 21,zm 23 20 false 22,zf 24 23 true 0 1,zl 25 23 true 24,zg 26 23 true (.bin .gtr (.t 25) (.c (.int .i64 0))),zm 27 23 true 26,zf 28 27 false 1 1,zw 29 27 false 2 28,zg 30 27 false (.build [.int .i64 0,.int .i64 0] []),zg 31 27 false (.eqA true [.int,.int] (.t 29) (.t 30)),zg 32 23 true (.pick (.t 27) (.c (.bool true)) (.t 31)),zg 33 20 false (.pick (.t 23) (.t 32) (.c (.bool false))),zO 34 20 33] none)
 (.cond (.t 34) (.seq (.reg [zG 2 (.mov (.c (.str []))),zG 3 (.mov (.c (.int .i64 2)))] none)
 .ret) .skip))
 (.seq (.reg [zG 4 (.mov (.c (.int .i64 0)))] none)
 (.seq (.seq (.reg [zF 35 3 1,zL 36 35] none)
 (.cond (.t 36) (.reg [zM 37 4,zG 38 (.bin .or (.t 37) (.c (.int .i64 1))),zM 4 38] none) .skip))
 (.seq (.seq (.reg [zF 39 4 1,zL 40 39] none)
 (.cond (.t 40) (.reg [zM 41 4,zG 42 (.bin .or (.t 41) (.c (.int .i64 2))),zM 4 42] none) .skip))
 (.seq (.reg [zM 43 4,zG 44 (.call 38 [(.c (.sl 1 [] (.exact 0))),(.t 43)]),zF 45 0 1,zL 46 45,zG 47 (.call 36 [(.t 44),(.t 46)]),zM 5 47] (some [(1,3)]))
 (.seq (.reg [zM 48 5,zF 49 1 1,zF 50 0 49,zL 51 50,zG 52 (.call 37 [(.t 48),(.t 51)]),zF 53 1 1,zF 54 1 53,zL 55 54,zG 56 (.call 37 [(.t 52),(.t 55)]),zG 57 (.conv .b2s (.t 56)),zM 2 57,zG 3 (.mov (.c (.int .i64 0)))] (some [(3,7),(4,7)]))
 .ret)))))))
theorem f40:aG Tryz.prog 40 58 c40 [.tmp 2,.tmp 3]:=⟨_,Tryz.func40,rfl,by kernel_rfl,rfl⟩
def c41:AC:=(.seq (.reg [zG 4 (.mov (.c (.sl 1 [] (.exact 0))))] none)
 (.seq (.reg [zM 5 0,zM 6 1,zG 7 (.conv (.toInt .u64) (.t 6)),zG 8 (.call 86 [(.t 5),(.t 7),(.c (.int .i64 8))]),zM 4 8] none)
 .ret))
theorem f41:aG Tryz.prog 41 9 c41 [.tmp 4]:=⟨_,Tryz.func41,rfl,by kernel_rfl,rfl⟩
def c42:AC:=(.seq (.reg [zG 2 (.mov (.c (.int .i64 0)))] none)
 (.seq (.reg [zG 3 (.mov (.c (.int .u32 4294967295)))] none)
 (.seq (.seq (.reg [zM 6 0,zG 7 (.len false (.t 6)),zG 8 (.mov (.c (.int .i64 0)))] none)
 (.block 0 (.loop (.seq (.reg [zG 9 (.bin .lss (.t 8) (.t 7))] none)
 (.seq (.cond (.t 9) .skip (.exit 0))
 (.seq (.block 1 (.seq (.reg [zG 10 (.iaddr 1 (.t 6) (.t 8)),zL 11 10,zM 5 11] none)
 (.seq (.reg [zM 12 3,zM 13 5,zG 14 (.conv (.toInt .u32) (.t 13)),zG 15 (.bin .xor (.t 12) (.t 14)),zM 3 15] none)
 (.seq (.reg [zG 16 (.mov (.c (.int .i64 0)))] none)
 (.block 2 (.loop (.seq (.reg [zG 17 (.bin .lss (.t 16) (.c (.int .i64 8)))] none)
 (.seq (.cond (.t 17) .skip (.exit 2))
 (.seq (.block 3 (.reg [zM 18 3,zG 19 (.bin .shr (.t 18) (.c (.int .u64 1))),zM 20 3,zG 21 (.bin .and (.t 20) (.c (.int .u32 1))),zG 22 (.un .neg (.t 21)),zG 23 (.bin .and (.c (.int .u32 2197175160)) (.t 22)),zG 24 (.bin .xor (.t 19) (.t 23)),zM 3 24] none))
 (.reg [zG 25 (.bin .add (.t 16) (.c (.int .i64 1))),zM 16 25] none))))))))))
 (.reg [zG 26 (.bin .add (.t 8) (.c (.int .i64 1))),zM 8 26] none)))))))
 (.seq (.reg [zM 27 3,zG 28 (.un .xor (.t 27)),zG 29 (.conv (.toInt .i64) (.t 28)),zM 2 29] none)
 .ret))))
theorem f42:aG Tryz.prog 42 30 c42 [.tmp 2]:=⟨_,Tryz.func42,rfl,by kernel_rfl,rfl⟩
def c43:AC:=(.seq (.reg [zG 1 (.box (.t 0)),zG 2 (.mov (.c (.str [])))] none)
 (.seq (.reg [zF 10 0 1,zL 11 10,zG 12 (.len false (.t 11)),zG 13 (.call 87 [(.t 12),(.c (.int .i64 2))]),zG 14 (.bin .add (.c (.str [65,82,67,72])) (.t 13)),zM 3 14] none)
 (.seq (.seq (.reg [zG 4 (.mov (.c (.int .i64 0)))] none)
 (.block 0 (.loop (.seq (.seq (.reg [zM 15 4,zF 16 0 1,zL 17 16,zG 18 (.len false (.t 17)),zG 19 (.bin .lss (.t 15) (.t 18))] none)
 (.cond (.t 19) .skip (.exit 0)))
 (.seq (.block 1 (.seq (.reg [zF 22 0 1,zL 23 22,zM 24 4,zG 25 (.iaddr 3 (.t 23) (.t 24)),zW 26 3 25,zG 5 (.alloc [.str [],.int .i64 0,.sl 8 [] (.exact 0)]),zH (.store 3 (.t 5) (.t 26))] none)
 (.seq (.reg [zM 27 3,zF 28 0 5,zL 29 28,zG 30 (.call 88 [(.t 29)]),zG 31 (.bin .add (.t 27) (.t 30)),zF 32 1 5,zL 33 32,zG 34 (.call 87 [(.t 33),(.c (.int .i64 1))]),zG 35 (.bin .add (.t 31) (.t 34)),zF 36 2 5,zL 37 36,zG 38 (.len false (.t 37)),zG 39 (.call 87 [(.t 38),(.c (.int .i64 4))]),zG 40 (.bin .add (.t 35) (.t 39)),zM 3 40] (some [(2,6),(3,6),(2,10),(3,10),(6,10),(7,10)]))
 (.seq (.reg [zG 6 (.mov (.c (.int .i64 0)))] none)
 (.block 2 (.loop (.seq (.seq (.reg [zM 41 6,zF 42 2 5,zL 43 42,zG 44 (.len false (.t 43)),zG 45 (.bin .lss (.t 41) (.t 44))] none)
 (.cond (.t 45) .skip (.exit 2)))
 (.seq (.block 3 (.seq (.reg [zF 48 2 5,zL 49 48,zM 50 6,zG 51 (.iaddr 8 (.t 49) (.t 50)),zW 52 8 51,zG 7 (.alloc [.str [],.int .i64 0,.int .i64 0,.int .i64 0,.int .i64 0,.bool false,.bool false,.str []]),zH (.store 8 (.t 7) (.t 52))] none)
 (.seq (.reg [zF 54 2 7,zW 55 5 54,zG 56 (.call 89 [(.t 55)]),zM 53 56,zE 57 53 0,zE 58 53 1,zM 8 57,zM 9 58] none)
 (.reg [zM 59 3,zF 60 0 7,zL 61 60,zG 62 (.call 88 [(.t 61)]),zG 63 (.bin .add (.t 59) (.t 62)),zF 64 1 7,zL 65 64,zG 66 (.call 87 [(.t 65),(.c (.int .i64 8))]),zG 67 (.bin .add (.t 63) (.t 66)),zM 68 8,zG 69 (.bin .add (.t 67) (.t 68)),zF 70 7 7,zL 71 70,zG 72 (.len true (.t 71)),zG 73 (.call 87 [(.t 72),(.c (.int .i64 2))]),zG 74 (.bin .add (.t 69) (.t 73)),zF 75 7 7,zL 76 75,zG 77 (.bin .add (.t 74) (.t 76)),zM 3 77] (some [(2,6),(3,6),(2,12),(3,12),(6,12),(7,12),(2,17),(3,17),(6,17),(7,17),(12,17),(14,17)])))))
 (.reg [zM 46 6,zG 47 (.bin .add (.t 46) (.c (.int .i64 1))),zM 6 47] none)))))))))
 (.reg [zM 20 4,zG 21 (.bin .add (.t 20) (.c (.int .i64 1))),zM 4 21] none))))))
 (.seq (.reg [zM 78 3,zM 79 3,zG 80 (.call 90 [(.t 79)]),zG 81 (.call 87 [(.t 80),(.c (.int .i64 4))]),zG 82 (.bin .add (.t 78) (.t 81)),zM 2 82] none)
 .ret))))
theorem f43:aG Tryz.prog 43 83 c43 [.tmp 2]:=⟨_,Tryz.func43,rfl,by kernel_rfl,rfl⟩
def c44:AC:=(.seq (.reg [zG 1 (.box (.t 0)),zG 2 (.mov (.c (.sc .nilFunc)))] none)
 (.seq (.reg [zG 3 (.mkfn (.func 91) [] [(.t 1)]),zM 2 3] none)
 .ret))
theorem f44:aG Tryz.prog 44 4 c44 [.tmp 2]:=⟨_,Tryz.func44,rfl,by kernel_rfl,rfl⟩
def c45:AC:=(.seq (.reg [zM 5 0,zG 6 (.len false (.t 5)),zM 4 6] none)
 (.reg [zM 7 0,zM 8 4,zM 9 4,zG 10 (.conv (.toInt .u64) (.t 9)),zG 11 (.call 95 [(.t 10)]),zM 12 1,zG 13 (.call 94 [(.t 7),(.c (.int .i64 0)),(.t 8),(.t 11),(.t 12)])] none))
theorem f45:aG Tryz.prog 45 14 c45 []:=⟨_,Tryz.func45,rfl,by kernel_rfl,rfl⟩
def c46:AC:=(.seq (.reg [zG 2 (.box (.t 0)),zG 3 (.box (.t 1)),zG 4 (.mov (.c (.int .i64 0)))] none)
 (.seq (.reg [zF 5 0 2,zL 6 5,zF 7 0 3,zL 8 7,zG 9 (.call 96 [(.t 6),(.t 8)]),zM 4 9] none)
 .ret))
theorem f46:aG Tryz.prog 46 10 c46 [.tmp 4]:=⟨_,Tryz.func46,rfl,by kernel_rfl,rfl⟩
def c47:AC:=(.seq (.reg [zG 1 (.box (.t 0)),zG 2 (.mov (.c (.sl 1 [] (.exact 0))))] none)
 (.seq (.reg [zF 15 1 1,zL 16 15,zG 17 (.call 97 [(.t 16)]),zM 14 17,zE 18 14 0,zE 19 14 1,zM 3 18,zM 4 19] none)
 (.seq (.reg [zF 20 0 1,zL 21 20,zG 22 (.call 98 [(.c (.int .i64 1)),(.t 21),(.c (.str [])),(.c (.sl 1 [] (.exact 0)))]),zM 23 3,zG 24 (.build [.str [],.str [],.bool false] [(0,1,(.t 22)),(1,1,(.t 23))]),zG 25 (.buildSl 3 [(.t 24)]),zG 26 (.buildSl 1 [(.t 25)]),zM 5 26] none)
 (.seq (.seq (.reg [zG 6 (.mov (.c (.int .i64 0)))] none)
 (.block 0 (.loop (.seq (.seq (.reg [zM 27 6,zF 28 2 1,zL 29 28,zG 30 (.len false (.t 29)),zG 31 (.bin .lss (.t 27) (.t 30))] none)
 (.cond (.t 31) .skip (.exit 0)))
 (.seq (.block 1 (.seq (.reg [zF 34 2 1,zL 35 34,zM 36 6,zG 37 (.iaddr 8 (.t 35) (.t 36)),zW 38 8 37,zG 7 (.alloc [.str [],.int .i64 0,.int .i64 0,.int .i64 0,.int .i64 0,.bool false,.bool false,.str []]),zH (.store 8 (.t 7) (.t 38))] none)
 (.seq (.reg [zF 40 2 7,zW 41 5 40,zG 42 (.call 89 [(.t 41)]),zM 39 42,zE 43 39 0,zE 44 39 1,zM 8 43,zM 9 44] none)
 (.seq (.reg [zF 45 0 1,zL 46 45,zF 47 0 7,zL 48 47,zF 49 1 7,zL 50 49,zG 51 (.buildSl 1 [(.t 50)]),zG 52 (.call 98 [(.c (.int .i64 2)),(.t 46),(.t 48),(.t 51)]),zM 53 8,zG 54 (.build [.str [],.str [],.bool false] [(0,1,(.t 52)),(1,1,(.t 53))]),zG 55 (.buildSl 3 [(.t 54)]),zM 10 55] none)
 (.seq (.reg [zF 57 7 7,zL 58 57,zG 59 (.call 99 [(.t 58)]),zM 56 59,zE 60 56 0,zE 61 56 1,zM 11 60,zM 12 61] none)
 (.seq (.seq (.reg [zG 13 (.mov (.c (.int .i64 0)))] none)
 (.block 2 (.loop (.seq (.seq (.reg [zM 62 13,zM 63 11,zG 64 (.len false (.t 63)),zG 65 (.bin .lss (.t 62) (.t 64))] none)
 (.cond (.t 65) .skip (.exit 2)))
 (.seq (.block 3 (.reg [zM 68 10,zF 69 0 1,zL 70 69,zF 71 0 7,zL 72 71,zF 73 1 7,zL 74 73,zM 75 13,zG 76 (.buildSl 1 [(.t 74),(.t 75)]),zG 77 (.call 98 [(.c (.int .i64 3)),(.t 70),(.t 72),(.t 76)]),zM 78 11,zM 79 13,zG 80 (.iaddr 1 (.t 78) (.t 79)),zL 81 80,zG 82 (.build [.str [],.str [],.bool false] [(0,1,(.t 77)),(1,1,(.t 81))]),zG 83 (.buildSl 3 [(.t 82)]),zG 84 (.app false 3 40 (.t 68) (.t 83)),zM 10 84] (some [(2,4),(2,6),(4,6),(2,8),(4,8),(2,13),(4,13),(6,13),(8,13),(9,13)])))
 (.reg [zM 66 13,zG 67 (.bin .add (.t 66) (.c (.int .i64 1))),zM 13 67] none))))))
 (.reg [zM 85 5,zM 86 10,zG 87 (.buildSl 1 [(.t 86)]),zG 88 (.app false 1 24 (.t 85) (.t 87)),zM 5 88] none)))))))
 (.reg [zM 32 6,zG 33 (.bin .add (.t 32) (.c (.int .i64 1))),zM 6 33] none))))))
 (.seq (.reg [zM 89 5,zM 2 89] none)
 .ret)))))
theorem f47:aG Tryz.prog 47 90 c47 [.tmp 2]:=⟨_,Tryz.func47,rfl,by kernel_rfl,rfl⟩
def c48:AC:=(.seq (.reg [zG 6 (.mov (.c (.sl 2 [] (.exact 0)))),zG 7 (.mov (.c (.int .i64 0)))] none)
 (.seq (.seq (.reg [zM 11 1,zG 12 (.len true (.t 11)),zG 13 (.bin .gtr (.t 12) (.c (.int .i64 128))),zM 14 13,zm 15 14 false 2,zg 16 14 false (.len true (.t 15)),zg 17 14 false (.bin .gtr (.t 16) (.c (.int .i64 200))),zO 18 14 17] none)
 (.cond (.t 18) (.seq (.reg [zM 19 0,zM 6 19,zG 7 (.mov (.c (.int .i64 2)))] none)
 .ret) .skip))
 (.seq (.reg [zG 8 (.mov (.c (.sl 2 [] (.exact 0))))] none)
 (.seq (.reg [zG 9 (.mov (.c (.bool false)))] none)
 (.seq (.seq (.reg [zG 10 (.mov (.c (.int .i64 0)))] none)
 (.block 0 (.loop (.seq (.seq (.reg [zM 20 10,zM 21 0,zG 22 (.len false (.t 21)),zG 23 (.bin .lss (.t 20) (.t 22))] none)
 (.cond (.t 23) .skip (.exit 0)))
 (.seq (.block 1 (.seq (.seq (.reg [zM 26 9,zN 27 26,zM 28 27,zm 29 28 true 0,zm 30 28 true 10,zg 31 28 true (.iaddr 2 (.t 29) (.t 30)),zf 32 28 true 0 31,zl 33 28 true 32,zm 34 28 true 1,zg 35 28 true (.call 53 [(.t 33),(.t 34)]),zn 36 28 true 35,zA 37 28 36] none)
 (.cond (.t 37) (.seq (.reg [zM 38 8,zM 39 1,zM 40 2,zG 41 (.build [.str [],.str []] [(0,1,(.t 39)),(1,1,(.t 40))]),zG 42 (.buildSl 2 [(.t 41)]),zG 43 (.app false 2 32 (.t 38) (.t 42)),zM 8 43] none)
 (.reg [zG 9 (.mov (.c (.bool true)))] none)) .skip))
 (.seq (.reg [zM 44 0,zM 45 10,zG 46 (.iaddr 2 (.t 44) (.t 45)),zF 47 0 46,zL 48 47,zM 49 1,zG 50 (.bin .neq (.t 48) (.t 49))] none)
 (.cond (.t 50) (.reg [zM 51 8,zM 52 0,zM 53 10,zG 54 (.iaddr 2 (.t 52) (.t 53)),zW 55 2 54,zG 56 (.buildSl 2 [(.t 55)]),zG 57 (.app false 2 32 (.t 51) (.t 56)),zM 8 57] none) .skip))))
 (.reg [zM 24 10,zG 25 (.bin .add (.t 24) (.c (.int .i64 1))),zM 10 25] none))))))
 (.seq (.seq (.reg [zM 58 9,zN 59 58] none)
 (.cond (.t 59) (.reg [zM 60 8,zM 61 1,zM 62 2,zG 63 (.build [.str [],.str []] [(0,1,(.t 61)),(1,1,(.t 62))]),zG 64 (.buildSl 2 [(.t 63)]),zG 65 (.app false 2 32 (.t 60) (.t 64)),zM 8 65] none) .skip))
 (.seq (.reg [zM 66 8,zM 6 66,zG 7 (.mov (.c (.int .i64 0)))] none)
 .ret)))))))
theorem f48:aG Tryz.prog 48 67 c48 [.tmp 6,.tmp 7]:=⟨_,Tryz.func48,rfl,by kernel_rfl,rfl⟩
def c49:AC:=(.seq (.reg [zG 2 (.mov (.c (.str []))),zG 3 (.mov (.c (.int .i64 0)))] none)
 (.seq (.seq (.reg [zM 4 0,zG 5 (.bin .lss (.t 4) (.c (.int .i64 0))),zM 6 5,zm 7 6 false 0,zg 8 6 false (.bin .gtr (.t 7) (.c (.int .i64 2))),zO 9 6 8] none)
 (.cond (.t 9) (.seq (.reg [zG 2 (.mov (.c (.str []))),zG 3 (.mov (.c (.int .i64 2)))] none)
 .ret) .skip))
 (.seq (.reg [zM 10 0,zG 11 (.conv (.toInt .u8) (.t 10)),zG 12 (.bin .add (.c (.int .u8 48)) (.t 11)),zG 13 (.buildSl 1 [(.t 12)]),zG 14 (.conv .b2s (.t 13)),zM 2 14,zG 3 (.mov (.c (.int .i64 0)))] none)
 .ret)))
theorem f49:aG Tryz.prog 49 15 c49 [.tmp 2,.tmp 3]:=⟨_,Tryz.func49,rfl,by kernel_rfl,rfl⟩
def c50:AC:=(.seq (.reg [zG 2 (.mov (.c (.int .i64 0)))] none)
 (.seq (.seq (.reg [zM 5 0,zG 6 (.len true (.t 5)),zG 7 (.bin .lss (.t 6) (.c (.int .i64 3))),zM 8 7,zm 9 8 false 0,zg 10 8 false (.len true (.t 9)),zg 11 8 false (.bin .gtr (.t 10) (.c (.int .i64 12))),zO 12 8 11] none)
 (.cond (.t 12) (.seq (.reg [zG 2 (.mov (.c (.int .i64 15)))] none)
 .ret) .skip))
 (.seq (.seq (.reg [zM 13 0,zG 14 (.len true (.t 13)),zG 15 (.mov (.c (.int .i64 0)))] none)
 (.block 0 (.loop (.seq (.reg [zG 16 (.bin .lss (.t 15) (.t 14))] none)
 (.seq (.cond (.t 16) .skip (.exit 0))
 (.seq (.block 1 (.seq (.reg [zM 17 15,zM 3 17] none)
 (.seq (.reg [zM 18 0,zM 19 3,zG 20 (.idx (.t 18) (.t 19)),zM 4 20] none)
 (.block 2 (.seq (.block 4 (.seq (.block 3 (.seq (.seq (.seq (.reg [zM 22 4,zG 23 (.bin .eql (.t 22) (.c (.int .u8 45))),zM 21 23] none)
 (.cond (.t 21) (.exit 3) .skip))
 (.seq (.reg [zM 25 4,zG 26 (.bin .lss (.t 25) (.c (.int .u8 48))),zM 27 26,zm 28 27 false 4,zg 29 27 false (.bin .gtr (.t 28) (.c (.int .u8 57))),zm 30 27 false 29,zm 31 30 true 4,zg 32 30 true (.bin .lss (.t 31) (.c (.int .u8 97))),zg 33 27 false (.pick (.t 30) (.t 32) (.c (.bool false))),zO 34 27 33,zM 35 34,zm 36 35 false 4,zg 37 35 false (.bin .gtr (.t 36) (.c (.int .u8 122))),zO 38 35 37,zM 24 38] none)
 (.cond (.t 24) (.exit 4) .skip)))
 (.exit 2)))
 (.seq (.reg [zM 39 3,zG 40 (.bin .gtr (.t 39) (.c (.int .i64 0))),zM 41 40,zm 42 41 true 3,zm 43 41 true 0,zg 44 41 true (.len true (.t 43)),zg 45 41 true (.bin .sub (.t 44) (.c (.int .i64 1))),zg 46 41 true (.bin .lss (.t 42) (.t 45)),zA 47 41 46] none)
 (.cond (.t 47) (.exit 1) .skip))))
 (.seq (.seq (.reg [zG 2 (.mov (.c (.int .i64 15)))] none)
 .ret)
 (.exit 2)))))))
 (.reg [zG 48 (.bin .add (.t 15) (.c (.int .i64 1))),zM 15 48] none)))))))
 (.seq (.reg [zG 2 (.mov (.c (.int .i64 0)))] none)
 .ret))))
theorem f50:aG Tryz.prog 50 49 c50 [.tmp 2]:=⟨_,Tryz.func50,rfl,by kernel_rfl,rfl⟩
def c51:AC:=(.seq (.reg [zG 2 (.mov (.c (.bool false)))] none)
 (.seq (.reg [zG 3 (.mov (.c (.int .i64 0)))] none)
 (.seq (.seq (.reg [zM 7 0,zG 8 (.len false (.t 7)),zG 9 (.mov (.c (.int .i64 0)))] none)
 (.block 0 (.loop (.seq (.reg [zG 10 (.bin .lss (.t 9) (.t 8))] none)
 (.seq (.cond (.t 10) .skip (.exit 0))
 (.seq (.block 1 (.seq (.reg [zM 11 9,zG 12 (.iaddr 8 (.t 7) (.t 9)),zW 13 8 12,zG 5 (.alloc [.str [],.int .i64 0,.int .i64 0,.int .i64 0,.int .i64 0,.bool false,.bool false,.str []]),zM 4 11,zH (.store 8 (.t 5) (.t 13))] none)
 (.seq (.seq (.reg [zF 14 0 5,zL 15 14,zG 16 (.call 100 [(.t 15)]),zG 17 (.bin .neq (.t 16) (.c (.int .i64 0))),zM 18 17,zf 19 18 false 1 5,zl 20 18 false 19,zg 21 18 false (.bin .lss (.t 20) (.c (.int .i64 0))),zO 22 18 21,zM 23 22,zf 24 23 false 1 5,zl 25 23 false 24,zg 26 23 false (.bin .gtr (.t 25) (.c (.int .i64 1152921504606846976))),zO 27 23 26,zM 28 27,zw 29 28 false 8 5,zg 30 28 false (.call 101 [(.t 29)]),zn 31 28 false 30,zO 32 28 31] none)
 (.cond (.t 32) (.seq (.reg [zG 2 (.mov (.c (.bool false)))] none)
 .ret) .skip))
 (.seq (.reg [zM 33 4,zG 34 (.bin .gtr (.t 33) (.c (.int .i64 0))),zM 35 34,zm 36 35 true 0,zm 37 35 true 4,zg 38 35 true (.bin .sub (.t 37) (.c (.int .i64 1))),zg 39 35 true (.iaddr 8 (.t 36) (.t 38)),zf 40 35 true 0 39,zl 41 35 true 40,zf 42 35 true 0 5,zl 43 35 true 42,zg 44 35 true (.bin .eql (.t 41) (.t 43)),zA 45 35 44,zM 6 45] (some [(8,10)]))
 (.seq (.block 2 (.seq (.reg [zM 47 6,zM 48 47,zm 49 48 true 0,zm 50 48 true 4,zg 51 48 true (.bin .sub (.t 50) (.c (.int .i64 1))),zg 52 48 true (.iaddr 8 (.t 49) (.t 51)),zf 53 48 true 1 52,zl 54 48 true 53,zf 55 48 true 1 5,zl 56 48 true 55,zg 57 48 true (.bin .leq (.t 54) (.t 56)),zA 58 48 57,zM 46 58] (some [(7,9)]))
 (.cond (.t 46) (.seq (.reg [zG 2 (.mov (.c (.bool false)))] none)
 .ret) (.seq (.reg [zM 60 6,zN 61 60,zM 62 61,zm 63 62 true 4,zg 64 62 true (.bin .gtr (.t 63) (.c (.int .i64 0))),zA 65 62 64,zM 66 65,zm 67 66 true 0,zm 68 66 true 4,zg 69 66 true (.bin .sub (.t 68) (.c (.int .i64 1))),zg 70 66 true (.iaddr 8 (.t 67) (.t 69)),zf 71 66 true 0 70,zl 72 66 true 71,zf 73 66 true 0 5,zl 74 66 true 73,zg 75 66 true (.bin .gtr (.t 72) (.t 74)),zA 76 66 75,zM 59 76] (some [(12,14)]))
 (.cond (.t 59) (.seq (.reg [zG 2 (.mov (.c (.bool false)))] none)
 .ret) (.seq (.reg [zM 78 6,zN 79 78,zM 77 79] none)
 (.cond (.t 77) (.reg [zG 3 (.mov (.c (.int .i64 0)))] none) .skip)))))))
 (.seq (.seq (.reg [zF 80 2 5,zF 81 4 80,zL 82 81] none)
 (.cond (.t 82) (.reg [zM 83 3,zG 84 (.bin .add (.t 83) (.c (.int .i64 1))),zM 3 84] none) .skip))
 (.seq (.reg [zM 85 3,zG 86 (.bin .gtr (.t 85) (.c (.int .i64 1)))] none)
 (.cond (.t 86) (.seq (.reg [zG 2 (.mov (.c (.bool false)))] none)
 .ret) .skip))))))))
 (.reg [zG 87 (.bin .add (.t 9) (.c (.int .i64 1))),zM 9 87] none)))))))
 (.seq (.reg [zG 2 (.mov (.c (.bool true)))] none)
 .ret))))
theorem f51:aG Tryz.prog 51 88 c51 [.tmp 2]:=⟨_,Tryz.func51,rfl,by kernel_rfl,rfl⟩
def c52:AC:=(.seq (.reg [zG 1 (.box (.t 0)),zG 2 (.mov (.c (.bool false)))] none)
 (.seq (.seq (.reg [zF 6 0 1,zL 7 6,zG 8 (.call 102 [(.t 7)]),zG 9 (.bin .neq (.t 8) (.c (.int .i64 0))),zM 10 9,zf 11 10 false 1 1,zl 12 10 false 11,zg 13 10 false (.bin .lss (.t 12) (.c (.int .i64 0))),zO 14 10 13,zM 15 14,zf 16 15 false 1 1,zl 17 15 false 16,zg 18 15 false (.bin .gtr (.t 17) (.c (.int .i64 2))),zO 19 15 18] none)
 (.cond (.t 19) (.seq (.reg [zG 2 (.mov (.c (.bool false)))] none)
 .ret) .skip))
 (.seq (.reg [zG 3 (.mov (.c (.str [])))] none)
 (.seq (.seq (.reg [zG 4 (.mov (.c (.int .i64 0)))] none)
 (.block 0 (.loop (.seq (.seq (.reg [zM 20 4,zF 21 2 1,zL 22 21,zG 23 (.len false (.t 22)),zG 24 (.bin .lss (.t 20) (.t 23))] none)
 (.cond (.t 24) .skip (.exit 0)))
 (.seq (.block 1 (.seq (.reg [zF 27 2 1,zL 28 27,zM 29 4,zG 30 (.iaddr 8 (.t 28) (.t 29)),zW 31 8 30,zG 5 (.alloc [.str [],.int .i64 0,.int .i64 0,.int .i64 0,.int .i64 0,.bool false,.bool false,.str []]),zH (.store 8 (.t 5) (.t 31))] none)
 (.seq (.seq (.reg [zW 32 8 5,zF 33 2 1,zL 34 33,zM 35 4,zG 36 (.bin .sub (.t 35) (.c (.int .i64 1))),zG 37 (.mm true (.c (.int .i64 0)) (.t 36)),zG 38 (.iaddr 8 (.t 34) (.t 37)),zW 39 8 38,zM 40 4,zG 41 (.bin .eql (.t 40) (.c (.int .i64 0))),zG 42 (.call 103 [(.t 32),(.t 39),(.t 41)]),zN 43 42,zM 44 43,zf 45 44 false 2 5,zf 46 44 false 4 45,zl 47 44 false 46,zm 48 44 false 47,zf 49 48 true 0 5,zl 50 48 true 49,zm 51 48 true 3,zg 52 48 true (.bin .eql (.t 50) (.t 51)),zg 53 44 false (.pick (.t 48) (.t 52) (.c (.bool false))),zO 54 44 53] (some [(0,2),(0,7)]))
 (.cond (.t 54) (.seq (.reg [zG 2 (.mov (.c (.bool false)))] none)
 .ret) .skip))
 (.seq (.reg [zF 55 2 5,zF 56 4 55,zL 57 56] none)
 (.cond (.t 57) (.reg [zF 58 0 5,zL 59 58,zM 3 59] none) .skip)))))
 (.reg [zM 25 4,zG 26 (.bin .add (.t 25) (.c (.int .i64 1))),zM 4 26] none))))))
 (.seq (.reg [zG 2 (.mov (.c (.bool true)))] none)
 .ret)))))
theorem f52:aG Tryz.prog 52 60 c52 [.tmp 2]:=⟨_,Tryz.func52,rfl,by kernel_rfl,rfl⟩
def c53:AC:=(.seq (.reg [zG 4 (.mov (.c (.bool false)))] none)
 (.seq (.seq (.reg [zG 5 (.mov (.c (.int .i64 0)))] none)
 (.block 0 (.loop (.seq (.seq (.reg [zM 6 5,zM 7 0,zG 8 (.len true (.t 7)),zG 9 (.bin .lss (.t 6) (.t 8)),zM 10 9,zm 11 10 true 5,zm 12 10 true 1,zg 13 10 true (.len true (.t 12)),zg 14 10 true (.bin .lss (.t 11) (.t 13)),zA 15 10 14] none)
 (.cond (.t 15) .skip (.exit 0)))
 (.seq (.block 1 (.seq (.reg [zM 18 0,zM 19 5,zG 20 (.idx (.t 18) (.t 19)),zM 21 1,zM 22 5,zG 23 (.idx (.t 21) (.t 22)),zG 24 (.bin .neq (.t 20) (.t 23))] (some []))
 (.cond (.t 24) (.seq (.reg [zM 25 0,zM 26 5,zG 27 (.idx (.t 25) (.t 26)),zM 28 1,zM 29 5,zG 30 (.idx (.t 28) (.t 29)),zG 31 (.bin .lss (.t 27) (.t 30)),zM 4 31] (some []))
 .ret) .skip)))
 (.reg [zM 16 5,zG 17 (.bin .add (.t 16) (.c (.int .i64 1))),zM 5 17] none))))))
 (.seq (.reg [zM 32 0,zG 33 (.len true (.t 32)),zM 34 1,zG 35 (.len true (.t 34)),zG 36 (.bin .lss (.t 33) (.t 35)),zM 4 36] none)
 .ret)))
theorem f53:aG Tryz.prog 53 37 c53 [.tmp 4]:=⟨_,Tryz.func53,rfl,by kernel_rfl,rfl⟩
def c57:AC:=(.seq (.reg [zG 4 (.mov (.c (.str [])))] none)
 (.seq (.reg [zM 5 0,zK 6 5,zF 7 0 6,zL 8 7,zG 9 (.len false (.t 8)),zM 10 0,zK 11 10,zF 12 1 11,zL 13 12,zG 14 (.bin .sub (.t 9) (.t 13)),zM 15 1,zG 16 (.bin .geq (.t 14) (.t 15)),zG 17 (.call 56 [(.t 16)])] (some [(3,8)]))
 (.seq (.reg [zM 18 0,zK 19 18,zF 20 1 19,zL 21 20,zM 22 1,zG 23 (.bin .add (.t 21) (.t 22)),zK 24 18,zF 25 1 24,zH (.store 1 (.t 25) (.t 23))] none)
 (.seq (.reg [zM 26 0,zK 27 26,zF 28 0 27,zL 29 28,zM 30 0,zK 31 30,zF 32 1 31,zL 33 32,zM 34 1,zG 35 (.bin .sub (.t 33) (.t 34)),zM 36 0,zK 37 36,zF 38 1 37,zL 39 38,zG 40 (.slc false 1 (.t 29) (some (.t 35)) (some (.t 39)) none),zG 41 (.conv .b2s (.t 40)),zM 4 41] (some [(3,7),(3,13),(7,13)]))
 .ret))))
theorem f57:aG Tryz.prog 57 42 c57 [.tmp 4]:=⟨_,Tryz.func57,rfl,by kernel_rfl,rfl⟩
def c64:AC:=(.seq (.reg [zG 3 (.box (.t 1))] none)
 (.seq (.reg [zF 17 0 3,zL 18 17,zG 19 (.call 110 [(.t 18)]),zM 16 19,zE 20 16 0,zE 21 16 1,zG 4 (.alloc [.int .i64 0,.str [],.str [],.sl 1 [] (.exact 0)]),zH (.store 4 (.t 4) (.t 20)),zM 5 21] none)
 (.seq (.reg [zM 22 5,zG 23 (.bin .eql (.t 22) (.c (.int .i64 0))),zG 24 (.call 56 [(.t 23)])] none)
 (.seq (.reg [zF 25 0 4,zL 26 25] none)
 (.block 0 (.seq (.reg [zG 29 (.bin .eql (.t 26) (.c (.int .i64 1))),zM 28 29] none)
 (.cond (.t 28) (.seq (.reg [zF 31 1 3,zL 32 31,zG 33 (.call 111 [(.t 32)]),zM 30 33,zE 34 30 0,zE 35 30 1,zM 6 34,zM 7 35] none)
 (.seq (.reg [zM 36 7,zG 37 (.bin .eql (.t 36) (.c (.int .i64 0))),zG 38 (.call 56 [(.t 37)])] none)
 (.reg [zM 39 0,zM 40 0,zK 41 40,zF 42 0 41,zF 43 0 42,zL 44 43,zF 45 1 4,zL 46 45,zM 47 6,zG 48 (.build [.str [],.int .i64 0,.sl 8 [] (.exact 0)] [(0,1,(.t 46)),(1,1,(.t 47))]),zG 49 (.buildSl 3 [(.t 48)]),zG 50 (.app false 3 48 (.t 44) (.t 49)),zK 51 39,zF 52 0 51,zF 53 0 52,zH (.store 1 (.t 53) (.t 50))] (some [(5,7),(5,10)])))) (.seq (.reg [zG 55 (.bin .eql (.t 26) (.c (.int .i64 3))),zM 54 55] none)
 (.cond (.t 54) (.seq (.reg [zF 56 1 4,zL 57 56,zF 58 2 4,zL 59 58,zF 60 3 4,zL 61 60,zG 62 (.iaddr 1 (.t 61) (.c (.int .i64 0))),zL 63 62,zG 64 (.build [.str [],.str [],.int .i64 0] [(0,1,(.t 57)),(1,1,(.t 59)),(2,1,(.t 63))]),zG 8 (.alloc [.str [],.str [],.int .i64 0]),zH (.store 3 (.t 8) (.t 64))] (some [(1,3),(1,5),(3,5),(1,7),(3,7),(1,9),(3,9),(5,9),(7,9)]))
 (.seq (.reg [zM 65 0,zK 66 65,zF 67 1 66,zL 68 67,zW 69 3 8,zG 70 (.dead),zG 9 (.alloc [.str [],.int .i64 0]),zH (.store 2 (.t 9) (.t 70))] (some [(3,4),(3,6),(4,6)]))
 (.seq (.reg [zF 71 3 4,zL 72 71,zG 73 (.iaddr 1 (.t 72) (.c (.int .i64 1))),zL 74 73,zF 75 1 9,zL 76 75,zG 77 (.bin .eql (.t 74) (.t 76)),zG 78 (.call 56 [(.t 77)])] (some [(1,5),(3,5)]))
 (.reg [zM 79 0,zK 80 79,zF 81 1 80,zL 82 81,zW 83 3 8,zF 84 0 9,zL 85 84,zF 86 1 3,zL 87 86,zG 88 (.bin .add (.t 85) (.t 87)),zF 89 1 9,zL 90 89,zG 91 (.bin .add (.t 90) (.c (.int .i64 1))),zG 92 (.build [.str [],.int .i64 0] [(0,1,(.t 88)),(1,1,(.t 91))]),zH (.dead)] (some [(3,4),(3,6),(4,6),(3,8),(4,8),(6,8),(3,11),(4,11),(6,11),(8,11)]))))) (.seq (.reg [zG 94 (.bin .eql (.t 26) (.c (.int .i64 2))),zM 93 94] none)
 (.cond (.t 93) (.seq (.reg [zF 96 1 3,zL 97 96,zG 98 (.call 112 [(.t 97)]),zM 95 98,zE 99 95 0,zE 100 95 1,zG 10 (.alloc [.int .i64 0,.int .i64 0,.int .i64 0,.bool false,.bool false]),zH (.store 5 (.t 10) (.t 99)),zM 11 100] none)
 (.seq (.reg [zM 102 0,zK 103 102,zF 104 0 103,zF 105 0 104,zL 106 105,zF 107 1 4,zL 108 107,zG 109 (.call 113 [(.t 106),(.t 108),(.c (.clo (.func 114) [] []))]),zM 101 109,zE 110 101 0,zE 111 101 1,zM 12 110,zM 13 111] (some [(4,6)]))
 (.seq (.reg [zM 112 11,zG 113 (.bin .eql (.t 112) (.c (.int .i64 0))),zM 114 113,zm 115 114 true 13,zA 116 114 115,zG 117 (.call 56 [(.t 116)])] none)
 (.seq (.reg [zF 118 1 4,zL 119 118,zF 120 2 4,zL 121 120,zF 122 3 4,zL 123 122,zG 124 (.iaddr 1 (.t 123) (.c (.int .i64 0))),zL 125 124,zG 126 (.build [.str [],.str [],.int .i64 0] [(0,1,(.t 119)),(1,1,(.t 121)),(2,1,(.t 125))]),zG 14 (.alloc [.str [],.str [],.int .i64 0]),zH (.store 3 (.t 14) (.t 126))] (some [(1,3),(1,5),(3,5),(1,7),(3,7),(1,9),(3,9),(5,9),(7,9)]))
 (.seq (.reg [zM 127 0,zK 128 127,zF 129 0 128,zF 130 0 129,zL 131 130,zM 132 12,zG 133 (.iaddr 3 (.t 131) (.t 132)),zM 15 133] none)
 (.seq (.reg [zM 134 15,zM 135 15,zK 136 135,zF 137 2 136,zL 138 137,zF 139 2 4,zL 140 139,zF 141 2 14,zL 142 141,zW 143 5 10,zM 144 0,zK 145 144,zF 146 1 145,zL 147 146,zW 148 3 14,zG 149 (.dead),zG 150 (.fld 0 none (.t 149)),zG 151 (.build [.str [],.int .i64 0,.int .i64 0,.int .i64 0,.int .i64 0,.bool false,.bool false,.str []] [(0,1,(.t 140)),(1,1,(.t 142)),(2,5,(.t 143)),(7,1,(.t 150))]),zG 152 (.buildSl 8 [(.t 151)]),zG 153 (.app false 8 72 (.t 138) (.t 152)),zK 154 134,zF 155 2 154,zH (.store 1 (.t 155) (.t 153))] (some [(4,6),(4,8),(6,8),(4,9),(6,9),(8,9),(4,13),(6,13),(8,13),(9,13),(4,14),(6,14),(8,14),(9,14),(13,14),(4,18)]))
 (.reg [zM 156 0,zK 157 156,zF 158 1 157,zL 159 158,zW 160 3 14,zH (.dead)] (some [(3,4)])))))))) (.reg [zG 27 (.call 56 [(.c (.bool false))])] none))))))))))))
theorem f64:aG Tryz.prog 64 161 c64 []:=⟨_,Tryz.func64,rfl,by kernel_rfl,rfl⟩
def c69:AC:=(.seq (.reg [zG 4 (.mov (.c (.sl 3 [] (.exact 0))))] none)
 (.scope (.seq (.seq (.reg [zM 11 0,zG 12 (.call 118 [(.t 11)]),zN 13 12,zM 14 13,zm 15 14 false 1,zg 16 14 false (.call 118 [(.t 15)]),zn 17 14 false 16,zO 18 14 17] none)
 (.cond (.t 18) (.seq (.reg [zG 4 (.mov (.c (.sl 3 [] (.exact 0))))] none)
 .ret) .skip))
 (.seq (.reg [zG 5 (.mov (.c (.sl 3 [] (.exact 0))))] none)
 (.seq (.reg [zG 6 (.mov (.c (.int .i64 0)))] none)
 (.seq (.label 0)
 (.seq (.seq (.reg [zM 19 1,zG 20 (.len false (.t 19)),zG 21 (.mov (.c (.int .i64 0)))] none)
 (.block 0 (.loop (.seq (.reg [zG 22 (.bin .lss (.t 21) (.t 20))] none)
 (.seq (.cond (.t 22) .skip (.exit 0))
 (.seq (.block 1 (.seq (.reg [zG 23 (.iaddr 2 (.t 19) (.t 21)),zW 24 2 23,zG 8 (.alloc [.str [],.str []]),zH (.store 2 (.t 8) (.t 24))] none)
 (.seq (.block 2 (.loop (.seq (.seq (.reg [zM 25 6,zM 26 0,zG 27 (.len false (.t 26)),zG 28 (.bin .lss (.t 25) (.t 27)),zM 29 28,zm 30 29 true 0,zm 31 29 true 6,zg 32 29 true (.iaddr 2 (.t 30) (.t 31)),zf 33 29 true 0 32,zl 34 29 true 33,zf 35 29 true 0 8,zl 36 29 true 35,zg 37 29 true (.bin .lss (.t 34) (.t 36)),zA 38 29 37] (some [(9,11)]))
 (.cond (.t 38) .skip (.exit 2)))
 (.block 3 (.seq (.reg [zM 39 5,zM 40 0,zM 41 6,zG 42 (.iaddr 2 (.t 40) (.t 41)),zF 43 0 42,zL 44 43,zG 45 (.build [.str [],.str [],.bool false] [(0,1,(.t 44)),(2,1,(.c (.bool true)))]),zG 46 (.buildSl 3 [(.t 45)]),zG 47 (.app false 3 40 (.t 39) (.t 46)),zM 5 47] none)
 (.reg [zM 48 6,zG 49 (.bin .add (.t 48) (.c (.int .i64 1))),zM 6 49] none))))))
 (.seq (.seq (.reg [zM 50 6,zM 51 0,zG 52 (.len false (.t 51)),zG 53 (.bin .lss (.t 50) (.t 52)),zM 54 53,zm 55 54 true 0,zm 56 54 true 6,zg 57 54 true (.iaddr 2 (.t 55) (.t 56)),zf 58 54 true 0 57,zl 59 54 true 58,zf 60 54 true 0 8,zl 61 54 true 60,zg 62 54 true (.bin .eql (.t 59) (.t 61)),zA 63 54 62] (some [(9,11)]))
 (.cond (.t 63) (.seq (.reg [zM 64 6,zG 65 (.bin .add (.t 64) (.c (.int .i64 1))),zM 6 65] none)
 (.seq (.reg [zM 66 0,zM 67 6,zG 68 (.bin .sub (.t 67) (.c (.int .i64 1))),zG 69 (.iaddr 2 (.t 66) (.t 68)),zF 70 1 69,zL 71 70,zF 72 1 8,zL 73 72,zG 74 (.bin .eql (.t 71) (.t 73))] (some [(5,7)]))
 (.cond (.t 74) (.exit 1) .skip))) .skip))
 (.reg [zM 75 5,zF 76 0 8,zL 77 76,zF 78 1 8,zL 79 78,zG 80 (.build [.str [],.str [],.bool false] [(0,1,(.t 77)),(1,1,(.t 79))]),zG 81 (.buildSl 3 [(.t 80)]),zG 82 (.app false 3 40 (.t 75) (.t 81)),zM 5 82] none)))))
 (.reg [zG 83 (.bin .add (.t 21) (.c (.int .i64 1))),zM 21 83] none)))))))
 (.seq (.seq (.reg [zM 84 0,zM 85 6,zG 86 (.slc false 2 (.t 84) (some (.t 85)) none none),zG 87 (.len false (.t 86)),zG 88 (.mov (.c (.int .i64 0)))] none)
 (.block 4 (.loop (.seq (.reg [zG 89 (.bin .lss (.t 88) (.t 87))] none)
 (.seq (.cond (.t 89) .skip (.exit 4))
 (.seq (.block 5 (.seq (.reg [zG 90 (.iaddr 2 (.t 86) (.t 88)),zW 91 2 90,zG 10 (.alloc [.str [],.str []]),zH (.store 2 (.t 10) (.t 91))] none)
 (.reg [zM 92 5,zF 93 0 10,zL 94 93,zG 95 (.build [.str [],.str [],.bool false] [(0,1,(.t 94)),(2,1,(.c (.bool true)))]),zG 96 (.buildSl 3 [(.t 95)]),zG 97 (.app false 3 40 (.t 92) (.t 96)),zM 5 97] none)))
 (.reg [zG 98 (.bin .add (.t 88) (.c (.int .i64 1))),zM 88 98] none)))))))
 (.seq (.reg [zM 99 5,zM 4 99] none)
 .ret)))))))))
theorem f69:aG Tryz.prog 69 100 c69 [.tmp 4]:=⟨_,Tryz.func69,rfl,by kernel_rfl,rfl⟩
def c82:AC:=(.seq (.reg [zG 6 (.mov (.c (.sl 1 [] (.exact 0))))] none)
 (.seq (.seq (.reg [zM 8 2,zG 9 (.bin .sub (.t 8) (.c (.int .i64 1))),zM 7 9] none)
 (.block 0 (.loop (.seq (.seq (.reg [zM 10 7,zG 11 (.bin .geq (.t 10) (.c (.int .i64 0)))] none)
 (.cond (.t 11) .skip (.exit 0)))
 (.seq (.block 1 (.reg [zM 14 0,zM 15 1,zG 16 (.conv (.toInt .u64) (.t 15)),zM 17 7,zG 18 (.bin .mul (.c (.int .i64 8)) (.t 17)),zG 19 (.bin .shr (.t 16) (.t 18)),zG 20 (.conv (.toInt .u8) (.t 19)),zG 21 (.buildSl 1 [(.t 20)]),zG 22 (.app false 1 1 (.t 14) (.t 21)),zM 0 22] none))
 (.reg [zM 12 7,zG 13 (.bin .sub (.t 12) (.c (.int .i64 1))),zM 7 13] none))))))
 (.seq (.reg [zM 23 0,zM 6 23] none)
 .ret)))
theorem f82:aG Tryz.prog 82 24 c82 [.tmp 6]:=⟨_,Tryz.func82,rfl,by kernel_rfl,rfl⟩
def c83:AC:=(.seq (.reg [zG 6 (.mov (.c (.sl 1 [] (.exact 0))))] none)
 (.seq (.seq (.reg [zM 8 2,zG 9 (.bin .sub (.t 8) (.c (.int .i64 1))),zM 7 9] none)
 (.block 0 (.loop (.seq (.seq (.reg [zM 10 7,zG 11 (.bin .geq (.t 10) (.c (.int .i64 0)))] none)
 (.cond (.t 11) .skip (.exit 0)))
 (.seq (.block 1 (.reg [zM 14 0,zM 15 1,zG 16 (.conv (.toInt .u64) (.t 15)),zM 17 7,zG 18 (.bin .mul (.c (.int .i64 8)) (.t 17)),zG 19 (.bin .shr (.t 16) (.t 18)),zG 20 (.conv (.toInt .u8) (.t 19)),zG 21 (.buildSl 1 [(.t 20)]),zG 22 (.app false 1 1 (.t 14) (.t 21)),zM 0 22] none))
 (.reg [zM 12 7,zG 13 (.bin .sub (.t 12) (.c (.int .i64 1))),zM 7 13] none))))))
 (.seq (.reg [zM 23 0,zM 6 23] none)
 .ret)))
theorem f83:aG Tryz.prog 83 24 c83 [.tmp 6]:=⟨_,Tryz.func83,rfl,by kernel_rfl,rfl⟩
def c84:AC:=(.seq (.reg [zG 6 (.mov (.c (.sl 1 [] (.exact 0))))] none)
 (.seq (.seq (.reg [zM 8 2,zG 9 (.bin .sub (.t 8) (.c (.int .i64 1))),zM 7 9] none)
 (.block 0 (.loop (.seq (.seq (.reg [zM 10 7,zG 11 (.bin .geq (.t 10) (.c (.int .i64 0)))] none)
 (.cond (.t 11) .skip (.exit 0)))
 (.seq (.block 1 (.reg [zM 14 0,zM 15 1,zG 16 (.conv (.toInt .u64) (.t 15)),zM 17 7,zG 18 (.bin .mul (.c (.int .i64 8)) (.t 17)),zG 19 (.bin .shr (.t 16) (.t 18)),zG 20 (.conv (.toInt .u8) (.t 19)),zG 21 (.buildSl 1 [(.t 20)]),zG 22 (.app false 1 1 (.t 14) (.t 21)),zM 0 22] none))
 (.reg [zM 12 7,zG 13 (.bin .sub (.t 12) (.c (.int .i64 1))),zM 7 13] none))))))
 (.seq (.reg [zM 23 0,zM 6 23] none)
 .ret)))
theorem f84:aG Tryz.prog 84 24 c84 [.tmp 6]:=⟨_,Tryz.func84,rfl,by kernel_rfl,rfl⟩
def c85:AC:=(.seq (.reg [zG 1 (.box (.t 0)),zG 2 (.mov (.c (.int .i64 0)))] none)
 (.seq (.seq (.reg [zF 5 0 1,zL 6 5,zF 7 1 1,zL 8 7,zG 9 (.raw (.abuild [.int .i64 0,.int .i64 0] [(0,1),(1,1)]) [(.t 6),(.t 8)]),zG 10 (.mov (.c (.int .i64 0)))] none)
 (.block 0 (.loop (.seq (.reg [zG 11 (.bin .lss (.t 10) (.c (.int .i64 2)))] none)
 (.seq (.cond (.t 11) .skip (.exit 0))
 (.seq (.block 1 (.seq (.reg [zG 12 (.raw (.aidx 1 none 2) [(.t 9),(.t 10)]),zM 4 12] none)
 (.seq (.reg [zM 13 4,zG 14 (.bin .lss (.t 13) (.c (.int .i64 0))),zM 15 14,zm 16 15 false 4,zg 17 15 false (.bin .geq (.t 16) (.c (.int .i64 1048573))),zO 18 15 17] none)
 (.cond (.t 18) (.seq (.reg [zG 2 (.mov (.c (.int .i64 2)))] none)
 .ret) .skip))))
 (.reg [zG 19 (.bin .add (.t 10) (.c (.int .i64 1))),zM 10 19] none)))))))
 (.seq (.reg [zG 2 (.mov (.c (.int .i64 0)))] none)
 .ret)))
theorem f85:aG Tryz.prog 85 20 c85 [.tmp 2]:=⟨_,Tryz.func85,rfl,by kernel_rfl,rfl⟩
def c86:AC:=(.seq (.reg [zG 6 (.mov (.c (.sl 1 [] (.exact 0))))] none)
 (.seq (.seq (.reg [zM 8 2,zG 9 (.bin .sub (.t 8) (.c (.int .i64 1))),zM 7 9] none)
 (.block 0 (.loop (.seq (.seq (.reg [zM 10 7,zG 11 (.bin .geq (.t 10) (.c (.int .i64 0)))] none)
 (.cond (.t 11) .skip (.exit 0)))
 (.seq (.block 1 (.reg [zM 14 0,zM 15 1,zM 16 7,zG 17 (.bin .mul (.c (.int .i64 8)) (.t 16)),zG 18 (.bin .shr (.t 15) (.t 17)),zG 19 (.conv (.toInt .u8) (.t 18)),zG 20 (.buildSl 1 [(.t 19)]),zG 21 (.app false 1 1 (.t 14) (.t 20)),zM 0 21] none))
 (.reg [zM 12 7,zG 13 (.bin .sub (.t 12) (.c (.int .i64 1))),zM 7 13] none))))))
 (.seq (.reg [zM 22 0,zM 6 22] none)
 .ret)))
theorem f86:aG Tryz.prog 86 23 c86 [.tmp 6]:=⟨_,Tryz.func86,rfl,by kernel_rfl,rfl⟩
def c87:AC:=(.seq (.reg [zG 4 (.mov (.c (.str [])))] none)
 (.seq (.reg [zM 8 0,zG 9 (.conv (.toInt .u64) (.t 8)),zM 5 9] none)
 (.seq (.reg [zG 6 (.mov (.c (.sl 1 [] (.exact 0))))] none)
 (.seq (.seq (.reg [zM 10 1,zG 11 (.bin .sub (.t 10) (.c (.int .i64 1))),zM 7 11] none)
 (.block 0 (.loop (.seq (.seq (.reg [zM 12 7,zG 13 (.bin .geq (.t 12) (.c (.int .i64 0)))] none)
 (.cond (.t 13) .skip (.exit 0)))
 (.seq (.block 1 (.reg [zM 16 6,zM 17 5,zM 18 7,zG 19 (.conv (.toInt .u64) (.t 18)),zG 20 (.bin .mul (.c (.int .u64 8)) (.t 19)),zG 21 (.bin .shr (.t 17) (.t 20)),zG 22 (.conv (.toInt .u8) (.t 21)),zG 23 (.buildSl 1 [(.t 22)]),zG 24 (.app false 1 1 (.t 16) (.t 23)),zM 6 24] none))
 (.reg [zM 14 7,zG 15 (.bin .sub (.t 14) (.c (.int .i64 1))),zM 7 15] none))))))
 (.seq (.reg [zM 25 6,zG 26 (.conv .b2s (.t 25)),zM 4 26] none)
 .ret)))))
theorem f87:aG Tryz.prog 87 27 c87 [.tmp 4]:=⟨_,Tryz.func87,rfl,by kernel_rfl,rfl⟩
def c88:AC:=(.seq (.reg [zG 2 (.mov (.c (.str [])))] none)
 (.seq (.reg [zM 3 0,zG 4 (.len true (.t 3)),zG 5 (.call 87 [(.t 4),(.c (.int .i64 1))]),zM 6 0,zG 7 (.bin .add (.t 5) (.t 6)),zM 2 7] none)
 .ret))
theorem f88:aG Tryz.prog 88 8 c88 [.tmp 2]:=⟨_,Tryz.func88,rfl,by kernel_rfl,rfl⟩
def c89:AC:=(.seq (.reg [zG 1 (.box (.t 0)),zG 2 (.mov (.c (.str []))),zG 3 (.mov (.c (.int .i64 0)))] none)
 (.seq (.seq (.reg [zW 4 5 1,zG 5 (.call 108 [(.t 4)]),zN 6 5] none)
 (.cond (.t 6) (.seq (.reg [zG 2 (.mov (.c (.str []))),zG 3 (.mov (.c (.int .i64 2)))] none)
 .ret) .skip))
 (.seq (.reg [zW 7 5 1,zG 8 (.call 109 [(.t 7)]),zM 2 8,zG 3 (.mov (.c (.int .i64 0)))] none)
 .ret)))
theorem f89:aG Tryz.prog 89 9 c89 [.tmp 2,.tmp 3]:=⟨_,Tryz.func89,rfl,by kernel_rfl,rfl⟩
def c90:AC:=(.seq (.reg [zG 2 (.mov (.c (.int .i64 0)))] none)
 (.seq (.reg [zG 3 (.mov (.c (.int .u32 4294967295)))] none)
 (.seq (.seq (.reg [zG 4 (.mov (.c (.int .i64 0)))] none)
 (.block 0 (.loop (.seq (.seq (.reg [zM 7 4,zM 8 0,zG 9 (.len true (.t 8)),zG 10 (.bin .lss (.t 7) (.t 9))] none)
 (.cond (.t 10) .skip (.exit 0)))
 (.seq (.block 1 (.seq (.reg [zM 13 3,zM 14 0,zM 15 4,zG 16 (.idx (.t 14) (.t 15)),zG 17 (.conv (.toInt .u32) (.t 16)),zG 18 (.bin .xor (.t 13) (.t 17)),zM 3 18] none)
 (.seq (.reg [zG 5 (.mov (.c (.int .i64 0)))] none)
 (.block 2 (.loop (.seq (.seq (.reg [zM 19 5,zG 20 (.bin .lss (.t 19) (.c (.int .i64 8)))] none)
 (.cond (.t 20) .skip (.exit 2)))
 (.seq (.block 3 (.seq (.reg [zM 23 3,zG 24 (.bin .and (.t 23) (.c (.int .u32 1))),zM 6 24] none)
 (.seq (.reg [zM 25 3,zG 26 (.bin .shr (.t 25) (.c (.int .u64 1))),zM 3 26] none)
 (.seq (.reg [zM 27 6,zG 28 (.bin .eql (.t 27) (.c (.int .u32 1)))] none)
 (.cond (.t 28) (.reg [zM 29 3,zG 30 (.bin .xor (.t 29) (.c (.int .u32 2197175160))),zM 3 30] none) .skip)))))
 (.reg [zM 21 5,zG 22 (.bin .add (.t 21) (.c (.int .i64 1))),zM 5 22] none))))))))
 (.reg [zM 11 4,zG 12 (.bin .add (.t 11) (.c (.int .i64 1))),zM 4 12] none))))))
 (.seq (.reg [zM 31 3,zG 32 (.bin .xor (.t 31) (.c (.int .u32 4294967295))),zG 33 (.conv (.toInt .i64) (.t 32)),zM 2 33] none)
 .ret))))
theorem f90:aG Tryz.prog 90 34 c90 [.tmp 2]:=⟨_,Tryz.func90,rfl,by kernel_rfl,rfl⟩
def c91:AC:=(.seq (.reg [zF 15 1 1,zL 16 15,zG 17 (.call 49 [(.t 16)]),zM 14 17,zE 18 14 0,zE 19 14 1,zM 3 18,zM 4 19] none)
 (.seq (.seq (.reg [zM 20 0,zF 21 0 1,zL 22 21,zG 23 (.build [.int .i64 0,.str [],.str [],.sl 1 [] (.exact 0)] [(0,1,(.c (.int .i64 1))),(1,1,(.t 22))]),zM 24 3,zG 25 (.call 92 [(.t 23),(.t 24)]),zG 26 (.buildSl 3 [(.t 25)]),zG 27 (.callv (.t 20) [(.t 26)]),zN 28 27] none)
 (.cond (.t 28) .ret .skip))
 (.seq (.reg [zF 29 2 1,zL 30 29,zG 31 (.len false (.t 30)),zG 32 (.mov (.c (.int .i64 0)))] none)
 (.block 0 (.loop (.seq (.reg [zG 33 (.bin .lss (.t 32) (.t 31))] none)
 (.seq (.cond (.t 33) .skip (.exit 0))
 (.seq (.block 1 (.seq (.reg [zG 34 (.iaddr 8 (.t 30) (.t 32)),zW 35 8 34,zG 6 (.alloc [.str [],.int .i64 0,.int .i64 0,.int .i64 0,.int .i64 0,.bool false,.bool false,.str []]),zH (.store 8 (.t 6) (.t 35))] none)
 (.seq (.reg [zF 37 2 6,zW 38 5 37,zG 39 (.call 40 [(.t 38)]),zM 36 39,zE 40 36 0,zE 41 36 1,zM 7 40,zM 8 41] none)
 (.seq (.reg [zF 42 0 1,zL 43 42,zF 44 0 6,zL 45 44,zF 46 1 6,zL 47 46,zG 48 (.buildSl 1 [(.t 47)]),zG 49 (.build [.int .i64 0,.str [],.str [],.sl 1 [] (.exact 0)] [(0,1,(.c (.int .i64 2))),(1,1,(.t 43)),(2,1,(.t 45)),(3,1,(.t 48))]),zM 50 7,zG 51 (.call 92 [(.t 49),(.t 50)]),zG 52 (.buildSl 3 [(.t 51)]),zM 9 52] none)
 (.seq (.reg [zF 54 7 6,zL 55 54,zG 56 (.call 93 [(.t 55)]),zM 53 56,zE 57 53 0,zE 58 53 1,zM 10 57,zM 11 58] none)
 (.seq (.seq (.reg [zM 59 10,zG 60 (.len false (.t 59)),zG 61 (.mov (.c (.int .i64 0)))] none)
 (.block 2 (.loop (.seq (.reg [zG 62 (.bin .lss (.t 61) (.t 60))] none)
 (.seq (.cond (.t 62) .skip (.exit 2))
 (.seq (.block 3 (.seq (.reg [zM 63 61,zG 64 (.iaddr 1 (.t 59) (.t 61)),zL 65 64,zM 12 63,zM 13 65] none)
 (.reg [zM 66 9,zF 67 0 1,zL 68 67,zF 69 0 6,zL 70 69,zF 71 1 6,zL 72 71,zM 73 12,zG 74 (.buildSl 1 [(.t 72),(.t 73)]),zG 75 (.build [.int .i64 0,.str [],.str [],.sl 1 [] (.exact 0)] [(0,1,(.c (.int .i64 3))),(1,1,(.t 68)),(2,1,(.t 70)),(3,1,(.t 74))]),zM 76 13,zG 77 (.call 92 [(.t 75),(.t 76)]),zG 78 (.buildSl 3 [(.t 77)]),zG 79 (.app false 3 40 (.t 66) (.t 78)),zM 9 79] none)))
 (.reg [zG 80 (.bin .add (.t 61) (.c (.int .i64 1))),zM 61 80] none)))))))
 (.seq (.reg [zM 81 0,zM 82 9,zG 83 (.callv (.t 81) [(.t 82)]),zN 84 83] none)
 (.cond (.t 84) .ret .skip))))))))
 (.reg [zG 85 (.bin .add (.t 32) (.c (.int .i64 1))),zM 32 85] none)))))))))
theorem f91:aG Tryz.prog 91 86 c91 []:=⟨_,Tryz.func91,rfl,by kernel_rfl,rfl⟩
def c92:AC:=(.seq (.reg [zG 2 (.box (.t 0)),zG 4 (.alloc [.str [],.str [],.bool false])] none)
 (.seq (.reg [zW 8 4 2,zG 9 (.call 138 [(.t 8)]),zM 7 9,zE 10 7 0,zE 11 7 1,zM 5 10,zM 6 11] none)
 (.seq (.reg [zM 12 5,zM 13 1,zG 14 (.build [.str [],.str [],.bool false] [(0,1,(.t 12)),(1,1,(.t 13))]),zH (.store 3 (.t 4) (.t 14))] none)
 .ret)))
theorem f92:aG Tryz.prog 92 15 c92 [.cell 4 (some 3)]:=⟨_,Tryz.func92,rfl,by kernel_rfl,rfl⟩
def c93:AC:=(.seq (.reg [zG 2 (.mov (.c (.sl 1 [] (.exact 0)))),zG 3 (.mov (.c (.int .i64 0)))] none)
 (.seq (.seq (.reg [zM 6 0,zG 7 (.len true (.t 6)),zG 8 (.bin .gtr (.t 7) (.c (.int .i64 2560)))] none)
 (.cond (.t 8) (.seq (.reg [zG 2 (.mov (.c (.sl 1 [] (.exact 0)))),zG 3 (.mov (.c (.int .i64 5)))] none)
 .ret) .skip))
 (.seq (.reg [zG 4 (.mov (.c (.sl 1 [] (.exact 0))))] none)
 (.seq (.seq (.reg [zM 9 0,zG 10 (.len true (.t 9)),zG 11 (.bin .add (.t 10) (.c (.int .i64 160))),zG 12 (.bin .sub (.t 11) (.c (.int .i64 1))),zG 13 (.bin .quo (.t 12) (.c (.int .i64 160))),zG 14 (.mov (.c (.int .i64 0)))] none)
 (.block 0 (.loop (.seq (.reg [zG 15 (.bin .lss (.t 14) (.t 13))] none)
 (.seq (.cond (.t 15) .skip (.exit 0))
 (.seq (.block 1 (.seq (.reg [zM 16 0,zG 17 (.len true (.t 16)),zG 18 (.mm false (.c (.int .i64 160)) (.t 17)),zM 5 18] none)
 (.seq (.reg [zM 19 4,zM 20 0,zM 21 5,zG 22 (.slc true 0 (.t 20) none (some (.t 21)) none),zG 23 (.buildSl 1 [(.t 22)]),zG 24 (.app false 1 16 (.t 19) (.t 23)),zM 4 24] none)
 (.reg [zM 25 0,zM 26 5,zG 27 (.slc true 0 (.t 25) (some (.t 26)) none none),zM 0 27] none))))
 (.reg [zG 28 (.bin .add (.t 14) (.c (.int .i64 1))),zM 14 28] none)))))))
 (.seq (.reg [zM 29 4,zM 2 29,zG 3 (.mov (.c (.int .i64 0)))] none)
 .ret)))))
theorem f93:aG Tryz.prog 93 30 c93 [.tmp 2,.tmp 3]:=⟨_,Tryz.func93,rfl,by kernel_rfl,rfl⟩
def c94:AC:=(.seq (.reg [zG 10 (.mov (.c (.bool true)))] none)
 (.seq (.reg [zG 11 (.mov (.c (.bool true)))] none)
 (.block 0 (.loop (.block 1 (.seq (.reg [zM 21 2,zM 22 1,zG 23 (.bin .sub (.t 21) (.t 22)),zM 12 23] none)
 (.seq (.seq (.reg [zM 24 12,zG 25 (.bin .leq (.t 24) (.c (.int .i64 12)))] none)
 (.cond (.t 25) (.seq (.reg [zM 26 0,zM 27 1,zM 28 2,zM 29 4,zG 30 (.call 139 [(.t 26),(.t 27),(.t 28),(.t 29)])] none)
 .ret) .skip))
 (.seq (.seq (.reg [zM 31 3,zG 32 (.bin .eql (.t 31) (.c (.int .i64 0)))] none)
 (.cond (.t 32) (.seq (.reg [zM 33 0,zM 34 1,zM 35 2,zM 36 4,zG 37 (.call 140 [(.t 33),(.t 34),(.t 35),(.t 36)])] none)
 .ret) .skip))
 (.seq (.seq (.reg [zM 38 10,zN 39 38] none)
 (.cond (.t 39) (.seq (.reg [zM 40 0,zM 41 1,zM 42 2,zM 43 4,zG 44 (.call 141 [(.t 40),(.t 41),(.t 42),(.t 43)])] none)
 (.reg [zM 45 3,zG 46 (.bin .sub (.t 45) (.c (.int .i64 1))),zM 3 46] none)) .skip))
 (.seq (.reg [zM 48 0,zM 49 1,zM 50 2,zM 51 4,zG 52 (.call 142 [(.t 48),(.t 49),(.t 50),(.t 51)]),zM 47 52,zE 53 47 0,zE 54 47 1,zM 13 53,zM 14 54] none)
 (.seq (.seq (.reg [zM 55 14,zG 56 (.bin .eql (.t 55) (.c (.int .i64 2)))] none)
 (.cond (.t 56) (.seq (.reg [zM 57 0,zM 58 1,zM 59 2,zM 60 4,zG 61 (.call 143 [(.t 57),(.t 58),(.t 59),(.t 60)])] none)
 (.seq (.reg [zM 62 2,zG 63 (.bin .sub (.t 62) (.c (.int .i64 1))),zM 64 13,zM 65 1,zG 66 (.bin .sub (.t 64) (.t 65)),zG 67 (.bin .sub (.t 63) (.t 66)),zM 13 67] none)
 (.reg [zG 14 (.mov (.c (.int .i64 1)))] none))) .skip))
 (.seq (.seq (.reg [zM 68 10,zM 69 68,zm 70 69 true 11,zA 71 69 70,zM 72 71,zm 73 72 true 14,zg 74 72 true (.bin .eql (.t 73) (.c (.int .i64 1))),zA 75 72 74] none)
 (.cond (.t 75) (.seq (.reg [zM 76 0,zM 77 1,zM 78 2,zM 79 4,zG 80 (.call 144 [(.t 76),(.t 77),(.t 78),(.t 79)])] none)
 (.cond (.t 80) .ret .skip)) .skip))
 (.seq (.seq (.reg [zM 81 1,zG 82 (.bin .gtr (.t 81) (.c (.int .i64 0))),zM 83 82,zm 84 83 true 4,zm 85 83 true 0,zm 86 83 true 1,zg 87 83 true (.bin .sub (.t 86) (.c (.int .i64 1))),zg 88 83 true (.iaddr 2 (.t 85) (.t 87)),zw 89 83 true 2 88,zm 90 83 true 0,zm 91 83 true 13,zg 92 83 true (.iaddr 2 (.t 90) (.t 91)),zw 93 83 true 2 92,zg 94 83 true (.callv (.t 84) [(.t 89),(.t 93)]),zg 95 83 true (.bin .lss (.t 94) (.c (.int .i64 0))),zn 96 83 true 95,zA 97 83 96] (some [(8,12)]))
 (.cond (.t 97) (.seq (.reg [zM 98 0,zM 99 1,zM 100 2,zM 101 13,zM 102 4,zG 103 (.call 145 [(.t 98),(.t 99),(.t 100),(.t 101),(.t 102)]),zM 15 103] none)
 (.seq (.reg [zM 104 15,zM 1 104] none)
 (.exit 1))) .skip))
 (.seq (.reg [zM 106 0,zM 107 1,zM 108 2,zM 109 13,zM 110 4,zG 111 (.call 146 [(.t 106),(.t 107),(.t 108),(.t 109),(.t 110)]),zM 105 111,zE 112 105 0,zE 113 105 1,zM 16 112,zM 17 113] none)
 (.seq (.reg [zM 114 17,zM 11 114] none)
 (.seq (.reg [zM 115 16,zM 116 1,zG 117 (.bin .sub (.t 115) (.t 116)),zM 118 2,zM 119 16,zG 120 (.bin .sub (.t 118) (.t 119)),zM 18 117,zM 19 120] none)
 (.seq (.reg [zM 121 12,zG 122 (.bin .quo (.t 121) (.c (.int .i64 8))),zM 20 122] none)
 (.seq (.reg [zM 123 18,zM 124 19,zG 125 (.bin .lss (.t 123) (.t 124))] none)
 (.cond (.t 125) (.seq (.reg [zM 126 18,zM 127 20,zG 128 (.bin .geq (.t 126) (.t 127)),zM 10 128] none)
 (.seq (.reg [zM 129 0,zM 130 1,zM 131 16,zM 132 3,zM 133 4,zG 134 (.call 94 [(.t 129),(.t 130),(.t 131),(.t 132),(.t 133)])] none)
 (.reg [zM 135 16,zG 136 (.bin .add (.t 135) (.c (.int .i64 1))),zM 1 136] none))) (.seq (.reg [zM 137 19,zM 138 20,zG 139 (.bin .geq (.t 137) (.t 138)),zM 10 139] none)
 (.seq (.reg [zM 140 0,zM 141 16,zG 142 (.bin .add (.t 141) (.c (.int .i64 1))),zM 143 2,zM 144 3,zM 145 4,zG 146 (.call 94 [(.t 140),(.t 142),(.t 143),(.t 144),(.t 145)])] none)
 (.reg [zM 147 16,zM 2 147] none))))))))))))))))))))))
theorem f94:aG Tryz.prog 94 148 c94 []:=⟨_,Tryz.func94,rfl,by kernel_rfl,rfl⟩
def c95:AC:=(.seq (.reg [zG 2 (.mov (.c (.int .i64 0)))] none)
 (.seq (.cond (.c (.bool false)) (.seq (.reg [zM 3 0,zG 4 (.conv (.toInt .u32) (.t 3)),zG 5 (.call 147 [(.t 4)]),zM 2 5] none)
 .ret) .skip)
 (.seq (.reg [zM 6 0,zG 7 (.call 148 [(.t 6)]),zM 2 7] none)
 .ret)))
theorem f95:aG Tryz.prog 95 8 c95 [.tmp 2]:=⟨_,Tryz.func95,rfl,by kernel_rfl,rfl⟩
def c96:AC:=(.seq (.reg [zG 4 (.mov (.c (.int .i64 0)))] none)
 (.seq (.reg [zM 7 0,zG 8 (.call 149 [(.t 7)]),zM 5 8] none)
 (.seq (.reg [zM 9 1,zG 10 (.call 149 [(.t 9)]),zM 6 10] none)
 (.seq (.seq (.reg [zM 11 5] none)
 (.cond (.t 11) (.seq (.seq (.reg [zM 12 6] none)
 (.cond (.t 12) (.seq (.reg [zG 4 (.mov (.c (.int .i64 0)))] none)
 .ret) .skip))
 (.seq (.reg [zG 4 (.mov (.c (.int .i64 (-1))))] none)
 .ret)) .skip))
 (.seq (.seq (.reg [zM 13 6] none)
 (.cond (.t 13) (.seq (.reg [zG 4 (.mov (.c (.int .i64 1)))] none)
 .ret) .skip))
 (.seq (.seq (.reg [zM 14 0,zM 15 1,zG 16 (.bin .lss (.t 14) (.t 15))] none)
 (.cond (.t 16) (.seq (.reg [zG 4 (.mov (.c (.int .i64 (-1))))] none)
 .ret) .skip))
 (.seq (.seq (.reg [zM 17 0,zM 18 1,zG 19 (.bin .gtr (.t 17) (.t 18))] none)
 (.cond (.t 19) (.seq (.reg [zG 4 (.mov (.c (.int .i64 1)))] none)
 .ret) .skip))
 (.seq (.reg [zG 4 (.mov (.c (.int .i64 0)))] none)
 .ret))))))))
theorem f96:aG Tryz.prog 96 20 c96 [.tmp 4]:=⟨_,Tryz.func96,rfl,by kernel_rfl,rfl⟩
def c97:AC:=(.seq (.reg [zG 2 (.mov (.c (.str []))),zG 3 (.mov (.c (.int .i64 0)))] none)
 (.seq (.seq (.reg [zM 4 0,zG 5 (.bin .lss (.t 4) (.c (.int .i64 0))),zM 6 5,zm 7 6 false 0,zg 8 6 false (.bin .gtr (.t 7) (.c (.int .i64 2))),zO 9 6 8] none)
 (.cond (.t 9) (.seq (.reg [zG 2 (.mov (.c (.str []))),zG 3 (.mov (.c (.int .i64 2)))] none)
 .ret) .skip))
 (.seq (.reg [zM 10 0,zM 11 0,zG 12 (.bin .add (.t 11) (.c (.int .i64 1))),zG 13 (.slc true 0 (.c (.str [48,49,50])) (some (.t 10)) (some (.t 12)) none),zM 2 13,zG 3 (.mov (.c (.int .i64 0)))] none)
 .ret)))
theorem f97:aG Tryz.prog 97 14 c97 [.tmp 2,.tmp 3]:=⟨_,Tryz.func97,rfl,by kernel_rfl,rfl⟩
def c98:AC:=(.seq (.reg [zG 8 (.mov (.c (.str [])))] none)
 (.seq (.reg [zM 12 0,zM 13 1,zM 14 2,zM 15 3,zG 16 (.build [.int .i64 0,.str [],.str [],.sl 1 [] (.exact 0)] [(0,1,(.t 12)),(1,1,(.t 13)),(2,1,(.t 14)),(3,1,(.t 15))]),zG 17 (.call 116 [(.t 16)]),zM 11 17,zE 18 11 0,zE 19 11 1,zM 9 18,zM 10 19] none)
 (.seq (.reg [zM 20 9,zM 8 20] none)
 .ret)))
theorem f98:aG Tryz.prog 98 21 c98 [.tmp 8]:=⟨_,Tryz.func98,rfl,by kernel_rfl,rfl⟩
def c99:AC:=(.seq (.reg [zG 2 (.mov (.c (.sl 1 [] (.exact 0)))),zG 3 (.mov (.c (.int .i64 0)))] none)
 (.seq (.seq (.reg [zM 6 0,zG 7 (.len true (.t 6)),zG 8 (.bin .gtr (.t 7) (.c (.int .i64 2560)))] none)
 (.cond (.t 8) (.seq (.reg [zG 2 (.mov (.c (.sl 1 [] (.exact 0)))),zG 3 (.mov (.c (.int .i64 5)))] none)
 .ret) .skip))
 (.seq (.reg [zG 4 (.mov (.c (.sl 1 [] (.exact 0))))] none)
 (.seq (.seq (.reg [zG 5 (.mov (.c (.int .i64 0)))] none)
 (.block 0 (.loop (.seq (.seq (.reg [zM 9 5,zM 10 0,zG 11 (.len true (.t 10)),zG 12 (.bin .lss (.t 9) (.t 11))] none)
 (.cond (.t 12) .skip (.exit 0)))
 (.seq (.block 1 (.reg [zM 15 4,zM 16 0,zM 17 5,zM 18 0,zG 19 (.len true (.t 18)),zM 20 5,zG 21 (.bin .add (.t 20) (.c (.int .i64 160))),zG 22 (.mm false (.t 19) (.t 21)),zG 23 (.slc true 0 (.t 16) (some (.t 17)) (some (.t 22)) none),zG 24 (.buildSl 1 [(.t 23)]),zG 25 (.app false 1 16 (.t 15) (.t 24)),zM 4 25] none))
 (.reg [zM 13 5,zG 14 (.bin .add (.t 13) (.c (.int .i64 160))),zM 5 14] none))))))
 (.seq (.reg [zM 26 4,zM 2 26,zG 3 (.mov (.c (.int .i64 0)))] none)
 .ret)))))
theorem f99:aG Tryz.prog 99 27 c99 [.tmp 2,.tmp 3]:=⟨_,Tryz.func99,rfl,by kernel_rfl,rfl⟩
def xD:AC:=(.seq (.reg [zG 2 (.mov (.c (.int .i64 0)))] none)
 (.seq (.seq (.reg [zM 5 0,zG 6 (.bin .eql (.t 5) (.c (.str []))),zM 7 6,zm 8 7 false 0,zg 9 7 false (.len true (.t 8)),zg 10 7 false (.bin .gtr (.t 9) (.c (.int .i64 32))),zO 11 7 10] none)
 (.cond (.t 11) (.seq (.reg [zG 2 (.mov (.c (.int .i64 15)))] none)
 .ret) .skip))
 (.seq (.seq (.reg [zM 12 0,zG 13 (.conv .s2b (.t 12)),zG 14 (.len false (.t 13)),zG 15 (.mov (.c (.int .i64 0)))] none)
 (.block 0 (.loop (.seq (.reg [zG 16 (.bin .lss (.t 15) (.t 14))] none)
 (.seq (.cond (.t 16) .skip (.exit 0))
 (.seq (.block 1 (.seq (.reg [zG 17 (.iaddr 1 (.t 13) (.t 15)),zL 18 17,zM 4 18] none)
 (.seq (.reg [zM 19 4,zG 20 (.bin .lss (.t 19) (.c (.int .u8 33))),zM 21 20,zm 22 21 false 4,zg 23 21 false (.bin .gtr (.t 22) (.c (.int .u8 126))),zO 24 21 23] none)
 (.cond (.t 24) (.seq (.reg [zG 2 (.mov (.c (.int .i64 15)))] none)
 .ret) .skip))))
 (.reg [zG 25 (.bin .add (.t 15) (.c (.int .i64 1))),zM 15 25] none)))))))
 (.seq (.reg [zG 2 (.mov (.c (.int .i64 0)))] none)
 .ret))))
theorem f100:aG Tryz.prog 100 26 xD [.tmp 2]:=⟨_,Tryz.func100,rfl,by kernel_rfl,rfl⟩
def BD:AC:=(.seq (.reg [zG 1 (.box (.t 0)),zG 2 (.mov (.c (.bool false)))] none)
 (.seq (.seq (.reg [zF 6 2 1,zW 7 5 6,zG 8 (.call 40 [(.t 7)]),zM 5 8,zE 9 5 0,zE 10 5 1,zM 3 9,zM 4 10] none)
 (.seq (.reg [zM 11 4,zG 12 (.bin .neq (.t 11) (.c (.int .i64 0))),zM 13 12,zf 14 13 false 7 1,zl 15 13 false 14,zg 16 13 false (.len true (.t 15)),zf 17 13 false 2 1,zf 18 13 false 0 17,zl 19 13 false 18,zg 20 13 false (.bin .neq (.t 16) (.t 19)),zO 21 13 20] none)
 (.cond (.t 21) (.seq (.reg [zG 2 (.mov (.c (.bool false)))] none)
 .ret) .skip)))
 (.seq (.reg [zF 22 2 1,zF 23 3 22,zL 24 23,zM 25 24,zf 26 25 false 7 1,zl 27 25 false 26,zg 28 25 false (.conv .s2b (.t 27)),zg 29 25 false (.call 150 [(.t 28)]),zf 30 25 false 2 1,zf 31 25 false 1 30,zw 32 25 false 2 31,zg 33 25 false (.eqA false [.int,.int] (.t 29) (.t 32)),zO 34 25 33,zM 2 34] (some [(5,10),(6,10),(7,10)]))
 .ret)))
theorem f101:aG Tryz.prog 101 35 BD [.tmp 2]:=⟨_,Tryz.func101,rfl,by kernel_rfl,rfl⟩
def CS:AC:=(.seq (.reg [zG 2 (.mov (.c (.int .i64 0)))] none)
 (.seq (.seq (.reg [zM 4 0,zG 5 (.len true (.t 4)),zG 6 (.bin .lss (.t 5) (.c (.int .i64 3))),zM 7 6,zm 8 7 false 0,zg 9 7 false (.len true (.t 8)),zg 10 7 false (.bin .gtr (.t 9) (.c (.int .i64 12))),zO 11 7 10,zM 12 11,zm 13 12 false 0,zg 14 12 false (.idx (.t 13) (.c (.int .i64 0))),zg 15 12 false (.call 151 [(.t 14)]),zn 16 12 false 15,zO 17 12 16,zM 18 17,zm 19 18 false 0,zm 20 18 false 0,zg 21 18 false (.len true (.t 20)),zg 22 18 false (.bin .sub (.t 21) (.c (.int .i64 1))),zg 23 18 false (.idx (.t 19) (.t 22)),zg 24 18 false (.call 151 [(.t 23)]),zn 25 18 false 24,zO 26 18 25] none)
 (.cond (.t 26) (.seq (.reg [zG 2 (.mov (.c (.int .i64 15)))] none)
 .ret) .skip))
 (.seq (.seq (.reg [zG 3 (.mov (.c (.int .i64 0)))] none)
 (.block 0 (.loop (.seq (.seq (.reg [zM 27 3,zM 28 0,zG 29 (.len true (.t 28)),zG 30 (.bin .lss (.t 27) (.t 29))] none)
 (.cond (.t 30) .skip (.exit 0)))
 (.seq (.block 1 (.seq (.reg [zM 33 0,zM 34 3,zG 35 (.idx (.t 33) (.t 34)),zG 36 (.call 151 [(.t 35)]),zN 37 36,zM 38 37,zm 39 38 true 0,zm 40 38 true 3,zg 41 38 true (.idx (.t 39) (.t 40)),zg 42 38 true (.bin .neq (.t 41) (.c (.int .u8 45))),zA 43 38 42] none)
 (.cond (.t 43) (.seq (.reg [zG 2 (.mov (.c (.int .i64 15)))] none)
 .ret) .skip)))
 (.reg [zM 31 3,zG 32 (.bin .add (.t 31) (.c (.int .i64 1))),zM 3 32] none))))))
 (.seq (.reg [zG 2 (.mov (.c (.int .i64 0)))] none)
 .ret))))
theorem f102:aG Tryz.prog 102 44 CS [.tmp 2]:=⟨_,Tryz.func102,rfl,by kernel_rfl,rfl⟩
def CT:AC:=(.seq (.reg [zG 3 (.box (.t 0)),zG 4 (.box (.t 1)),zG 6 (.mov (.c (.bool false)))] none)
 (.seq (.seq (.reg [zF 7 0 3,zL 8 7,zG 9 (.call 152 [(.t 8)]),zG 10 (.bin .neq (.t 9) (.c (.int .i64 0))),zM 11 10,zf 12 11 false 1 3,zl 13 11 false 12,zg 14 11 false (.bin .lss (.t 13) (.c (.int .i64 0))),zO 15 11 14,zM 16 15,zf 17 16 false 1 3,zl 18 16 false 17,zg 19 16 false (.bin .gtr (.t 18) (.c (.int .i64 1152921504606846976))),zO 20 16 19,zM 21 20,zf 22 21 false 2 3,zw 23 21 false 5 22,zg 24 21 false (.call 108 [(.t 23)]),zn 25 21 false 24,zO 26 21 25,zM 27 26,zf 28 27 false 7 3,zl 29 27 false 28,zg 30 27 false (.len true (.t 29)),zf 31 27 false 2 3,zf 32 27 false 0 31,zl 33 27 false 32,zg 34 27 false (.bin .neq (.t 30) (.t 33)),zO 35 27 34,zM 36 35,zf 37 36 false 2 3,zf 38 36 false 3 37,zl 39 36 false 38,zn 40 36 false 39,zm 41 36 false 40,zf 42 41 true 7 3,zl 43 41 true 42,zg 44 41 true (.call 153 [(.t 43)]),zf 45 41 true 2 3,zf 46 41 true 1 45,zw 47 41 true 2 46,zg 48 41 true (.eqA true [.int,.int] (.t 44) (.t 47)),zg 49 36 false (.pick (.t 41) (.t 48) (.c (.bool false))),zO 50 36 49] (some [(22,26),(36,40),(37,40)]))
 (.cond (.t 50) (.seq (.reg [zG 6 (.mov (.c (.bool false)))] none)
 .ret) .skip))
 (.seq (.reg [zM 51 2,zM 52 51,zf 53 52 false 0 4,zl 54 52 false 53,zf 55 52 false 0 3,zl 56 52 false 55,zg 57 52 false (.call 53 [(.t 54),(.t 56)]),zO 58 52 57,zM 59 58,zf 60 59 false 0 4,zl 61 59 false 60,zf 62 59 false 0 3,zl 63 59 false 62,zg 64 59 false (.bin .eql (.t 61) (.t 63)),zm 65 59 false 64,zf 66 65 true 1 3,zl 67 65 true 66,zf 68 65 true 1 4,zl 69 65 true 68,zg 70 65 true (.bin .lss (.t 67) (.t 69)),zg 71 59 false (.pick (.t 65) (.t 70) (.c (.bool false))),zO 72 59 71,zM 6 72] none)
 .ret)))
theorem f103:aG Tryz.prog 103 73 CT [.tmp 6]:=⟨_,Tryz.func103,rfl,by kernel_rfl,rfl⟩
def CU:AC:=(.seq (.reg [zG 1 (.box (.t 0)),zG 2 (.mov (.c (.bool false)))] none)
 (.seq (.reg [zF 3 0 1,zL 4 3,zG 5 (.bin .geq (.t 4) (.c (.int .i64 0))),zM 6 5,zf 7 6 true 0 1,zl 8 6 true 7,zg 9 6 true (.bin .leq (.t 8) (.c (.int .i64 2560))),zA 10 6 9,zM 11 10,zf 12 11 true 1 1,zw 13 11 true 2 12,zg 14 11 true (.call 155 [(.t 13)]),zA 15 11 14,zM 16 15,zf 17 16 true 3 1,zl 18 16 true 17,zn 19 16 true 18,zm 20 16 true 19,zf 21 20 false 0 1,zl 22 20 false 21,zg 23 20 false (.bin .eql (.t 22) (.c (.int .i64 0))),zm 24 20 false 23,zf 25 24 true 1 1,zw 26 24 true 2 25,zg 27 24 true (.build [.int .i64 0,.int .i64 0] []),zg 28 24 true (.eqA false [.int,.int] (.t 26) (.t 27)),zg 29 20 false (.pick (.t 24) (.t 28) (.c (.bool false))),zg 30 16 true (.pick (.t 20) (.c (.bool true)) (.t 29)),zA 31 16 30,zM 2 31] none)
 .ret))
theorem f108:aG Tryz.prog 108 32 CU [.tmp 2]:=⟨_,Tryz.func108,rfl,by kernel_rfl,rfl⟩
def CV:AC:=(.seq (.reg [zG 1 (.box (.t 0)),zG 2 (.mov (.c (.str [])))] none)
 (.seq (.reg [zG 3 (.mov (.c (.int .i64 0)))] none)
 (.seq (.seq (.reg [zF 4 3 1,zL 5 4] none)
 (.cond (.t 5) (.reg [zM 6 3,zG 7 (.bin .add (.t 6) (.c (.int .i64 1))),zM 3 7] none) .skip))
 (.seq (.seq (.reg [zF 8 4 1,zL 9 8] none)
 (.cond (.t 9) (.reg [zM 10 3,zG 11 (.bin .add (.t 10) (.c (.int .i64 2))),zM 3 11] none) .skip))
 (.seq (.reg [zM 12 3,zG 13 (.call 87 [(.t 12),(.c (.int .i64 1))]),zF 14 0 1,zL 15 14,zG 16 (.call 87 [(.t 15),(.c (.int .i64 2))]),zG 17 (.bin .add (.t 13) (.t 16)),zF 18 1 1,zF 19 0 18,zL 20 19,zG 21 (.call 87 [(.t 20),(.c (.int .i64 4))]),zG 22 (.bin .add (.t 17) (.t 21)),zF 23 1 1,zF 24 1 23,zL 25 24,zG 26 (.call 87 [(.t 25),(.c (.int .i64 4))]),zG 27 (.bin .add (.t 22) (.t 26)),zM 2 27] (some [(1,3),(1,8),(3,8),(4,8),(1,13),(3,13),(4,13),(8,13),(9,13)]))
 .ret)))))
theorem f109:aG Tryz.prog 109 28 CV [.tmp 2]:=⟨_,Tryz.func109,rfl,by kernel_rfl,rfl⟩
def CW:AC:=(.seq (.reg [zG 1 (.box (.t 0)),zG 2 (.mov (.c (.str []))),zG 3 (.mov (.c (.int .i64 0)))] none)
 (.seq (.reg [zF 5 0 1,zL 6 5,zG 7 (.call 164 [(.t 6)]),zM 4 7] none)
 (.seq (.seq (.reg [zM 8 4,zG 9 (.bin .lss (.t 8) (.c (.int .i64 0))),zM 10 9,zw 11 10 false 4 1,zm 12 10 false 4,zg 13 10 false (.call 165 [(.t 11),(.t 12)]),zn 14 10 false 13,zO 15 10 14,zM 16 15,zf 17 16 false 3 1,zl 18 16 false 17,zg 19 16 false (.len false (.t 18)),zm 20 16 false 4,zg 21 16 false (.bin .neq (.t 19) (.t 20)),zO 22 16 21,zM 23 22,zf 24 23 false 0 1,zl 25 23 false 24,zg 26 23 false (.bin .eql (.t 25) (.c (.int .i64 1))),zm 27 23 false 26,zf 28 27 true 2 1,zl 29 27 true 28,zg 30 27 true (.bin .neq (.t 29) (.c (.str []))),zg 31 23 false (.pick (.t 27) (.t 30) (.c (.bool false))),zO 32 23 31] none)
 (.cond (.t 32) (.seq (.reg [zG 2 (.mov (.c (.str []))),zG 3 (.mov (.c (.int .i64 2)))] none)
 .ret) .skip))
 (.seq (.seq (.reg [zF 33 1 1,zL 34 33,zG 35 (.call 102 [(.t 34)]),zG 36 (.bin .neq (.t 35) (.c (.int .i64 0))),zM 37 36,zf 38 37 false 0 1,zl 39 37 false 38,zg 40 37 false (.bin .neq (.t 39) (.c (.int .i64 1))),zm 41 37 false 40,zf 42 41 true 2 1,zl 43 41 true 42,zg 44 41 true (.call 152 [(.t 43)]),zg 45 41 true (.bin .neq (.t 44) (.c (.int .i64 0))),zg 46 37 false (.pick (.t 41) (.t 45) (.c (.bool false))),zO 47 37 46] none)
 (.cond (.t 47) (.seq (.reg [zG 2 (.mov (.c (.str []))),zG 3 (.mov (.c (.int .i64 15)))] none)
 .ret) .skip))
 (.seq (.reg [zW 48 4 1,zG 49 (.call 167 [(.t 48)]),zG 50 (.call 166 [(.t 49)]),zM 2 50,zG 3 (.mov (.c (.int .i64 0)))] none)
 .ret)))))
theorem f116:aG Tryz.prog 116 51 CW [.tmp 2,.tmp 3]:=⟨_,Tryz.func116,rfl,by kernel_rfl,rfl⟩
def CX:AC:=(.seq (.reg [zG 2 (.mov (.c (.bool false)))] none)
 (.seq (.seq (.reg [zM 4 0,zG 5 (.len false (.t 4)),zG 6 (.mov (.c (.int .i64 0)))] none)
 (.block 0 (.loop (.seq (.reg [zG 7 (.bin .lss (.t 6) (.t 5))] none)
 (.seq (.cond (.t 7) .skip (.exit 0))
 (.seq (.block 1 (.seq (.reg [zM 8 6,zM 3 8] none)
 (.seq (.reg [zM 9 3,zG 10 (.bin .gtr (.t 9) (.c (.int .i64 0))),zM 11 10,zm 12 11 true 0,zm 13 11 true 3,zg 14 11 true (.bin .sub (.t 13) (.c (.int .i64 1))),zg 15 11 true (.iaddr 2 (.t 12) (.t 14)),zf 16 11 true 0 15,zl 17 11 true 16,zm 18 11 true 0,zm 19 11 true 3,zg 20 11 true (.iaddr 2 (.t 18) (.t 19)),zf 21 11 true 0 20,zl 22 11 true 21,zg 23 11 true (.bin .geq (.t 17) (.t 22)),zA 24 11 23] (some [(8,13)]))
 (.cond (.t 24) (.seq (.reg [zG 2 (.mov (.c (.bool false)))] none)
 .ret) .skip))))
 (.reg [zG 25 (.bin .add (.t 6) (.c (.int .i64 1))),zM 6 25] none)))))))
 (.seq (.reg [zG 2 (.mov (.c (.bool true)))] none)
 .ret)))
theorem f118:aG Tryz.prog 118 26 CX [.tmp 2]:=⟨_,Tryz.func118,rfl,by kernel_rfl,rfl⟩
def BE:AC:=(.seq (.reg [zG 1 (.box (.t 0)),zG 2 (.mov (.c (.bool false)))] none)
 (.seq (.seq (.reg [zF 5 3 1,zL 6 5,zG 7 (.len false (.t 6)),zG 8 (.mov (.c (.int .i64 0)))] none)
 (.block 0 (.loop (.seq (.reg [zG 9 (.bin .lss (.t 8) (.t 7))] none)
 (.seq (.cond (.t 9) .skip (.exit 0))
 (.seq (.block 1 (.seq (.reg [zG 10 (.iaddr 1 (.t 6) (.t 8)),zL 11 10,zM 4 11] none)
 (.seq (.reg [zM 12 4,zG 13 (.bin .lss (.t 12) (.c (.int .i64 0)))] none)
 (.cond (.t 13) (.seq (.reg [zG 2 (.mov (.c (.bool false)))] none)
 .ret) .skip))))
 (.reg [zG 14 (.bin .add (.t 8) (.c (.int .i64 1))),zM 8 14] none)))))))
 (.seq (.reg [zF 15 0 1,zL 16 15,zG 17 (.call 175 [(.t 16)]),zF 18 3 1,zL 19 18,zG 20 (.len false (.t 19)),zG 21 (.bin .geq (.t 17) (.t 20)),zM 22 21,zf 23 22 true 0 1,zl 24 22 true 23,zg 25 22 true (.bin .neq (.t 24) (.c (.int .i64 1))),zm 26 22 true 25,zf 27 26 false 2 1,zl 28 26 false 27,zg 29 26 false (.bin .eql (.t 28) (.c (.str []))),zg 30 22 true (.pick (.t 26) (.c (.bool true)) (.t 29)),zA 31 22 30,zM 2 31] (some [(1,4),(2,4)]))
 .ret)))
theorem f130:aG Tryz.prog 130 32 BE [.tmp 2]:=⟨_,Tryz.func130,rfl,by kernel_rfl,rfl⟩
def BF:AC:=(.seq (.reg [zG 2 (.box (.t 0)),zG 4 (.mov (.c (.str [])))] none)
 (.seq (.reg [zF 12 0 2,zL 13 12,zG 14 (.bin .sub (.t 13) (.c (.int .i64 1))),zF 15 0 2,zL 16 15,zG 17 (.slc true 0 (.c (.str [98,111,99,117,112,113])) (some (.t 14)) (some (.t 16)) none),zG 18 (.call 176 [(.t 17)]),zG 19 (.buildSl 3 [(.t 18)]),zM 5 19] none)
 (.seq (.seq (.reg [zM 20 1,zG 21 (.len false (.t 20)),zG 22 (.mov (.c (.int .i64 0)))] none)
 (.block 0 (.loop (.seq (.reg [zG 23 (.bin .lss (.t 22) (.t 21))] none)
 (.seq (.cond (.t 23) .skip (.exit 0))
 (.seq (.block 1 (.seq (.reg [zG 24 (.iaddr 1 (.t 20) (.t 22)),zL 25 24,zM 7 25] none)
 (.seq (.reg [zM 26 7,zG 27 (.bin .neq (.t 26) (.c (.str [])))] none)
 (.cond (.t 27) (.reg [zM 28 5,zM 29 7,zG 30 (.call 176 [(.t 29)]),zG 31 (.buildSl 3 [(.t 30)]),zG 32 (.app false 3 32 (.t 28) (.t 31)),zM 5 32] none) .skip))))
 (.reg [zG 33 (.bin .add (.t 22) (.c (.int .i64 1))),zM 22 33] none)))))))
 (.seq (.seq (.reg [zF 34 3 2,zL 35 34,zG 36 (.len false (.t 35)),zG 37 (.mov (.c (.int .i64 0)))] none)
 (.block 2 (.loop (.seq (.reg [zG 38 (.bin .lss (.t 37) (.t 36))] none)
 (.seq (.cond (.t 38) .skip (.exit 2))
 (.seq (.block 3 (.seq (.reg [zG 39 (.iaddr 1 (.t 35) (.t 37)),zL 40 39,zM 9 40] none)
 (.reg [zM 41 5,zF 42 0 2,zL 43 42,zM 44 9,zG 45 (.call 177 [(.t 43),(.t 44)]),zG 46 (.buildSl 3 [(.t 45)]),zG 47 (.app false 3 32 (.t 41) (.t 46)),zM 5 47] none)))
 (.reg [zG 48 (.bin .add (.t 37) (.c (.int .i64 1))),zM 37 48] none)))))))
 (.seq (.reg [zM 50 5,zG 51 (.call 178 [(.t 50)]),zM 49 51,zE 52 49 0,zE 53 49 1,zM 10 52,zM 11 53] none)
 (.seq (.reg [zM 54 10,zM 4 54] none)
 .ret))))))
theorem f131:aG Tryz.prog 131 55 BF [.tmp 4]:=⟨_,Tryz.func131,rfl,by kernel_rfl,rfl⟩
def BG:AC:=(.seq (.reg [zG 1 (.box (.t 0)),zG 2 (.mov (.c (.str []))),zG 3 (.mov (.c (.int .i64 0)))] none)
 (.seq (.seq (.reg [zW 6 4 1,zG 7 (.call 130 [(.t 6)]),zN 8 7,zM 9 8,zf 10 9 false 3 1,zl 11 9 false 10,zg 12 9 false (.len false (.t 11)),zf 13 9 false 0 1,zl 14 9 false 13,zg 15 9 false (.call 175 [(.t 14)]),zg 16 9 false (.bin .neq (.t 12) (.t 15)),zO 17 9 16] (some [(5,8),(5,9)]))
 (.cond (.t 17) (.seq (.reg [zG 2 (.mov (.c (.str []))),zG 3 (.mov (.c (.int .i64 2)))] none)
 .ret) .skip))
 (.seq (.seq (.reg [zF 18 1 1,zL 19 18,zG 20 (.call 50 [(.t 19)]),zM 4 20] none)
 (.seq (.reg [zM 21 4,zG 22 (.bin .neq (.t 21) (.c (.int .i64 0)))] none)
 (.cond (.t 22) (.seq (.reg [zM 23 4,zG 2 (.mov (.c (.str []))),zM 3 23] none)
 .ret) .skip)))
 (.seq (.seq (.reg [zF 24 0 1,zL 25 24,zG 26 (.bin .neq (.t 25) (.c (.int .i64 1)))] none)
 (.cond (.t 26) (.seq (.reg [zF 27 2 1,zL 28 27,zG 29 (.call 100 [(.t 28)]),zM 5 29] none)
 (.seq (.reg [zM 30 5,zG 31 (.bin .neq (.t 30) (.c (.int .i64 0)))] none)
 (.cond (.t 31) (.seq (.reg [zM 32 5,zG 2 (.mov (.c (.str []))),zM 3 32] none)
 .ret) .skip))) .skip))
 (.seq (.reg [zW 33 4 1,zF 34 1 1,zL 35 34,zF 36 2 1,zL 37 36,zG 38 (.buildSl 1 [(.t 35),(.t 37)]),zG 39 (.call 131 [(.t 33),(.t 38)]),zM 2 39,zG 3 (.mov (.c (.int .i64 0)))] none)
 .ret)))))
theorem f138:aG Tryz.prog 138 40 BG [.tmp 2,.tmp 3]:=⟨_,Tryz.func138,rfl,by kernel_rfl,rfl⟩
def CY:AC:=(.seq (.reg [zM 10 1,zG 11 (.bin .add (.t 10) (.c (.int .i64 1))),zM 8 11] none)
 (.block 0 (.loop (.seq (.seq (.reg [zM 12 8,zM 13 2,zG 14 (.bin .lss (.t 12) (.t 13))] none)
 (.cond (.t 14) .skip (.exit 0)))
 (.seq (.block 1 (.seq (.reg [zM 17 8,zM 9 17] none)
 (.block 2 (.loop (.seq (.seq (.reg [zM 18 9,zM 19 1,zG 20 (.bin .gtr (.t 18) (.t 19)),zM 21 20,zm 22 21 true 3,zm 23 21 true 0,zm 24 21 true 9,zg 25 21 true (.iaddr 2 (.t 23) (.t 24)),zw 26 21 true 2 25,zm 27 21 true 0,zm 28 21 true 9,zg 29 21 true (.bin .sub (.t 28) (.c (.int .i64 1))),zg 30 21 true (.iaddr 2 (.t 27) (.t 29)),zw 31 21 true 2 30,zg 32 21 true (.callv (.t 22) [(.t 26),(.t 31)]),zg 33 21 true (.bin .lss (.t 32) (.c (.int .i64 0))),zA 34 21 33] (some [(8,13)]))
 (.cond (.t 34) .skip (.exit 2)))
 (.seq (.block 3 (.reg [zM 37 0,zM 38 9,zM 39 0,zM 40 9,zG 41 (.bin .sub (.t 40) (.c (.int .i64 1))),zM 42 0,zM 43 9,zG 44 (.bin .sub (.t 43) (.c (.int .i64 1))),zG 45 (.iaddr 2 (.t 42) (.t 44)),zW 46 2 45,zM 47 0,zM 48 9,zG 49 (.iaddr 2 (.t 47) (.t 48)),zW 50 2 49,zG 51 (.iaddr 2 (.t 37) (.t 38)),zH (.store 2 (.t 51) (.t 46)),zG 52 (.iaddr 2 (.t 39) (.t 41)),zH (.store 2 (.t 52) (.t 50))] (some [(9,13)])))
 (.reg [zM 35 9,zG 36 (.bin .sub (.t 35) (.c (.int .i64 1))),zM 9 36] none)))))))
 (.reg [zM 15 8,zG 16 (.bin .add (.t 15) (.c (.int .i64 1))),zM 8 16] none))))))
theorem f139:aG Tryz.prog 139 53 CY []:=⟨_,Tryz.func139,rfl,by kernel_rfl,rfl⟩
def CZ:AC:=(.seq (.reg [zM 13 1,zM 8 13] none)
 (.seq (.reg [zG 9 (.mov (.c (.int .i64 0)))] none)
 (.seq (.reg [zM 14 2,zM 15 1,zG 16 (.bin .sub (.t 14) (.t 15)),zM 10 16] none)
 (.seq (.seq (.reg [zM 17 10,zG 18 (.bin .sub (.t 17) (.c (.int .i64 1))),zG 19 (.bin .quo (.t 18) (.c (.int .i64 2))),zM 11 19] none)
 (.block 0 (.loop (.seq (.seq (.reg [zM 20 11,zG 21 (.bin .geq (.t 20) (.c (.int .i64 0)))] none)
 (.cond (.t 21) .skip (.exit 0)))
 (.seq (.block 1 (.reg [zM 24 0,zM 25 11,zM 26 10,zM 27 8,zM 28 3,zG 29 (.call 189 [(.t 24),(.t 25),(.t 26),(.t 27),(.t 28)])] none))
 (.reg [zM 22 11,zG 23 (.bin .sub (.t 22) (.c (.int .i64 1))),zM 11 23] none))))))
 (.seq (.reg [zM 30 10,zG 31 (.bin .sub (.t 30) (.c (.int .i64 1))),zM 12 31] none)
 (.block 2 (.loop (.seq (.seq (.reg [zM 32 12,zG 33 (.bin .geq (.t 32) (.c (.int .i64 0)))] none)
 (.cond (.t 33) .skip (.exit 2)))
 (.seq (.block 3 (.seq (.reg [zM 36 0,zM 37 8,zM 38 0,zM 39 8,zM 40 12,zG 41 (.bin .add (.t 39) (.t 40)),zM 42 0,zM 43 8,zM 44 12,zG 45 (.bin .add (.t 43) (.t 44)),zG 46 (.iaddr 2 (.t 42) (.t 45)),zW 47 2 46,zM 48 0,zM 49 8,zG 50 (.iaddr 2 (.t 48) (.t 49)),zW 51 2 50,zG 52 (.iaddr 2 (.t 36) (.t 37)),zH (.store 2 (.t 52) (.t 47)),zG 53 (.iaddr 2 (.t 38) (.t 41)),zH (.store 2 (.t 53) (.t 51))] (some [(11,15)]))
 (.reg [zM 54 0,zM 55 9,zM 56 12,zM 57 8,zM 58 3,zG 59 (.call 189 [(.t 54),(.t 55),(.t 56),(.t 57),(.t 58)])] none)))
 (.reg [zM 34 12,zG 35 (.bin .sub (.t 34) (.c (.int .i64 1))),zM 12 35] none))))))))))
theorem f140:aG Tryz.prog 140 60 CZ []:=⟨_,Tryz.func140,rfl,by kernel_rfl,rfl⟩
def C4:AC:=(.seq (.reg [zM 13 2,zM 14 1,zG 15 (.bin .sub (.t 13) (.t 14)),zM 8 15] none)
 (.seq (.reg [zM 16 8,zG 17 (.bin .geq (.t 16) (.c (.int .i64 8)))] none)
 (.cond (.t 17) (.seq (.reg [zM 18 8,zG 19 (.conv (.toInt .u64) (.t 18)),zG 9 (.alloc [.int .u64 0]),zH (.store 1 (.t 9) (.t 19))] none)
 (.seq (.reg [zM 20 8,zG 21 (.call 190 [(.t 20)]),zM 10 21] none)
 (.seq (.reg [zM 22 1,zM 23 8,zG 24 (.bin .quo (.t 23) (.c (.int .i64 4))),zG 25 (.bin .mul (.t 24) (.c (.int .i64 2))),zG 26 (.bin .add (.t 22) (.t 25)),zG 27 (.bin .sub (.t 26) (.c (.int .i64 1))),zM 11 27] none)
 (.block 0 (.loop (.seq (.seq (.reg [zM 28 11,zM 29 1,zM 30 8,zG 31 (.bin .quo (.t 30) (.c (.int .i64 4))),zG 32 (.bin .mul (.t 31) (.c (.int .i64 2))),zG 33 (.bin .add (.t 29) (.t 32)),zG 34 (.bin .add (.t 33) (.c (.int .i64 1))),zG 35 (.bin .leq (.t 28) (.t 34))] none)
 (.cond (.t 35) .skip (.exit 0)))
 (.seq (.block 1 (.seq (.reg [zG 38 (.call 191 [(.t 9)]),zM 39 10,zG 40 (.bin .sub (.t 39) (.c (.int .u64 1))),zG 41 (.bin .and (.t 38) (.t 40)),zG 42 (.conv (.toInt .i64) (.t 41)),zM 12 42] none)
 (.seq (.seq (.reg [zM 43 12,zM 44 8,zG 45 (.bin .geq (.t 43) (.t 44))] none)
 (.cond (.t 45) (.reg [zM 46 12,zM 47 8,zG 48 (.bin .sub (.t 46) (.t 47)),zM 12 48] none) .skip))
 (.reg [zM 49 0,zM 50 11,zM 51 0,zM 52 1,zM 53 12,zG 54 (.bin .add (.t 52) (.t 53)),zM 55 0,zM 56 1,zM 57 12,zG 58 (.bin .add (.t 56) (.t 57)),zG 59 (.iaddr 2 (.t 55) (.t 58)),zW 60 2 59,zM 61 0,zM 62 11,zG 63 (.iaddr 2 (.t 61) (.t 62)),zW 64 2 63,zG 65 (.iaddr 2 (.t 49) (.t 50)),zH (.store 2 (.t 65) (.t 60)),zG 66 (.iaddr 2 (.t 51) (.t 54)),zH (.store 2 (.t 66) (.t 64))] (some [(11,15)])))))
 (.reg [zM 36 11,zG 37 (.bin .add (.t 36) (.c (.int .i64 1))),zM 11 37] none)))))))) .skip)))
theorem f141:aG Tryz.prog 141 67 C4 []:=⟨_,Tryz.func141,rfl,by kernel_rfl,rfl⟩
def C5:AC:=(.seq (.reg [zG 8 (.mov (.c (.int .i64 0))),zG 9 (.mov (.c (.int .i64 0)))] none)
 (.seq (.reg [zM 15 2,zM 16 1,zG 17 (.bin .sub (.t 15) (.t 16)),zM 10 17] none)
 (.seq (.reg [zG 11 (.alloc [.int .i64 0])] none)
 (.seq (.reg [zM 18 1,zM 19 10,zG 20 (.bin .quo (.t 19) (.c (.int .i64 4))),zG 21 (.bin .mul (.t 20) (.c (.int .i64 1))),zG 22 (.bin .add (.t 18) (.t 21)),zM 12 22] none)
 (.seq (.reg [zM 23 1,zM 24 10,zG 25 (.bin .quo (.t 24) (.c (.int .i64 4))),zG 26 (.bin .mul (.t 25) (.c (.int .i64 2))),zG 27 (.bin .add (.t 23) (.t 26)),zM 13 27] none)
 (.seq (.reg [zM 28 1,zM 29 10,zG 30 (.bin .quo (.t 29) (.c (.int .i64 4))),zG 31 (.bin .mul (.t 30) (.c (.int .i64 3))),zG 32 (.bin .add (.t 28) (.t 31)),zM 14 32] none)
 (.seq (.seq (.reg [zM 33 10,zG 34 (.bin .geq (.t 33) (.c (.int .i64 8)))] none)
 (.cond (.t 34) (.seq (.seq (.reg [zM 35 10,zG 36 (.bin .geq (.t 35) (.c (.int .i64 50)))] none)
 (.cond (.t 36) (.seq (.reg [zM 37 0,zM 38 12,zM 39 3,zG 40 (.call 192 [(.t 37),(.t 38),(.t 11),(.t 39)]),zM 12 40] none)
 (.seq (.reg [zM 41 0,zM 42 13,zM 43 3,zG 44 (.call 192 [(.t 41),(.t 42),(.t 11),(.t 43)]),zM 13 44] none)
 (.reg [zM 45 0,zM 46 14,zM 47 3,zG 48 (.call 192 [(.t 45),(.t 46),(.t 11),(.t 47)]),zM 14 48] none))) .skip))
 (.reg [zM 49 0,zM 50 12,zM 51 13,zM 52 14,zM 53 3,zG 54 (.call 193 [(.t 49),(.t 50),(.t 51),(.t 52),(.t 11),(.t 53)]),zM 13 54] none)) .skip))
 (.seq (.reg [zL 55 11] none)
 (.block 0 (.seq (.reg [zG 58 (.bin .eql (.t 55) (.c (.int .i64 0))),zM 57 58] none)
 (.cond (.t 57) (.seq (.reg [zM 59 13,zM 8 59,zG 9 (.mov (.c (.int .i64 1)))] none)
 .ret) (.seq (.reg [zG 61 (.bin .eql (.t 55) (.c (.int .i64 12))),zM 60 61] none)
 (.cond (.t 60) (.seq (.reg [zM 62 13,zM 8 62,zG 9 (.mov (.c (.int .i64 2)))] none)
 .ret) (.seq (.reg [zM 56 13,zM 8 56,zG 9 (.mov (.c (.int .i64 0)))] none)
 .ret))))))))))))))
theorem f142:aG Tryz.prog 142 63 C5 [.tmp 8,.tmp 9]:=⟨_,Tryz.func142,rfl,by kernel_rfl,rfl⟩
def C6:AC:=(.seq (.reg [zM 10 1,zM 8 10] none)
 (.seq (.reg [zM 11 2,zG 12 (.bin .sub (.t 11) (.c (.int .i64 1))),zM 9 12] none)
 (.block 0 (.loop (.seq (.seq (.reg [zM 13 8,zM 14 9,zG 15 (.bin .lss (.t 13) (.t 14))] none)
 (.cond (.t 15) .skip (.exit 0)))
 (.block 1 (.seq (.reg [zM 16 0,zM 17 8,zM 18 0,zM 19 9,zM 20 0,zM 21 9,zG 22 (.iaddr 2 (.t 20) (.t 21)),zW 23 2 22,zM 24 0,zM 25 8,zG 26 (.iaddr 2 (.t 24) (.t 25)),zW 27 2 26,zG 28 (.iaddr 2 (.t 16) (.t 17)),zH (.store 2 (.t 28) (.t 23)),zG 29 (.iaddr 2 (.t 18) (.t 19)),zH (.store 2 (.t 29) (.t 27))] (some [(7,11)]))
 (.seq (.reg [zM 30 8,zG 31 (.bin .add (.t 30) (.c (.int .i64 1))),zM 8 31] none)
 (.reg [zM 32 9,zG 33 (.bin .sub (.t 32) (.c (.int .i64 1))),zM 9 33] none)))))))))
theorem f143:aG Tryz.prog 143 34 C6 []:=⟨_,Tryz.func143,rfl,by kernel_rfl,rfl⟩
def C7:AC:=(.seq (.reg [zG 8 (.mov (.c (.bool false)))] none)
 (.seq (.reg [zM 13 1,zG 14 (.bin .add (.t 13) (.c (.int .i64 1))),zM 9 14] none)
 (.seq (.seq (.reg [zG 10 (.mov (.c (.int .i64 0)))] none)
 (.block 0 (.loop (.seq (.seq (.reg [zM 15 10,zG 16 (.bin .lss (.t 15) (.c (.int .i64 5)))] none)
 (.cond (.t 16) .skip (.exit 0)))
 (.seq (.block 1 (.seq (.block 2 (.loop (.seq (.seq (.reg [zM 19 9,zM 20 2,zG 21 (.bin .lss (.t 19) (.t 20)),zM 22 21,zm 23 22 true 3,zm 24 22 true 0,zm 25 22 true 9,zg 26 22 true (.iaddr 2 (.t 24) (.t 25)),zw 27 22 true 2 26,zm 28 22 true 0,zm 29 22 true 9,zg 30 22 true (.bin .sub (.t 29) (.c (.int .i64 1))),zg 31 22 true (.iaddr 2 (.t 28) (.t 30)),zw 32 22 true 2 31,zg 33 22 true (.callv (.t 23) [(.t 27),(.t 32)]),zg 34 22 true (.bin .lss (.t 33) (.c (.int .i64 0))),zn 35 22 true 34,zA 36 22 35] (some [(8,13)]))
 (.cond (.t 36) .skip (.exit 2)))
 (.block 3 (.reg [zM 37 9,zG 38 (.bin .add (.t 37) (.c (.int .i64 1))),zM 9 38] none)))))
 (.seq (.seq (.reg [zM 39 9,zM 40 2,zG 41 (.bin .eql (.t 39) (.t 40))] none)
 (.cond (.t 41) (.seq (.reg [zG 8 (.mov (.c (.bool true)))] none)
 .ret) .skip))
 (.seq (.seq (.reg [zM 42 2,zM 43 1,zG 44 (.bin .sub (.t 42) (.t 43)),zG 45 (.bin .lss (.t 44) (.c (.int .i64 50)))] none)
 (.cond (.t 45) (.seq (.reg [zG 8 (.mov (.c (.bool false)))] none)
 .ret) .skip))
 (.seq (.reg [zM 46 0,zM 47 9,zM 48 0,zM 49 9,zG 50 (.bin .sub (.t 49) (.c (.int .i64 1))),zM 51 0,zM 52 9,zG 53 (.bin .sub (.t 52) (.c (.int .i64 1))),zG 54 (.iaddr 2 (.t 51) (.t 53)),zW 55 2 54,zM 56 0,zM 57 9,zG 58 (.iaddr 2 (.t 56) (.t 57)),zW 59 2 58,zG 60 (.iaddr 2 (.t 46) (.t 47)),zH (.store 2 (.t 60) (.t 55)),zG 61 (.iaddr 2 (.t 48) (.t 50)),zH (.store 2 (.t 61) (.t 59))] (some [(9,13)]))
 (.seq (.seq (.reg [zM 62 9,zM 63 1,zG 64 (.bin .sub (.t 62) (.t 63)),zG 65 (.bin .geq (.t 64) (.c (.int .i64 2)))] none)
 (.cond (.t 65) (.seq (.reg [zM 66 9,zG 67 (.bin .sub (.t 66) (.c (.int .i64 1))),zM 11 67] none)
 (.block 4 (.loop (.seq (.seq (.reg [zM 68 11,zG 69 (.bin .geq (.t 68) (.c (.int .i64 1)))] none)
 (.cond (.t 69) .skip (.exit 4)))
 (.seq (.block 5 (.seq (.seq (.reg [zM 72 3,zM 73 0,zM 74 11,zG 75 (.iaddr 2 (.t 73) (.t 74)),zW 76 2 75,zM 77 0,zM 78 11,zG 79 (.bin .sub (.t 78) (.c (.int .i64 1))),zG 80 (.iaddr 2 (.t 77) (.t 79)),zW 81 2 80,zG 82 (.callv (.t 72) [(.t 76),(.t 81)]),zG 83 (.bin .lss (.t 82) (.c (.int .i64 0))),zN 84 83] (some [(4,9)]))
 (.cond (.t 84) (.exit 4) .skip))
 (.reg [zM 85 0,zM 86 11,zM 87 0,zM 88 11,zG 89 (.bin .sub (.t 88) (.c (.int .i64 1))),zM 90 0,zM 91 11,zG 92 (.bin .sub (.t 91) (.c (.int .i64 1))),zG 93 (.iaddr 2 (.t 90) (.t 92)),zW 94 2 93,zM 95 0,zM 96 11,zG 97 (.iaddr 2 (.t 95) (.t 96)),zW 98 2 97,zG 99 (.iaddr 2 (.t 85) (.t 86)),zH (.store 2 (.t 99) (.t 94)),zG 100 (.iaddr 2 (.t 87) (.t 89)),zH (.store 2 (.t 100) (.t 98))] (some [(9,13)]))))
 (.reg [zM 70 11,zG 71 (.bin .sub (.t 70) (.c (.int .i64 1))),zM 11 71] none)))))) .skip))
 (.seq (.reg [zM 101 2,zM 102 9,zG 103 (.bin .sub (.t 101) (.t 102)),zG 104 (.bin .geq (.t 103) (.c (.int .i64 2)))] none)
 (.cond (.t 104) (.seq (.reg [zM 105 9,zG 106 (.bin .add (.t 105) (.c (.int .i64 1))),zM 12 106] none)
 (.block 6 (.loop (.seq (.seq (.reg [zM 107 12,zM 108 2,zG 109 (.bin .lss (.t 107) (.t 108))] none)
 (.cond (.t 109) .skip (.exit 6)))
 (.seq (.block 7 (.seq (.seq (.reg [zM 112 3,zM 113 0,zM 114 12,zG 115 (.iaddr 2 (.t 113) (.t 114)),zW 116 2 115,zM 117 0,zM 118 12,zG 119 (.bin .sub (.t 118) (.c (.int .i64 1))),zG 120 (.iaddr 2 (.t 117) (.t 119)),zW 121 2 120,zG 122 (.callv (.t 112) [(.t 116),(.t 121)]),zG 123 (.bin .lss (.t 122) (.c (.int .i64 0))),zN 124 123] (some [(4,9)]))
 (.cond (.t 124) (.exit 6) .skip))
 (.reg [zM 125 0,zM 126 12,zM 127 0,zM 128 12,zG 129 (.bin .sub (.t 128) (.c (.int .i64 1))),zM 130 0,zM 131 12,zG 132 (.bin .sub (.t 131) (.c (.int .i64 1))),zG 133 (.iaddr 2 (.t 130) (.t 132)),zW 134 2 133,zM 135 0,zM 136 12,zG 137 (.iaddr 2 (.t 135) (.t 136)),zW 138 2 137,zG 139 (.iaddr 2 (.t 125) (.t 126)),zH (.store 2 (.t 139) (.t 134)),zG 140 (.iaddr 2 (.t 127) (.t 129)),zH (.store 2 (.t 140) (.t 138))] (some [(9,13)]))))
 (.reg [zM 110 12,zG 111 (.bin .add (.t 110) (.c (.int .i64 1))),zM 12 111] none)))))) .skip))))))))
 (.reg [zM 17 10,zG 18 (.bin .add (.t 17) (.c (.int .i64 1))),zM 10 18] none))))))
 (.seq (.reg [zG 8 (.mov (.c (.bool false)))] none)
 .ret))))
theorem f144:aG Tryz.prog 144 141 C7 [.tmp 8]:=⟨_,Tryz.func144,rfl,by kernel_rfl,rfl⟩
def C8:AC:=(.seq (.reg [zG 10 (.mov (.c (.int .i64 0)))] none)
 (.seq (.reg [zM 13 0,zM 14 1,zM 15 0,zM 16 3,zM 17 0,zM 18 3,zG 19 (.iaddr 2 (.t 17) (.t 18)),zW 20 2 19,zM 21 0,zM 22 1,zG 23 (.iaddr 2 (.t 21) (.t 22)),zW 24 2 23,zG 25 (.iaddr 2 (.t 13) (.t 14)),zH (.store 2 (.t 25) (.t 20)),zG 26 (.iaddr 2 (.t 15) (.t 16)),zH (.store 2 (.t 26) (.t 24))] (some [(7,11)]))
 (.seq (.reg [zM 27 1,zG 28 (.bin .add (.t 27) (.c (.int .i64 1))),zM 29 2,zG 30 (.bin .sub (.t 29) (.c (.int .i64 1))),zM 11 28,zM 12 30] none)
 (.seq (.block 0 (.loop (.block 1 (.seq (.block 2 (.loop (.seq (.seq (.reg [zM 31 11,zM 32 12,zG 33 (.bin .leq (.t 31) (.t 32)),zM 34 33,zm 35 34 true 4,zm 36 34 true 0,zm 37 34 true 1,zg 38 34 true (.iaddr 2 (.t 36) (.t 37)),zw 39 34 true 2 38,zm 40 34 true 0,zm 41 34 true 11,zg 42 34 true (.iaddr 2 (.t 40) (.t 41)),zw 43 34 true 2 42,zg 44 34 true (.callv (.t 35) [(.t 39),(.t 43)]),zg 45 34 true (.bin .lss (.t 44) (.c (.int .i64 0))),zn 46 34 true 45,zA 47 34 46] (some [(8,12)]))
 (.cond (.t 47) .skip (.exit 2)))
 (.block 3 (.reg [zM 48 11,zG 49 (.bin .add (.t 48) (.c (.int .i64 1))),zM 11 49] none)))))
 (.seq (.block 4 (.loop (.seq (.seq (.reg [zM 50 11,zM 51 12,zG 52 (.bin .leq (.t 50) (.t 51)),zM 53 52,zm 54 53 true 4,zm 55 53 true 0,zm 56 53 true 1,zg 57 53 true (.iaddr 2 (.t 55) (.t 56)),zw 58 53 true 2 57,zm 59 53 true 0,zm 60 53 true 12,zg 61 53 true (.iaddr 2 (.t 59) (.t 60)),zw 62 53 true 2 61,zg 63 53 true (.callv (.t 54) [(.t 58),(.t 62)]),zg 64 53 true (.bin .lss (.t 63) (.c (.int .i64 0))),zA 65 53 64] (some [(8,12)]))
 (.cond (.t 65) .skip (.exit 4)))
 (.block 5 (.reg [zM 66 12,zG 67 (.bin .sub (.t 66) (.c (.int .i64 1))),zM 12 67] none)))))
 (.seq (.seq (.reg [zM 68 11,zM 69 12,zG 70 (.bin .gtr (.t 68) (.t 69))] none)
 (.cond (.t 70) (.exit 0) .skip))
 (.seq (.reg [zM 71 0,zM 72 11,zM 73 0,zM 74 12,zM 75 0,zM 76 12,zG 77 (.iaddr 2 (.t 75) (.t 76)),zW 78 2 77,zM 79 0,zM 80 11,zG 81 (.iaddr 2 (.t 79) (.t 80)),zW 82 2 81,zG 83 (.iaddr 2 (.t 71) (.t 72)),zH (.store 2 (.t 83) (.t 78)),zG 84 (.iaddr 2 (.t 73) (.t 74)),zH (.store 2 (.t 84) (.t 82))] (some [(7,11)]))
 (.seq (.reg [zM 85 11,zG 86 (.bin .add (.t 85) (.c (.int .i64 1))),zM 11 86] none)
 (.reg [zM 87 12,zG 88 (.bin .sub (.t 87) (.c (.int .i64 1))),zM 12 88] none)))))))))
 (.seq (.reg [zM 89 11,zM 10 89] none)
 .ret)))))
theorem f145:aG Tryz.prog 145 90 C8 [.tmp 10]:=⟨_,Tryz.func145,rfl,by kernel_rfl,rfl⟩
def Da:AC:=(.seq (.reg [zG 10 (.mov (.c (.int .i64 0))),zG 11 (.mov (.c (.bool false)))] none)
 (.seq (.reg [zM 14 0,zM 15 1,zM 16 0,zM 17 3,zM 18 0,zM 19 3,zG 20 (.iaddr 2 (.t 18) (.t 19)),zW 21 2 20,zM 22 0,zM 23 1,zG 24 (.iaddr 2 (.t 22) (.t 23)),zW 25 2 24,zG 26 (.iaddr 2 (.t 14) (.t 15)),zH (.store 2 (.t 26) (.t 21)),zG 27 (.iaddr 2 (.t 16) (.t 17)),zH (.store 2 (.t 27) (.t 25))] (some [(7,11)]))
 (.seq (.reg [zM 28 1,zG 29 (.bin .add (.t 28) (.c (.int .i64 1))),zM 30 2,zG 31 (.bin .sub (.t 30) (.c (.int .i64 1))),zM 12 29,zM 13 31] none)
 (.seq (.block 0 (.loop (.seq (.seq (.reg [zM 32 12,zM 33 13,zG 34 (.bin .leq (.t 32) (.t 33)),zM 35 34,zm 36 35 true 4,zm 37 35 true 0,zm 38 35 true 12,zg 39 35 true (.iaddr 2 (.t 37) (.t 38)),zw 40 35 true 2 39,zm 41 35 true 0,zm 42 35 true 1,zg 43 35 true (.iaddr 2 (.t 41) (.t 42)),zw 44 35 true 2 43,zg 45 35 true (.callv (.t 36) [(.t 40),(.t 44)]),zg 46 35 true (.bin .lss (.t 45) (.c (.int .i64 0))),zA 47 35 46] (some [(8,12)]))
 (.cond (.t 47) .skip (.exit 0)))
 (.block 1 (.reg [zM 48 12,zG 49 (.bin .add (.t 48) (.c (.int .i64 1))),zM 12 49] none)))))
 (.seq (.block 2 (.loop (.seq (.seq (.reg [zM 50 12,zM 51 13,zG 52 (.bin .leq (.t 50) (.t 51)),zM 53 52,zm 54 53 true 4,zm 55 53 true 0,zm 56 53 true 13,zg 57 53 true (.iaddr 2 (.t 55) (.t 56)),zw 58 53 true 2 57,zm 59 53 true 0,zm 60 53 true 1,zg 61 53 true (.iaddr 2 (.t 59) (.t 60)),zw 62 53 true 2 61,zg 63 53 true (.callv (.t 54) [(.t 58),(.t 62)]),zg 64 53 true (.bin .lss (.t 63) (.c (.int .i64 0))),zn 65 53 true 64,zA 66 53 65] (some [(8,12)]))
 (.cond (.t 66) .skip (.exit 2)))
 (.block 3 (.reg [zM 67 13,zG 68 (.bin .sub (.t 67) (.c (.int .i64 1))),zM 13 68] none)))))
 (.seq (.seq (.reg [zM 69 12,zM 70 13,zG 71 (.bin .gtr (.t 69) (.t 70))] none)
 (.cond (.t 71) (.seq (.reg [zM 72 0,zM 73 13,zM 74 0,zM 75 1,zM 76 0,zM 77 1,zG 78 (.iaddr 2 (.t 76) (.t 77)),zW 79 2 78,zM 80 0,zM 81 13,zG 82 (.iaddr 2 (.t 80) (.t 81)),zW 83 2 82,zG 84 (.iaddr 2 (.t 72) (.t 73)),zH (.store 2 (.t 84) (.t 79)),zG 85 (.iaddr 2 (.t 74) (.t 75)),zH (.store 2 (.t 85) (.t 83))] (some [(7,11)]))
 (.seq (.reg [zM 86 13,zM 10 86,zG 11 (.mov (.c (.bool true)))] none)
 .ret)) .skip))
 (.seq (.reg [zM 87 0,zM 88 12,zM 89 0,zM 90 13,zM 91 0,zM 92 13,zG 93 (.iaddr 2 (.t 91) (.t 92)),zW 94 2 93,zM 95 0,zM 96 12,zG 97 (.iaddr 2 (.t 95) (.t 96)),zW 98 2 97,zG 99 (.iaddr 2 (.t 87) (.t 88)),zH (.store 2 (.t 99) (.t 94)),zG 100 (.iaddr 2 (.t 89) (.t 90)),zH (.store 2 (.t 100) (.t 98))] (some [(7,11)]))
 (.seq (.reg [zM 101 12,zG 102 (.bin .add (.t 101) (.c (.int .i64 1))),zM 12 102] none)
 (.seq (.reg [zM 103 13,zG 104 (.bin .sub (.t 103) (.c (.int .i64 1))),zM 13 104] none)
 (.seq (.block 4 (.loop (.block 5 (.seq (.block 6 (.loop (.seq (.seq (.reg [zM 105 12,zM 106 13,zG 107 (.bin .leq (.t 105) (.t 106)),zM 108 107,zm 109 108 true 4,zm 110 108 true 0,zm 111 108 true 12,zg 112 108 true (.iaddr 2 (.t 110) (.t 111)),zw 113 108 true 2 112,zm 114 108 true 0,zm 115 108 true 1,zg 116 108 true (.iaddr 2 (.t 114) (.t 115)),zw 117 108 true 2 116,zg 118 108 true (.callv (.t 109) [(.t 113),(.t 117)]),zg 119 108 true (.bin .lss (.t 118) (.c (.int .i64 0))),zA 120 108 119] (some [(8,12)]))
 (.cond (.t 120) .skip (.exit 6)))
 (.block 7 (.reg [zM 121 12,zG 122 (.bin .add (.t 121) (.c (.int .i64 1))),zM 12 122] none)))))
 (.seq (.block 8 (.loop (.seq (.seq (.reg [zM 123 12,zM 124 13,zG 125 (.bin .leq (.t 123) (.t 124)),zM 126 125,zm 127 126 true 4,zm 128 126 true 0,zm 129 126 true 13,zg 130 126 true (.iaddr 2 (.t 128) (.t 129)),zw 131 126 true 2 130,zm 132 126 true 0,zm 133 126 true 1,zg 134 126 true (.iaddr 2 (.t 132) (.t 133)),zw 135 126 true 2 134,zg 136 126 true (.callv (.t 127) [(.t 131),(.t 135)]),zg 137 126 true (.bin .lss (.t 136) (.c (.int .i64 0))),zn 138 126 true 137,zA 139 126 138] (some [(8,12)]))
 (.cond (.t 139) .skip (.exit 8)))
 (.block 9 (.reg [zM 140 13,zG 141 (.bin .sub (.t 140) (.c (.int .i64 1))),zM 13 141] none)))))
 (.seq (.seq (.reg [zM 142 12,zM 143 13,zG 144 (.bin .gtr (.t 142) (.t 143))] none)
 (.cond (.t 144) (.exit 4) .skip))
 (.seq (.reg [zM 145 0,zM 146 12,zM 147 0,zM 148 13,zM 149 0,zM 150 13,zG 151 (.iaddr 2 (.t 149) (.t 150)),zW 152 2 151,zM 153 0,zM 154 12,zG 155 (.iaddr 2 (.t 153) (.t 154)),zW 156 2 155,zG 157 (.iaddr 2 (.t 145) (.t 146)),zH (.store 2 (.t 157) (.t 152)),zG 158 (.iaddr 2 (.t 147) (.t 148)),zH (.store 2 (.t 158) (.t 156))] (some [(7,11)]))
 (.seq (.reg [zM 159 12,zG 160 (.bin .add (.t 159) (.c (.int .i64 1))),zM 12 160] none)
 (.reg [zM 161 13,zG 162 (.bin .sub (.t 161) (.c (.int .i64 1))),zM 13 162] none)))))))))
 (.seq (.reg [zM 163 0,zM 164 13,zM 165 0,zM 166 1,zM 167 0,zM 168 1,zG 169 (.iaddr 2 (.t 167) (.t 168)),zW 170 2 169,zM 171 0,zM 172 13,zG 173 (.iaddr 2 (.t 171) (.t 172)),zW 174 2 173,zG 175 (.iaddr 2 (.t 163) (.t 164)),zH (.store 2 (.t 175) (.t 170)),zG 176 (.iaddr 2 (.t 165) (.t 166)),zH (.store 2 (.t 176) (.t 174))] (some [(7,11)]))
 (.seq (.reg [zM 177 13,zM 10 177,zG 11 (.mov (.c (.bool false)))] none)
 .ret))))))))))))
theorem f146:aG Tryz.prog 146 178 Da [.tmp 10,.tmp 11]:=⟨_,Tryz.func146,rfl,by kernel_rfl,rfl⟩
def Db:AC:=(.seq (.reg [zG 2 (.mov (.c (.int .i64 0)))] none)
 (.seq (.seq (.reg [zM 3 0,zG 4 (.bin .geq (.t 3) (.c (.int .u32 65536)))] none)
 (.cond (.t 4) (.seq (.reg [zM 5 0,zG 6 (.bin .shr (.t 5) (.c (.int .u64 16))),zM 0 6] none)
 (.reg [zG 2 (.mov (.c (.int .i64 16)))] none)) .skip))
 (.seq (.seq (.reg [zM 7 0,zG 8 (.bin .geq (.t 7) (.c (.int .u32 256)))] none)
 (.cond (.t 8) (.seq (.reg [zM 9 0,zG 10 (.bin .shr (.t 9) (.c (.int .u64 8))),zM 0 10] none)
 (.reg [zM 11 2,zG 12 (.bin .add (.t 11) (.c (.int .i64 8))),zM 2 12] none)) .skip))
 (.seq (.reg [zM 13 2,zM 14 0,zG 15 (.conv (.toInt .u8) (.t 14)),zG 16 (.idx (.c (.str [0,1,2,2,3,3,3,3,4,4,4,4,4,4,4,4,5,5,5,5,5,5,5,5,5,5,5,5,5,5,5,5,6,6,6,6,6,6,6,6,6,6,6,6,6,6,6,6,6,6,6,6,6,6,6,6,6,6,6,6,6,6,6,6,7,7,7,7,7,7,7,7,7,7,7,7,7,7,7,7,7,7,7,7,7,7,7,7,7,7,7,7,7,7,7,7,7,7,7,7,7,7,7,7,7,7,7,7,7,7,7,7,7,7,7,7,7,7,7,7,7,7,7,7,7,7,7,7,8,8,8,8,8,8,8,8,8,8,8,8,8,8,8,8,8,8,8,8,8,8,8,8,8,8,8,8,8,8,8,8,8,8,8,8,8,8,8,8,8,8,8,8,8,8,8,8,8,8,8,8,8,8,8,8,8,8,8,8,8,8,8,8,8,8,8,8,8,8,8,8,8,8,8,8,8,8,8,8,8,8,8,8,8,8,8,8,8,8,8,8,8,8,8,8,8,8,8,8,8,8,8,8,8,8,8,8,8,8,8,8,8,8,8,8,8,8,8,8,8,8,8,8,8,8,8,8])) (.t 15)),zG 17 (.conv (.toInt .i64) (.t 16)),zG 18 (.bin .add (.t 13) (.t 17)),zM 2 18] none)
 .ret))))
theorem f147:aG Tryz.prog 147 19 Db [.tmp 2]:=⟨_,Tryz.func147,rfl,by kernel_rfl,rfl⟩
def Dc:AC:=(.seq (.reg [zG 2 (.mov (.c (.int .i64 0)))] none)
 (.seq (.seq (.reg [zM 3 0,zG 4 (.bin .geq (.t 3) (.c (.int .u64 4294967296)))] none)
 (.cond (.t 4) (.seq (.reg [zM 5 0,zG 6 (.bin .shr (.t 5) (.c (.int .u64 32))),zM 0 6] none)
 (.reg [zG 2 (.mov (.c (.int .i64 32)))] none)) .skip))
 (.seq (.seq (.reg [zM 7 0,zG 8 (.bin .geq (.t 7) (.c (.int .u64 65536)))] none)
 (.cond (.t 8) (.seq (.reg [zM 9 0,zG 10 (.bin .shr (.t 9) (.c (.int .u64 16))),zM 0 10] none)
 (.reg [zM 11 2,zG 12 (.bin .add (.t 11) (.c (.int .i64 16))),zM 2 12] none)) .skip))
 (.seq (.seq (.reg [zM 13 0,zG 14 (.bin .geq (.t 13) (.c (.int .u64 256)))] none)
 (.cond (.t 14) (.seq (.reg [zM 15 0,zG 16 (.bin .shr (.t 15) (.c (.int .u64 8))),zM 0 16] none)
 (.reg [zM 17 2,zG 18 (.bin .add (.t 17) (.c (.int .i64 8))),zM 2 18] none)) .skip))
 (.seq (.reg [zM 19 2,zM 20 0,zG 21 (.conv (.toInt .u8) (.t 20)),zG 22 (.idx (.c (.str [0,1,2,2,3,3,3,3,4,4,4,4,4,4,4,4,5,5,5,5,5,5,5,5,5,5,5,5,5,5,5,5,6,6,6,6,6,6,6,6,6,6,6,6,6,6,6,6,6,6,6,6,6,6,6,6,6,6,6,6,6,6,6,6,7,7,7,7,7,7,7,7,7,7,7,7,7,7,7,7,7,7,7,7,7,7,7,7,7,7,7,7,7,7,7,7,7,7,7,7,7,7,7,7,7,7,7,7,7,7,7,7,7,7,7,7,7,7,7,7,7,7,7,7,7,7,7,7,8,8,8,8,8,8,8,8,8,8,8,8,8,8,8,8,8,8,8,8,8,8,8,8,8,8,8,8,8,8,8,8,8,8,8,8,8,8,8,8,8,8,8,8,8,8,8,8,8,8,8,8,8,8,8,8,8,8,8,8,8,8,8,8,8,8,8,8,8,8,8,8,8,8,8,8,8,8,8,8,8,8,8,8,8,8,8,8,8,8,8,8,8,8,8,8,8,8,8,8,8,8,8,8,8,8,8,8,8,8,8,8,8,8,8,8,8,8,8,8,8,8,8,8,8,8,8,8])) (.t 21)),zG 23 (.conv (.toInt .i64) (.t 22)),zG 24 (.bin .add (.t 19) (.t 23)),zM 2 24] none)
 .ret)))))
theorem f148:aG Tryz.prog 148 25 Dc [.tmp 2]:=⟨_,Tryz.func148,rfl,by kernel_rfl,rfl⟩
def Dd:AC:=(.seq (.reg [zG 2 (.mov (.c (.bool false)))] none)
 (.seq (.reg [zM 3 0,zM 4 0,zG 5 (.bin .neq (.t 3) (.t 4)),zM 2 5] none)
 .ret))
theorem f149:aG Tryz.prog 149 6 Dd [.tmp 2]:=⟨_,Tryz.func149,rfl,by kernel_rfl,rfl⟩
def BH:AC:=(.seq (.reg [zG 2 (.alloc [.int .i64 0,.int .i64 0])] none)
 (.seq (.reg [zG 3 (.mov (.c (.sc (.complex .f64 0 0))))] none)
 (.seq (.seq (.reg [zM 6 0,zG 7 (.len false (.t 6)),zG 8 (.mov (.c (.int .i64 0)))] none)
 (.block 0 (.loop (.seq (.reg [zG 9 (.bin .lss (.t 8) (.t 7))] none)
 (.seq (.cond (.t 9) .skip (.exit 0))
 (.seq (.block 1 (.seq (.reg [zG 10 (.iaddr 1 (.t 6) (.t 8)),zL 11 10,zM 5 11] none)
 (.seq (.reg [zM 12 3,zG 13 (.call 194 [(.t 12),(.c (.sc (.complex .f64 4613937818241073152 4611686018427387904)))]),zM 3 13] none)
 (.reg [zM 14 3,zM 15 5,zG 16 (.raw (.i2f .f64) [(.t 15)]),zG 17 (.bin .add (.t 16) (.c (.sc (.float .f64 4607182418800017408)))),zM 18 5,zG 19 (.raw (.i2f .f64) [(.t 18)]),zG 20 (.bin .sub (.c (.sc (.float .f64 4643211215818981376))) (.t 19)),zG 21 (.raw .cplx [(.t 17),(.t 20)]),zG 22 (.bin .add (.t 14) (.t 21)),zG 23 (.call 195 [(.t 22)]),zM 3 23] none))))
 (.reg [zG 24 (.bin .add (.t 8) (.c (.int .i64 1))),zM 8 24] none)))))))
 (.seq (.reg [zM 25 3,zG 26 (.call 196 [(.t 25)]),zH (.store 2 (.t 2) (.t 26))] none)
 .ret))))
theorem f150:aG Tryz.prog 150 27 BH [.cell 2 (some 2)]:=⟨_,Tryz.func150,rfl,by kernel_rfl,rfl⟩
def De:AC:=(.seq (.reg [zG 2 (.mov (.c (.bool false)))] none)
 (.seq (.reg [zM 3 0,zG 4 (.bin .geq (.t 3) (.c (.int .u8 97))),zM 5 4,zm 6 5 true 0,zg 7 5 true (.bin .leq (.t 6) (.c (.int .u8 122))),zA 8 5 7,zM 9 8,zm 10 9 false 0,zg 11 9 false (.bin .geq (.t 10) (.c (.int .u8 48))),zm 12 9 false 11,zm 13 12 true 0,zg 14 12 true (.bin .leq (.t 13) (.c (.int .u8 57))),zg 15 9 false (.pick (.t 12) (.t 14) (.c (.bool false))),zO 16 9 15,zM 2 16] none)
 .ret))
theorem f151:aG Tryz.prog 151 17 De [.tmp 2]:=⟨_,Tryz.func151,rfl,by kernel_rfl,rfl⟩
def Ai:AC:=(.seq (.reg [zG 2 (.mov (.c (.int .i64 0)))] none)
 (.seq (.seq (.reg [zM 4 0,zG 5 (.len true (.t 4)),zG 6 (.bin .lss (.t 5) (.c (.int .i64 1))),zM 7 6,zm 8 7 false 0,zg 9 7 false (.len true (.t 8)),zg 10 7 false (.bin .gtr (.t 9) (.c (.int .i64 32))),zO 11 7 10] none)
 (.cond (.t 11) (.seq (.reg [zG 2 (.mov (.c (.int .i64 15)))] none)
 .ret) .skip))
 (.seq (.seq (.reg [zG 3 (.mov (.c (.int .i64 0)))] none)
 (.block 0 (.loop (.seq (.seq (.reg [zM 12 3,zM 13 0,zG 14 (.len true (.t 13)),zG 15 (.bin .lss (.t 12) (.t 14))] none)
 (.cond (.t 15) .skip (.exit 0)))
 (.seq (.block 1 (.seq (.reg [zM 18 0,zM 19 3,zG 20 (.idx (.t 18) (.t 19)),zG 21 (.bin .lss (.t 20) (.c (.int .u8 33))),zM 22 21,zm 23 22 false 0,zm 24 22 false 3,zg 25 22 false (.idx (.t 23) (.t 24)),zg 26 22 false (.bin .gtr (.t 25) (.c (.int .u8 126))),zO 27 22 26] none)
 (.cond (.t 27) (.seq (.reg [zG 2 (.mov (.c (.int .i64 15)))] none)
 .ret) .skip)))
 (.reg [zM 16 3,zG 17 (.bin .add (.t 16) (.c (.int .i64 1))),zM 3 17] none))))))
 (.seq (.reg [zG 2 (.mov (.c (.int .i64 0)))] none)
 .ret))))
theorem f152:aG Tryz.prog 152 28 Ai [.tmp 2]:=⟨_,Tryz.func152,rfl,by kernel_rfl,rfl⟩
def Df:AC:=(.seq (.reg [zG 2 (.alloc [.int .i64 0,.int .i64 0])] none)
 (.seq (.reg [zG 3 (.alloc [.int .i64 0,.int .i64 0])] none)
 (.seq (.seq (.reg [zG 4 (.mov (.c (.int .i64 0)))] none)
 (.block 0 (.loop (.seq (.seq (.reg [zM 5 4,zM 6 0,zG 7 (.len true (.t 6)),zG 8 (.bin .lss (.t 5) (.t 7))] none)
 (.cond (.t 8) .skip (.exit 0)))
 (.seq (.block 1 (.seq (.reg [zW 11 2 3,zG 12 (.call 197 [(.t 11)]),zH (.store 2 (.t 3) (.t 12))] none)
 (.reg [zF 13 0 3,zL 14 13,zM 15 0,zM 16 4,zG 17 (.idx (.t 15) (.t 16)),zG 18 (.conv (.toInt .i64) (.t 17)),zG 19 (.bin .add (.t 14) (.t 18)),zG 20 (.bin .add (.t 19) (.c (.int .i64 1))),zG 21 (.call 198 [(.t 20)]),zF 22 1 3,zL 23 22,zG 24 (.bin .add (.t 23) (.c (.int .i64 256))),zM 25 0,zM 26 4,zG 27 (.idx (.t 25) (.t 26)),zG 28 (.conv (.toInt .i64) (.t 27)),zG 29 (.bin .sub (.t 24) (.t 28)),zG 30 (.call 198 [(.t 29)]),zG 31 (.build [.int .i64 0,.int .i64 0] [(0,1,(.t 21)),(1,1,(.t 30))]),zH (.store 2 (.t 3) (.t 31))] (some [(1,10),(8,10)]))))
 (.reg [zM 9 4,zG 10 (.bin .add (.t 9) (.c (.int .i64 1))),zM 4 10] none))))))
 (.seq (.reg [zW 32 2 3,zH (.store 2 (.t 2) (.t 32))] none)
 .ret))))
theorem f153:aG Tryz.prog 153 33 Df [.cell 2 (some 2)]:=⟨_,Tryz.func153,rfl,by kernel_rfl,rfl⟩
def Dg:AC:=(.seq (.reg [zG 1 (.box (.t 0)),zG 2 (.mov (.c (.bool false)))] none)
 (.seq (.reg [zF 3 0 1,zL 4 3,zG 5 (.bin .geq (.t 4) (.c (.int .i64 0))),zM 6 5,zf 7 6 true 0 1,zl 8 6 true 7,zg 9 6 true (.bin .lss (.t 8) (.c (.int .i64 1048573))),zA 10 6 9,zM 11 10,zf 12 11 true 1 1,zl 13 11 true 12,zg 14 11 true (.bin .geq (.t 13) (.c (.int .i64 0))),zA 15 11 14,zM 16 15,zf 17 16 true 1 1,zl 18 16 true 17,zg 19 16 true (.bin .lss (.t 18) (.c (.int .i64 1048573))),zA 20 16 19,zM 2 20] none)
 .ret))
theorem f155:aG Tryz.prog 155 21 Dg [.tmp 2]:=⟨_,Tryz.func155,rfl,by kernel_rfl,rfl⟩
def qm:AC:=(.seq (.reg [zG 2 (.mov (.c (.int .i64 0)))] none)
 (.seq (.seq (.reg [zM 3 0,zG 4 (.bin .lss (.t 3) (.c (.int .i64 1))),zM 5 4,zm 6 5 false 0,zg 7 5 false (.bin .gtr (.t 6) (.c (.int .i64 6))),zO 8 5 7] none)
 (.cond (.t 8) (.seq (.reg [zG 2 (.mov (.c (.int .i64 (-1))))] none)
 .ret) .skip))
 (.seq (.reg [zG 9 (.buildSl 1 [(.c (.int .i64 0)),(.c (.int .i64 1)),(.c (.int .i64 2)),(.c (.int .i64 1)),(.c (.int .i64 2)),(.c (.int .i64 3))]),zM 10 0,zG 11 (.bin .sub (.t 10) (.c (.int .i64 1))),zG 12 (.iaddr 1 (.t 9) (.t 11)),zL 13 12,zM 2 13] none)
 .ret)))
theorem f164:aG Tryz.prog 164 14 qm [.tmp 2]:=⟨_,Tryz.func164,rfl,by kernel_rfl,rfl⟩
def Dh:AC:=(.seq (.reg [zG 2 (.box (.t 0)),zG 4 (.mov (.c (.bool false)))] none)
 (.seq (.seq (.reg [zG 5 (.mov (.c (.int .i64 0)))] none)
 (.block 0 (.loop (.seq (.seq (.reg [zM 6 5,zF 7 3 2,zL 8 7,zG 9 (.len false (.t 8)),zG 10 (.bin .lss (.t 6) (.t 9))] none)
 (.cond (.t 10) .skip (.exit 0)))
 (.seq (.block 1 (.seq (.reg [zF 13 3 2,zL 14 13,zM 15 5,zG 16 (.iaddr 1 (.t 14) (.t 15)),zL 17 16,zG 18 (.bin .lss (.t 17) (.c (.int .i64 0)))] none)
 (.cond (.t 18) (.seq (.reg [zG 4 (.mov (.c (.bool false)))] none)
 .ret) .skip)))
 (.reg [zM 11 5,zG 12 (.bin .add (.t 11) (.c (.int .i64 1))),zM 5 12] none))))))
 (.seq (.reg [zF 19 3 2,zL 20 19,zG 21 (.len false (.t 20)),zM 22 1,zG 23 (.bin .leq (.t 21) (.t 22)),zM 4 23] none)
 .ret)))
theorem f165:aG Tryz.prog 165 24 Dh [.tmp 4]:=⟨_,Tryz.func165,rfl,by kernel_rfl,rfl⟩
def Di:AC:=(.seq (.reg [zG 2 (.mov (.c (.str [])))] none)
 (.seq (.reg [zM 6 0,zG 7 (.call 205 [(.t 6)]),zM 5 7,zE 8 5 0,zE 9 5 1,zM 3 8,zM 4 9] none)
 (.seq (.reg [zM 10 3,zM 2 10] none)
 .ret)))
theorem f166:aG Tryz.prog 166 11 Di [.tmp 2]:=⟨_,Tryz.func166,rfl,by kernel_rfl,rfl⟩
def Dj:AC:=(.seq (.reg [zG 1 (.box (.t 0)),zG 2 (.mov (.c (.sl 3 [] (.exact 0))))] none)
 (.seq (.reg [zF 6 0 1,zL 7 6,zG 8 (.bin .sub (.t 7) (.c (.int .i64 1))),zF 9 0 1,zL 10 9,zG 11 (.slc true 0 (.c (.str [98,111,99,117,112,113])) (some (.t 8)) (some (.t 10)) none),zG 12 (.build [.int .i64 0,.int .i64 0,.str []] [(0,1,(.c (.int .i64 1))),(2,1,(.t 11))]),zG 13 (.buildSl 3 [(.t 12)]),zM 3 13] none)
 (.seq (.seq (.reg [zF 14 1 1,zL 15 14,zG 16 (.bin .neq (.t 15) (.c (.str [])))] none)
 (.cond (.t 16) (.reg [zM 17 3,zF 18 1 1,zL 19 18,zG 20 (.build [.int .i64 0,.int .i64 0,.str []] [(0,1,(.c (.int .i64 1))),(2,1,(.t 19))]),zG 21 (.buildSl 3 [(.t 20)]),zG 22 (.app false 3 32 (.t 17) (.t 21)),zM 3 22] none) .skip))
 (.seq (.seq (.reg [zF 23 2 1,zL 24 23,zG 25 (.bin .neq (.t 24) (.c (.str [])))] none)
 (.cond (.t 25) (.reg [zM 26 3,zF 27 2 1,zL 28 27,zG 29 (.build [.int .i64 0,.int .i64 0,.str []] [(0,1,(.c (.int .i64 1))),(2,1,(.t 28))]),zG 30 (.buildSl 3 [(.t 29)]),zG 31 (.app false 3 32 (.t 26) (.t 30)),zM 3 31] none) .skip))
 (.seq (.seq (.reg [zG 4 (.mov (.c (.int .i64 0)))] none)
 (.block 0 (.loop (.seq (.seq (.reg [zM 32 4,zF 33 3 1,zL 34 33,zG 35 (.len false (.t 34)),zG 36 (.bin .lss (.t 32) (.t 35))] none)
 (.cond (.t 36) .skip (.exit 0)))
 (.seq (.block 1 (.seq (.reg [zF 39 3 1,zL 40 39,zM 41 4,zG 42 (.iaddr 1 (.t 40) (.t 41)),zL 43 42,zG 44 (.build [.int .i64 0,.int .i64 0,.str []] [(0,1,(.c (.int .i64 2))),(1,1,(.t 43))]),zG 5 (.alloc [.int .i64 0,.int .i64 0,.str []]),zH (.store 3 (.t 5) (.t 44))] none)
 (.seq (.seq (.reg [zF 45 0 1,zL 46 45,zG 47 (.bin .eql (.t 46) (.c (.int .i64 2)))] none)
 (.cond (.t 47) (.reg [zF 48 0 5,zH (.store 1 (.t 48) (.c (.int .i64 3)))] none) .skip))
 (.reg [zM 49 3,zW 50 3 5,zG 51 (.buildSl 3 [(.t 50)]),zG 52 (.app false 3 32 (.t 49) (.t 51)),zM 3 52] none))))
 (.reg [zM 37 4,zG 38 (.bin .add (.t 37) (.c (.int .i64 1))),zM 4 38] none))))))
 (.seq (.reg [zM 53 3,zM 2 53] none)
 .ret))))))
theorem f167:aG Tryz.prog 167 54 Dj [.tmp 2]:=⟨_,Tryz.func167,rfl,by kernel_rfl,rfl⟩
def o6:AC:=(.seq (.reg [zG 2 (.mov (.c (.int .i64 0)))] none)
 (.seq (.reg [zG 3 (.mov (.c (.int .i64 0)))] none)
 (.seq (.seq (.reg [zM 4 0] none)
 (.block 0 (.seq (.block 4 (.seq (.block 3 (.seq (.block 2 (.seq (.block 1 (.seq (.seq (.seq (.reg [zG 6 (.bin .eql (.t 4) (.c (.int .i64 6))),zM 5 6] none)
 (.cond (.t 5) (.exit 1) .skip))
 (.seq (.seq (.seq (.reg [zG 8 (.bin .eql (.t 4) (.c (.int .i64 5))),zM 7 8] none)
 (.cond (.t 7) .skip (.reg [zG 9 (.bin .eql (.t 4) (.c (.int .i64 3))),zM 7 9] none)))
 (.cond (.t 7) (.exit 2) .skip))
 (.seq (.seq (.seq (.reg [zG 11 (.bin .eql (.t 4) (.c (.int .i64 4))),zM 10 11] none)
 (.cond (.t 10) .skip (.reg [zG 12 (.bin .eql (.t 4) (.c (.int .i64 2))),zM 10 12] none)))
 (.cond (.t 10) (.exit 3) .skip))
 (.seq (.reg [zG 14 (.bin .eql (.t 4) (.c (.int .i64 1))),zM 13 14] none)
 (.cond (.t 13) (.exit 4) .skip)))))
 (.exit 0)))
 (.reg [zM 15 3,zG 16 (.bin .add (.t 15) (.c (.int .i64 1))),zM 3 16] none)))
 (.reg [zM 17 3,zG 18 (.bin .add (.t 17) (.c (.int .i64 1))),zM 3 18] none)))
 (.reg [zM 19 3,zG 20 (.bin .add (.t 19) (.c (.int .i64 1))),zM 3 20] none)))
 (.seq (.seq (.reg [zM 21 3,zM 2 21] none)
 .ret)
 (.exit 0)))))
 (.seq (.reg [zG 2 (.mov (.c (.int .i64 (-1))))] none)
 .ret))))
theorem f175:aG Tryz.prog 175 22 o6 [.tmp 2]:=⟨_,Tryz.func175,rfl,by kernel_rfl,rfl⟩
def BI:AC:=(.seq (.reg [zG 2 (.alloc [.int .i64 0,.int .i64 0,.str []])] none)
 (.seq (.reg [zM 3 0,zG 4 (.build [.int .i64 0,.int .i64 0,.str []] [(0,1,(.c (.int .i64 1))),(2,1,(.t 3))]),zH (.store 3 (.t 2) (.t 4))] none)
 .ret))
theorem f176:aG Tryz.prog 176 5 BI [.cell 2 (some 3)]:=⟨_,Tryz.func176,rfl,by kernel_rfl,rfl⟩
def BJ:AC:=(.seq (.reg [zG 4 (.alloc [.int .i64 0,.int .i64 0,.str []])] none)
 (.seq (.seq (.reg [zM 5 0,zG 6 (.bin .eql (.t 5) (.c (.int .i64 2)))] none)
 (.cond (.t 6) (.seq (.reg [zM 7 1,zG 8 (.build [.int .i64 0,.int .i64 0,.str []] [(0,1,(.c (.int .i64 3))),(1,1,(.t 7))]),zH (.store 3 (.t 4) (.t 8))] none)
 .ret) .skip))
 (.seq (.reg [zM 9 1,zG 10 (.build [.int .i64 0,.int .i64 0,.str []] [(0,1,(.c (.int .i64 2))),(1,1,(.t 9))]),zH (.store 3 (.t 4) (.t 10))] none)
 .ret)))
theorem f177:aG Tryz.prog 177 11 BJ [.cell 4 (some 3)]:=⟨_,Tryz.func177,rfl,by kernel_rfl,rfl⟩
def BK:AC:=(.seq (.reg [zG 2 (.mov (.c (.str []))),zG 3 (.mov (.c (.int .i64 0)))] none)
 (.seq (.seq (.reg [zM 9 0,zG 10 (.len false (.t 9)),zG 11 (.mov (.c (.int .i64 0)))] none)
 (.block 0 (.loop (.seq (.reg [zG 12 (.bin .lss (.t 11) (.t 10))] none)
 (.seq (.cond (.t 12) .skip (.exit 0))
 (.seq (.block 1 (.seq (.reg [zG 13 (.iaddr 3 (.t 9) (.t 11)),zW 14 3 13,zG 5 (.alloc [.int .i64 0,.int .i64 0,.str []]),zH (.store 3 (.t 5) (.t 14))] none)
 (.seq (.reg [zW 15 3 5,zG 16 (.call 210 [(.t 15)]),zN 17 16] none)
 (.cond (.t 17) (.seq (.reg [zG 2 (.mov (.c (.str []))),zG 3 (.mov (.c (.int .i64 2)))] none)
 .ret) .skip))))
 (.reg [zG 18 (.bin .add (.t 11) (.c (.int .i64 1))),zM 11 18] none)))))))
 (.seq (.reg [zG 6 (.mov (.c (.sl 1 [] (.exact 0))))] none)
 (.seq (.seq (.reg [zM 19 0,zG 20 (.len false (.t 19)),zG 21 (.mov (.c (.int .i64 0)))] none)
 (.block 2 (.loop (.seq (.reg [zG 22 (.bin .lss (.t 21) (.t 20))] none)
 (.seq (.cond (.t 22) .skip (.exit 2))
 (.seq (.block 3 (.seq (.reg [zG 23 (.iaddr 3 (.t 19) (.t 21)),zW 24 3 23,zG 8 (.alloc [.int .i64 0,.int .i64 0,.str []]),zH (.store 3 (.t 8) (.t 24))] none)
 (.seq (.seq (.reg [zF 25 2 8,zL 26 25,zG 27 (.len true (.t 26)),zG 28 (.bin .gtr (.t 27) (.c (.int .i64 128)))] none)
 (.cond (.t 28) (.seq (.reg [zG 2 (.mov (.c (.str []))),zG 3 (.mov (.c (.int .i64 5)))] none)
 .ret) .skip))
 (.seq (.reg [zM 29 6,zW 30 3 8,zG 31 (.call 211 [(.t 29),(.t 30)]),zM 6 31] none)
 (.seq (.reg [zM 32 6,zG 33 (.len false (.t 32)),zG 34 (.bin .gtr (.t 33) (.c (.int .i64 128)))] none)
 (.cond (.t 34) (.seq (.reg [zG 2 (.mov (.c (.str []))),zG 3 (.mov (.c (.int .i64 5)))] none)
 .ret) .skip))))))
 (.reg [zG 35 (.bin .add (.t 21) (.c (.int .i64 1))),zM 21 35] none)))))))
 (.seq (.reg [zM 36 6,zG 37 (.conv .b2s (.t 36)),zM 2 37,zG 3 (.mov (.c (.int .i64 0)))] none)
 .ret)))))
theorem f178:aG Tryz.prog 178 38 BK [.tmp 2,.tmp 3]:=⟨_,Tryz.func178,rfl,by kernel_rfl,rfl⟩
def Dk:AC:=(.seq (.reg [zM 12 1,zM 10 12] none)
 (.block 0 (.loop (.block 1 (.seq (.reg [zM 13 10,zG 14 (.bin .mul (.c (.int .i64 2)) (.t 13)),zG 15 (.bin .add (.t 14) (.c (.int .i64 1))),zM 11 15] none)
 (.seq (.seq (.reg [zM 16 11,zM 17 2,zG 18 (.bin .geq (.t 16) (.t 17))] none)
 (.cond (.t 18) (.exit 0) .skip))
 (.seq (.seq (.reg [zM 19 11,zG 20 (.bin .add (.t 19) (.c (.int .i64 1))),zM 21 2,zG 22 (.bin .lss (.t 20) (.t 21)),zM 23 22,zm 24 23 true 4,zm 25 23 true 0,zm 26 23 true 3,zm 27 23 true 11,zg 28 23 true (.bin .add (.t 26) (.t 27)),zg 29 23 true (.iaddr 2 (.t 25) (.t 28)),zw 30 23 true 2 29,zm 31 23 true 0,zm 32 23 true 3,zm 33 23 true 11,zg 34 23 true (.bin .add (.t 32) (.t 33)),zg 35 23 true (.bin .add (.t 34) (.c (.int .i64 1))),zg 36 23 true (.iaddr 2 (.t 31) (.t 35)),zw 37 23 true 2 36,zg 38 23 true (.callv (.t 24) [(.t 30),(.t 37)]),zg 39 23 true (.bin .lss (.t 38) (.c (.int .i64 0))),zA 40 23 39] (some [(11,18)]))
 (.cond (.t 40) (.reg [zM 41 11,zG 42 (.bin .add (.t 41) (.c (.int .i64 1))),zM 11 42] none) .skip))
 (.seq (.seq (.reg [zM 43 4,zM 44 0,zM 45 3,zM 46 10,zG 47 (.bin .add (.t 45) (.t 46)),zG 48 (.iaddr 2 (.t 44) (.t 47)),zW 49 2 48,zM 50 0,zM 51 3,zM 52 11,zG 53 (.bin .add (.t 51) (.t 52)),zG 54 (.iaddr 2 (.t 50) (.t 53)),zW 55 2 54,zG 56 (.callv (.t 43) [(.t 49),(.t 55)]),zG 57 (.bin .lss (.t 56) (.c (.int .i64 0))),zN 58 57] (some [(6,12)]))
 (.cond (.t 58) .ret .skip))
 (.seq (.reg [zM 59 0,zM 60 3,zM 61 10,zG 62 (.bin .add (.t 60) (.t 61)),zM 63 0,zM 64 3,zM 65 11,zG 66 (.bin .add (.t 64) (.t 65)),zM 67 0,zM 68 3,zM 69 11,zG 70 (.bin .add (.t 68) (.t 69)),zG 71 (.iaddr 2 (.t 67) (.t 70)),zW 72 2 71,zM 73 0,zM 74 3,zM 75 10,zG 76 (.bin .add (.t 74) (.t 75)),zG 77 (.iaddr 2 (.t 73) (.t 76)),zW 78 2 77,zG 79 (.iaddr 2 (.t 59) (.t 62)),zH (.store 2 (.t 79) (.t 72)),zG 80 (.iaddr 2 (.t 63) (.t 66)),zH (.store 2 (.t 80) (.t 78))] (some [(13,19)]))
 (.reg [zM 81 11,zM 10 81] none))))))))))
theorem f189:aG Tryz.prog 189 82 Dk []:=⟨_,Tryz.func189,rfl,by kernel_rfl,rfl⟩
def Dl:AC:=(.seq (.reg [zG 2 (.mov (.c (.int .u64 0)))] none)
 (.seq (.reg [zM 3 0,zG 4 (.conv (.toInt .u64) (.t 3)),zG 5 (.call 95 [(.t 4)]),zG 6 (.bin .shl (.c (.int .u64 1)) (.t 5)),zM 2 6] none)
 .ret))
theorem f190:aG Tryz.prog 190 7 Dl [.tmp 2]:=⟨_,Tryz.func190,rfl,by kernel_rfl,rfl⟩
def Dm:AC:=(.seq (.reg [zG 2 (.mov (.c (.int .u64 0)))] none)
 (.seq (.reg [zM 3 0,zK 4 3,zL 5 4,zM 6 0,zK 7 6,zL 8 7,zG 9 (.bin .shl (.t 8) (.c (.int .u64 13))),zG 10 (.bin .xor (.t 5) (.t 9)),zK 11 3,zH (.store 1 (.t 11) (.t 10))] (some [(2,5)]))
 (.seq (.reg [zM 12 0,zK 13 12,zL 14 13,zM 15 0,zK 16 15,zL 17 16,zG 18 (.bin .shr (.t 17) (.c (.int .u64 7))),zG 19 (.bin .xor (.t 14) (.t 18)),zK 20 12,zH (.store 1 (.t 20) (.t 19))] (some [(2,5)]))
 (.seq (.reg [zM 21 0,zK 22 21,zL 23 22,zM 24 0,zK 25 24,zL 26 25,zG 27 (.bin .shl (.t 26) (.c (.int .u64 17))),zG 28 (.bin .xor (.t 23) (.t 27)),zK 29 21,zH (.store 1 (.t 29) (.t 28))] (some [(2,5)]))
 (.seq (.reg [zM 30 0,zK 31 30,zL 32 31,zM 2 32] none)
 .ret)))))
theorem f191:aG Tryz.prog 191 33 Dm [.tmp 2]:=⟨_,Tryz.func191,rfl,by kernel_rfl,rfl⟩
def Dn:AC:=(.seq (.reg [zG 8 (.mov (.c (.int .i64 0)))] none)
 (.seq (.reg [zM 9 0,zM 10 1,zG 11 (.bin .sub (.t 10) (.c (.int .i64 1))),zM 12 1,zM 13 1,zG 14 (.bin .add (.t 13) (.c (.int .i64 1))),zM 15 2,zM 16 3,zG 17 (.call 193 [(.t 9),(.t 11),(.t 12),(.t 14),(.t 15),(.t 16)]),zM 8 17] none)
 .ret))
theorem f192:aG Tryz.prog 192 18 Dn [.tmp 8]:=⟨_,Tryz.func192,rfl,by kernel_rfl,rfl⟩
def Dp:AC:=(.seq (.reg [zG 12 (.mov (.c (.int .i64 0)))] none)
 (.seq (.reg [zM 14 0,zM 15 1,zM 16 2,zM 17 4,zM 18 5,zG 19 (.call 217 [(.t 14),(.t 15),(.t 16),(.t 17),(.t 18)]),zM 13 19,zE 20 13 0,zE 21 13 1,zM 1 20,zM 2 21] none)
 (.seq (.reg [zM 23 0,zM 24 2,zM 25 3,zM 26 4,zM 27 5,zG 28 (.call 217 [(.t 23),(.t 24),(.t 25),(.t 26),(.t 27)]),zM 22 28,zE 29 22 0,zE 30 22 1,zM 2 29,zM 3 30] none)
 (.seq (.reg [zM 32 0,zM 33 1,zM 34 2,zM 35 4,zM 36 5,zG 37 (.call 217 [(.t 32),(.t 33),(.t 34),(.t 35),(.t 36)]),zM 31 37,zE 38 31 0,zE 39 31 1,zM 1 38,zM 2 39] none)
 (.seq (.reg [zM 40 2,zM 12 40] none)
 .ret)))))
theorem f193:aG Tryz.prog 193 41 Dp [.tmp 12]:=⟨_,Tryz.func193,rfl,by kernel_rfl,rfl⟩
def BM:AC:=(.seq (.reg [zG 4 (.mov (.c (.sc (.complex .f64 0 0))))] none)
 (.seq (.reg [zM 7 0,zG 8 (.raw (.cpart true) [(.t 7)]),zM 9 1,zG 10 (.raw (.cpart true) [(.t 9)]),zG 11 (.bin .mul (.t 8) (.t 10)),zM 12 0,zG 13 (.raw (.cpart false) [(.t 12)]),zM 14 1,zG 15 (.raw (.cpart false) [(.t 14)]),zG 16 (.bin .mul (.t 13) (.t 15)),zG 17 (.bin .sub (.t 11) (.t 16)),zM 5 17] none)
 (.seq (.reg [zM 18 0,zG 19 (.raw (.cpart true) [(.t 18)]),zM 20 1,zG 21 (.raw (.cpart false) [(.t 20)]),zG 22 (.bin .mul (.t 19) (.t 21)),zM 23 0,zG 24 (.raw (.cpart false) [(.t 23)]),zM 25 1,zG 26 (.raw (.cpart true) [(.t 25)]),zG 27 (.bin .mul (.t 24) (.t 26)),zG 28 (.bin .add (.t 22) (.t 27)),zM 6 28] none)
 (.seq (.reg [zM 29 5,zM 30 6,zG 31 (.raw .cplx [(.t 29),(.t 30)]),zG 32 (.call 195 [(.t 31)]),zM 4 32] none)
 .ret))))
theorem f194:aG Tryz.prog 194 33 BM [.tmp 4]:=⟨_,Tryz.func194,rfl,by kernel_rfl,rfl⟩
def BN:AC:=(.seq (.reg [zG 2 (.mov (.c (.sc (.complex .f64 0 0))))] none)
 (.seq (.reg [zM 3 0,zG 4 (.raw (.cpart true) [(.t 3)]),zG 5 (.call 218 [(.t 4)]),zM 6 0,zG 7 (.raw (.cpart false) [(.t 6)]),zG 8 (.call 218 [(.t 7)]),zG 9 (.raw .cplx [(.t 5),(.t 8)]),zM 2 9] none)
 .ret))
theorem f195:aG Tryz.prog 195 10 BN [.tmp 2]:=⟨_,Tryz.func195,rfl,by kernel_rfl,rfl⟩
def BO:AC:=(.seq (.reg [zG 2 (.alloc [.int .i64 0,.int .i64 0])] none)
 (.seq (.reg [zM 3 0,zG 4 (.raw (.cpart true) [(.t 3)]),zG 5 (.raw (.f2i .i64) [(.t 4)]),zM 6 0,zG 7 (.raw (.cpart false) [(.t 6)]),zG 8 (.raw (.f2i .i64) [(.t 7)]),zG 9 (.build [.int .i64 0,.int .i64 0] [(0,1,(.t 5)),(1,1,(.t 8))]),zH (.store 2 (.t 2) (.t 9))] none)
 .ret))
theorem f196:aG Tryz.prog 196 10 BO [.cell 2 (some 2)]:=⟨_,Tryz.func196,rfl,by kernel_rfl,rfl⟩
def Dq:AC:=(.seq (.reg [zG 1 (.box (.t 0)),zG 2 (.alloc [.int .i64 0,.int .i64 0])] none)
 (.seq (.reg [zF 3 0 1,zL 4 3,zG 5 (.bin .mul (.c (.int .i64 3)) (.t 4)),zF 6 1 1,zL 7 6,zG 8 (.bin .mul (.c (.int .i64 2)) (.t 7)),zG 9 (.bin .sub (.t 5) (.t 8)),zG 10 (.call 198 [(.t 9)]),zF 11 0 1,zL 12 11,zG 13 (.bin .mul (.c (.int .i64 2)) (.t 12)),zF 14 1 1,zL 15 14,zG 16 (.bin .mul (.c (.int .i64 3)) (.t 15)),zG 17 (.bin .add (.t 13) (.t 16)),zG 18 (.call 198 [(.t 17)]),zG 19 (.build [.int .i64 0,.int .i64 0] [(0,1,(.t 10)),(1,1,(.t 18))]),zH (.store 2 (.t 2) (.t 19))] (some [(1,4),(1,9),(4,9),(7,9),(1,12),(4,12),(7,12),(9,12)]))
 .ret))
theorem f197:aG Tryz.prog 197 20 Dq [.cell 2 (some 2)]:=⟨_,Tryz.func197,rfl,by kernel_rfl,rfl⟩
def Dr:AC:=(.seq (.reg [zG 2 (.mov (.c (.int .i64 0)))] none)
 (.seq (.reg [zM 3 0,zG 4 (.bin .rem (.t 3) (.c (.int .i64 1048573))),zG 5 (.bin .add (.t 4) (.c (.int .i64 1048573))),zG 6 (.bin .rem (.t 5) (.c (.int .i64 1048573))),zM 2 6] none)
 .ret))
theorem f198:aG Tryz.prog 198 7 Dr [.tmp 2]:=⟨_,Tryz.func198,rfl,by kernel_rfl,rfl⟩
def Dt:AC:=(.seq (.reg [zG 2 (.mov (.c (.str []))),zG 3 (.mov (.c (.int .i64 0)))] none)
 (.seq (.seq (.reg [zM 7 0,zG 8 (.call 225 [(.t 7)]),zM 4 8] none)
 (.seq (.reg [zM 9 4,zG 10 (.bin .neq (.t 9) (.c (.int .i64 0)))] none)
 (.cond (.t 10) (.seq (.reg [zM 11 4,zG 2 (.mov (.c (.str []))),zM 3 11] none)
 .ret) .skip)))
 (.seq (.reg [zG 5 (.mov (.c (.str [])))] none)
 (.seq (.seq (.reg [zG 6 (.mov (.c (.int .i64 0)))] none)
 (.block 0 (.loop (.seq (.seq (.reg [zM 12 6,zM 13 0,zG 14 (.len false (.t 13)),zG 15 (.bin .lss (.t 12) (.t 14))] none)
 (.cond (.t 15) .skip (.exit 0)))
 (.seq (.block 1 (.reg [zM 18 5,zM 19 0,zM 20 6,zG 21 (.iaddr 3 (.t 19) (.t 20)),zW 22 3 21,zG 23 (.call 226 [(.t 22)]),zG 24 (.bin .add (.t 18) (.t 23)),zM 5 24] none))
 (.reg [zM 16 6,zG 17 (.bin .add (.t 16) (.c (.int .i64 1))),zM 6 17] none))))))
 (.seq (.reg [zM 25 5,zM 2 25,zG 3 (.mov (.c (.int .i64 0)))] none)
 .ret)))))
theorem f205:aG Tryz.prog 205 26 Dt [.tmp 2,.tmp 3]:=⟨_,Tryz.func205,rfl,by kernel_rfl,rfl⟩
def BP:AC:=(.seq (.reg [zG 1 (.box (.t 0)),zG 2 (.mov (.c (.bool false)))] none)
 (.seq (.seq (.reg [zF 3 0 1,zL 4 3] none)
 (.block 0 (.seq (.reg [zG 6 (.bin .eql (.t 4) (.c (.int .i64 1))),zM 5 6] none)
 (.cond (.t 5) (.seq (.reg [zF 7 1 1,zL 8 7,zG 9 (.bin .eql (.t 8) (.c (.int .i64 0))),zM 2 9] none)
 .ret) (.seq (.seq (.reg [zG 11 (.bin .eql (.t 4) (.c (.int .i64 2))),zM 10 11] none)
 (.cond (.t 10) .skip (.reg [zG 12 (.bin .eql (.t 4) (.c (.int .i64 3))),zM 10 12] none)))
 (.cond (.t 10) (.seq (.reg [zF 13 2 1,zL 14 13,zG 15 (.bin .eql (.t 14) (.c (.str []))),zM 2 15] none)
 .ret) .skip))))))
 (.seq (.reg [zG 2 (.mov (.c (.bool false)))] none)
 .ret)))
theorem f210:aG Tryz.prog 210 16 BP [.tmp 2]:=⟨_,Tryz.func210,rfl,by kernel_rfl,rfl⟩
def BQ:AC:=(.seq (.reg [zG 3 (.box (.t 1)),zG 4 (.mov (.c (.sl 1 [] (.exact 0))))] none)
 (.seq (.seq (.reg [zF 7 0 3,zL 8 7] none)
 (.block 0 (.seq (.reg [zG 10 (.bin .eql (.t 8) (.c (.int .i64 2))),zM 9 10] none)
 (.cond (.t 9) (.seq (.reg [zM 11 0,zG 12 (.buildSl 1 [(.c (.int .u8 3))]),zG 13 (.app false 1 1 (.t 11) (.t 12)),zF 14 1 3,zL 15 14,zG 16 (.call 228 [(.t 13),(.t 15),(.c (.int .u8 0))]),zM 4 16] (some [(1,4),(2,4)]))
 .ret) (.seq (.reg [zG 18 (.bin .eql (.t 8) (.c (.int .i64 3))),zM 17 18] none)
 (.cond (.t 17) (.seq (.reg [zM 19 0,zG 20 (.buildSl 1 [(.c (.int .u8 4))]),zG 21 (.app false 1 1 (.t 19) (.t 20)),zF 22 1 3,zL 23 22,zG 24 (.call 228 [(.t 21),(.t 23),(.c (.int .u8 255))]),zM 4 24] (some [(1,4),(2,4)]))
 .ret) .skip))))))
 (.seq (.reg [zM 25 0,zG 26 (.buildSl 1 [(.c (.int .u8 2))]),zG 27 (.app false 1 1 (.t 25) (.t 26)),zM 0 27] none)
 (.seq (.seq (.reg [zF 28 2 3,zL 29 28,zG 30 (.conv .s2b (.t 29)),zG 31 (.len false (.t 30)),zG 32 (.mov (.c (.int .i64 0)))] none)
 (.block 1 (.loop (.seq (.reg [zG 33 (.bin .lss (.t 32) (.t 31))] none)
 (.seq (.cond (.t 33) .skip (.exit 1))
 (.seq (.block 2 (.seq (.reg [zG 34 (.iaddr 1 (.t 30) (.t 32)),zL 35 34,zM 6 35] none)
 (.seq (.reg [zM 36 0,zM 37 6,zG 38 (.buildSl 1 [(.t 37)]),zG 39 (.app false 1 1 (.t 36) (.t 38)),zM 0 39] none)
 (.seq (.reg [zM 40 6,zG 41 (.bin .eql (.t 40) (.c (.int .u8 0)))] none)
 (.cond (.t 41) (.reg [zM 42 0,zG 43 (.buildSl 1 [(.c (.int .u8 255))]),zG 44 (.app false 1 1 (.t 42) (.t 43)),zM 0 44] none) .skip)))))
 (.reg [zG 45 (.bin .add (.t 32) (.c (.int .i64 1))),zM 32 45] none)))))))
 (.seq (.reg [zM 46 0,zG 47 (.buildSl 1 [(.c (.int .u8 0)),(.c (.int .u8 1))]),zG 48 (.app false 1 1 (.t 46) (.t 47)),zM 4 48] none)
 .ret)))))
theorem f211:aG Tryz.prog 211 49 BQ [.tmp 4]:=⟨_,Tryz.func211,rfl,by kernel_rfl,rfl⟩
def Du:AC:=(.seq (.reg [zG 10 (.mov (.c (.int .i64 0))),zG 11 (.mov (.c (.int .i64 0)))] none)
 (.seq (.seq (.reg [zM 12 4,zM 13 0,zM 14 2,zG 15 (.iaddr 2 (.t 13) (.t 14)),zW 16 2 15,zM 17 0,zM 18 1,zG 19 (.iaddr 2 (.t 17) (.t 18)),zW 20 2 19,zG 21 (.callv (.t 12) [(.t 16),(.t 20)]),zG 22 (.bin .lss (.t 21) (.c (.int .i64 0)))] (some [(4,8)]))
 (.cond (.t 22) (.seq (.reg [zM 23 3,zK 24 23,zL 25 24,zG 26 (.bin .add (.t 25) (.c (.int .i64 1))),zK 27 23,zH (.store 1 (.t 27) (.t 26))] none)
 (.seq (.reg [zM 28 2,zM 29 1,zM 10 28,zM 11 29] none)
 .ret)) .skip))
 (.seq (.reg [zM 30 1,zM 31 2,zM 10 30,zM 11 31] none)
 .ret)))
theorem f217:aG Tryz.prog 217 32 Du [.tmp 10,.tmp 11]:=⟨_,Tryz.func217,rfl,by kernel_rfl,rfl⟩
def BR:AC:=(.seq (.reg [zG 2 (.mov (.c (.sc (.float .f64 0))))] none)
 (.seq (.reg [zM 3 0,zG 4 (.call 233 [(.t 3),(.c (.sc (.float .f64 4697254385577623552)))]),zM 0 4] none)
 (.seq (.seq (.reg [zM 5 0,zG 6 (.bin .lss (.t 5) (.c (.sc (.float .f64 0))))] none)
 (.cond (.t 6) (.reg [zM 7 0,zG 8 (.bin .add (.t 7) (.c (.sc (.float .f64 4697254385577623552)))),zM 0 8] none) .skip))
 (.seq (.reg [zM 9 0,zM 2 9] none)
 .ret))))
theorem f218:aG Tryz.prog 218 10 BR [.tmp 2]:=⟨_,Tryz.func218,rfl,by kernel_rfl,rfl⟩
def Dv:AC:=(.seq (.reg [zG 2 (.mov (.c (.int .i64 0)))] none)
 (.seq (.seq (.reg [zG 3 (.mov (.c (.int .i64 0)))] none)
 (.block 0 (.loop (.seq (.seq (.reg [zM 6 3,zM 7 0,zG 8 (.len false (.t 7)),zG 9 (.bin .lss (.t 6) (.t 8))] none)
 (.cond (.t 9) .skip (.exit 0)))
 (.seq (.block 1 (.seq (.reg [zM 12 0,zM 13 3,zG 14 (.iaddr 3 (.t 12) (.t 13)),zW 15 3 14,zG 16 (.call 236 [(.t 15)]),zN 17 16] none)
 (.cond (.t 17) (.seq (.reg [zG 2 (.mov (.c (.int .i64 2)))] none)
 .ret) .skip)))
 (.reg [zM 10 3,zG 11 (.bin .add (.t 10) (.c (.int .i64 1))),zM 3 11] none))))))
 (.seq (.reg [zG 4 (.mov (.c (.int .i64 0)))] none)
 (.seq (.seq (.reg [zG 5 (.mov (.c (.int .i64 0)))] none)
 (.block 2 (.loop (.seq (.seq (.reg [zM 18 5,zM 19 0,zG 20 (.len false (.t 19)),zG 21 (.bin .lss (.t 18) (.t 20))] none)
 (.cond (.t 21) .skip (.exit 2)))
 (.seq (.block 3 (.seq (.reg [zM 24 4,zM 25 0,zM 26 5,zG 27 (.iaddr 3 (.t 25) (.t 26)),zW 28 3 27,zG 29 (.call 237 [(.t 28)]),zG 30 (.bin .add (.t 24) (.t 29)),zM 4 30] none)
 (.seq (.reg [zM 31 4,zG 32 (.bin .gtr (.t 31) (.c (.int .i64 128)))] none)
 (.cond (.t 32) (.seq (.reg [zG 2 (.mov (.c (.int .i64 5)))] none)
 .ret) .skip))))
 (.reg [zM 22 5,zG 23 (.bin .add (.t 22) (.c (.int .i64 1))),zM 5 23] none))))))
 (.seq (.reg [zG 2 (.mov (.c (.int .i64 0)))] none)
 .ret)))))
theorem f225:aG Tryz.prog 225 33 Dv [.tmp 2]:=⟨_,Tryz.func225,rfl,by kernel_rfl,rfl⟩
def Dw:AC:=(.seq (.reg [zG 1 (.box (.t 0)),zG 2 (.mov (.c (.str [])))] none)
 (.seq (.seq (.reg [zF 5 0 1,zL 6 5] none)
 (.block 0 (.seq (.reg [zG 8 (.bin .eql (.t 6) (.c (.int .i64 2))),zM 7 8] none)
 (.cond (.t 7) (.seq (.reg [zF 9 1 1,zL 10 9,zG 11 (.call 87 [(.t 10),(.c (.int .i64 8))]),zG 12 (.call 238 [(.t 11),(.c (.bool false))]),zG 13 (.bin .add (.c (.str [3])) (.t 12)),zM 2 13] none)
 .ret) (.seq (.reg [zG 15 (.bin .eql (.t 6) (.c (.int .i64 3))),zM 14 15] none)
 (.cond (.t 14) (.seq (.reg [zF 16 1 1,zL 17 16,zG 18 (.call 87 [(.t 17),(.c (.int .i64 8))]),zG 19 (.call 238 [(.t 18),(.c (.bool true))]),zG 20 (.bin .add (.c (.str [4])) (.t 19)),zM 2 20] none)
 .ret) .skip))))))
 (.seq (.reg [zG 3 (.mov (.c (.str [2])))] none)
 (.seq (.seq (.reg [zG 4 (.mov (.c (.int .i64 0)))] none)
 (.block 1 (.loop (.seq (.seq (.reg [zM 21 4,zF 22 2 1,zL 23 22,zG 24 (.len true (.t 23)),zG 25 (.bin .lss (.t 21) (.t 24))] none)
 (.cond (.t 25) .skip (.exit 1)))
 (.seq (.block 2 (.seq (.reg [zM 28 3,zF 29 2 1,zL 30 29,zM 31 4,zM 32 4,zG 33 (.bin .add (.t 32) (.c (.int .i64 1))),zG 34 (.slc true 0 (.t 30) (some (.t 31)) (some (.t 33)) none),zG 35 (.bin .add (.t 28) (.t 34)),zM 3 35] none)
 (.seq (.reg [zF 36 2 1,zL 37 36,zM 38 4,zG 39 (.idx (.t 37) (.t 38)),zG 40 (.bin .eql (.t 39) (.c (.int .u8 0)))] none)
 (.cond (.t 40) (.reg [zM 41 3,zG 42 (.bin .add (.t 41) (.c (.str [255]))),zM 3 42] none) .skip))))
 (.reg [zM 26 4,zG 27 (.bin .add (.t 26) (.c (.int .i64 1))),zM 4 27] none))))))
 (.seq (.reg [zM 43 3,zG 44 (.bin .add (.t 43) (.c (.str [0,1]))),zM 2 44] none)
 .ret)))))
theorem f226:aG Tryz.prog 226 45 Dw [.tmp 2]:=⟨_,Tryz.func226,rfl,by kernel_rfl,rfl⟩
def BS:AC:=(.seq (.reg [zG 6 (.mov (.c (.sl 1 [] (.exact 0))))] none)
 (.seq (.reg [zM 9 1,zG 10 (.conv (.toInt .u64) (.t 9)),zG 11 (.bin .xor (.t 10) (.c (.int .u64 9223372036854775808))),zM 7 11] none)
 (.seq (.seq (.reg [zG 8 (.mov (.c (.int .i64 56)))] none)
 (.block 0 (.loop (.seq (.seq (.reg [zM 12 8,zG 13 (.bin .geq (.t 12) (.c (.int .i64 0)))] none)
 (.cond (.t 13) .skip (.exit 0)))
 (.seq (.block 1 (.reg [zM 16 0,zM 17 7,zM 18 8,zG 19 (.bin .shr (.t 17) (.t 18)),zG 20 (.conv (.toInt .u8) (.t 19)),zM 21 2,zG 22 (.bin .xor (.t 20) (.t 21)),zG 23 (.buildSl 1 [(.t 22)]),zG 24 (.app false 1 1 (.t 16) (.t 23)),zM 0 24] none))
 (.reg [zM 14 8,zG 15 (.bin .sub (.t 14) (.c (.int .i64 8))),zM 8 15] none))))))
 (.seq (.reg [zM 25 0,zM 6 25] none)
 .ret))))
theorem f228:aG Tryz.prog 228 26 BS [.tmp 6]:=⟨_,Tryz.func228,rfl,by kernel_rfl,rfl⟩
def BT:AC:=(.seq (.reg [zG 4 (.mov (.c (.sc (.float .f64 0))))] none)
 (.seq (.cond (.c (.bool false)) (.seq (.reg [zM 5 0,zM 6 1,zG 7 (.call 240 [(.t 5),(.t 6)]),zM 4 7] none)
 .ret) .skip)
 (.seq (.reg [zM 8 0,zM 9 1,zG 10 (.call 241 [(.t 8),(.t 9)]),zM 4 10] none)
 .ret)))
theorem f233:aG Tryz.prog 233 11 BT [.tmp 4]:=⟨_,Tryz.func233,rfl,by kernel_rfl,rfl⟩
def Dx:AC:=(.seq (.reg [zG 1 (.box (.t 0)),zG 2 (.mov (.c (.bool false)))] none)
 (.seq (.reg [zF 3 0 1,zL 4 3,zG 5 (.bin .eql (.t 4) (.c (.int .i64 1))),zM 6 5,zf 7 6 true 1 1,zl 8 6 true 7,zg 9 6 true (.bin .eql (.t 8) (.c (.int .i64 0))),zA 10 6 9,zM 11 10,zf 12 11 false 0 1,zl 13 11 false 12,zg 14 11 false (.bin .eql (.t 13) (.c (.int .i64 2))),zm 15 11 false 14,zf 16 15 false 0 1,zl 17 15 false 16,zg 18 15 false (.bin .eql (.t 17) (.c (.int .i64 3))),zg 19 11 false (.pick (.t 15) (.c (.bool true)) (.t 18)),zm 20 11 false 19,zf 21 20 true 2 1,zl 22 20 true 21,zg 23 20 true (.bin .eql (.t 22) (.c (.str []))),zg 24 11 false (.pick (.t 20) (.t 23) (.c (.bool false))),zO 25 11 24,zM 2 25] none)
 .ret))
theorem f236:aG Tryz.prog 236 26 Dx [.tmp 2]:=⟨_,Tryz.func236,rfl,by kernel_rfl,rfl⟩
def Dy:AC:=(.seq (.reg [zG 1 (.box (.t 0)),zG 2 (.mov (.c (.int .i64 0)))] none)
 (.seq (.seq (.reg [zF 5 0 1,zL 6 5,zG 7 (.bin .neq (.t 6) (.c (.int .i64 1)))] none)
 (.cond (.t 7) (.seq (.reg [zG 2 (.mov (.c (.int .i64 9)))] none)
 .ret) .skip))
 (.seq (.reg [zF 8 2 1,zL 9 8,zG 10 (.len true (.t 9)),zG 11 (.bin .add (.c (.int .i64 3)) (.t 10)),zM 3 11] none)
 (.seq (.seq (.reg [zG 4 (.mov (.c (.int .i64 0)))] none)
 (.block 0 (.loop (.seq (.seq (.reg [zM 12 4,zF 13 2 1,zL 14 13,zG 15 (.len true (.t 14)),zG 16 (.bin .lss (.t 12) (.t 15))] none)
 (.cond (.t 16) .skip (.exit 0)))
 (.seq (.block 1 (.seq (.reg [zF 19 2 1,zL 20 19,zM 21 4,zG 22 (.idx (.t 20) (.t 21)),zG 23 (.bin .eql (.t 22) (.c (.int .u8 0)))] none)
 (.cond (.t 23) (.reg [zM 24 3,zG 25 (.bin .add (.t 24) (.c (.int .i64 1))),zM 3 25] none) .skip)))
 (.reg [zM 17 4,zG 18 (.bin .add (.t 17) (.c (.int .i64 1))),zM 4 18] none))))))
 (.seq (.reg [zM 26 3,zM 2 26] none)
 .ret)))))
theorem f237:aG Tryz.prog 237 27 Dy [.tmp 2]:=⟨_,Tryz.func237,rfl,by kernel_rfl,rfl⟩
def Dz:AC:=(.seq (.reg [zG 4 (.mov (.c (.str [])))] none)
 (.seq (.reg [zM 7 0,zG 8 (.conv .s2b (.t 7)),zM 5 8] none)
 (.seq (.reg [zM 9 5,zM 10 5,zG 11 (.iaddr 1 (.t 10) (.c (.int .i64 0))),zL 12 11,zG 13 (.bin .xor (.t 12) (.c (.int .u8 128))),zG 14 (.iaddr 1 (.t 9) (.c (.int .i64 0))),zH (.store 1 (.t 14) (.t 13))] none)
 (.seq (.seq (.reg [zG 6 (.mov (.c (.int .i64 0)))] none)
 (.block 0 (.loop (.seq (.seq (.reg [zM 15 6,zM 16 5,zG 17 (.len false (.t 16)),zG 18 (.bin .lss (.t 15) (.t 17)),zM 19 18,zm 20 19 true 1,zA 21 19 20] none)
 (.cond (.t 21) .skip (.exit 0)))
 (.seq (.block 1 (.reg [zM 24 5,zM 25 6,zM 26 5,zM 27 6,zG 28 (.iaddr 1 (.t 26) (.t 27)),zL 29 28,zG 30 (.bin .sub (.c (.int .u8 255)) (.t 29)),zG 31 (.iaddr 1 (.t 24) (.t 25)),zH (.store 1 (.t 31) (.t 30))] none))
 (.reg [zM 22 6,zG 23 (.bin .add (.t 22) (.c (.int .i64 1))),zM 6 23] none))))))
 (.seq (.reg [zM 32 5,zG 33 (.conv .b2s (.t 32)),zM 4 33] none)
 .ret)))))
theorem f238:aG Tryz.prog 238 34 Dz [.tmp 4]:=⟨_,Tryz.func238,rfl,by kernel_rfl,rfl⟩
def DA:AC:=(.seq (.reg [zG 4 (.mov (.c (.sc (.float .f64 0))))] none)
 (.reg [zG 5 (.ifc 9 (.c (.str [110,111,116,32,105,109,112,108,101,109,101,110,116,101,100]))),zH (.pan (.t 5))] none))
theorem f240:aG Tryz.prog 240 6 DA [.tmp 4]:=⟨_,Tryz.func240,rfl,by kernel_rfl,rfl⟩
def BU:AC:=(.seq (.reg [zG 4 (.mov (.c (.sc (.float .f64 0))))] none)
 (.seq (.seq (.reg [zM 10 1,zG 11 (.bin .eql (.t 10) (.c (.sc (.float .f64 0)))),zM 12 11,zm 13 12 false 0,zg 14 12 false (.call 242 [(.t 13),(.c (.int .i64 0))]),zO 15 12 14,zM 16 15,zm 17 16 false 0,zg 18 16 false (.call 243 [(.t 17)]),zO 19 16 18,zM 20 19,zm 21 20 false 1,zg 22 20 false (.call 243 [(.t 21)]),zO 23 20 22] none)
 (.cond (.t 23) (.seq (.reg [zG 24 (.call 244 []),zM 4 24] none)
 .ret) .skip))
 (.seq (.reg [zM 25 1,zG 26 (.call 245 [(.t 25)]),zM 1 26] none)
 (.seq (.reg [zM 28 1,zG 29 (.call 246 [(.t 28)]),zM 27 29,zE 30 27 0,zE 31 27 1,zM 5 30,zM 6 31] none)
 (.seq (.reg [zM 32 0,zM 7 32] none)
 (.seq (.seq (.reg [zM 33 0,zG 34 (.bin .lss (.t 33) (.c (.sc (.float .f64 0))))] none)
 (.cond (.t 34) (.reg [zM 35 0,zG 36 (.un .neg (.t 35)),zM 7 36] none) .skip))
 (.seq (.block 0 (.loop (.seq (.seq (.reg [zM 37 7,zM 38 1,zG 39 (.bin .geq (.t 37) (.t 38))] none)
 (.cond (.t 39) .skip (.exit 0)))
 (.block 1 (.seq (.reg [zM 41 7,zG 42 (.call 246 [(.t 41)]),zM 40 42,zE 43 40 0,zE 44 40 1,zM 8 43,zM 9 44] none)
 (.seq (.seq (.reg [zM 45 8,zM 46 5,zG 47 (.bin .lss (.t 45) (.t 46))] none)
 (.cond (.t 47) (.reg [zM 48 9,zG 49 (.bin .sub (.t 48) (.c (.int .i64 1))),zM 9 49] none) .skip))
 (.reg [zM 50 7,zM 51 1,zM 52 9,zM 53 6,zG 54 (.bin .sub (.t 52) (.t 53)),zG 55 (.call 247 [(.t 51),(.t 54)]),zG 56 (.bin .sub (.t 50) (.t 55)),zM 7 56] none)))))))
 (.seq (.seq (.reg [zM 57 0,zG 58 (.bin .lss (.t 57) (.c (.sc (.float .f64 0))))] none)
 (.cond (.t 58) (.reg [zM 59 7,zG 60 (.un .neg (.t 59)),zM 7 60] none) .skip))
 (.seq (.reg [zM 61 7,zM 4 61] none)
 .ret)))))))))
theorem f241:aG Tryz.prog 241 62 BU [.tmp 4]:=⟨_,Tryz.func241,rfl,by kernel_rfl,rfl⟩
def BV:AC:=(.seq (.reg [zG 4 (.mov (.c (.bool false)))] none)
 (.seq (.seq (.reg [zM 5 1,zG 6 (.bin .eql (.t 5) (.c (.int .i64 0)))] none)
 (.cond (.t 6) (.reg [zM 7 0,zG 8 (.call 245 [(.t 7)]),zM 0 8] none) (.seq (.reg [zM 9 1,zG 10 (.bin .lss (.t 9) (.c (.int .i64 0)))] none)
 (.cond (.t 10) (.reg [zM 11 0,zG 12 (.un .neg (.t 11)),zM 0 12] none) .skip))))
 (.seq (.reg [zM 13 0,zG 14 (.bin .gtr (.t 13) (.c (.sc (.float .f64 9218868437227405311)))),zM 4 14] none)
 .ret)))
theorem f242:aG Tryz.prog 242 15 BV [.tmp 4]:=⟨_,Tryz.func242,rfl,by kernel_rfl,rfl⟩
def BW:AC:=(.seq (.reg [zG 2 (.mov (.c (.bool false)))] none)
 (.seq (.reg [zM 3 0,zM 4 0,zG 5 (.bin .neq (.t 3) (.t 4)),zM 2 5] none)
 .ret))
theorem f243:aG Tryz.prog 243 6 BW [.tmp 2]:=⟨_,Tryz.func243,rfl,by kernel_rfl,rfl⟩
def DB:AC:=(.seq (.reg [zG 0 (.mov (.c (.sc (.float .f64 0))))] none)
 (.seq (.reg [zG 1 (.raw .fofbits [(.c (.int .u64 9221120237041090561))]),zM 0 1] none)
 .ret))
theorem f244:aG Tryz.prog 244 2 DB [.tmp 0]:=⟨_,Tryz.func244,rfl,by kernel_rfl,rfl⟩
def BX:AC:=(.seq (.reg [zG 2 (.mov (.c (.sc (.float .f64 0))))] none)
 (.seq (.reg [zM 3 0,zG 4 (.raw .fbits [(.t 3)]),zG 5 (.bin .andNot (.t 4) (.c (.int .u64 9223372036854775808))),zG 6 (.raw .fofbits [(.t 5)]),zM 2 6] none)
 .ret))
theorem f245:aG Tryz.prog 245 7 BX [.tmp 2]:=⟨_,Tryz.func245,rfl,by kernel_rfl,rfl⟩
def BY:AC:=(.seq (.reg [zG 2 (.mov (.c (.sc (.float .f64 0)))),zG 3 (.mov (.c (.int .i64 0)))] none)
 (.seq (.cond (.c (.bool false)) (.seq (.reg [zM 4 0,zG 5 (.call 250 [(.t 4)]),zE 6 5 0,zE 7 5 1,zM 2 6,zM 3 7] none)
 .ret) .skip)
 (.seq (.reg [zM 8 0,zG 9 (.call 251 [(.t 8)]),zE 10 9 0,zE 11 9 1,zM 2 10,zM 3 11] none)
 .ret)))
theorem f246:aG Tryz.prog 246 12 BY [.tmp 2,.tmp 3]:=⟨_,Tryz.func246,rfl,by kernel_rfl,rfl⟩
def BZ:AC:=(.seq (.reg [zG 4 (.mov (.c (.sc (.float .f64 0))))] none)
 (.seq (.cond (.c (.bool false)) (.seq (.reg [zM 5 0,zM 6 1,zG 7 (.call 252 [(.t 5),(.t 6)]),zM 4 7] none)
 .ret) .skip)
 (.seq (.reg [zM 8 0,zM 9 1,zG 10 (.call 253 [(.t 8),(.t 9)]),zM 4 10] none)
 .ret)))
theorem f247:aG Tryz.prog 247 11 BZ [.tmp 4]:=⟨_,Tryz.func247,rfl,by kernel_rfl,rfl⟩
def DC:AC:=(.seq (.reg [zG 2 (.mov (.c (.sc (.float .f64 0)))),zG 3 (.mov (.c (.int .i64 0)))] none)
 (.reg [zG 4 (.ifc 9 (.c (.str [110,111,116,32,105,109,112,108,101,109,101,110,116,101,100]))),zH (.pan (.t 4))] none))
theorem f250:aG Tryz.prog 250 5 DC [.tmp 2,.tmp 3]:=⟨_,Tryz.func250,rfl,by kernel_rfl,rfl⟩
def B0:AC:=(.seq (.reg [zG 2 (.mov (.c (.sc (.float .f64 0)))),zG 3 (.mov (.c (.int .i64 0)))] none)
 (.seq (.block 0 (.seq (.reg [zM 6 0,zG 7 (.bin .eql (.t 6) (.c (.sc (.float .f64 0)))),zM 5 7] none)
 (.cond (.t 5) (.seq (.reg [zM 8 0,zM 2 8,zG 3 (.mov (.c (.int .i64 0)))] none)
 .ret) (.seq (.reg [zM 10 0,zG 11 (.call 242 [(.t 10),(.c (.int .i64 0))]),zM 12 11,zm 13 12 false 0,zg 14 12 false (.call 243 [(.t 13)]),zO 15 12 14,zM 9 15] none)
 (.cond (.t 9) (.seq (.reg [zM 16 0,zM 2 16,zG 3 (.mov (.c (.int .i64 0)))] none)
 .ret) .skip)))))
 (.seq (.reg [zM 18 0,zG 19 (.call 254 [(.t 18)]),zM 17 19,zE 20 17 0,zE 21 17 1,zM 0 20,zM 3 21] none)
 (.seq (.reg [zM 22 0,zG 23 (.raw .fbits [(.t 22)]),zM 4 23] none)
 (.seq (.reg [zM 24 3,zM 25 4,zG 26 (.bin .shr (.t 25) (.c (.int .u64 52))),zG 27 (.bin .and (.t 26) (.c (.int .u64 2047))),zG 28 (.conv (.toInt .i64) (.t 27)),zG 29 (.bin .sub (.t 28) (.c (.int .i64 1023))),zG 30 (.bin .add (.t 29) (.c (.int .i64 1))),zG 31 (.bin .add (.t 24) (.t 30)),zM 3 31] none)
 (.seq (.reg [zM 32 4,zG 33 (.bin .andNot (.t 32) (.c (.int .u64 9218868437227405312))),zM 4 33] none)
 (.seq (.reg [zM 34 4,zG 35 (.bin .or (.t 34) (.c (.int .u64 4602678819172646912))),zM 4 35] none)
 (.seq (.reg [zM 36 4,zG 37 (.raw .fofbits [(.t 36)]),zM 2 37] none)
 .ret))))))))
theorem f251:aG Tryz.prog 251 38 B0 [.tmp 2,.tmp 3]:=⟨_,Tryz.func251,rfl,by kernel_rfl,rfl⟩
def DD:AC:=(.seq (.reg [zG 4 (.mov (.c (.sc (.float .f64 0))))] none)
 (.reg [zG 5 (.ifc 9 (.c (.str [110,111,116,32,105,109,112,108,101,109,101,110,116,101,100]))),zH (.pan (.t 5))] none))
theorem f252:aG Tryz.prog 252 6 DD [.tmp 4]:=⟨_,Tryz.func252,rfl,by kernel_rfl,rfl⟩
def B1:AC:=(.seq (.reg [zG 4 (.mov (.c (.sc (.float .f64 0))))] none)
 (.seq (.block 0 (.seq (.reg [zM 9 0,zG 10 (.bin .eql (.t 9) (.c (.sc (.float .f64 0)))),zM 8 10] none)
 (.cond (.t 8) (.seq (.reg [zM 11 0,zM 4 11] none)
 .ret) (.seq (.reg [zM 13 0,zG 14 (.call 242 [(.t 13),(.c (.int .i64 0))]),zM 15 14,zm 16 15 false 0,zg 17 15 false (.call 243 [(.t 16)]),zO 18 15 17,zM 12 18] none)
 (.cond (.t 12) (.seq (.reg [zM 19 0,zM 4 19] none)
 .ret) .skip)))))
 (.seq (.reg [zM 21 0,zG 22 (.call 254 [(.t 21)]),zM 20 22,zE 23 20 0,zE 24 20 1,zM 0 23,zM 5 24] none)
 (.seq (.reg [zM 25 1,zM 26 5,zG 27 (.bin .add (.t 25) (.t 26)),zM 1 27] none)
 (.seq (.reg [zM 28 0,zG 29 (.raw .fbits [(.t 28)]),zM 6 29] none)
 (.seq (.reg [zM 30 1,zM 31 6,zG 32 (.bin .shr (.t 31) (.c (.int .u64 52))),zG 33 (.conv (.toInt .i64) (.t 32)),zG 34 (.bin .and (.t 33) (.c (.int .i64 2047))),zG 35 (.bin .sub (.t 34) (.c (.int .i64 1023))),zG 36 (.bin .add (.t 30) (.t 35)),zM 1 36] none)
 (.seq (.seq (.reg [zM 37 1,zG 38 (.bin .lss (.t 37) (.c (.int .i64 (-1075))))] none)
 (.cond (.t 38) (.seq (.reg [zM 39 0,zG 40 (.call 255 [(.c (.sc (.float .f64 0))),(.t 39)]),zM 4 40] none)
 .ret) .skip))
 (.seq (.seq (.reg [zM 41 1,zG 42 (.bin .gtr (.t 41) (.c (.int .i64 1023)))] none)
 (.cond (.t 42) (.seq (.seq (.reg [zM 43 0,zG 44 (.bin .lss (.t 43) (.c (.sc (.float .f64 0))))] none)
 (.cond (.t 44) (.seq (.reg [zG 45 (.call 256 [(.c (.int .i64 (-1)))]),zM 4 45] none)
 .ret) .skip))
 (.seq (.reg [zG 46 (.call 256 [(.c (.int .i64 1))]),zM 4 46] none)
 .ret)) .skip))
 (.seq (.reg [zG 7 (.mov (.c (.sc (.float .f64 4607182418800017408))))] none)
 (.seq (.seq (.reg [zM 47 1,zG 48 (.bin .lss (.t 47) (.c (.int .i64 (-1022))))] none)
 (.cond (.t 48) (.seq (.reg [zM 49 1,zG 50 (.bin .add (.t 49) (.c (.int .i64 53))),zM 1 50] none)
 (.reg [zG 7 (.mov (.c (.sc (.float .f64 4368491638549381120))))] none)) .skip))
 (.seq (.reg [zM 51 6,zG 52 (.bin .andNot (.t 51) (.c (.int .u64 9218868437227405312))),zM 6 52] none)
 (.seq (.reg [zM 53 6,zM 54 1,zG 55 (.bin .add (.t 54) (.c (.int .i64 1023))),zG 56 (.conv (.toInt .u64) (.t 55)),zG 57 (.bin .shl (.t 56) (.c (.int .u64 52))),zG 58 (.bin .or (.t 53) (.t 57)),zM 6 58] none)
 (.seq (.reg [zM 59 7,zM 60 6,zG 61 (.raw .fofbits [(.t 60)]),zG 62 (.bin .mul (.t 59) (.t 61)),zM 4 62] none)
 .ret)))))))))))))
theorem f253:aG Tryz.prog 253 63 B1 [.tmp 4]:=⟨_,Tryz.func253,rfl,by kernel_rfl,rfl⟩
def B2:AC:=(.seq (.reg [zG 2 (.mov (.c (.sc (.float .f64 0)))),zG 3 (.mov (.c (.int .i64 0)))] none)
 (.seq (.seq (.reg [zM 4 0,zG 5 (.call 245 [(.t 4)]),zG 6 (.bin .lss (.t 5) (.c (.sc (.float .f64 4503599627370496))))] none)
 (.cond (.t 6) (.seq (.reg [zM 7 0,zG 8 (.bin .mul (.t 7) (.c (.sc (.float .f64 4841369599423283200)))),zM 2 8,zG 3 (.mov (.c (.int .i64 (-52))))] none)
 .ret) .skip))
 (.seq (.reg [zM 9 0,zM 2 9,zG 3 (.mov (.c (.int .i64 0)))] none)
 .ret)))
theorem f254:aG Tryz.prog 254 10 B2 [.tmp 2,.tmp 3]:=⟨_,Tryz.func254,rfl,by kernel_rfl,rfl⟩
def DE:AC:=(.seq (.reg [zG 4 (.mov (.c (.sc (.float .f64 0))))] none)
 (.seq (.reg [zM 5 0,zG 6 (.raw .fbits [(.t 5)]),zG 7 (.bin .andNot (.t 6) (.c (.int .u64 9223372036854775808))),zM 8 1,zG 9 (.raw .fbits [(.t 8)]),zG 10 (.bin .and (.t 9) (.c (.int .u64 9223372036854775808))),zG 11 (.bin .or (.t 7) (.t 10)),zG 12 (.raw .fofbits [(.t 11)]),zM 4 12] none)
 .ret))
theorem f255:aG Tryz.prog 255 13 DE [.tmp 4]:=⟨_,Tryz.func255,rfl,by kernel_rfl,rfl⟩
def DF:AC:=(.seq (.reg [zG 2 (.mov (.c (.sc (.float .f64 0))))] none)
 (.seq (.reg [zG 3 (.mov (.c (.int .u64 0)))] none)
 (.seq (.seq (.reg [zM 4 0,zG 5 (.bin .geq (.t 4) (.c (.int .i64 0)))] none)
 (.cond (.t 5) (.reg [zG 3 (.mov (.c (.int .u64 9218868437227405312)))] none) (.reg [zG 3 (.mov (.c (.int .u64 18442240474082181120)))] none)))
 (.seq (.reg [zM 6 3,zG 7 (.raw .fofbits [(.t 6)]),zM 2 7] none)
 .ret))))
theorem f256:aG Tryz.prog 256 8 DF [.tmp 2]:=⟨_,Tryz.func256,rfl,by kernel_rfl,rfl⟩
end Go.Proofs.YtjnoobmaedgooaaGreat.C
end
section
set_option maxRecDepth 100000
namespace Go.Proofs.YtjnoobmaedgooaaGreat.C
open Go.Av
def DG:FT:=
 (.node 143 ⟨34,C6,[]⟩ (.node 82 ⟨24,c82,[.tmp 6]⟩ (.node 40 ⟨58,c40,[.tmp 2,.tmp 3]⟩ (.node 35 ⟨4,c35,[.cell 0 (some 1)]⟩ (.node 13 ⟨45,c13,[.tmp 2,.tmp 3]⟩ (.node 11 ⟨77,c11,[.tmp 2,
 .tmp 3]⟩ (.node 10 ⟨72,c10,[.tmp 0]⟩ .leaf .leaf) .leaf) (.node 23 ⟨28,c23,[.tmp 4,.tmp 5]⟩ (.node 15 ⟨56,c15,[.tmp 2]⟩ .leaf .leaf) .leaf)) (.node 38 ⟨9,c38,[.tmp 4]⟩ (.node 37 ⟨9,c37,
 [.tmp 4]⟩ (.node 36 ⟨9,c36,[.tmp 4]⟩ .leaf .leaf) .leaf) (.node 39 ⟨11,c39,[.tmp 4]⟩ .leaf .leaf))) (.node 46 ⟨10,c46,[.tmp 4]⟩ (.node 44 ⟨4,c44,[.tmp 2]⟩ (.node 42 ⟨30,c42,[.tmp 2]⟩
 (.node 41 ⟨9,c41,[.tmp 4]⟩ .leaf .leaf) .leaf) (.node 45 ⟨14,c45,[]⟩ .leaf .leaf)) (.node 51 ⟨88,c51,[.tmp 2]⟩ (.node 50 ⟨49,c50,[.tmp 2]⟩ (.node 49 ⟨15,c49,[.tmp 2,.tmp 3]⟩ .leaf .leaf)
 .leaf) (.node 69 ⟨100,c69,[.tmp 4]⟩ .leaf .leaf)))) (.node 100 ⟨26,xD,[.tmp 2]⟩ (.node 92 ⟨15,c92,[.cell 4 (some 3)]⟩ (.node 85 ⟨20,c85,[.tmp 2]⟩ (.node 84 ⟨24,c84,[.tmp 6]⟩ (.node 83
 ⟨24,c83,[.tmp 6]⟩ .leaf .leaf) .leaf) (.node 91 ⟨86,c91,[]⟩ (.node 86 ⟨23,c86,[.tmp 6]⟩ .leaf .leaf) .leaf)) (.node 95 ⟨8,c95,[.tmp 2]⟩ (.node 94 ⟨148,c94,[]⟩ (.node 93 ⟨30,c93,[.tmp 2,
 .tmp 3]⟩ .leaf .leaf) .leaf) (.node 96 ⟨20,c96,[.tmp 4]⟩ .leaf .leaf))) (.node 138 ⟨40,BG,[.tmp 2,.tmp 3]⟩ (.node 130 ⟨32,BE,[.tmp 2]⟩ (.node 118 ⟨26,CX,[.tmp 2]⟩ (.node 101 ⟨35,
 BD,[.tmp 2]⟩ .leaf .leaf) .leaf) (.node 131 ⟨55,BF,[.tmp 4]⟩ .leaf .leaf)) (.node 141 ⟨67,C4,[]⟩ (.node 140 ⟨60,CZ,[]⟩ (.node 139 ⟨53,CY,[]⟩ .leaf .leaf) .leaf) (.node 142 ⟨63,
 C5,[.tmp 8,.tmp 9]⟩ .leaf .leaf))))) (.node 211 ⟨49,BQ,[.tmp 4]⟩ (.node 178 ⟨38,BK,[.tmp 2,.tmp 3]⟩ (.node 149 ⟨6,Dd,[.tmp 2]⟩ (.node 146 ⟨178,Da,[.tmp 10,.tmp 11]⟩ (.node 145
 ⟨90,C8,[.tmp 10]⟩ (.node 144 ⟨141,C7,[.tmp 8]⟩ .leaf .leaf) .leaf) (.node 148 ⟨25,Dc,[.tmp 2]⟩ (.node 147 ⟨19,Db,[.tmp 2]⟩ .leaf .leaf) .leaf)) (.node 176 ⟨5,BI,[.cell 2 (some
 3)]⟩ (.node 175 ⟨22,o6,[.tmp 2]⟩ (.node 150 ⟨27,BH,[.cell 2 (some 2)]⟩ .leaf .leaf) .leaf) (.node 177 ⟨11,BJ,[.cell 4 (some 3)]⟩ .leaf .leaf))) (.node 193 ⟨41,Dp,[.tmp 12]⟩ (.node
 191 ⟨33,Dm,[.tmp 2]⟩ (.node 190 ⟨7,Dl,[.tmp 2]⟩ (.node 189 ⟨82,Dk,[]⟩ .leaf .leaf) .leaf) (.node 192 ⟨18,Dn,[.tmp 8]⟩ .leaf .leaf)) (.node 196 ⟨10,BO,[.cell 2 (some 2)]⟩ (.node
 195 ⟨10,BN,[.tmp 2]⟩ (.node 194 ⟨33,BM,[.tmp 4]⟩ .leaf .leaf) .leaf) (.node 210 ⟨16,BP,[.tmp 2]⟩ .leaf .leaf)))) (.node 245 ⟨7,BX,[.tmp 2]⟩ (.node 240 ⟨6,DA,[.tmp 4]⟩ (.node 228
 ⟨26,BS,[.tmp 6]⟩ (.node 218 ⟨10,BR,[.tmp 2]⟩ (.node 217 ⟨32,Du,[.tmp 10,.tmp 11]⟩ .leaf .leaf) .leaf) (.node 233 ⟨11,BT,[.tmp 4]⟩ .leaf .leaf)) (.node 243 ⟨6,BW,[.tmp 2]⟩ (.node
 242 ⟨15,BV,[.tmp 4]⟩ (.node 241 ⟨62,BU,[.tmp 4]⟩ .leaf .leaf) .leaf) (.node 244 ⟨2,DB,[.tmp 0]⟩ .leaf .leaf))) (.node 252 ⟨6,DD,[.tmp 4]⟩ (.node 250 ⟨5,DC,[.tmp 2,.tmp 3]⟩
 (.node 247 ⟨11,BZ,[.tmp 4]⟩ (.node 246 ⟨12,BY,[.tmp 2,.tmp 3]⟩ .leaf .leaf) .leaf) (.node 251 ⟨38,B0,[.tmp 2,.tmp 3]⟩ .leaf .leaf)) (.node 255 ⟨13,DE,[.tmp 4]⟩ (.node 254 ⟨10,
 B2,[.tmp 2,.tmp 3]⟩ (.node 253 ⟨63,B1,[.tmp 4]⟩ .leaf .leaf) .leaf) (.node 256 ⟨8,DF,[.tmp 2]⟩ .leaf .leaf))))))
theorem tI:DG.Ok Tryz.prog:=
 ⟨f143,⟨f82,⟨f40,⟨f35,⟨f13,⟨f11,⟨f10,trivial,trivial⟩,trivial⟩,⟨f23,⟨f15,trivial,trivial⟩,trivial⟩⟩,⟨f38,⟨f37,⟨f36,trivial,trivial⟩,trivial⟩,⟨f39,trivial,trivial⟩⟩⟩,⟨f46,⟨f44,
 ⟨f42,⟨f41,trivial,trivial⟩,trivial⟩,⟨f45,trivial,trivial⟩⟩,⟨f51,⟨f50,⟨f49,trivial,trivial⟩,trivial⟩,⟨f69,trivial,trivial⟩⟩⟩⟩,⟨f100,⟨f92,⟨f85,⟨f84,⟨f83,trivial,trivial⟩,
 trivial⟩,⟨f91,⟨f86,trivial,trivial⟩,trivial⟩⟩,⟨f95,⟨f94,⟨f93,trivial,trivial⟩,trivial⟩,⟨f96,trivial,trivial⟩⟩⟩,⟨f138,⟨f130,⟨f118,⟨f101,trivial,trivial⟩,trivial⟩,⟨f131,trivial,
 trivial⟩⟩,⟨f141,⟨f140,⟨f139,trivial,trivial⟩,trivial⟩,⟨f142,trivial,trivial⟩⟩⟩⟩⟩,⟨f211,⟨f178,⟨f149,⟨f146,⟨f145,⟨f144,trivial,trivial⟩,trivial⟩,⟨f148,⟨f147,trivial,trivial⟩,
 trivial⟩⟩,⟨f176,⟨f175,⟨f150,trivial,trivial⟩,trivial⟩,⟨f177,trivial,trivial⟩⟩⟩,⟨f193,⟨f191,⟨f190,⟨f189,trivial,trivial⟩,trivial⟩,⟨f192,trivial,trivial⟩⟩,⟨f196,⟨f195,⟨f194,
 trivial,trivial⟩,trivial⟩,⟨f210,trivial,trivial⟩⟩⟩⟩,⟨f245,⟨f240,⟨f228,⟨f218,⟨f217,trivial,trivial⟩,trivial⟩,⟨f233,trivial,trivial⟩⟩,⟨f243,⟨f242,⟨f241,trivial,trivial⟩,trivial⟩,
 ⟨f244,trivial,trivial⟩⟩⟩,⟨f252,⟨f250,⟨f247,⟨f246,trivial,trivial⟩,trivial⟩,⟨f251,trivial,trivial⟩⟩,⟨f255,⟨f254,⟨f253,trivial,trivial⟩,trivial⟩,⟨f256,trivial,trivial⟩⟩⟩⟩⟩⟩
theorem mz:DG.named Tryz.prog=true:=by kernel_rfl
end Go.Proofs.YtjnoobmaedgooaaGreat.C
end
section
set_option maxRecDepth 100000
namespace Go.Proofs.YtjnoobmaedgooaaGreat.Arch
open Go Go.Av Go.Proofs Go.Proofs.YtjnoobmaedgooaaGreat.C
theorem wrap32 {n:Nat} (h:n<4294967296):IntKind.u32.wrap (n:Int)=n:=by
 simp[IntKind.wrap,IntKind.bits,IntKind.signed];omega
theorem ofInt32 {n:Nat} (h:n<4294967296):(BitVec.ofInt IntKind.u32.bits (n:Int)).toNat=n:=by
 rw[BitVec.ofInt_natCast,BitVec.toNat_ofNat]
 exact Nat.mod_eq_of_lt h
theorem mA {a b:Nat} (ha:a<4294967296) (hb:b<4294967296):jt .u32 (a:Int) (b:Int)=((a ^^^ b:Nat):Int):=by
 unfold jt
 rw[BitVec.toNat_xor,ofInt32 ha,ofInt32 hb]
 exact wrap32 (Nat.xor_lt_two_pow (n:=32) ha hb)
theorem DH {a b:Nat} (ha:a<4294967296) (hb:b<4294967296):ng .u32 (a:Int) (b:Int)=((a &&& b:Nat):Int):=by
 unfold ng
 rw[BitVec.toNat_and,ofInt32 ha,ofInt32 hb]
 exact wrap32 (Nat.and_lt_two_pow (n:=32) a hb)
theorem DJ {a:Nat} (ha:a<4294967296):ng .u32 (a:Int) 1=((a%2:Nat):Int):=by
 rw[show (1:Int)=((1:Nat):Int) from rfl,DH ha (by decide),Nat.and_one_is_mod]
def qo (c:Nat):Nat:=if c%2=1 then (c/2) ^^^ 2197175160 else c/2
def itN:Nat→Nat→Nat
 |0,c=>c
 |k+1,c=>qo (itN k c)
theorem Aj {c:Nat} (h:c<4294967296):qo c<4294967296:=by
 unfold qo
 split
 ·exact Nat.xor_lt_two_pow (n:=32) (by omega) (by decide)
 ·omega
theorem o7 {c:Nat} (h:c<4294967296):∀k,itN k c<4294967296
 |0=>h
 |k+1=>Aj (o7 h k)
def tJ (c:Nat) (b:UInt8):Nat:=itN 8 (c ^^^ b.toNat)
theorem xE {c:Nat} (h:c<4294967296) (b:UInt8):tJ c b<4294967296:=by
 refine o7 (Nat.xor_lt_two_pow (n:=32) h ?_) 8
 have:=b.toNat_lt
 omega
def goN (l:List UInt8):Nat:=l.foldl tJ 4294967295
theorem qp:∀(l:List UInt8) (c:Nat),c<4294967296→l.foldl tJ c<4294967296
 |[],c,h=>h
 |b::l,c,h=>qp l _ (xE h b)
theorem mB (l:List UInt8):goN l<4294967296:=qp l _ (by decide)
theorem qq (l:List UInt8) (b:UInt8):goN (l++[b])=tJ (goN l) b:=by simp[goN,List.foldl_append]
def ka (l:List UInt8):Nat:=goN l ^^^ 4294967295
theorem tK (l:List UInt8):ka l<4294967296:=Nat.xor_lt_two_pow (n:=32) (mB l) (by decide)
theorem DK (c:Nat):(c:Int).fdiv (2^(min (Int.toNat 1) 32))=((c/2:Nat):Int):=by
 rw[show (min (Int.toNat 1) 32)=1 from rfl,show (2:Int)^1=2 from rfl,Int.fdiv_eq_ediv_of_nonneg _ (by decide)]
 rfl
theorem Ef:IntKind.u32.wrap (0 - ((0:Nat):Int))=0:=by decide
theorem Eg:IntKind.u32.wrap (0 - ((1:Nat):Int))=4294967295:=by decide
theorem DL {c:Nat} (h:c<4294967296):IntKind.i64.wrap (jt .u32 (if IntKind.u32.signed=true then -1 else IntKind.u32.max) (c:Int))=((c ^^^ 4294967295:Nat):Int):=by
 rw[show (if IntKind.u32.signed=true then (-1:Int) else IntKind.u32.max)=((4294967295:Nat):Int) from rfl,mA (by decide) h,Nat.xor_comm]
 have:=Nat.xor_lt_two_pow (n:=32) h (show 4294967295<2^32 by decide)
 exact IntWalk.i64_in _ (by omega)
theorem eS {l:List UInt8} {j:Nat} (h:j<l.length) (d:UInt8):l.take (j+1)=l.take j++[l.getD j d]:=by
 rw[List.take_add_one,List.getD,List.getElem?_eq_getElem h];simp
theorem xF (b:UInt8):IntKind.u32.wrap (b.toNat:Int)=(b.toNat:Int):=wrap32 (by have:=b.toNat_lt;omega)
theorem Ak (c:Nat) (h:c<4294967296):jt .u32 ((c/2:Nat):Int) (ng .u32 2197175160 (IntKind.u32.wrap (0 - ((c%2:Nat):Int))))=((qo c:Nat):Int):=by
 have h2:c/2<4294967296:=by omega
 unfold qo
 rcases Nat.mod_two_eq_zero_or_one c with e|e
 ·rw[e,Ef,show (ng .u32 2197175160 0)=((0:Nat):Int) by decide,mA h2 (by decide),if_neg (by decide),Nat.xor_zero]
 ·rw[e,Eg,show (ng .u32 2197175160 4294967295)=((2197175160:Nat):Int) by decide,mA h2 (by decide),if_pos rfl]
theorem DM (l:List UInt8) (hl:l.length≤4611686018427387904):aB Tryz.prog 42 [.sl 1 (an l) .any] (.int .i64 (ka l:Nat)):=by
 refine f42.aw (by simp) (by
  have:aA (an l)=true:=Av.aQ (fun a=>rfl) l
  simp[aA,aJ,aZ,this]) rfl ?_
 unfold c42
 simp only[C.zz]
 have hil:(an l).length=l.length:=by simp[an]
 refine rf0 hil ?_
 refine Wp.cI [6,7] xA6 (fun j:Nat=>[(3,.int .u32 (goN (l.take j):Nat)),(8,.int .i64 (j:Nat))]) (fun j=>j≤l.length) (fun j=>l.length - j) 0 (Nat.zero_le _) ?_ ?_
 ·exact xSb
 intro j hj
 by_cases hcj:j<l.length
 ·have d1:decide ((j:Int)<(l.length:Int))=true:=decide_eq_true (by omega)
  have h2:(0:Int)≤(j:Int):=Int.natCast_nonneg _
  have h3:(j:Int)<(l.length:Int):=by omega
  have e1:IntKind.i64.wrap ((j:Int)+1)=((j+1:Nat):Int):=by rw[IntWalk.i64_in _ (by omega)];omega
  have hat:∀d,(an l).getD j d=byte (l.getD j 0):=fun d=>mf l j d hcj
  have hsn:=eS hcj 0
  generalize hx:l.getD j 0=x at hat hsn
  have hlt:=mB (l.take j)
  have hx8:x.toNat<4294967296:=by have:=x.toNat_lt;omega
  have hxor:=mA hlt hx8
  have hc0:goN (l.take j) ^^^ x.toNat<4294967296:=Nat.xor_lt_two_pow (n:=32) hlt hx8
  have hwx:=xF x
  refine rf0 (kT hil d1 h2 h3 @Int.toNat_natCast @and_self hat @byte.eq_1 hxor hwx) ?_
  refine Wp.cI [6,7,8] xA6 (fun k:Nat=>[(3,.int .u32 (itN k (goN (l.take j) ^^^ x.toNat):Nat)),(16,.int .i64 (k:Nat))]) (fun k=>k≤8) (fun k=>8 - k) 0 (Nat.zero_le _) ?_ ?_
  ·exact xSb
  intro k hk
  by_cases hk8:k<8
  ·have d2:decide ((k:Int)<8)=true:=decide_eq_true (by omega)
   have e2:IntKind.i64.wrap ((k:Int)+1)=((k+1:Nat):Int):=by rw[IntWalk.i64_in _ (by omega)];omega
   have hit:=o7 hc0 k
   have hb:=Ak _ hit
   have ha:=DJ hit
   have hs1:=DK (itN k (goN (l.take j) ^^^ x.toNat))
   refine rf0 (cj5 d2 e2 hs1 ha hb) ?_
   refine ⟨k+1,by omega,by omega,?_⟩
   exact xSu
  ·obtain rfl:k=8:=by omega
   refine rf0 e1 ?_
   refine ⟨j+1,by omega,by omega,?_⟩
   refine aI.tm (by simp only[az,go_sem,reduceIte,Nat.reduceEqDiff,Nat.reduceAdd,bx];and_intros<;>first|exact trivial|exact aa.refl _|exact aa.any _|exact aa.of_eq (by rw[hsn,qq];rfl)|(refine aa.int ?_;omega))
 ·obtain rfl:j=l.length:=by omega
  have d1:decide ((l.length:Int)<(l.length:Int))=false:=decide_eq_false (by omega)
  refine rf0 d1 ?_
  refine ay ?_
  exact aa.of_eq (by rw[List.take_length,DL (mB l)];rfl)
theorem Eh {c:Nat} (h:c<4294967296):IntKind.i64.wrap (jt .u32 (c:Int) 4294967295)=((c ^^^ 4294967295:Nat):Int):=by
 rw[show (4294967295:Int)=((4294967295:Nat):Int) from rfl,mA h (by decide)]
 have:=Nat.xor_lt_two_pow (n:=32) h (show 4294967295<2^32 by decide)
 exact IntWalk.i64_in _ (by omega)
theorem B3 (l:List UInt8) (hl:l.length≤4611686018427387904):aB Tryz.prog 90 [.str l] (.int .i64 (ka l:Nat)):=by
 refine f90.aw (by simp) rfl rfl ?_
 unfold c90
 simp only[C.zz]
 refine gV ?_
 refine Wp.cI [0] xA6 (fun j:Nat=>[(3,.int .u32 (goN (l.take j):Nat)),(4,.int .i64 (j:Nat))]) (fun j=>j≤l.length) (fun j=>l.length - j) 0 (Nat.zero_le _) ?_ ?_
 ·exact xSb
 intro j hj
 by_cases hcj:j<l.length
 ·have d1:decide ((j:Int)<(l.length:Int))=true:=decide_eq_true (by omega)
  have h2:(0:Int)≤(j:Int):=Int.natCast_nonneg _
  have h3:(j:Int)<(l.length:Int):=by omega
  have e1:IntKind.i64.wrap ((j:Int)+1)=((j+1:Nat):Int):=by rw[IntWalk.i64_in _ (by omega)];omega
  have hsn:=eS hcj 0
  generalize hx:l.getD j 0=x at hsn
  have hlt:=mB (l.take j)
  have hx8:x.toNat<4294967296:=by have:=x.toNat_lt;omega
  have hxor:=mA hlt hx8
  have hc0:goN (l.take j) ^^^ x.toNat<4294967296:=Nat.xor_lt_two_pow (n:=32) hlt hx8
  have hwx:=xF x
  refine rf0 (cj9 d1 h2 h3 @Int.toNat_natCast @and_self hx @byte.eq_1 hxor hwx) ?_
  refine Wp.cI [0,4] xA6 (fun k:Nat=>[(3,.int .u32 (itN k (goN (l.take j) ^^^ x.toNat):Nat)),(5,.int .i64 (k:Nat))]) (fun k=>k≤8) (fun k=>8 - k) 0 (Nat.zero_le _) ?_ ?_
  ·exact xSb
  intro k hk
  by_cases hk8:k<8
  ·have d2:decide ((k:Int)<8)=true:=decide_eq_true (by omega)
   have e2:IntKind.i64.wrap ((k:Int)+1)=((k+1:Nat):Int):=by rw[IntWalk.i64_in _ (by omega)];omega
   have hit:=o7 hc0 k
   have ha:=DJ hit
   have hs1:=DK (itN k (goN (l.take j) ^^^ x.toNat))
   have hst:itN (k+1) (goN (l.take j) ^^^ x.toNat)=qo (itN k (goN (l.take j) ^^^ x.toNat)):=rfl
   generalize itN k (goN (l.take j) ^^^ x.toNat)=c at hit ha hs1 hst
   have hc2:c/2<4294967296:=by omega
   rcases Nat.mod_two_eq_zero_or_one c with e|e
   ·have d3:decide (((0:Nat):Int)=1)=false:=by decide
    rw[e] at ha
    refine rf0 (cj5 d2 e2 hs1 ha d3) ?_
    refine ⟨k+1,by omega,by omega,?_⟩
    refine aI.tm (by simp only[az,go_sem,reduceIte,Nat.reduceEqDiff,Nat.reduceAdd,bx];and_intros<;>first|exact trivial|exact aa.refl _|exact aa.any _|exact aa.of_eq (by rw[hst,qo,e,if_neg (by decide)])|(refine aa.int ?_;omega))
   ·have d3:decide (((1:Nat):Int)=1)=true:=by decide
    have hx2:jt .u32 ((c/2:Nat):Int) 2197175160=(((c/2) ^^^ 2197175160:Nat):Int):=mA (b:=2197175160) hc2 (by decide)
    rw[e] at ha
    refine rf0 (cj6 d2 e2 hs1 ha d3 hx2) ?_
    refine ⟨k+1,by omega,by omega,?_⟩
    refine aI.tm (by simp only[az,go_sem,reduceIte,Nat.reduceEqDiff,Nat.reduceAdd,bx];and_intros<;>first|exact trivial|exact aa.refl _|exact aa.any _|exact aa.of_eq (by rw[hst,qo,if_pos e])|(refine aa.int ?_;omega))
  ·obtain rfl:k=8:=by omega
   refine rf0 e1 ?_
   refine ⟨j+1,by omega,by omega,?_⟩
   refine aI.tm (by simp only[az,go_sem,reduceIte,Nat.reduceEqDiff,Nat.reduceAdd,bx];and_intros<;>first|exact trivial|exact aa.refl _|exact aa.any _|exact aa.of_eq (by rw[hsn,qq];rfl)|(refine aa.int ?_;omega))
 ·obtain rfl:j=l.length:=by omega
  have d1:decide ((l.length:Int)<(l.length:Int))=false:=decide_eq_false (by omega)
  refine rf0 d1 ?_
  refine ay ?_
  exact aa.of_eq (by rw[List.take_length,Eh (mB l)];rfl)
theorem nW:aB Tryz.prog 10 [] (.bool true):=ql tI mz kJ (k:=100000) (by kernel_rfl)
theorem Al:aB Tryz.prog 45 [.sl 2 [] .any,.clo (.func 46) [] []] (.tup []):=o5 tI mz kJ (k:=100000) rfl rfl (by kernel_rfl)
end Go.Proofs.YtjnoobmaedgooaaGreat.Arch
end
