/- Parts of a proof: a layer of abstract values over the model, the functions' walks, plain laws. -/
import Derived.Deep.CondSized
import Derived.IntWalk
import Derived.KernelRfl
import Derived.Laws.Append
import Derived.Laws.AppendOwn
import Derived.Laws.BytesArg
import Derived.Laws.Cover3
import Derived.Laws.Entries
import Derived.Laws.IdiomCopy
import Derived.Laws.IdiomStrings
import Derived.Laws.Pointers
import Derived.Laws.Small
import Derived.Laws.Strings
import Derived.Laws.StructEq
import Derived.MapKept
import Derived.OpenShut
import Derived.Orders
import Derived.OrdersIn
import Derived.ProofKit
import Derived.RangeFuncRecord
import Derived.RangeFuncSeq
import Derived.ReadAgain
import Derived.Scope
import Derived.Shelf.Slices.Cells
import Derived.Shelf.Slices.Delete
import Derived.Shelf.Spec.SlicesInsertGrow
import Derived.SizedLaws
import Derived.Test.YtpehfflehebmbaaGreatRows
import Derived.Test.YtpehfflehebmbaaGreatTPB
set_option linter.unusedSimpArgs false
set_option linter.unusedVariables false
section
namespace Go.Av
section
variable {P:Program} {N:Nat} {Q:aP→St→Prop}
theorem Wp.frz {c:AC} {t:Tm} {h:H} (d:Nat→Bool) (l:List (Nat × AV)) (h':H) (hs:aC (fun i=>unT h d (t i)) l) (ho:OLe (h.drop d).objs h'.objs) (hk:∀x∈h'.toks,x∈h.toks) (hn:h.n≤h'.n) (hm:h.m≤h'.m) (k:Wp P N c ⟨tm l,h'⟩ Q):Wp P N c ⟨t,h⟩ Q:=
 Wp.le (aU.trans (By t h d) (aU.trans (aU.tm hs) (aU.of (f:=(h.drop d).objs) (n:=h.n) (m:=h.m) (k:=h.toks) (fun i=>ab.refl _) ho hk hn hm))) k
theorem dF {G:aI} {f:Nat→Option Obj} {n m:Nat} (B:Nat):¬(H.only f [] n m).T G B:=fun ⟨t,ht,_⟩=>by simp[H.only] at ht
theorem aA.look {f:FuncId} {xs args:List AV} {r:AV} (hc:aA P f (.sl 1 xs .any::args) r) (hr:∀G G' w v,ah G w r v→ah G' w r v) (c:Option Nat) (id:Nat):iI P f (.tsl 1 id 0 xs.length c::args) (upd ag id (some (.cells xs))) r:=by
 intro n m G w vs hv R F
 have ho:(H.only (upd ag id (some (.cells xs))) [] n m).objs id=some (.cells xs):=by simp[H.only,upd]
 have hv':aq (G.frz (H.only (upd ag id (some (.cells xs))) [] n m) fun _=>true) w (.sl 1 xs .any::args) vs:=by
  simp only[aq] at hv ⊢
  obtain ⟨v,us,e,h1,h2⟩:=hv
  refine ⟨v,us,e,?_,aq.mono R (bw _) _ _ h2⟩
  have:=mT R (d:=fun _=>true) ho rfl (by omega) h1
  simpa using this
 refine (hc n m _ w vs hv' eA ⟨fun j h1 h2=>by simp only[H0,H.only] at h1 h2;omega,fun j h1 h2=>by simp only[H0,H.only] at h1 h2;omega⟩).mono ?_
 rintro e w' ⟨v,G',rfl,T,R',V⟩
 obtain ⟨q1,q2,q3,q4⟩:=R.obj id _ ho
 have hne:∀B,¬(H.only (upd ag id (some (.cells xs))) [] n m).O G B→B≠G.ι id:=fun B h1 e=>h1 ⟨id,_,ho,e.symm⟩
 have hDO:∀B,¬(H.only (upd ag id (some (.cells xs))) [] n m).O G B→¬(H.only (upd ag id (some (.cells xs))) [] n m).DO G (fun _=>true) B:=fun B h1 h2=>h1 (vD h2)
 have hT:∀{G:aI} B,¬(H0 n m).T G B:=fun B ⟨t,ht,_⟩=>by simp[H0,H.only] at ht
 let G3:aI:={own:=fun B=>B=G.ι id∨G'.own B,lim:=fun B=>if B=G.ι id then G.lim B else G'.lim B,dom:=G.dom,ι:=G.ι,tdom:=G.tdom,τ:=G.τ}
 have T3:Trans G w (H.only (upd ag id (some (.cells xs))) [] n m) G3 w' (H.only (upd ag id (some (.cells xs))) [] n m):=by
  constructor
  ·exact fun _ x=>x
  ·exact fun _=> .inl
  ·exact fun _ _=>rfl
  ·exact fun _ x=>x
  ·exact fun _=> .inl
  ·exact fun _ _=>rfl
  ·exact Nat.le_refl _
  ·exact Nat.le_refl _
  ·exact T.size_le
  ·exact T.os
  ·exact T.output
  ·exact T.form
  ·exact fun B hB _ _=>T.keep B hB (cr B) (hT B)
  ·intro B hB h1
   have e1:=T.own_keep B hB (cr B)
   have e2:=hDO B h1
   have e3:=hne B h1
   simp only[G3,e3,false_or,e1,aI.frz,e2,not_false_eq_true,and_true]
  ·intro B hB h1 _
   have e1:=T.lim_keep B hB (cr B) (hT B)
   have e2:=hDO B h1
   have e3:=hne B h1
   simp only[G3,e3,if_false,e1,aI.frz,e2]
  ·exact fun B hB x=>absurd x (dF B)
  ·exact fun B _ x=>x
  ·exact fun B _ x=>absurd x (dF B)
  ·exact fun j o x=> .inl ⟨o,x⟩
  ·exact fun t x=>by simp[H.only] at x
 refine ⟨v,G3,rfl,T3,?_,hr G' G3 w' v V⟩
 refine ⟨fun j o hj=>?_,fun i j o o' a b e=>R.inj _ _ _ _ a b e,fun t ht=>by simp[H.only] at ht,fun t ht=>by simp[H.only] at ht⟩
 obtain ⟨p1,p2,p3,p4⟩:=R.obj j o hj
 have hj':j=id:=by
  simp only[H.only,upd,ag] at hj
  split at hj
  ·assumption
  ·cases hj
 subst hj'
 refine ⟨p1,.inl rfl,Nat.lt_of_lt_of_le p3 T.size_le,?_⟩
 have hk:w'.heap[G.ι j]? =w.heap[G.ι j]? :=T.keep _ p3 (cr _) (hT _)
 show kH G3 w' o w'.heap[G.ι j]?
 rw[hk]
 cases o with
 |cells cs=>
  obtain ⟨vs,rest,T',fr,y1,y2,y3⟩:=p4
  exact ⟨vs,rest,T',fr,y1,aq.mono R T3 _ _ y2,y3⟩
 |map es=>
  obtain ⟨en,clock,y1,y2⟩:=p4
  exact ⟨en,clock,y1,Entries.mono R T3 _ _ y2⟩
 |loop N t ps asg body st pend=>
  obtain ⟨r,y1,y2,y3,y4⟩:=p4
  exact ⟨r,y1,y2,fun i=>ah.mono R T3 _ _ (y3 i),y4⟩
def qb (P:Program) (f:FuncId) (cells:List AV) (len:Nat) (args:List AV) (r:AV):Prop:=
 ∀id n m,id<n→bn P f (.tsl 1 id 0 len none::args) (.only (upd ag id (some (.cells cells))) [] n m) r (H0 n m)
theorem aM.xm {f:FuncId} {ac:AC} {cells args:List AV} {len:Nat} {ds:List RV} {r:AV} (hF:aM P f N ac ds) (hl:args.length+1≤N) (hcp:al cells=true) (ha:al args=true) (hp:av r=true)
  (hw:Wp P N ac ⟨gv (.tsl 1 0 0 len none::args),.only (upd ag 0 (some (.cells cells))) [] 1 0⟩ fun e s'=>gw e∧∃q,bR ds s'.t s'.h=some q∧ab (unT s'.h (fun _=>true) q) r):qb P f cells len args r:=by
 obtain ⟨r',h',hcall0,hs⟩:=hF.iH (Q:=fun r' h'=>ab (unT h' (fun _=>true) r') r) (by simpa using hl) hw
 have hcall:=hcall0.frz (fun _=>true)
 intro id n m hid G w vs hv R F
 have ho:(H.only (upd ag id (some (.cells cells))) [] n m).objs id=some (.cells cells):=by simp[H.only,upd]
 obtain ⟨q1,q2,q3,q4⟩:=R.obj id _ ho
 let G0:aI:={G with dom:=fun j=>j=0,ι:=fun _=>G.ι id,tdom:=fun _=>False}
 have hv0:aq G0 w (.tsl 1 0 0 len none::args) vs:=by
  simp only[aq] at hv ⊢
  obtain ⟨v,us,e,h1,h2⟩:=hv
  refine ⟨v,us,e,?_,ct _ ha G G0 w us rfl rfl h2⟩
  simp only[ah] at h1 ⊢
  exact ⟨rfl,h1.2⟩
 have R0:bf G0 (.only (upd ag 0 (some (.cells cells))) [] 1 0) w:=by
  have e0:∀{j o},(H.only (upd ag 0 (some (.cells cells))) [] 1 0).objs j=some o→j=0∧o= .cells cells:=by
   intro j o hj
   simp only[H.only,upd,ag] at hj
   split at hj
   ·cases hj;exact ⟨by assumption,rfl⟩
   ·cases hj
  refine ⟨fun j o hj=>?_,fun i j o o' a b _=>by rw[(e0 a).1,(e0 b).1],fun t ht=>by simp[H.only] at ht,fun t ht=>by simp[H.only] at ht⟩
  obtain ⟨rfl,rfl⟩:=e0 hj
  refine ⟨rfl,q2,q3,?_⟩
  obtain ⟨ws,rest,T,fr,y1,y2,y3⟩:=q4
  exact ⟨ws,rest,T,fr,y1,ct _ hcp G G0 w ws rfl rfl y2,y3⟩
 refine (hcall G0 w vs hv0 R0 ⟨fun j h1 h2 h3=>by simp only[G0] at h3;simp only[H.only] at h1;omega,fun _ _ _ h=>h⟩).mono ?_
 rintro e w' ⟨v,G',rfl,T,R',V⟩
 refine ⟨v,{G' with dom:=G.dom,ι:=G.ι,tdom:=G.tdom,τ:=G.τ},rfl,?_,eA,dN _ hp G' _ w' v rfl rfl (hs G' w' v V)⟩
 have hO:∀B,¬(H.only (upd ag id (some (.cells cells))) [] n m).O G B→¬(H.only (upd ag 0 (some (.cells cells))) [] 1 0).O G0 B:=by
  rintro B h1 ⟨j,o,a,b⟩
  exact h1 ⟨id,_,ho,b⟩
 constructor
 ·exact fun _ x=>x
 ·exact fun _=> .inl
 ·exact fun _ _=>rfl
 ·exact fun _ x=>x
 ·exact fun _=> .inl
 ·exact fun _ _=>rfl
 ·exact Nat.le_refl _
 ·exact Nat.le_refl _
 ·exact T.size_le
 ·exact T.os
 ·exact T.output
 ·exact T.form
 ·exact fun B hB h1 _=>T.keep B hB (hO B h1) (dF B)
 ·exact fun B hB h1=>T.own_keep B hB (hO B h1)
 ·exact fun B hB h1 _=>T.lim_keep B hB (hO B h1) (dF B)
 ·exact fun B hB x=>absurd x (dF B)
 ·exact fun B _ x=>absurd x (cr B)
 ·exact fun B _ x=>absurd x (dF B)
 ·exact fun j o x=>by simp[H0,H.only,ag] at x
 ·exact fun t x=>by simp[H0,H.only] at x
theorem aa.nD {dst:Option Nat} {g:Option (Nat × Bool)} {f:FuncId} {l:List Opd} {its:List aO} {t:Tm} {h:H} {log:List Ent} {K:Tm→H→List Ent→Prop} {cells args:List AV} {len:Nat} {r:AV} (id:Nat) (hg:guardOf t g=some true) (hs:af (l.map (ev t)) (.tsl 1 id 0 len none::args))
  (hc:qb P f cells len args r) (ho:h.objs id=some (.cells cells)) (hid:id<h.n)
  (rest:aa P N its (cL t dst r) {h with objs:=fun j=>if j=id then none else h.objs j} (⟨[],[id],[]⟩::log) K):aa P N (⟨dst,g,.call f l⟩::its) t h log K:=
 aa.eR hg hs (hc id h.n h.m hid) (s7 h ho) rest
def H.aZ (h:H) (id:Nat) (o:Obj):H:={h with objs:=upd (fun j=>if j=id then none else h.objs j) h.n (some o),n:=h.n+1}
theorem jM {G:aI} {h:H} {w w':World} {id B C:Nat} {cs xs:List AV} {vs rest:List Value} {T0:TypeId} {fr:Nat × Nat} (R:bf G h w) (ho:h.objs id=some (.cells cs)) (ht:h.toks=[]) (hn:¬G.dom h.n) (hs:w.heap.size≤w'.heap.size) (hos:w'.os=w.os) (hou:w'.output=w.output)
  (hk:∀b,b<w.heap.size→b≠G.ι id→w'.heap[b]? =w.heap[b]?) (hf:bE w.heap[G.ι id]? w'.heap[G.ι id]?) (hB:B=G.ι id∨w.heap.size≤B) (hC:xs.length≤C∧C≤9223372036854775807) (hl:vs.length=xs.length) (hE:∀G w,aq G w xs vs)
  (h1:∀v∈vs,One v) (hg:w'.heap[B]? =some (.cells (vs++rest).toArray T0 fr)) (hroom:C≤vs.length+rest.length) (hfr:fr.1=fr.2):
  ∃G',Trans G w h G' w' (h.aZ id (.cells xs))∧bf G' (h.aZ id (.cells xs)) w'∧ah G' w' (.tsl 1 h.n 0 xs.length none) (.slice (some ⟨B,0,none⟩) xs.length C):=by
 obtain ⟨i1,i2,i3,i4⟩:=R.obj id _ ho
 let G':aI:={G with dom:=fun j=>G.dom j∨j=h.n,ι:=upd G.ι h.n B,own:=fun b=>b=B∨(G.own b∧b≠G.ι id∧b<w.heap.size),lim:=fun b=>if b=G.ι id∨w.heap.size≤b then none else G.lim b}
 have hO:∀b,¬h.O G b→b≠G.ι id:=fun b hh e=>hh ⟨id,_,ho,e.symm⟩
 have hOB:∀b,b<w.heap.size→¬h.O G b→b≠B:=by
  intro b hb hh e
  rcases hB with e'|e'
  ·exact hO b hh (e.trans e')
  ·omega
 have hιn:G'.ι h.n=B:=by simp[G',upd]
 have hι:∀j,j≠h.n→G'.ι j=G.ι j:=fun j hj=>by simp[G',upd,hj]
 have hd:∀{j o},(h.aZ id (.cells xs)).objs j=some o→(j=h.n∧o= .cells xs)∨(j≠h.n∧h.objs j=some o∧j≠id):=by
  intro j o a
  simp only[H.aZ,upd] at a
  split at a
  ·cases a;exact .inl ⟨by assumption,rfl⟩
  ·rename_i e
   split at a
   ·cases a
   ·exact .inr ⟨e,a,‹_›⟩
 have T:Trans G w h G' w' (h.aZ id (.cells xs)):=by
  constructor
  ·exact fun _ x=> .inl x
  ·rintro j (x|x)
   ·exact .inl x
   ·exact .inr ⟨by omega,by simp only[H.aZ];omega⟩
  ·intro j x
   exact hι j fun e=>hn (e▸x)
  ·exact fun _ x=>x
  ·exact fun _=> .inl
  ·exact fun _ _=>rfl
  ·exact Nat.le_succ _
  ·exact Nat.le_refl _
  ·exact hs
  ·exact hos
  ·exact hou
  ·intro b hb
   by_cases e:b=G.ι id
   ·subst e;exact hf
   ·rw[hk b hb e];exact bE.refl _
  ·exact fun b hb h _=>hk b hb (hO b h)
  ·intro b hb h
   simp only[G',hb,hO b h,hOB b hb h,false_or,and_true,ne_eq,not_false_eq_true]
  ·intro b hb h _
   simp only[G']
   rw[if_neg]
   rintro (e|e)
   ·exact hO b h e
   ·omega
  ·rintro b hb ⟨t,htt,_⟩
   simp[ht] at htt
  ·rintro b hb ⟨j,o,a,e⟩
   rcases hd a with ⟨rfl,-⟩|⟨x1,x2,x3⟩
   ·rw[hιn] at e
    rcases hB with e'|e'
    ·exact ⟨id,_,ho,e'.symm.trans e⟩
    ·omega
   ·rw[hι j x1] at e
    exact ⟨j,o,x2,e⟩
  ·rintro b _ ⟨t,htt,_⟩
   simp[H.aZ,ht] at htt
  ·intro j o a
   rcases hd a with ⟨rfl,-⟩|⟨x1,x2,x3⟩
   ·exact .inr ⟨Nat.le_refl _,Nat.lt_succ_self _⟩
   ·exact .inl ⟨o,x2⟩
  ·exact fun t x=>by simp[H.aZ,ht] at x
 have hBs:B<w'.heap.size:=by
  rcases Nat.lt_or_ge B w'.heap.size with h|h
  ·exact h
  ·rw[Array.getElem?_eq_none h] at hg;cases hg
 refine ⟨G',T,?_,?_⟩
 ·constructor
  ·intro j o a
   rcases hd a with ⟨rfl,rfl⟩|⟨x1,x2,x3⟩
   ·rw[hιn]
    exact ⟨.inr rfl,.inl rfl,hBs,vs,rest,T0,fr,hg,hE _ _,hfr,h1⟩
   ·obtain ⟨r1,r2,r3,r4⟩:=R.obj j o x2
    have hne:G.ι j≠G.ι id:=fun e=>x3 (R.inj _ _ _ _ x2 ho e)
    rw[hι j x1]
    refine ⟨.inl r1,.inr ⟨r2,hne,r3⟩,Nat.lt_of_lt_of_le r3 hs,?_⟩
    rw[hk _ r3 hne]
    cases o with
    |cells cs=>
     obtain ⟨vs,rest,T',fr,y1,y2,y3⟩:=r4
     exact ⟨vs,rest,T',fr,y1,aq.mono R T _ _ y2,y3⟩
    |map es=>
     obtain ⟨en,clock,y1,y2⟩:=r4
     exact ⟨en,clock,y1,Entries.mono R T _ _ y2⟩
    |loop N t ps asg body st pend=>
     obtain ⟨r,y1,y2,y3,y4⟩:=r4
     exact ⟨r,y1,y2,fun i=>ah.mono R T _ _ (y3 i),y4⟩
  ·intro i j o o' a b e
   have hcl:∀{k p},k≠h.n→h.objs k=some p→k≠id→G.ι k≠B:=by
    intro k p _ y2 y3 e
    rcases hB with e'|e'
    ·exact y3 (R.inj _ _ _ _ y2 ho (e.trans e'))
    ·have:=(R.obj k p y2).2.2.1;omega
   rcases hd a with ⟨rfl,rfl⟩|⟨x1,x2,x3⟩ <;>rcases hd b with ⟨rfl,rfl⟩|⟨y1,y2,y3⟩
   ·rfl
   ·rw[hιn,hι j y1] at e;exact absurd e.symm (hcl y1 y2 y3)
   ·rw[hιn,hι i x1] at e;exact absurd e (hcl x1 x2 x3)
   ·rw[hι i x1,hι j y1] at e;exact R.inj _ _ _ _ x2 y2 e
  ·exact fun t x=>by simp[H.aZ,ht] at x
  ·exact fun t x=>by simp[H.aZ,ht] at x
 ·unfold ah
  refine ⟨.inr rfl,.inl ⟨C,(vs++rest).toArray,T0,fr,by rw[hιn],hC,(fun _ h=>by cases h),by rw[hιn];exact hg,by simpa using hroom⟩⟩
theorem iJ (h:H) {id:Nat} {ob o:Obj} (ho:h.objs id=some ob) (hid:id<h.n):Touch h (.only (upd ag id (some ob)) [] h.n h.m) ((H.only (upd ag id (some ob)) [] h.n h.m).aZ id o) (h.aZ id o) ⟨[],[id,h.n],[]⟩ where
 sub:=(fh h ho).sub
 n:=rfl
 m:=rfl
 eq:=H.ext (fun j=>by
  simp only[H.patch,H.aZ,H.only,upd,ag]
  by_cases e:j=id
  ·subst e;simp
  ·by_cases e2:j=h.n
   ·subst e2;simp
   ·simp[e,e2];omega) rfl (by simp[H.patch,H.aZ,H.only,ec]) rfl
 rd j x:=by
  simp only[H.only,upd,ag] at x
  split at x
  ·rename_i e;subst e;simp
  ·cases x
 wr j a b:=by
  simp only[H.aZ,H.only] at a b
  have:j=h.n:=by omega
  subst this;simp
 chg j x hj:=by
  simp only[H.only,upd,ag] at x
  split at x
  ·rename_i e;subst e;simp at hj
  ·cases x
 tk t x:=by simp[H.only] at x
 tn t x:=by simp[H.aZ,H.only] at x
 le:=Nat.le_succ _
 lem:=Nat.le_refl _
theorem jm (h:H) {id id2:Nat} {ob ob2 o:Obj} (ho:h.objs id=some ob) (ho2:h.objs id2=some ob2) (hne:id≠id2) (hid:id<h.n) (hid2:id2<h.n):
  Touch h (.only (upd (upd ag id (some ob)) id2 (some ob2)) [] h.n h.m) ((H.only (upd (upd ag id (some ob)) id2 (some ob2)) [] h.n h.m).aZ id o) (h.aZ id o) ⟨[id2],[id,h.n],[]⟩ where
 sub:=⟨fun j p x=>by
  simp only[H.only,upd,ag] at x
  split at x
  ·rename_i e;subst e;cases x;exact ho2
  ·split at x
   ·rename_i e;subst e;cases x;exact ho
   ·exact absurd x (by simp),fun t x=>by simp[H.only] at x⟩
 n:=rfl
 m:=rfl
 eq:=H.ext (fun j=>by
  simp only[H.patch,H.aZ,H.only,upd,ag]
  by_cases e:j=id
  ·subst e;simp[hne]
  ·by_cases e2:j=h.n
   ·subst e2;simp
   ·by_cases e3:j=id2
    ·subst e3;simp[e,e2,ho2]
    ·simp[e,e2,e3];omega) rfl (by simp[H.patch,H.aZ,H.only,ec]) rfl
 rd j x:=by
  simp only[H.only,upd,ag] at x
  split at x
  ·rename_i e;subst e;simp
  ·split at x
   ·rename_i e;subst e;simp
   ·cases x
 wr j a b:=by
  simp only[H.aZ,H.only] at a b
  have:j=h.n:=by omega
  subst this;simp
 chg j x hj:=by
  simp only[H.only,upd,ag] at x
  simp only[List.mem_cons,List.not_mem_nil,or_false,not_or] at hj
  split at x
  ·rename_i e;subst e
   simp only[H.aZ,H.only,upd]
   simp[hj.1,hj.2]
  ·split at x
   ·rename_i e;subst e;exact absurd rfl hj.1
   ·cases x
 tk t x:=by simp[H.only] at x
 tn t x:=by simp[H.aZ,H.only] at x
 le:=Nat.le_succ _
 lem:=Nat.le_refl _
end
end Go.Av
end
section
namespace Go.Av
abbrev jn:=Nat→Option Obj
structure Fr where
 o:jn
 k:List Nat
def lay:List Fr→jn
 |[]=>ag
 |F::l=>fun j=>(F.o j).or (lay l j)
def ks (l:List Fr):List Nat:=l.flatMap (·.k)
def ob (i:Nat) (o:Obj):Fr:=⟨upd ag i (some o),[]⟩
def cat (l:List Fr):Fr:=⟨lay l,ks l⟩
def fr0:Fr:=⟨ag,[]⟩
structure Ok (l:List Fr) (n:Nat) (T:List Nat) (m:Nat):Prop where
 bd:∀F∈l,∀j,n≤j→F.o j=none
 dj:l.Pairwise fun F F'=>∀j,F.o j=none∨F'.o j=none
 tk:∀t∈ks l,t∈T
 td:l.Pairwise fun F F'=>∀t∈F.k,t∉F'.k
 tb:∀t∈T,t<m
theorem mU (j:Nat):lay [] j=none:=rfl
theorem cO (F:Fr) (l:List Fr) (j:Nat):lay (F::l) j=(F.o j).or (lay l j):=rfl
theorem aW (i:Nat) (o:Obj) (j:Nat):(ob i o).o j=if j=i then some o else none:=rfl
theorem bK (l m:List Fr) (j:Nat):lay (l++m) j=(lay l j).or (lay m j):=by
 induction l with
 |nil=>simp[lay,ag]
 |cons F l ih=>simp[lay,ih,Option.or_assoc]
theorem mV (l:List Fr):lay [cat l]=lay l:=by
 funext j;simp[lay,cat,ag]
theorem Bz (l:List Fr):ks [cat l]=ks l:=by simp[ks,cat]
theorem qc (F:Fr) (l:List Fr) (i:Nat) (o:Obj):upd (lay (F::l)) i (some o)=lay (⟨upd F.o i (some o),F.k⟩::l):=by
 funext j
 simp only[upd,lay]
 split<;>simp
theorem cd {l:List Fr} {j:Nat}:lay l j=none↔∀F∈l,F.o j=none:=by
 induction l with
 |nil=>simp[lay,ag]
 |cons F l ih=>simp[lay,Option.or_eq_none_iff,ih]
theorem gz {l:List Fr} {j:Nat} {o:Obj} (h:lay l j=some o):∃F∈l,F.o j=some o:=by
 induction l with
 |nil=>simp[lay,ag] at h
 |cons F l ih=>
  simp only[lay] at h
  cases hF:F.o j with
  |some o'=>rw[hF] at h;simp at h;exact ⟨F,by simp,by rw[hF,h]⟩
  |none=>
   rw[hF] at h;simp at h
   obtain ⟨F',h1,h2⟩:=ih h
   exact ⟨F',by simp[h1],h2⟩
theorem iK {l:List Fr} {t:Nat}:t∈ks l↔∃F∈l,t∈F.k:=by simp[ks]
theorem bI (l m:List Fr):ks (l++m)=ks l++ks m:=by simp[ks]
theorem Ok.fq {l:List Fr} {n m:Nat} {T:List Nat} (h:Ok l n T m) {j:Nat} (hj:n≤j):lay l j=none:=cd.2 fun F hF=>h.bd F hF j hj
theorem Ok.nil {n m:Nat}:Ok [] n [] m:=⟨by simp,by simp,by simp[ks],by simp,by simp⟩
theorem Ok.grow {l:List Fr} {n m n' m':Nat} {T:List Nat} (h:Ok l n T m) (hn:n≤n') (hm:m≤m'):Ok l n' T m':=
 ⟨fun F hF j hj=>h.bd F hF j (by omega),h.dj,h.tk,h.td,fun t ht=>Nat.lt_of_lt_of_le (h.tb t ht) hm⟩
theorem Ok.tail {F:Fr} {l:List Fr} {n m:Nat} {T:List Nat} (h:Ok (F::l) n T m):Ok l n T m:=
 ⟨fun F' hF=>h.bd F' (by simp[hF]),(List.pairwise_cons.1 h.dj).2,fun t ht=>h.tk t (by rw[iK] at ht ⊢;obtain ⟨F',a,b⟩:=ht;exact ⟨F',by simp[a],b⟩),(List.pairwise_cons.1 h.td).2,h.tb⟩
theorem Ok.put {F:Fr} {l:List Fr} {n m i:Nat} {T:List Nat} {o:Obj} (h:Ok (F::l) n T m) (hi:lay l i=none) (hn:i<n):Ok (⟨upd F.o i (some o),F.k⟩::l) n T m where
 bd F' hF j hj:=by
  rcases List.mem_cons.1 hF with rfl|hF
  ·simp only[upd]
   rw[if_neg (by omega)]
   exact h.bd F (by simp) j hj
  ·exact h.bd F' (by simp[hF]) j hj
 dj:=by
  refine List.pairwise_cons.2 ⟨fun F' hF j=>?_,(List.pairwise_cons.1 h.dj).2⟩
  simp only[upd]
  by_cases e:j=i
  ·subst e;exact .inr (cd.1 hi F' hF)
  ·rw[if_neg e];exact (List.pairwise_cons.1 h.dj).1 F' hF j
 tk t ht:=h.tk t (by simpa [ks] using ht)
 td:=List.pairwise_cons.2 ⟨(List.pairwise_cons.1 h.td).1,(List.pairwise_cons.1 h.td).2⟩
 tb:=h.tb
theorem Ok.start {l:List Fr} {n m:Nat} {T:List Nat} (h:Ok l n T m):Ok (fr0::l) n T m:=
 ⟨fun F hF j hj=>by rcases List.mem_cons.1 hF with rfl|hF;exact rfl;exact h.bd F hF j hj,List.pairwise_cons.2 ⟨fun F' _ j=> .inl rfl,h.dj⟩,fun t ht=>h.tk t (by simpa [ks,fr0] using ht),List.pairwise_cons.2 ⟨fun F' _ t ht=>by simp[fr0] at ht,h.td⟩,h.tb⟩
theorem Ok.old {F:Fr} {l:List Fr} {n m:Nat} {T:List Nat} (h:Ok (F::l) n T m) {i:Nat} (hi:(F.o i).isSome=true):lay l i=none:=
 cd.2 fun F' hF=>by
  rcases (List.pairwise_cons.1 h.dj).1 F' hF i with e|e
  ·rw[e] at hi;cases hi
  ·exact e
theorem Ok.cat {l:List Fr} {n m:Nat} (h:Ok l n (ks l) m):Ok [Go.Av.cat l] n (ks [Go.Av.cat l]) m:=
 ⟨fun F hF j hj=>by rw[List.mem_singleton.1 hF];exact h.fq hj,by simp,fun t ht=>ht,by simp,fun t ht=>h.tb t (by rwa [Bz] at ht)⟩
section
variable {P:Program} {N:Nat}
def aT (P:Program) (f:FuncId) (args:List AV) (l:List Fr) (Q:AV→List Fr→Prop):Prop:=
 ∀n m,Ok l n (ks l) m→∃r l' n' m',bn P f args ⟨lay l,n,ks l,m⟩ r ⟨lay l',n',ks l',m'⟩∧n≤n'∧m≤m'∧Ok l' n' (ks l') m'∧(∀j,n≤j∨(lay l j).isSome=true∨lay l' j=none)∧(∀t∈ks l',t∈ks l∨m≤t)∧Q r l'
theorem aT.mono {f:FuncId} {args:List AV} {l:List Fr} {Q Q':AV→List Fr→Prop} (h:aT P f args l Q) (hq:∀r l',Q r l'→Q' r l'):aT P f args l Q':=by
 intro n m ok
 obtain ⟨r,l',n',m',h1,h2,h3,h4,h5,h6,h7⟩:=h n m ok
 exact ⟨r,l',n',m',h1,h2,h3,h4,h5,h6,hq _ _ h7⟩
theorem aA.g {f:FuncId} {args:List AV} {r:AV} (h:aA P f args r):aT P f args [] (fun r' l'=>r'=r∧l'=[]):=fun n m _=>
 ⟨r,[],n,m,h n m,Nat.le_refl _,Nat.le_refl _,Ok.nil,fun j=> .inr (.inr rfl),by simp[ks],rfl,rfl⟩
theorem Wp.nm {c:AC} {s:St} {Q:aP→St→Prop} (h:Wp P N c s Q):Wp P N c s fun e s'=>Q e s'∧s.h.n≤s'.h.n∧s.h.m≤s'.h.m:=by
 intro code hc
 obtain ⟨e,s',r,q⟩:=h code hc
 exact ⟨e,s',r,q,r.1⟩
theorem bn.le {f:FuncId} {args:List AV} {h h' h'':H} {r r':AV} (hc:bn P f args h r h') (hs:ab r r') (hl:HLe h' h'') (n:h'.n=h''.n) (m:h'.m=h''.m):bn P f args h r' h'':=by
 intro G w vs hv R F
 refine (hc G w vs hv R (by unfold dc at F ⊢;rwa [n,m])).mono ?_
 rintro e w' ⟨v,G',rfl,T,R',V⟩
 exact ⟨v,G',rfl,T.trans R R' (Trans.le hl (by omega) (by omega)),R'.le hl,hs G' w' v V⟩
structure Ends (l:List Fr) (n m:Nat) (Q:AV→List Fr→Prop) (q:AV) (h:H) (r:AV) (l':List Fr):Prop where
 sub:ab q r
 ole:OLe h.objs (lay l')
 tk:∀t∈ks l',t∈h.toks
 ok:Ok l' h.n (Go.Av.ks l') h.m
 new:∀j,n≤j∨(lay l j).isSome=true∨lay l' j=none
 knew:∀t∈Go.Av.ks l',t∈Go.Av.ks l∨m≤t
 q:Q r l'
theorem aM.bo {f:FuncId} {ac:AC} {args:List AV} {ds:List RV} {l:List Fr} {Q:AV→List Fr→Prop} (hF:aM P f N ac ds) (hl:args.length≤N)
  (hw:∀n m,Ok l n (ks l) m→Wp P N ac ⟨gv args,⟨lay l,n,ks l,m⟩⟩ fun e s'=>gw e∧∃q,bR ds s'.t s'.h=some q∧∃r l',Ends l n m Q q s'.h r l'):aT P f args l Q:=by
 intro n m ok
 obtain ⟨q,h',hc,⟨r,l',E⟩,hn,hm⟩:=hF.iH (Q:=fun q h'=>(∃r l',Ends l n m Q q h' r l')∧n≤h'.n∧m≤h'.m) hl ((hw n m ok).nm.mono fun e s' ⟨⟨h1,q,h2,h3⟩,h4,h5⟩=>⟨h1,q,h2,h3,h4,h5⟩)
 exact ⟨r,l',h'.n,h'.m,hc.le E.sub ⟨E.ole,E.tk⟩ rfl rfl,hn,hm,E.ok,E.new,E.knew,E.q⟩
theorem OLe.mU (f:jn):OLe f (lay []):=OLe.none f
theorem OLe.kz {f:jn} {i:Nat} {o o':Obj} {l:List Fr} (h:f i=some o) (hs:cq o o') (hl:OLe f (lay l)):OLe f (lay (ob i o'::l)):=by
 intro j p hj
 simp only[lay,aW] at hj
 by_cases e:j=i
 ·subst e
  rw[if_pos rfl] at hj
  simp at hj;subst hj
  exact ⟨o,h,hs⟩
 ·rw[if_neg e] at hj
  exact hl j p (by simpa using hj)
theorem OLe.mV {f:jn} {l m:List Fr} (hl:OLe f (lay (l++m))):OLe f (lay (cat l::m)):=by
 intro j p hj
 refine hl j p ?_
 rw[bK];exact hj
def fin (h:H) (ids toks:List Nat):Ent:=⟨[],ids,toks⟩
theorem xn {F:jn} {n:Nat} (h:∀j,n≤j→F j=none):∃ids:List Nat,∀j,(F j).isSome=true↔j∈ids:=
 ⟨(List.range n).filter fun j=>(F j).isSome,fun j=>by
  simp only[List.mem_filter,List.mem_range]
  constructor
  ·intro hj
   refine ⟨?_,hj⟩
   rcases Nat.lt_or_ge j n with e|e
   ·exact e
   ·rw[h j e] at hj;cases hj
  ·exact fun hj=>hj.2⟩
theorem o7 {A G G' B:List Fr} {n n' m m':Nat} {T:List Nat} (ok:Ok (A++G++B) n T m) (ok':Ok G' n' (ks G') m') (hn:n≤n') (hw:∀j,n≤j∨(lay G j).isSome=true∨lay G' j=none) (j:Nat):
  (if (lay G j).isSome∨(n≤j∧j<n') then lay G' j else lay (A++G++B) j)=lay (A++G'++B) j:=by
 have dAG:∀j,lay A j=none∨lay G j=none:=by
  intro j
  by_cases h:lay A j=none
  ·exact .inl h
  ·right
   cases hA:lay A j with
   |none=>exact absurd hA h
   |some o=>
    obtain ⟨F,hF,e⟩:=gz hA
    refine cd.2 fun F' hF'=>?_
    have:=(List.pairwise_append.1 ok.dj).1
    rcases (List.pairwise_append.1 this).2.2 F hF F' hF' j with e'|e'
    ·rw[e'] at e;cases e
    ·exact e'
 have dGB:∀j,lay G j=none∨lay B j=none:=by
  intro j
  by_cases h:lay G j=none
  ·exact .inl h
  ·right
   cases hA:lay G j with
   |none=>exact absurd hA h
   |some o=>
    obtain ⟨F,hF,e⟩:=gz hA
    refine cd.2 fun F' hF'=>?_
    rcases (List.pairwise_append.1 ok.dj).2.2 F (by simp[hF]) F' hF' j with e'|e'
    ·rw[e'] at e;cases e
    ·exact e'
 have bA:∀j,n≤j→lay A j=none:=fun j hj=>cd.2 fun F hF=>ok.bd F (by simp[hF]) j hj
 have bB:∀j,n≤j→lay B j=none:=fun j hj=>cd.2 fun F hF=>ok.bd F (by simp[hF]) j hj
 rw[bK,bK,bK,bK]
 split
 ·rename_i hc
  have h1:lay A j=none:=by
   rcases hc with hc|hc
   ·rcases dAG j with e|e
    ·exact e
    ·rw[e] at hc;cases hc
   ·exact bA j hc.1
  have h2:lay B j=none:=by
   rcases hc with hc|hc
   ·rcases dGB j with e|e
    ·rw[e] at hc;cases hc
    ·exact e
   ·exact bB j hc.1
  rw[h1,h2];simp
 ·rename_i hc
  have hG:lay G j=none:=by
   cases h:lay G j with
   |none=>rfl
   |some o=>exact absurd (.inl (by rw[h];rfl)) hc
  have hG':lay G' j=none:=by
   rcases hw j with e|e|e
   ·rcases Nat.lt_or_ge j n' with e'|e'
    ·exact absurd (.inr ⟨e,e'⟩) hc
    ·exact ok'.fq e'
   ·rw[hG] at e;cases e
   ·exact e
  rw[hG,hG']
theorem Ok.swap {A G G' B:List Fr} {n n' m m':Nat} {T:List Nat} (ok:Ok (A++G++B) n T m) (ok':Ok G' n' (ks G') m') (hn:n≤n') (hm:m≤m') (hw:∀j,n≤j∨(lay G j).isSome=true∨lay G' j=none) (hk:∀t∈ks G',t∈ks G∨m≤t):
  Ok (A++G'++B) n' (ks G'++T.filter fun t=> !(ks G).contains t) m':=by
 have d1:=List.pairwise_append.1 ok.dj
 have d2:=List.pairwise_append.1 d1.1
 have t1:=List.pairwise_append.1 ok.td
 have t2:=List.pairwise_append.1 t1.1
 have hG':∀F'∈G',∀j,(F'.o j).isSome=true→n≤j∨∃F∈G,(F.o j).isSome=true:=by
  intro F' hF' j hj
  rcases hw j with e|e|e
  ·exact .inl e
  ·obtain ⟨o,ho⟩:=Option.isSome_iff_exists.1 e
   obtain ⟨F,a,b⟩:=gz ho
   exact .inr ⟨F,a,by rw[b];rfl⟩
  ·rw[cd.1 e F' hF'] at hj;cases hj
 have kG':∀F'∈G',∀t∈F'.k,m≤t∨∃F∈G,t∈F.k:=by
  intro F' hF' t ht
  rcases hk t (iK.2 ⟨F',hF',ht⟩) with e|e
  ·exact .inr (iK.1 e)
  ·exact .inl e
 have low:∀F,F∈A∨F∈B→∀j,(F.o j).isSome=true→j<n:=by
  intro F hF j hj
  rcases Nat.lt_or_ge j n with e|e
  ·exact e
  ·rw[ok.bd F (by rcases hF with h|h<;>simp[h]) j e] at hj;cases hj
 have klow:∀F,F∈A∨F∈B→∀t∈F.k,t<m:=fun F hF t ht=>ok.tb t (ok.tk t (iK.2 ⟨F,by rcases hF with h|h<;>simp[h],ht⟩))
 have not2:∀{x y:Option Obj},¬(x.isSome=true∧y.isSome=true)→x=none∨y=none:=by
  intro x y h
  cases x<;>cases y<;>simp_all
 constructor
 ·intro F hF j hj
  rcases List.mem_append.1 hF with hF|hF
  ·rcases List.mem_append.1 hF with hF|hF
   ·exact ok.bd F (by simp[hF]) j (by omega)
   ·exact ok'.bd F hF j hj
  ·exact ok.bd F (by simp[hF]) j (by omega)
 ·refine List.pairwise_append.2 ⟨List.pairwise_append.2 ⟨d2.1,ok'.dj,fun F hF F' hF' j=>?_⟩,d1.2.1,fun F hF F' hF' j=>?_⟩
  ·refine not2 fun ⟨h1,h2⟩=>?_
   rcases hG' F' hF' j h2 with e|⟨F2,a,b⟩
   ·have:=low F (.inl hF) j h1;omega
   ·rcases d2.2.2 F hF F2 a j with e|e
    ·rw[e] at h1;cases h1
    ·rw[e] at b;cases b
  ·rcases List.mem_append.1 hF with hF|hF
   ·exact d1.2.2 F (by simp[hF]) F' hF' j
   ·refine not2 fun ⟨h1,h2⟩=>?_
    rcases hG' F hF j h1 with e|⟨F2,a,b⟩
    ·have:=low F' (.inr hF') j h2;omega
    ·rcases d1.2.2 F2 (by simp[a]) F' hF' j with e|e
     ·rw[e] at b;cases b
     ·rw[e] at h2;cases h2
 ·intro t ht
  rw[bI,bI] at ht
  rw[List.mem_append,List.mem_filter]
  rcases List.mem_append.1 ht with ht|ht
  ·rcases List.mem_append.1 ht with ht|ht
   ·obtain ⟨F,a,b⟩:=iK.1 ht
    refine .inr ⟨ok.tk t (by rw[bI,bI];simp[ht]),?_⟩
    simp only[Bool.not_eq_true',List.contains_eq_mem,decide_eq_false_iff_not]
    intro h
    obtain ⟨F',a',b'⟩:=iK.1 h
    exact t2.2.2 F a F' a' t b b'
   ·exact .inl ht
  ·obtain ⟨F,a,b⟩:=iK.1 ht
   refine .inr ⟨ok.tk t (by rw[bI,bI];simp[ht]),?_⟩
   simp only[Bool.not_eq_true',List.contains_eq_mem,decide_eq_false_iff_not]
   intro h
   obtain ⟨F',a',b'⟩:=iK.1 h
   exact t1.2.2 F' (by simp[a']) F a t b' b
 ·refine List.pairwise_append.2 ⟨List.pairwise_append.2 ⟨t2.1,ok'.td,fun F hF F' hF' t ht ht'=>?_⟩,t1.2.1,fun F hF F' hF' t ht ht'=>?_⟩
  ·rcases kG' F' hF' t ht' with e|⟨F2,a,b⟩
   ·have:=klow F (.inl hF) t ht;omega
   ·exact t2.2.2 F hF F2 a t ht b
  ·rcases List.mem_append.1 hF with hF|hF
   ·exact t1.2.2 F (by simp[hF]) F' hF' t ht ht'
   ·rcases kG' F hF t ht with e|⟨F2,a,b⟩
    ·have:=klow F' (.inr hF') t ht';omega
    ·exact t1.2.2 F2 (by simp[a]) F' hF' t b ht'
 ·intro t ht
  rcases List.mem_append.1 ht with ht|ht
  ·exact ok'.tb t ht
  ·exact Nat.lt_of_lt_of_le (ok.tb t (List.mem_filter.1 ht).1) hm
theorem kA {A G G' B:List Fr} {n n' m m':Nat} {T:List Nat} (ok:Ok (A++G++B) n T m) (ok':Ok G' n' (ks G') m') (hn:n≤n') (hm:m≤m') (hw:∀j,n≤j∨(lay G j).isSome=true∨lay G' j=none):
  ∃ids,Touch ⟨lay (A++G++B),n,T,m⟩ ⟨lay G,n,ks G,m⟩ ⟨lay G',n',ks G',m'⟩ ⟨lay (A++G'++B),n',ks G'++T.filter (fun t=> !(ks G).contains t),m'⟩ ⟨[],ids,ks G++ks G'⟩:=by
 have bG:∀j,n≤j→lay G j=none:=fun j hj=>cd.2 fun F hF=>ok.bd F (by simp[hF]) j hj
 obtain ⟨ids,hi⟩:=xn bG
 refine ⟨ids++(List.range (n' - n)).map (n+ ·),?_⟩
 have d1:=List.pairwise_append.1 (List.pairwise_append.1 ok.dj).1
 have tc:=jK (h:=⟨lay (A++G++B),n,T,m⟩) (h1:=⟨lay G,n,ks G,m⟩) (h1':=⟨lay G',n',ks G',m'⟩) (ids:=ids) ⟨fun j o hj=>?_,fun t ht=>ok.tk t ?_⟩ rfl rfl (fun id h=>(hi id).1 h) hn hm
 ·have e:(⟨lay (A++G'++B),n',ks G'++T.filter (fun t=> !(ks G).contains t),m'⟩:H)=H.patch ⟨lay (A++G++B),n,T,m⟩ ⟨lay G,n,ks G,m⟩ ⟨lay G',n',ks G',m'⟩:=
   H.ext (fun j=>(o7 ok ok' hn hw j).symm) rfl rfl rfl
  rw[e];exact tc
 ·show lay (A++G++B) j=some o
  have hj':lay G j=some o:=hj
  rw[bK,bK]
  have:lay A j=none:=by
   cases hA:lay A j with
   |none=>rfl
   |some o'=>
    obtain ⟨F,a,b⟩:=gz hA
    obtain ⟨F',a',b'⟩:=gz hj'
    rcases d1.2.2 F a F' a' j with e|e
    ·rw[e] at b;cases b
    ·rw[e] at b';cases b'
  rw[this,hj'];rfl
 ·have ht':t∈ks G:=ht
  rw[bI,bI];simp[ht']
def Wi (l0:List Fr) (n0:Nat) (l:List Fr):Prop:=∀j,n0≤j∨(lay l0 j).isSome=true∨lay l j=none
def Ki (l0:List Fr) (m0:Nat) (l:List Fr):Prop:=∀t∈ks l,t∈ks l0∨m0≤t
theorem Wi.refl {l:List Fr} {n:Nat}:Wi l n l:=fun j=>by
 cases h:lay l j with
 |none=>exact .inr (.inr rfl)
 |some o=>exact .inr (.inl rfl)
theorem Ki.refl {l:List Fr} {m:Nat}:Ki l m l:=fun t h=> .inl h
theorem Wi.trans {l0 l l':List Fr} {n0 n:Nat} (a:Wi l0 n0 l) (hn:n0≤n) (b:Wi l n l'):Wi l0 n0 l':=fun j=>by
 rcases b j with h|h|h
 ·exact .inl (by omega)
 ·rcases a j with h'|h'|h'
  ·exact .inl h'
  ·exact .inr (.inl h')
  ·rw[h'] at h;cases h
 ·exact .inr (.inr h)
theorem Ki.trans {l0 l l':List Fr} {m0 m:Nat} (a:Ki l0 m0 l) (hm:m0≤m) (b:Ki l m l'):Ki l0 m0 l':=fun t ht=>by
 rcases b t ht with h|h
 ·exact a t h
 ·exact .inr (by omega)
theorem Wi.mid {A G G' B:List Fr} {n:Nat} (hw:∀j,n≤j∨(lay G j).isSome=true∨lay G' j=none):Wi (A++G++B) n (A++G'++B):=fun j=>by
 rw[bK,bK,bK,bK]
 rcases hw j with h|h|h
 ·exact .inl h
 ·right;left
  obtain ⟨o,ho⟩:=Option.isSome_iff_exists.1 h
  rw[ho]
  cases lay A j<;>rfl
 ·rw[h]
  cases ha:lay A j with
  |some o=>exact .inr (.inl rfl)
  |none=>
   cases hb:lay B j with
   |none=>exact .inr (.inr rfl)
   |some o=>right;left;cases lay G j<;>rfl
theorem Ki.mid {A G G' B:List Fr} {m:Nat} (hk:∀t∈ks G',t∈ks G∨m≤t):Ki (A++G++B) m (A++G'++B):=fun t ht=>by
 rw[bI,bI] at ht ⊢
 simp only[List.mem_append] at ht ⊢
 rcases ht with (h|h)|h
 ·exact .inl (.inl (.inl h))
 ·rcases hk t h with h|h
  ·exact .inl (.inl (.inr h))
  ·exact .inr h
 ·exact .inl (.inr h)
theorem Ok.shrink {l:List Fr} {n m:Nat} {T:List Nat} (h:Ok l n T m):Ok l n (ks l) m:=⟨h.bd,h.dj,fun t ht=>ht,h.td,fun t ht=>h.tb t (h.tk t ht)⟩
theorem aa.ur {dst:Option Nat} {g:Option (Nat × Bool)} {f:FuncId} {l:List Opd} {its:List aO} {t:Tm} {log:List Ent} {K:Tm→H→List Ent→Prop} {vals:List AV} {Q:AV→List Fr→Prop} (A G B:List Fr) {n m:Nat} {T:List Nat}
  (hg:guardOf t g=some true) (hs:af (l.map (ev t)) vals) (hc:aT P f vals G Q) (ok:Ok (A++G++B) n T m)
  (rest:∀r G' n' m' ids,Q r G'→n≤n'→m≤m'→Ok (A++G'++B) n' (ks G'++T.filter fun t=> !(ks G).contains t) m'→Wi (A++G++B) n (A++G'++B)→Ki (A++G++B) m (A++G'++B)→aa P N its (cL t dst r) ⟨lay (A++G'++B),n',ks G'++T.filter (fun t=> !(ks G).contains t),m'⟩ (⟨[],ids,ks G++ks G'⟩::log) K):
  aa P N (⟨dst,g,.call f l⟩::its) t ⟨lay (A++G++B),n,T,m⟩ log K:=by
 have okG:Ok G n (ks G) m:=by
  have d1:=List.pairwise_append.1 (List.pairwise_append.1 ok.dj).1
  have t1:=List.pairwise_append.1 (List.pairwise_append.1 ok.td).1
  exact ⟨fun F hF=>ok.bd F (by simp[hF]),d1.2.1,fun t ht=>ht,t1.2.1,fun t ht=>ok.tb t (ok.tk t (by rw[bI,bI];simp[ht]))⟩
 obtain ⟨r,G',n',m',h1,h2,h3,h4,h5,h6,h7⟩:=hc n m okG
 obtain ⟨ids,tc⟩:=kA ok h4 h2 h3 h5
 exact aa.eR hg hs h1 tc (rest r G' n' m' ids h7 h2 h3 (ok.swap h4 h2 h3 h5 h6) (.mid h5) (.mid h6))
theorem aa.lG {dst:Option Nat} {g:Option (Nat × Bool)} {f:FuncId} {fn:Func} {y:Opd} {l:List Opd} {its:List aO} {t:Tm} {log:List Ent} {K:Tm→H→List Ent→Prop} {first caps vals:List AV} {Q:AV→List Fr→Prop} (A G B:List Fr) {n m:Nat} {T:List Nat}
  (hg:guardOf t g=some true) (hy:ev t y= .clo (.func f) first caps) (hf:P.funcs[f]? =some fn) (hb:fn.body.isSome=true) (hn:fn.name≠ "runtime.NumGoroutine") (hs:af (first++l.map (ev t)++caps) vals) (hc:aT P f vals G Q) (ok:Ok (A++G++B) n T m)
  (rest:∀r G' n' m' ids,Q r G'→n≤n'→m≤m'→Ok (A++G'++B) n' (ks G'++T.filter fun t=> !(ks G).contains t) m'→Wi (A++G++B) n (A++G'++B)→Ki (A++G++B) m (A++G'++B)→aa P N its (cL t dst r) ⟨lay (A++G'++B),n',ks G'++T.filter (fun t=> !(ks G).contains t),m'⟩ (⟨[],ids,ks G++ks G'⟩::log) K):
  aa P N (⟨dst,g,.callv y l⟩::its) t ⟨lay (A++G++B),n,T,m⟩ log K:=by
 have okG:Ok G n (ks G) m:=by
  have d1:=List.pairwise_append.1 (List.pairwise_append.1 ok.dj).1
  have t1:=List.pairwise_append.1 (List.pairwise_append.1 ok.td).1
  exact ⟨fun F hF=>ok.bd F (by simp[hF]),d1.2.1,fun t ht=>ht,t1.2.1,fun t ht=>ok.tb t (ok.tk t (by rw[bI,bI];simp[ht]))⟩
 obtain ⟨r,G',n',m',h1,h2,h3,h4,h5,h6,h7⟩:=hc n m okG
 obtain ⟨ids,tc⟩:=kA ok h4 h2 h3 h5
 exact aa.step tc (fun ops i o ho hit=>mw ho hit hg rfl hy hf hb hn hs h1) (fun h=>by simp[eW] at h) (rest r G' n' m' ids h7 h2 h3 (ok.swap h4 h2 h3 h5 h6) (.mid h5) (.mid h6))
end
end Go.Av
end
section
namespace Go.Av
section
variable {P:Program} {N:Nat} {s:St} {Q:aP→St→Prop}
theorem Wp.xo {c:Opd} {x y:AC} {p:Prop} {_:Decidable p} (hb:ev s.t c= .bool (decide p)) (ht:p→Wp P N x s Q) (hf:¬p→Wp P N y s Q):Wp P N (.cond c x y) s Q:=
 Wp.bN hb (fun h=>ht (of_decide_eq_true h)) (fun h=>hf (of_decide_eq_false h))
theorem Wp.vG {c:Opd} {x y:AC} {p:Prop} {_:Decidable p} (hb:ev s.t c= .bool (!decide p)) (ht:¬p→Wp P N x s Q) (hf:p→Wp P N y s Q):Wp P N (.cond c x y) s Q:=
 Wp.bN hb (fun h=>ht (by simpa using h)) (fun h=>hf (by simpa using h))
def lH (F:Fence) (n:Nat) (P:Program) (c:Code) (Q:Exit→Act→World→Prop) (a:Act) (w:World):Prop:=
 ∀(b:Frame) (k:List Item) (cs:List Frame),b.roundOf=F.round→F.fn b.fn→F.room (cs.length+1+n)→
  ∃e a' w',Q e a' w'∧ArrivesIn (Machine.fenced P F) P (lone (b.atR a (.code c:: .inLoop c::k)) cs w) b k cs e a' w'
theorem lH.start {F:Fence} {n:Nat} {c:Code} {Q:Exit→Act→World→Prop} {a:Act} {w:World} (h:lH F n P c Q a w):(Code.loop c).wpIn F n P Q a w:=by
 intro b k cs hro hb hr
 obtain ⟨e,a₁,w₁,hq,harr⟩:=h b k cs hro hb hr
 exact ⟨e,a₁,w₁,hq,.of_steps (.one (fenced_calm hb hr rfl) stepR_loop) harr⟩
theorem lH.step {F:Fence} {n:Nat} {c:Code} {Q:Exit→Act→World→Prop} {a:Act} {w:World} (h:c.wpIn F n P (Exit.then (lH F n P c Q) Q) a w):lH F n P c Q a w:=by
 intro b k cs hro hb hr
 obtain ⟨e,a₁,w₁,hq,harr⟩:=h b (.inLoop c::k) cs hro hb hr
 cases e with
 |normal=>
  obtain ⟨e₂,a₂,w₂,hq₂,harr₂⟩:=hq b k cs hro hb hr
  exact ⟨e₂,a₂,w₂,hq₂,.of_steps (StepsIn.trans harr (.one (fenced_calm hb hr rfl) stepR_inLoop)) harr₂⟩
 |exit id=>exact ⟨_,a₁,w₁,hq,.pass (x:= .inLoop c) rfl (fun _ _=> .inl (by simp)) harr⟩
 |goto l=>exact ⟨_,a₁,w₁,hq,.pass (x:= .inLoop c) rfl (fun _ _=> .inl (by simp)) harr⟩
 |ret=>exact ⟨_,a₁,w₁,hq,.pass (x:= .inLoop c) rfl (fun _ _=> .inl (by simp)) harr⟩
 |panic ch=>exact ⟨_,a₁,w₁,hq,.pass (x:= .inLoop c) rfl (fun _ _=> .inl (by simp)) harr⟩
 |outgrown=>exact ⟨_,a₁,w₁,hq,.pass (x:= .inLoop c) rfl (fun _ _=> .inl (by simp)) harr⟩
def C7 (P:Program) (N:Nat) (c:Code) (s:St) (e:aP) (s':St):Prop:=
 (s.h.n≤s'.h.n∧s.h.m≤s'.h.m)∧∀ro,okR c ro→∀G w a,Rel N s G w a→dc G s.h s'.h→lH (rd ro) 0 P c (fun e' a' w'=>e.ey e'∧kM w a.defers a'.defers∧∃G',Trans G w s.h G' w' s'.h∧Rel N s' G' w' a') a w
def WpL (P:Program) (N:Nat) (c:AC) (s:St) (Q:aP→St→Prop):Prop:=
 ∀code,cCode P N code=some c→∃e s',C7 P N code s e s'∧Q e s'
theorem Wp.mB {c:AC} (h:WpL P N c s Q):Wp P N (.loop c) s Q:=by
 intro code hc
 obtain ⟨x,rfl,hx⟩:=oY hc
 obtain ⟨e,s',r,q⟩:=h x hx
 exact ⟨e,s',⟨r.1,fun ro okc G w a rel F=>(r.2 ro okc.loop G w a rel F).start⟩,q⟩
theorem WpL.next {c:AC} (h:Wp P N c s (aP.andThen (fun s'=>WpL P N c s' Q) Q)):WpL P N c s Q:=by
 intro x hx
 obtain ⟨e,s1,r1,q1⟩:=h x hx
 cases e with
 |normal=>
  obtain ⟨e2,s2,r2,q2⟩:=q1 x hx
  obtain ⟨⟨l1,l2⟩,r1⟩:=r1
  obtain ⟨⟨l3,l4⟩,r2⟩:=r2
  refine ⟨e2,s2,⟨⟨by omega,by omega⟩,fun ro okc G w ac r F=> .step (wpIn_mono (r1 ro okc G w ac r (F.sub (Nat.le_refl _) l3 (Nat.le_refl _) l4)) ?_)⟩,q2⟩
  rintro e' a' w' ⟨h1,h2,G',T1,r'⟩
  cases e'<;>simp only[aP.ey] at h1
  intro b k cs hro hb hr
  obtain ⟨e'',a'',w'',⟨k1,k2,G'',T2,r''⟩,harr⟩:=r2 ro okc G' w' a' r' (F.step T1) b k cs hro hb hr
  exact ⟨e'',a'',w'',⟨k1,h2.trans T1.size_le k2,G'',T1.trans r.h r'.h T2,r''⟩,harr⟩
 |exit id=>
  refine ⟨.exit id,s1,⟨r1.1,fun ro okc G w ac r F=> .step (wpIn_mono (r1.2 ro okc G w ac r F) ?_)⟩,q1⟩
  rintro e' a' w' ⟨h1,h2⟩
  cases e'<;>simp only[aP.ey] at h1
  exact ⟨h1,h2⟩
 |goto l=>
  refine ⟨.goto l,s1,⟨r1.1,fun ro okc G w ac r F=> .step (wpIn_mono (r1.2 ro okc G w ac r F) ?_)⟩,q1⟩
  rintro e' a' w' ⟨h1,h2⟩
  cases e'<;>simp only[aP.ey] at h1
  exact ⟨h1,h2⟩
 |ret=>
  refine ⟨.ret,s1,⟨r1.1,fun ro okc G w ac r F=> .step (wpIn_mono (r1.2 ro okc G w ac r F) ?_)⟩,q1⟩
  rintro e' a' w' ⟨h1,h2⟩
  cases e'<;>simp only[aP.ey] at h1
  exact ⟨trivial,h2⟩
 |panic v=>
  refine ⟨.panic v,s1,⟨r1.1,fun ro okc G w ac r F=> .step (wpIn_mono (r1.2 ro okc G w ac r F) ?_)⟩,q1⟩
  rintro e' a' w' ⟨h1,h2⟩
  cases e'<;>simp only[aP.ey] at h1
  exact ⟨h1,h2⟩
def kN:List aO→Tm→H→List Ent→Option (List aO × Tm × H × List Ent)
 |[],t,h,l=>some ([],t,h,l)
 |it::its,t,h,l=>match guardOf t it.guard with
  |some true=>(match aop (ev t) h it.op with
   |some (x,h',en)=>kN its (cL t it.dst x) h' (en::l)
   |none=>some (it::its,t,h,l))
  |some false=>kN its (cL t it.dst (.sc undef)) h (aH::l)
  |none=>some (it::its,t,h,l)
theorem jo:∀{items:List aO} {t:Tm} {h:H} {l:List Ent} {r:List aO × Tm × H × List Ent},kN items t h l=some r→dq items t h l=r
 |[],t,h,l,r,he=>by simpa [kN,dq] using he
 |it::its,t,h,l,r,he=>by
  simp only[kN] at he
  simp only[dq]
  cases hg:guardOf t it.guard with
  |none=>rw[hg] at he;simpa using he
  |some g=>
   rw[hg] at he
   cases g with
   |false=>exact jo he
   |true=>
    simp only at he ⊢
    cases hx:aop (ev t) h it.op with
    |none=>rw[hx] at he;simpa using he
    |some p=>
     obtain ⟨x,h',en⟩:=p
     rw[hx] at he
     exact jo he
theorem aa.evR {items its:List aO} {t t':Tm} {h h':H} {log log':List Ent} {K:Tm→H→List Ent→Prop} (he:kN items t h log=some (its,t',h',log')) (hw:aa P N its t' h' log' K):aa P N items t h log K:=aa.eval (jo he) hw
theorem Wp.cf {items its:List aO} {p:Option (List (Nat × Nat))} {y:AC} {t':Tm} {h':H} {log:List Ent} (he:kN items s.t s.h []=some (its,t',h',log)) (h:aa P N its t' h' log fun t h l=>ay p l∧Wp P N y ⟨t,h⟩ Q):Wp P N (.seq (.reg items p) y) s Q:=Wp.seqItems (jo he) h
theorem Wp.dU {items its:List aO} {p:Option (List (Nat × Nat))} {t':Tm} {h':H} {log:List Ent} (he:kN items s.t s.h []=some (its,t',h',log)) (h:aa P N its t' h' log fun t h l=>ay p l∧Q .normal ⟨t,h⟩):Wp P N (.reg items p) s Q:=Wp.items (jo he) h
def nE:List aO→Tm→H→List Ent→List aO × Tm × H × List Ent
 |[],t,h,l=>([],t,h,l)
 |it::its,t,h,l=>match it.guard with
  |some _=>(it::its,t,h,l)
  |none=>(match aop (ev t) h it.op with
   |some (x,h',en)=>nE its (cL t it.dst x) h' (en::l)
   |none=>(it::its,t,h,l))
theorem rf:∀{items its:List aO} {t t':Tm} {h h':H} {log log':List Ent} {K:Tm→H→List Ent→Prop},nE items t h log=(its,t',h',log')→aa P N its t' h' log' K→aa P N items t h log K
 |[],its,t,t',h,h',log,log',K,he,hw=>by
  simp only[nE,Prod.mk.injEq] at he
  obtain ⟨rfl,rfl,rfl,rfl⟩:=he
  exact hw
 |⟨dst,g,op⟩::items,its,t,t',h,h',log,log',K,he,hw=>by
  simp only[nE] at he
  cases g with
  |some g=>
   simp only[Prod.mk.injEq] at he
   obtain ⟨rfl,rfl,rfl,rfl⟩:=he
   exact hw
  |none=>
   simp only at he
   cases hx:aop (ev t) h op with
   |none=>
    rw[hx] at he
    simp only[Prod.mk.injEq] at he
    obtain ⟨rfl,rfl,rfl,rfl⟩:=he
    exact hw
   |some p=>
    obtain ⟨x,h1,en⟩:=p
    rw[hx] at he
    simp only at he
    have r:=rf he hw
    refine aa.part 1 (items:=⟨dst,none,op⟩::items) (t':=cL t dst x) (h':=h1) (log':=en::log) ?_ r
    simp[dq,guardOf,hx]
theorem aa.evU {dst:Option Nat} {op:AOp} {items its:List aO} {t t':Tm} {h h1 h':H} {log log':List Ent} {K:Tm→H→List Ent→Prop} {x:AV} {en:Ent} (hx:aop (ev t) h op=some (x,h1,en))
  (he:nE items (cL t dst x) h1 (en::log)=(its,t',h',log')) (hw:aa P N its t' h' log' K):aa P N (⟨dst,none,op⟩::items) t h log K:=
 rf (by simp only[nE,hx];exact he) hw
theorem rh {t:Tm} {d:Nat} {x:AV} (h:t d=x):upd t d x=t:=by
 funext j
 simp only[upd]
 split
 ·rename_i e;rw[e,h]
 ·rfl
theorem aa.s8 {dst:Option Nat} {d:Nat} {wn:Bool} {op:AOp} {its:List aO} {t:Tm} {h:H} {log:List Ent} {K:Tm→H→List Ent→Prop} {b:Bool} (hb:t d= .bool b)
  (ht:b=true→aa P N (⟨dst,some (d,wn),op⟩::its) (upd t d (.bool true)) h log K) (hf:b=false→aa P N (⟨dst,some (d,wn),op⟩::its) (upd t d (.bool false)) h log K):aa P N (⟨dst,some (d,wn),op⟩::its) t h log K:=by
 cases b
 ·have:=hf rfl;rwa [rh hb] at this
 ·have:=ht rfl;rwa [rh hb] at this
theorem aa.s9 {dst:Option Nat} {d:Nat} {wn:Bool} {op:AOp} {its:List aO} {t:Tm} {h:H} {log:List Ent} {K:Tm→H→List Ent→Prop} {p:Prop} {_:Decidable p} (hb:t d= .bool (decide p))
  (ht:p→aa P N (⟨dst,some (d,wn),op⟩::its) (upd t d (.bool true)) h log K) (hf:¬p→aa P N (⟨dst,some (d,wn),op⟩::its) (upd t d (.bool false)) h log K):aa P N (⟨dst,some (d,wn),op⟩::its) t h log K:=
 aa.s8 hb (fun h=>ht (of_decide_eq_true h)) (fun h=>hf (of_decide_eq_false h))
theorem aa.rj {dst:Option Nat} {d:Nat} {wn:Bool} {op:AOp} {its:List aO} {t:Tm} {h:H} {log:List Ent} {K:Tm→H→List Ent→Prop} {p:Prop} {_:Decidable p} (hb:t d= .bool (!decide p))
  (ht:¬p→aa P N (⟨dst,some (d,wn),op⟩::its) (upd t d (.bool true)) h log K) (hf:p→aa P N (⟨dst,some (d,wn),op⟩::its) (upd t d (.bool false)) h log K):aa P N (⟨dst,some (d,wn),op⟩::its) t h log K:=
 aa.s8 hb (fun h=>ht (by simpa using h)) (fun h=>hf (by simpa using h))
theorem Wp.mK {items:List aO} {p:Option (List (Nat × Nat))} {t:Tm} {h:H} (hw:aa P N items t h [] fun t' h' log=>ay p log∧Q .normal ⟨t',h'⟩):Wp P N (.reg items p) ⟨t,h⟩ Q:=Wp.reg hw
theorem Wp.eH {items:List aO} {p:Option (List (Nat × Nat))} {y:AC} {t:Tm} {h:H} (hw:aa P N items t h [] fun t' h' log=>ay p log∧Wp P N y ⟨t',h'⟩ Q):Wp P N (.seq (.reg items p) y) ⟨t,h⟩ Q:=Wp.seq (Wp.reg hw)
end
attribute [go_sem] nE kN
def iV:List AV→List AV→Prop
 |[],[]=>True
 |x::xs,y::ys=>ab x y∧iV xs ys
 |_,_=>False
theorem iV.refl:∀l,iV l l
 |[]=>trivial
 |x::l=>⟨ab.refl x,iV.refl l⟩
theorem iV.len:∀{xs ys:List AV},iV xs ys→xs.length=ys.length
 |[],[],_=>rfl
 |_::_,_::_,h=>by simp[iV.len h.2]
 |[],_::_,h=>h.elim
 |_::_,[],h=>h.elim
theorem iV.els {G:aI} {w:World} {sz:Nat}:∀{xs ys:List AV} {vs:List Value},iV xs ys→aB G w sz xs vs→aB G w sz ys vs
 |[],[],_,_,h=>h
 |x::xs,y::ys,vs,h,hv=>by
  simp only[aB] at hv ⊢
  obtain ⟨v,us,e,h1,h2,h3⟩:=hv
  exact ⟨v,us,e,h1,h.1 G w v h2,iV.els h.2 h3⟩
 |[],_::_,_,h,_=>h.elim
 |_::_,[],_,h,_=>h.elim
theorem ab.sl {sz:Nat} {xs ys:List AV} {c:Cap} (h:iV xs ys):ab (.sl sz xs c) (.sl sz ys .any):=by
 intro G w v hv
 have hl:=h.len
 simp only[ah] at hv ⊢
 rcases hv with ⟨rfl,a,_⟩|⟨B,off,C,vs,h1,h2,h3,h4,h5,h6⟩
 ·cases ys with
  |nil=>exact .inl ⟨rfl,a,by simp[fO]⟩
  |cons y ys=>simp at hl
 ·exact .inr ⟨B,off,C,vs,by rw[←hl];exact h1,by rw[←hl];exact h2,by rw[←hl];exact h3,h.els h4,h5,by simp[cC]⟩
theorem ab.slc {sz:Nat} {xs ys:List AV} {c:Cap} (h:iV xs ys):ab (.sl sz xs c) (.sl sz ys c):=by
 intro G w v hv
 have hl:=h.len
 simp only[ah] at hv ⊢
 rcases hv with ⟨rfl,a,b⟩|⟨B,off,C,vs,h1,h2,h3,h4,h5,h6⟩
 ·cases ys with
  |nil=>exact .inl ⟨rfl,a,b⟩
  |cons y ys=>simp at hl
 ·exact .inr ⟨B,off,C,vs,by rw[←hl];exact h1,by rw[←hl];exact h2,by rw[←hl];exact h3,h.els h4,h5,by rw[←hl];exact h6⟩
theorem fG {p:Nat→Bool} {j:Nat} (h:∀i,i<j→p i=true) (hj:p j=true):∀i,i<j+1→p i=true:=by
 intro i hi
 by_cases e:i=j
 ·subst e;exact hj
 ·exact h i (by omega)
theorem eM {p:Nat→Bool} {n j:Nat} (h:j<n) (hp:p j=false):(List.range n).all p=false:=List.all_eq_false.2 ⟨j,List.mem_range.2 h,by simp[hp]⟩
theorem eI {p:Nat→Bool} {n:Nat} (h:∀i,i<n→p i=true):(List.range n).all p=true:=List.all_eq_true.2 fun i hi=>h i (List.mem_range.1 hi)
theorem ar {α:Type} {l:List α} {i:Nat} {d:α} (h:i<l.length):l.getD i d=l[i]:=by
 rw[List.getD_eq_getElem?_getD,List.getElem?_eq_getElem h];rfl
theorem bJ {α:Type} {l:List α} {j:Nat} (d:α) (h:j<l.length):l.take (j+1)=l.take j++[l.getD j d]:=by
 rw[List.take_succ_eq_append_getElem h,ar h]
theorem cR {α:Type} [Inhabited α] (f:α→AV) (l:List α) (k:Nat) (d:AV) (h:k<l.length):(l.map f).getD k d=f (l.getD k default):=by
 simp[List.getD,List.getElem?_map,List.getElem?_eq_getElem h]
end Go.Av
end
section
namespace Go.Av
structure Hid (p:Prop):Prop where
 o:p
theorem cj2 {A0 A1:Prop} (a0:A0) (a1:A1):A0∧A1:=⟨a0,a1⟩
theorem cj3 {A0 A1 A2:Prop} (a0:A0) (a1:A1) (a2:A2):A0∧A1∧A2:=⟨a0,a1,a2⟩
theorem cj4 {A0 A1 A2 A3:Prop} (a0:A0) (a1:A1) (a2:A2) (a3:A3):A0∧A1∧A2∧A3:=⟨a0,a1,a2,a3⟩
theorem cj5 {A0 A1 A2 A3 A4:Prop} (a0:A0) (a1:A1) (a2:A2) (a3:A3) (a4:A4):A0∧A1∧A2∧A3∧A4:=⟨a0,a1,a2,a3,a4⟩
theorem cj6 {A0 A1 A2 A3 A4 A5:Prop} (a0:A0) (a1:A1) (a2:A2) (a3:A3) (a4:A4) (a5:A5):A0∧A1∧A2∧A3∧A4∧A5:=⟨a0,a1,a2,a3,a4,a5⟩
theorem cj7 {A0 A1 A2 A3 A4 A5 A6:Prop} (a0:A0) (a1:A1) (a2:A2) (a3:A3) (a4:A4) (a5:A5) (a6:A6):A0∧A1∧A2∧A3∧A4∧A5∧A6:=⟨a0,a1,a2,a3,a4,a5,a6⟩
theorem cj8 {A0 A1 A2 A3 A4 A5 A6 A7:Prop} (a0:A0) (a1:A1) (a2:A2) (a3:A3) (a4:A4) (a5:A5) (a6:A6) (a7:A7):A0∧A1∧A2∧A3∧A4∧A5∧A6∧A7:=⟨a0,a1,a2,a3,a4,a5,a6,a7⟩
theorem cj9 {A0 A1 A2 A3 A4 A5 A6 A7 A8:Prop} (a0:A0) (a1:A1) (a2:A2) (a3:A3) (a4:A4) (a5:A5) (a6:A6) (a7:A7) (a8:A8):A0∧A1∧A2∧A3∧A4∧A5∧A6∧A7∧A8:=⟨a0,a1,a2,a3,a4,a5,a6,a7,a8⟩
theorem fR {A0 A1 A2 A3 A4 A5 A6 A7 A8 A9:Prop} (a0:A0) (a1:A1) (a2:A2) (a3:A3) (a4:A4) (a5:A5) (a6:A6) (a7:A7) (a8:A8) (a9:A9):A0∧A1∧A2∧A3∧A4∧A5∧A6∧A7∧A8∧A9:=⟨a0,a1,a2,a3,a4,a5,a6,a7,a8,a9⟩
theorem lI {A0 A1 A2 A3 A4 A5 A6 A7 A8 A9 A10:Prop} (a0:A0) (a1:A1) (a2:A2) (a3:A3) (a4:A4) (a5:A5) (a6:A6) (a7:A7) (a8:A8) (a9:A9) (a10:A10):A0∧A1∧A2∧A3∧A4∧A5∧A6∧A7∧A8∧A9∧A10:=⟨a0,a1,a2,a3,a4,a5,a6,a7,a8,a9,a10⟩
theorem bD {A0 A1 A2 A3 A4 A5 A6 A7 A8 A9 A10 A11:Prop} (a0:A0) (a1:A1) (a2:A2) (a3:A3) (a4:A4) (a5:A5) (a6:A6) (a7:A7) (a8:A8) (a9:A9) (a10:A10) (a11:A11):A0∧A1∧A2∧A3∧A4∧A5∧A6∧A7∧A8∧A9∧A10∧A11:=⟨a0,a1,a2,a3,a4,a5,a6,a7,a8,a9,a10,a11⟩
theorem rn0 {F X Y:Prop} (f:F) (y:Y) (h:F→Hid Y→X:=by
 intro f y
 repeat (first
  |((first|apply Wp.cf|apply Wp.dU);(· simp only[go_sem,reduceIte,Nat.reduceEqDiff,Nat.reduceAdd,bx,ax,if_true,if_false,Nat.reduceMul,Nat.reduceLeDiff,f];exact rfl))
  |(refine aa.nil ⟨?_,?_⟩;(· first|trivial|simp[ay,au,apart,aH]))
  |(apply Wp.bq;(· simp only[go_sem,reduceIte,Nat.reduceEqDiff,Nat.reduceAdd,bx,ax,if_true,if_false,Nat.reduceMul,Nat.reduceLeDiff,f];exact rfl);(· rfl))
  |refine Wp.skip ?_
  |refine Wp.label ?_
  |refine Wp.block ?_
  |refine Wp.exit ?_
  |refine Wp.seq ?_
  |exact y.1)):X:=h f ⟨y⟩
theorem de {X Y:Prop} (y:Y) (h:Hid Y→X:=by
 intro y
 repeat (first
  |((first|apply Wp.cf|apply Wp.dU);(· simp only[go_sem,reduceIte,Nat.reduceEqDiff,Nat.reduceAdd,bx,ax,if_true,if_false,Nat.reduceMul,Nat.reduceLeDiff];exact rfl))
  |(refine aa.nil ⟨?_,?_⟩;(· first|trivial|simp[ay,au,apart,aH]))
  |(apply Wp.bq;(· simp only[go_sem,reduceIte,Nat.reduceEqDiff,Nat.reduceAdd,bx,ax,if_true,if_false,Nat.reduceMul,Nat.reduceLeDiff];exact rfl);(· rfl))
  |refine Wp.skip ?_
  |refine Wp.label ?_
  |refine Wp.block ?_
  |refine Wp.exit ?_
  |refine Wp.seq ?_
  |exact y.1)):X:=h ⟨y⟩
theorem rn1 {F C0 X Y:Prop} (f:F) (c0:C0) (y:Y) (h:F→C0→Hid Y→X:=by
 intro f c0 y
 repeat (first
  |((first|apply Wp.cf|apply Wp.dU|((first
   |(refine aa.bF ?_ ?_ c0 ?_;(· simp only[go_sem,reduceIte,Nat.reduceEqDiff,Nat.reduceAdd,bx]);(· simp only[go_sem,reduceIte,Nat.reduceEqDiff,Nat.reduceAdd,bx,List.map];first|exact af.refl _|assumption|(repeat (first|exact af.nil|refine af.cons (by first|exact ab.refl _|assumption|exact ab.cap|exact ab.any _) ?_)))));apply aa.evR));(· simp only[go_sem,reduceIte,Nat.reduceEqDiff,Nat.reduceAdd,bx,ax,if_true,if_false,Nat.reduceMul,Nat.reduceLeDiff,f];exact rfl))
  |(refine aa.nil ⟨?_,?_⟩;(· first|trivial|simp[ay,au,apart,aH]))
  |(apply Wp.bq;(· simp only[go_sem,reduceIte,Nat.reduceEqDiff,Nat.reduceAdd,bx,ax,if_true,if_false,Nat.reduceMul,Nat.reduceLeDiff,f];exact rfl);(· rfl))
  |refine Wp.skip ?_
  |refine Wp.label ?_
  |refine Wp.block ?_
  |refine Wp.exit ?_
  |refine Wp.seq ?_
  |exact y.1)):X:=h f c0 ⟨y⟩
theorem rn2 {F C0 C1 X Y:Prop} (f:F) (c0:C0) (c1:C1) (y:Y) (h:F→C0→C1→Hid Y→X:=by
 intro f c0 c1 y
 repeat (first
  |((first|apply Wp.cf|apply Wp.dU|((first
   |(refine aa.bF ?_ ?_ c0 ?_;(· simp only[go_sem,reduceIte,Nat.reduceEqDiff,Nat.reduceAdd,bx]);(· simp only[go_sem,reduceIte,Nat.reduceEqDiff,Nat.reduceAdd,bx,List.map];first|exact af.refl _|assumption|(repeat (first|exact af.nil|refine af.cons (by first|exact ab.refl _|assumption|exact ab.cap|exact ab.any _) ?_))))
   |(refine aa.bF ?_ ?_ c1 ?_;(· simp only[go_sem,reduceIte,Nat.reduceEqDiff,Nat.reduceAdd,bx]);(· simp only[go_sem,reduceIte,Nat.reduceEqDiff,Nat.reduceAdd,bx,List.map];first|exact af.refl _|assumption|(repeat (first|exact af.nil|refine af.cons (by first|exact ab.refl _|assumption|exact ab.cap|exact ab.any _) ?_)))));apply aa.evR));(· simp only[go_sem,reduceIte,Nat.reduceEqDiff,Nat.reduceAdd,bx,ax,if_true,if_false,Nat.reduceMul,Nat.reduceLeDiff,f];exact rfl))
  |(refine aa.nil ⟨?_,?_⟩;(· first|trivial|simp[ay,au,apart,aH]))
  |(apply Wp.bq;(· simp only[go_sem,reduceIte,Nat.reduceEqDiff,Nat.reduceAdd,bx,ax,if_true,if_false,Nat.reduceMul,Nat.reduceLeDiff,f];exact rfl);(· rfl))
  |refine Wp.skip ?_
  |refine Wp.label ?_
  |refine Wp.block ?_
  |refine Wp.exit ?_
  |refine Wp.seq ?_
  |exact y.1)):X:=h f c0 c1 ⟨y⟩
theorem rn3 {F C0 C1 C2 X Y:Prop} (f:F) (c0:C0) (c1:C1) (c2:C2) (y:Y) (h:F→C0→C1→C2→Hid Y→X:=by
 intro f c0 c1 c2 y
 repeat (first
  |((first|apply Wp.cf|apply Wp.dU|((first
   |(refine aa.bF ?_ ?_ c0 ?_;(· simp only[go_sem,reduceIte,Nat.reduceEqDiff,Nat.reduceAdd,bx]);(· simp only[go_sem,reduceIte,Nat.reduceEqDiff,Nat.reduceAdd,bx,List.map];first|exact af.refl _|assumption|(repeat (first|exact af.nil|refine af.cons (by first|exact ab.refl _|assumption|exact ab.cap|exact ab.any _) ?_))))
   |(refine aa.bF ?_ ?_ c1 ?_;(· simp only[go_sem,reduceIte,Nat.reduceEqDiff,Nat.reduceAdd,bx]);(· simp only[go_sem,reduceIte,Nat.reduceEqDiff,Nat.reduceAdd,bx,List.map];first|exact af.refl _|assumption|(repeat (first|exact af.nil|refine af.cons (by first|exact ab.refl _|assumption|exact ab.cap|exact ab.any _) ?_))))
   |(refine aa.bF ?_ ?_ c2 ?_;(· simp only[go_sem,reduceIte,Nat.reduceEqDiff,Nat.reduceAdd,bx]);(· simp only[go_sem,reduceIte,Nat.reduceEqDiff,Nat.reduceAdd,bx,List.map];first|exact af.refl _|assumption|(repeat (first|exact af.nil|refine af.cons (by first|exact ab.refl _|assumption|exact ab.cap|exact ab.any _) ?_)))));apply aa.evR));(· simp only[go_sem,reduceIte,Nat.reduceEqDiff,Nat.reduceAdd,bx,ax,if_true,if_false,Nat.reduceMul,Nat.reduceLeDiff,f];exact rfl))
  |(refine aa.nil ⟨?_,?_⟩;(· first|trivial|simp[ay,au,apart,aH]))
  |(apply Wp.bq;(· simp only[go_sem,reduceIte,Nat.reduceEqDiff,Nat.reduceAdd,bx,ax,if_true,if_false,Nat.reduceMul,Nat.reduceLeDiff,f];exact rfl);(· rfl))
  |refine Wp.skip ?_
  |refine Wp.label ?_
  |refine Wp.block ?_
  |refine Wp.exit ?_
  |refine Wp.seq ?_
  |exact y.1)):X:=h f c0 c1 c2 ⟨y⟩
theorem rn4 {F C0 C1 C2 C3 X Y:Prop} (f:F) (c0:C0) (c1:C1) (c2:C2) (c3:C3) (y:Y) (h:F→C0→C1→C2→C3→Hid Y→X:=by
 intro f c0 c1 c2 c3 y
 repeat (first
  |((first|apply Wp.cf|apply Wp.dU|((first
   |(refine aa.bF ?_ ?_ c0 ?_;(· simp only[go_sem,reduceIte,Nat.reduceEqDiff,Nat.reduceAdd,bx]);(· simp only[go_sem,reduceIte,Nat.reduceEqDiff,Nat.reduceAdd,bx,List.map];first|exact af.refl _|assumption|(repeat (first|exact af.nil|refine af.cons (by first|exact ab.refl _|assumption|exact ab.cap|exact ab.any _) ?_))))
   |(refine aa.bF ?_ ?_ c1 ?_;(· simp only[go_sem,reduceIte,Nat.reduceEqDiff,Nat.reduceAdd,bx]);(· simp only[go_sem,reduceIte,Nat.reduceEqDiff,Nat.reduceAdd,bx,List.map];first|exact af.refl _|assumption|(repeat (first|exact af.nil|refine af.cons (by first|exact ab.refl _|assumption|exact ab.cap|exact ab.any _) ?_))))
   |(refine aa.bF ?_ ?_ c2 ?_;(· simp only[go_sem,reduceIte,Nat.reduceEqDiff,Nat.reduceAdd,bx]);(· simp only[go_sem,reduceIte,Nat.reduceEqDiff,Nat.reduceAdd,bx,List.map];first|exact af.refl _|assumption|(repeat (first|exact af.nil|refine af.cons (by first|exact ab.refl _|assumption|exact ab.cap|exact ab.any _) ?_))))
   |(refine aa.bF ?_ ?_ c3 ?_;(· simp only[go_sem,reduceIte,Nat.reduceEqDiff,Nat.reduceAdd,bx]);(· simp only[go_sem,reduceIte,Nat.reduceEqDiff,Nat.reduceAdd,bx,List.map];first|exact af.refl _|assumption|(repeat (first|exact af.nil|refine af.cons (by first|exact ab.refl _|assumption|exact ab.cap|exact ab.any _) ?_)))));apply aa.evR));(· simp only[go_sem,reduceIte,Nat.reduceEqDiff,Nat.reduceAdd,bx,ax,if_true,if_false,Nat.reduceMul,Nat.reduceLeDiff,f];exact rfl))
  |(refine aa.nil ⟨?_,?_⟩;(· first|trivial|simp[ay,au,apart,aH]))
  |(apply Wp.bq;(· simp only[go_sem,reduceIte,Nat.reduceEqDiff,Nat.reduceAdd,bx,ax,if_true,if_false,Nat.reduceMul,Nat.reduceLeDiff,f];exact rfl);(· rfl))
  |refine Wp.skip ?_
  |refine Wp.label ?_
  |refine Wp.block ?_
  |refine Wp.exit ?_
  |refine Wp.seq ?_
  |exact y.1)):X:=h f c0 c1 c2 c3 ⟨y⟩
theorem an0 {F X Y:Prop} (f:F) (y:Y) (h:F→Hid Y→X:=by
 intro f y
 repeat (first
  |((first|apply Wp.seqItems|apply Wp.items);(· simp only[go_sem,reduceIte,Nat.reduceEqDiff,Nat.reduceAdd,bx,ax,if_true,if_false,Nat.reduceMul,Nat.reduceLeDiff,f];exact rfl))
  |(refine aa.nil ⟨?_,?_⟩;(· first|trivial|simp[ay,au,apart,aH]))
  |(apply Wp.bq;(· simp only[go_sem,reduceIte,Nat.reduceEqDiff,Nat.reduceAdd,bx,ax,if_true,if_false,Nat.reduceMul,Nat.reduceLeDiff,f];exact rfl);(· rfl))
  |refine Wp.skip ?_
  |refine Wp.label ?_
  |refine Wp.block ?_
  |refine Wp.exit ?_
  |refine Wp.seq ?_
  |exact y.1)):X:=h f ⟨y⟩
theorem lJ {X Y:Prop} (y:Y) (h:Hid Y→X:=by
 intro y
 repeat (first
  |((first|apply Wp.seqItems|apply Wp.items);(· simp only[go_sem,reduceIte,Nat.reduceEqDiff,Nat.reduceAdd,bx,ax,if_true,if_false,Nat.reduceMul,Nat.reduceLeDiff];exact rfl))
  |(refine aa.nil ⟨?_,?_⟩;(· first|trivial|simp[ay,au,apart,aH]))
  |(apply Wp.bq;(· simp only[go_sem,reduceIte,Nat.reduceEqDiff,Nat.reduceAdd,bx,ax,if_true,if_false,Nat.reduceMul,Nat.reduceLeDiff];exact rfl);(· rfl))
  |refine Wp.skip ?_
  |refine Wp.label ?_
  |refine Wp.block ?_
  |refine Wp.exit ?_
  |refine Wp.seq ?_
  |exact y.1)):X:=h ⟨y⟩
theorem an1 {F C0 X Y:Prop} (f:F) (c0:C0) (y:Y) (h:F→C0→Hid Y→X:=by
 intro f c0 y
 repeat (first
  |((first|apply Wp.seqItems|apply Wp.items|((first
   |(refine aa.bF ?_ ?_ c0 ?_;(· simp only[go_sem,reduceIte,Nat.reduceEqDiff,Nat.reduceAdd,bx]);(· simp only[go_sem,reduceIte,Nat.reduceEqDiff,Nat.reduceAdd,bx,List.map];first|exact af.refl _|assumption|(repeat (first|exact af.nil|refine af.cons (by first|exact ab.refl _|assumption|exact ab.cap|exact ab.any _) ?_)))));apply aa.eval));(· simp only[go_sem,reduceIte,Nat.reduceEqDiff,Nat.reduceAdd,bx,ax,if_true,if_false,Nat.reduceMul,Nat.reduceLeDiff,f];exact rfl))
  |(refine aa.nil ⟨?_,?_⟩;(· first|trivial|simp[ay,au,apart,aH]))
  |(apply Wp.bq;(· simp only[go_sem,reduceIte,Nat.reduceEqDiff,Nat.reduceAdd,bx,ax,if_true,if_false,Nat.reduceMul,Nat.reduceLeDiff,f];exact rfl);(· rfl))
  |refine Wp.skip ?_
  |refine Wp.label ?_
  |refine Wp.block ?_
  |refine Wp.exit ?_
  |refine Wp.seq ?_
  |exact y.1)):X:=h f c0 ⟨y⟩
theorem oG {C0 X Y:Prop} (c0:C0) (y:Y) (h:C0→Hid Y→X:=by
 intro c0 y
 repeat (first
  |((first|apply Wp.seqItems|apply Wp.items|((first
   |(refine aa.bF ?_ ?_ c0 ?_;(· simp only[go_sem,reduceIte,Nat.reduceEqDiff,Nat.reduceAdd,bx]);(· simp only[go_sem,reduceIte,Nat.reduceEqDiff,Nat.reduceAdd,bx,List.map];first|exact af.refl _|assumption|(repeat (first|exact af.nil|refine af.cons (by first|exact ab.refl _|assumption|exact ab.cap|exact ab.any _) ?_)))));apply aa.eval));(· simp only[go_sem,reduceIte,Nat.reduceEqDiff,Nat.reduceAdd,bx,ax,if_true,if_false,Nat.reduceMul,Nat.reduceLeDiff];exact rfl))
  |(refine aa.nil ⟨?_,?_⟩;(· first|trivial|simp[ay,au,apart,aH]))
  |(apply Wp.bq;(· simp only[go_sem,reduceIte,Nat.reduceEqDiff,Nat.reduceAdd,bx,ax,if_true,if_false,Nat.reduceMul,Nat.reduceLeDiff];exact rfl);(· rfl))
  |refine Wp.skip ?_
  |refine Wp.label ?_
  |refine Wp.block ?_
  |refine Wp.exit ?_
  |refine Wp.seq ?_
  |exact y.1)):X:=h c0 ⟨y⟩
theorem an2 {F C0 C1 X Y:Prop} (f:F) (c0:C0) (c1:C1) (y:Y) (h:F→C0→C1→Hid Y→X:=by
 intro f c0 c1 y
 repeat (first
  |((first|apply Wp.seqItems|apply Wp.items|((first
   |(refine aa.bF ?_ ?_ c0 ?_;(· simp only[go_sem,reduceIte,Nat.reduceEqDiff,Nat.reduceAdd,bx]);(· simp only[go_sem,reduceIte,Nat.reduceEqDiff,Nat.reduceAdd,bx,List.map];first|exact af.refl _|assumption|(repeat (first|exact af.nil|refine af.cons (by first|exact ab.refl _|assumption|exact ab.cap|exact ab.any _) ?_))))
   |(refine aa.bF ?_ ?_ c1 ?_;(· simp only[go_sem,reduceIte,Nat.reduceEqDiff,Nat.reduceAdd,bx]);(· simp only[go_sem,reduceIte,Nat.reduceEqDiff,Nat.reduceAdd,bx,List.map];first|exact af.refl _|assumption|(repeat (first|exact af.nil|refine af.cons (by first|exact ab.refl _|assumption|exact ab.cap|exact ab.any _) ?_)))));apply aa.eval));(· simp only[go_sem,reduceIte,Nat.reduceEqDiff,Nat.reduceAdd,bx,ax,if_true,if_false,Nat.reduceMul,Nat.reduceLeDiff,f];exact rfl))
  |(refine aa.nil ⟨?_,?_⟩;(· first|trivial|simp[ay,au,apart,aH]))
  |(apply Wp.bq;(· simp only[go_sem,reduceIte,Nat.reduceEqDiff,Nat.reduceAdd,bx,ax,if_true,if_false,Nat.reduceMul,Nat.reduceLeDiff,f];exact rfl);(· rfl))
  |refine Wp.skip ?_
  |refine Wp.label ?_
  |refine Wp.block ?_
  |refine Wp.exit ?_
  |refine Wp.seq ?_
  |exact y.1)):X:=h f c0 c1 ⟨y⟩
theorem an3 {F C0 C1 C2 X Y:Prop} (f:F) (c0:C0) (c1:C1) (c2:C2) (y:Y) (h:F→C0→C1→C2→Hid Y→X:=by
 intro f c0 c1 c2 y
 repeat (first
  |((first|apply Wp.seqItems|apply Wp.items|((first
   |(refine aa.bF ?_ ?_ c0 ?_;(· simp only[go_sem,reduceIte,Nat.reduceEqDiff,Nat.reduceAdd,bx]);(· simp only[go_sem,reduceIte,Nat.reduceEqDiff,Nat.reduceAdd,bx,List.map];first|exact af.refl _|assumption|(repeat (first|exact af.nil|refine af.cons (by first|exact ab.refl _|assumption|exact ab.cap|exact ab.any _) ?_))))
   |(refine aa.bF ?_ ?_ c1 ?_;(· simp only[go_sem,reduceIte,Nat.reduceEqDiff,Nat.reduceAdd,bx]);(· simp only[go_sem,reduceIte,Nat.reduceEqDiff,Nat.reduceAdd,bx,List.map];first|exact af.refl _|assumption|(repeat (first|exact af.nil|refine af.cons (by first|exact ab.refl _|assumption|exact ab.cap|exact ab.any _) ?_))))
   |(refine aa.bF ?_ ?_ c2 ?_;(· simp only[go_sem,reduceIte,Nat.reduceEqDiff,Nat.reduceAdd,bx]);(· simp only[go_sem,reduceIte,Nat.reduceEqDiff,Nat.reduceAdd,bx,List.map];first|exact af.refl _|assumption|(repeat (first|exact af.nil|refine af.cons (by first|exact ab.refl _|assumption|exact ab.cap|exact ab.any _) ?_)))));apply aa.eval));(· simp only[go_sem,reduceIte,Nat.reduceEqDiff,Nat.reduceAdd,bx,ax,if_true,if_false,Nat.reduceMul,Nat.reduceLeDiff,f];exact rfl))
  |(refine aa.nil ⟨?_,?_⟩;(· first|trivial|simp[ay,au,apart,aH]))
  |(apply Wp.bq;(· simp only[go_sem,reduceIte,Nat.reduceEqDiff,Nat.reduceAdd,bx,ax,if_true,if_false,Nat.reduceMul,Nat.reduceLeDiff,f];exact rfl);(· rfl))
  |refine Wp.skip ?_
  |refine Wp.label ?_
  |refine Wp.block ?_
  |refine Wp.exit ?_
  |refine Wp.seq ?_
  |exact y.1)):X:=h f c0 c1 c2 ⟨y⟩
end Go.Av
end
section
namespace Go.Av
section
variable {P:Program} {N:Nat}
def lK (P:Program) (id:Nat) (args:List AV) (h:H) (r:AV) (h':H):Prop:=
 ∀G w vs,G.dom id→aq G w args vs→bf G h w→dc G h h'→YieldAt Fence.wide 0 P (G.ι id) vs.toArray w fun e w'=>∃v G',e= .returned v∧Trans G w h G' w' h'∧bf G' h' w'∧ah G' w' r v
theorem te {ro:Option Nat} {n l:Nat} {f:FuncId} {tmps:Array Value} {assign body:Code} {w:World} {R:Ending→World→Prop} (h:RoundIn Fence.wide n P l f tmps assign body w R):RoundIn (rd ro) n P l f tmps assign body w R:=h
theorem rl {ops:Array Oper} {i:Nat} {o:Oper} {it:aO} {t:Tm} {id:Nat} {y:Opd} {l:List Opd} {vals:List AV} {h1 h1':H} {r:AV} (ho:ops[i]? =some o) (hit:dn P N ops o=some it) (hg:guardOf t it.guard=some true) (hop:it.op= .callv y l)
  (hy:ev t y= .yld id) (hs:af (l.map (ev t)) vals) (hc:lK P id vals h1 r h1'):iT P ops i o t h1 r h1':=by
 unfold dn at hit
 split at hit
 ·rename_i op g hcop hgd
  split at hit<;>cases hit
  rename_i hcond
  simp only[Bool.and_eq_true] at hcond
  simp only at hop
  subst hop
  have hcop:=iE hcop (by simp)
  obtain ⟨c,z,e1,e2,e3,e4⟩:=oZ hcop
  intro G w a ht R F K Q hK ro
  unfold wpOpIn
  rw[ho]
  simp only[dd hgd ht hg,if_true]
  have rr:=gq (P:=P) (fW ht) e4
  have rz:=aE (P:=P) e3 (fW ht)
  have hcut:=ku (t:=t) hcond.2
  have el:l.map (ev (jh (names ops o) t))=l.map (ev t):=List.map_congr_left fun x hx=>hcut x (by simp[cE,hx])
  rw[el] at rr
  rw[hcut y (by simp[cE]),hy] at rz
  simp only[ah] at rz
  obtain ⟨rdom,rz⟩:=rz
  refine ⟨fun _ _=>trivial,?_⟩
  obtain ⟨fn,tmps,asg,body,q1,q2⟩:=hc G w _ rdom (hs G w _ rr) R F
  have hargs:(c.args.map a.eval)=(c.args.toList.map a.eval).toArray:=by cases c.args;simp
  have hrun:(execOp a.eval o).run P w= .ok (.round (G.ι id) fn tmps asg body) w:=by
   simp[execOp,e1,resolve,e2,rz,Deferred.ofValue,invoke,hargs]
   exact q1
  rw[Oper.semAt_eq _ _ _ (fp hcop),hrun,Oper.uponIn_round]
  refine ⟨fun h=>by simp[rd,Fence.wide] at h,te (q2.mono ?_)⟩
  rintro e w' ⟨v,G',rfl,T,R',V⟩
  exact hK G' w' v T R' V
 ·cases hit
def kO (t:Tm):List Nat→List AV→Tm
 |p::ps,x::xs=>kO (upd t p x) ps xs
 |_,_=>t
theorem o8 {G:aI} {w:World}:∀{ps:List Nat} {xs:List AV} {vs:List Value} {t:Tm} {tmps:Array Value},aq G w xs vs→(∀p∈ps,p<tmps.size)→(∀i,ah G w (t i) (tmps.getD i undef))→
  (∀i,ah G w (kO t ps xs i) (((ps.zip vs).foldl (fun tm (p:Nat × Value)=>tm.setIfInBounds p.1 p.2) tmps).getD i undef))∧((ps.zip vs).foldl (fun tm (p:Nat × Value)=>tm.setIfInBounds p.1 p.2) tmps).size=tmps.size
 |[],xs,vs,t,tmps,_,_,h=>by simpa [kO] using h
 |p::ps,[],vs,t,tmps,hv,_,h=>by
  simp only[aq] at hv;subst hv
  simpa [kO] using h
 |p::ps,x::xs,vs,t,tmps,hv,hp,h=>by
  simp only[aq] at hv
  obtain ⟨v,us,rfl,h1,h2⟩:=hv
  have hk:=hp p (by simp)
  have:=o8 (ps:=ps) (t:=upd t p x) (tmps:=tmps.setIfInBounds p v) h2 (fun q hq=>by simpa using hp q (by simp[hq])) (fun i=>by
   simp only[upd]
   by_cases e:i=p
   ·subst e;simp[Array.getElem?_setIfInBounds,hk];exact h1
   ·have e2:(tmps.setIfInBounds p v).getD i undef=tmps.getD i undef:=by simp[Array.getElem?_setIfInBounds,Ne.symm e]
    rw[if_neg e,e2];exact h i)
  simp only[kO,List.zip_cons_cons,List.foldl_cons]
  exact ⟨this.1,by rw[this.2];simp⟩
inductive gA:aP→Bool→LoopState→Option Code→Prop where
 |normal:gA .normal true .ready none
 |ret:gA .ret false .done (some .ret)
 |exit (i:Nat):gA (.exit i) false .done (some (.exit i))
 |goto (l:Nat):gA (.goto l) false .done (some (.goto l))
theorem o9 {G:aI} {w:World} {f:jn} {n m id M:Nat} {T:List Nat} {t:Nat→AV} {ps:List Nat} {asg body:Code} {st:LoopState} {pend:Option Code} (R:bf G ⟨f,n,T,m⟩ w) (ho:f id=some (.loop M t ps asg body st pend)) {r:Loop}
  (hr:w.heap[G.ι id]? =some (.loop r)) (st':LoopState) (pend':Option Code):
  Trans G w ⟨f,n,T,m⟩ G (w.putObj (G.ι id) (.loop {r with state:=st',pending:=pend'})) ⟨upd f id (some (.loop M t ps asg body st' pend')),n,T,m⟩∧
  bf G ⟨upd f id (some (.loop M t ps asg body st' pend')),n,T,m⟩ (w.putObj (G.ι id) (.loop {r with state:=st',pending:=pend'})):=by
 obtain ⟨d1,d2,d3,r0,e0,d4⟩:=R.obj id _ ho
 have hrr:r0=r:=by
  have:=hr
  rw[e0] at this
  cases this;rfl
 subst hrr
 have tu:dO (G.ι id) w (w.putObj (G.ι id) (.loop {r0 with state:=st',pending:=pend'})):=
  ⟨by simp,fun B hB=>World.putObj_heap_other hB,fun c T fr e=>absurd (hr.symm.trans e) (by simp),rfl,rfl⟩
 have hO:∀B,H.O ⟨f,n,T,m⟩ G B↔H.O ⟨upd f id (some (.loop M t ps asg body st' pend')),n,T,m⟩ G B:=by
  intro B
  constructor
  ·rintro ⟨j,o,h1,h2⟩
   by_cases e:j=id
   ·exact ⟨id,.loop M t ps asg body st' pend',by simp[upd],by rw[←h2,e]⟩
   ·exact ⟨j,o,by simpa [upd,e] using h1,h2⟩
  ·rintro ⟨j,o,h1,h2⟩
   by_cases e:j=id
   ·exact ⟨id,_,ho,by rw[←h2,e]⟩
   ·exact ⟨j,o,by simpa [upd,e] using h1,h2⟩
 have hne:∀B,¬H.O ⟨f,n,T,m⟩ G B→B≠G.ι id:=fun B h e=>h ⟨id,_,ho,e.symm⟩
 have Tr:Trans G w ⟨f,n,T,m⟩ G (w.putObj (G.ι id) (.loop {r0 with state:=st',pending:=pend'})) ⟨upd f id (some (.loop M t ps asg body st' pend')),n,T,m⟩:=by
  constructor
  ·exact fun _ x=>x
  ·exact fun _=> .inl
  ·exact fun _ _=>rfl
  ·exact fun _ x=>x
  ·exact fun _=> .inl
  ·exact fun _ _=>rfl
  ·exact Nat.le_refl _
  ·exact Nat.le_refl _
  ·rw[tu.size];exact Nat.le_refl _
  ·exact tu.os
  ·exact tu.out
  ·intro B hB
   by_cases e:B=G.ι id
   ·subst e
    rw[hr,World.putObj_heap_same d3]
    exact ⟨_,rfl⟩
   ·rw[tu.same B e];exact bE.refl _
  ·exact fun B hB h1 _=>tu.same B (hne B h1)
  ·exact fun _ _ _=>Iff.rfl
  ·exact fun _ _ _ _=>rfl
  ·intro B hB h1 h2 e he
   refine ⟨fun j hj=>?_,fun e' he'=>by rw[he] at he';cases he';exact Nat.le_refl _⟩
   have:=tu.same B (hne B h2)
   unfold World.cell?
   simp only[this]
  ·exact fun B _ h=>(hO B).2 h
  ·exact fun B _ h=>h
  ·intro j o h
   by_cases e:j=id
   ·exact .inl ⟨_,by rw[e];exact ho⟩
   ·exact .inl ⟨o,by simpa [upd,e] using h⟩
  ·exact fun _=> .inl
 refine ⟨Tr,⟨fun j o hj=>?_,fun i j o o' h1 h2=>?_,fun t ht=>⟨(R.tok t ht).1,fun B e he=>by rw[tu.size];exact (R.tok t ht).2 B e he⟩,R.tinj⟩⟩
 ·by_cases e:j=id
  ·subst e
   have:o= .loop M t ps asg body st' pend':=by simpa [upd] using hj.symm
   subst this
   refine ⟨d1,d2,by rw[tu.size];exact d3,_,World.putObj_heap_same d3,d4.1,fun i=>ah.aZ tu _ _ (d4.2.1 i),d4.2.2.1,d4.2.2.2.1,d4.2.2.2.2.1,rfl,rfl⟩
  ·have hj':f j=some o:=by simpa [upd,e] using hj
   obtain ⟨a1,a2,a3,a4⟩:=R.obj j o hj'
   refine ⟨a1,a2,by rw[tu.size];exact a3,?_⟩
   have hb:G.ι j≠G.ι id:=fun e'=>e (R.inj j id o _ hj' ho e')
   rw[tu.same _ hb]
   exact a4.aZ tu
 ·have get:∀k p,upd f id (some (.loop M t ps asg body st' pend')) k=some p→∃p',f k=some p':=by
   intro k p hk
   by_cases e:k=id
   ·exact ⟨_,by rw[e];exact ho⟩
   ·exact ⟨p,by simpa [upd,e] using hk⟩
  obtain ⟨p,hp⟩:=get i o h1
  obtain ⟨p',hp'⟩:=get j o' h2
  exact R.inj i j p p' hp hp'
theorem vH {id M n m:Nat} {f:jn} {T:List Nat} {t:Tm} {ps:List Nat} {asg body:Code} {x y:AC} {args:List AV} {Q:AV→H→Prop} (ho:f id=some (.loop M t ps asg body .ready none)) (ha:cCode P M asg=some x) (hb:cCode P M body=some y) (hna:fl asg=true) (hnb:fl body=true)
  (hl:args.length=ps.length) (hps:∀p∈ps,p<M)
  (hw:Wp P M x ⟨kO t ps args,⟨f,n,T,m⟩⟩ fun e s=>e= .normal∧∃t1,s.h.objs id=some (.loop M t1 ps asg body .ready none)∧
   Wp P M y ⟨s.t,{s.h with objs:=upd s.h.objs id (some (.loop M t1 ps asg body .busy none))}⟩ fun e2 s2=>∃t2 b st pend,s2.h.objs id=some (.loop M t2 ps asg body .busy none)∧gA e2 b st pend∧
    Q (.bool b) {s2.h with objs:=upd s2.h.objs id (some (.loop M t2 ps asg body st pend))}):
  ∃r h',lK P id args ⟨f,n,T,m⟩ r h'∧Q r h':=by
 obtain ⟨e,s,run,rfl,t1,ho1,hw2⟩:=hw asg ha
 obtain ⟨e2,s2,run2,t2,b,st,pend,ho2,hre,hq⟩:=hw2 body hb
 refine ⟨_,_,?_,hq⟩
 have nm1:=run.1
 have nm2:=run2.1
 simp only at nm1 nm2
 intro G w vs hdom hv R F
 obtain ⟨d1,d2,d3,r,e0,d4,d5,d6,d7,d8,d9,d10⟩:=R.obj id _ ho
 have hsz:vs.toArray.size=r.params.size:=by
  have h1:=hv.length
  have h2:r.params.toList.length=ps.length:=by rw[d6]
  simp at h2 ⊢
  omega
 refine ⟨r.fn,_,r.assign,r.body,run_yield e0 hsz,?_⟩
 refine roundIn_of_wpIn (F:=Fence.wide) trivial ?_
 have hzip:(r.params.zip vs.toArray).foldl (fun tmps (p:Tmp × Value)=>tmps.setIfInBounds p.1 p.2) r.tmps=(ps.zip vs).foldl (fun tm (p:Nat × Value)=>tm.setIfInBounds p.1 p.2) r.tmps:=by
  rw[←Array.foldl_toList,Array.toList_zip,d6]
 have hput:=o8 (ps:=ps) (t:=t) (tmps:=r.tmps) hv (fun p hp=>by rw[d4];exact hps p hp) d5
 have F1:dc G ⟨f,n,T,m⟩ s.h:=F.sub (Nat.le_refl _) nm2.1 (Nat.le_refl _) nm2.2
 have rel0:Rel M ⟨kO t ps args,⟨f,n,T,m⟩⟩ G w {tmps:=(r.params.zip vs.toArray).foldl (fun tmps (p:Tmp × Value)=>tmps.setIfInBounds p.1 p.2) r.tmps,defers:=[]}:=by
  rw[hzip]
  exact ⟨hput.2.trans d4,hput.1,R,by simp,by simp⟩
 have w1:=run.2 (some (G.ι id)) (.inr hna) G w _ rel0 F1
 rw[d7,d8]
 refine wpIn_mono w1 ?_
 rintro e' a1 w1' ⟨h1,-,G1,T1,r1⟩
 cases e'<;>simp only[aP.ey] at h1
 have hι:G1.ι id=G.ι id:=T1.ι_eq id d1
 obtain ⟨k1,k2,k3,r',k4,k5,k6,k7,k8,k9,k10,k11⟩:=r1.h.obj id _ ho1
 rw[hι] at k3 k4
 have hbr:=run_beginRound (P:=P) k4 k10
 refine ⟨_,hbr,?_⟩
 have k4':w1'.heap[G1.ι id]? =some (.loop r'):=by rw[hι];exact k4
 obtain ⟨T2,R2⟩:=o9 (n:=s.h.n) (m:=s.h.m) (T:=s.h.toks) (f:=s.h.objs) r1.h ho1 k4' .busy none
 rw[hι] at T2 R2
 have hrec:{r' with state:=LoopState.busy,pending:=(none:Option Code)}= {r' with state:= .busy}:=by rw[←k11]
 rw[hrec] at T2 R2
 have rel1:Rel M ⟨s.t,{s.h with objs:=upd s.h.objs id (some (.loop M t1 ps asg body .busy none))}⟩ G1 (w1'.putObj (G.ι id) (.loop {r' with state:= .busy})) a1:=
  ⟨r1.size,fun i=>ah.mono r1.h T2 _ _ (r1.t i),R2,r1.df.mono T2⟩
 have F2:dc G1 {s.h with objs:=upd s.h.objs id (some (.loop M t1 ps asg body .busy none))} s2.h:=by
  have:=(F.step (h':={s2.h with objs:=upd s2.h.objs id (some (.loop M t2 ps asg body st pend))}) T1)
  exact this
 refine wpIn_mono (run2.2 (some (G.ι id)) (.inr hnb) G1 _ a1 rel1 F2) ?_
 rintro e' a2 w2 ⟨q1,-,G2,T3,r2⟩
 have hι2:G2.ι id=G.ι id:=(T3.ι_eq id k1).trans hι
 obtain ⟨j1,j2,j3,r'',j4,j5,j6,j7,j8,j9,j10,j11⟩:=r2.h.obj id _ ho2
 have j4':w2.heap[G.ι id]? =some (.loop r''):=by rw[←hι2];exact j4
 obtain ⟨T4,R4⟩:=o9 (n:=s2.h.n) (m:=s2.h.m) (T:=s2.h.toks) (f:=s2.h.objs) r2.h ho2 j4 st pend
 rw[hι2] at T4 R4
 have Tall:=((T1.trans R r1.h T2).trans R R2 T3).trans R r2.h T4
 cases hre
 all_goals
  cases e'<;>simp only[aP.ey] at q1
  try subst q1
  have hend:=fun j=>run_endRound (P:=P) j j4'
  refine ⟨_,_,hend _,_,G2,rfl,Tall,R4,?_⟩
  simp only[ah,Option.isNone_none,Option.isNone_some]
def mW (P:Program) (id:Nat) (args:List AV) (l:List Fr) (Q:AV→List Fr→Prop):Prop:=
 ∀n m,Ok l n (ks l) m→∃r l' n' m',lK P id args ⟨lay l,n,ks l,m⟩ r ⟨lay l',n',ks l',m'⟩∧n≤n'∧m≤m'∧Ok l' n' (ks l') m'∧(∀j,n≤j∨(lay l j).isSome=true∨lay l' j=none)∧(∀t∈ks l',t∈ks l∨m≤t)∧Q r l'
theorem aa.BA {dst:Option Nat} {g:Option (Nat × Bool)} {id:Nat} {y:Opd} {l:List Opd} {its:List aO} {t:Tm} {log:List Ent} {K:Tm→H→List Ent→Prop} {vals:List AV} {Q:AV→List Fr→Prop} (A G B:List Fr) {n m:Nat} {T:List Nat}
  (hg:guardOf t g=some true) (hy:ev t y= .yld id) (hs:af (l.map (ev t)) vals) (hc:mW P id vals G Q) (ok:Ok (A++G++B) n T m)
  (rest:∀r G' n' m' ids,Q r G'→n≤n'→m≤m'→Ok (A++G'++B) n' (ks G'++T.filter fun t=> !(ks G).contains t) m'→Wi (A++G++B) n (A++G'++B)→Ki (A++G++B) m (A++G'++B)→aa P N its (cL t dst r) ⟨lay (A++G'++B),n',ks G'++T.filter (fun t=> !(ks G).contains t),m'⟩ (⟨[],ids,ks G++ks G'⟩::log) K):
  aa P N (⟨dst,g,.callv y l⟩::its) t ⟨lay (A++G++B),n,T,m⟩ log K:=by
 have okG:Ok G n (ks G) m:=by
  have d1:=List.pairwise_append.1 (List.pairwise_append.1 ok.dj).1
  have t1:=List.pairwise_append.1 (List.pairwise_append.1 ok.td).1
  exact ⟨fun F hF=>ok.bd F (by simp[hF]),d1.2.1,fun t ht=>ht,t1.2.1,fun t ht=>ok.tb t (ok.tk t (by rw[bI,bI];simp[ht]))⟩
 obtain ⟨r,G',n',m',h1,h2,h3,h4,h5,h6,h7⟩:=hc n m okG
 obtain ⟨ids,tc⟩:=kA ok h4 h2 h3 h5
 exact aa.step tc (fun ops i o ho hit=>rl ho hit hg rfl hy hs h1) (fun h=>by simp[eW] at h) (rest r G' n' m' ids h7 h2 h3 (ok.swap h4 h2 h3 h5 h6) (.mid h5) (.mid h6))
theorem vI {code:Code} {g:Opd} {ps:List Nat} {x y:AC} (h:cCode P N code=some (.oE g ps x y)):∃z qs a b,code= .rangeFunc z qs a b∧opd P 0 z=some g∧qs.toList=ps∧cCode P N a=some x∧cCode P N b=some y∧fl a=true∧fl b=true:=by
 cases code with
 |rangeFunc z qs a b=>
  simp only[cCode] at h
  split at h
  ·rename_i g' x' y' h1 h2 h3
   split at h
   ·rename_i hcc
    cases h
    have hcc':fl a=true∧fl b=true:=by simpa using hcc
    exact ⟨_,_,_,_,rfl,h1,rfl,h2,h3,hcc'.1,hcc'.2⟩
   ·cases h
  ·cases h
 |_=>
  simp only[cCode] at h
  first|(simp at h;done)|(cases h;done)|((repeat' split at h)<;>cases h;done)
inductive iL:Option Code→aP→Prop where
 |none:iL none .normal
 |ret:iL (some .ret) .ret
 |exit (i:Nat):iL (some (.exit i)) (.exit i)
 |goto (l:Nat):iL (some (.goto l)) (.goto l)
theorem Wp.oE {g:Opd} {ps:List Nat} {x y:AC} {t:Tm} {f:jn} {n m:Nat} {T:List Nat} {Q:aP→St→Prop} {fi:FuncId} {fn:Func} {first caps:List AV} (hg:ev t g= .clo (.func fi) first caps) (hf:P.funcs[fi]? =some fn) (hfb:fn.body.isSome=true) (hfn:fn.name≠ "runtime.NumGoroutine")
  (hfresh:f n=none)
  (hw:∀asg body,cCode P N asg=some x→cCode P N body=some y→fl asg=true→fl body=true→∃r f2 n2 T2 m2 t2 st pend e,
   bn P fi (first++[.yld n]++caps) ⟨upd f n (some (.loop N t ps asg body .ready none)),n+1,T,m⟩ r ⟨f2,n2,T2,m2⟩∧n+1≤n2∧m≤m2∧f2 n=some (.loop N t2 ps asg body st pend)∧st≠ .busy∧iL pend e∧
   Q e ⟨t,⟨fun j=>if j=n then none else f2 j,n2,T2,m2⟩⟩):Wp P N (.oE g ps x y) ⟨t,⟨f,n,T,m⟩⟩ Q:=by
 intro code hc
 obtain ⟨z,qs,asg,body,rfl,c1,c2,c3,c4,c5,c6⟩:=vI hc
 obtain ⟨r,f2,n2,T2,m2,t2,st,pend,e,hcall,hn2,hm2,ho2,hst,hle,hq⟩:=hw asg body c3 c4 c5 c6
 refine ⟨e,_,⟨⟨by simp only;omega,by simp only;omega⟩,fun ro okc G w a rel F=>?_⟩,hq⟩
 obtain rfl:ro=none:=by
  rcases okc with h|h
  ·exact h
  ·simp[fl] at h
 have hz:ah G w (.clo (.func fi) first caps) (a.eval z):=by rw[←hg];exact aE c1 rel.t
 simp only[ah] at hz
 obtain ⟨vs,us,hz,hv1,hv2⟩:=hz
 refine wpIn_rangeFunc (F:=rd none) (n:=0) fun fid _=>?_
 let D:=w.heap.size
 let eK:Loop:={state:= .ready,pending:=none,fn:=fid,tmps:=a.tmps,params:=qs,assign:=asg,body:=body,defers:=w.heap.size}
 let w1:=(w.alloc (.deferred (some []))).alloc (.loop eK)
 have hD1:w1.heap[D]? =some (.deferred (some [])):=by
  show ((w.heap.push (.deferred (some []))).push (.loop eK))[w.heap.size]? =_
  rw[Array.getElem?_push,if_neg (by simp),Array.getElem?_push,if_pos rfl]
 have hL1:w1.heap[D+1]? =some (.loop eK):=by
  show ((w.heap.push (.deferred (some []))).push (.loop eK))[w.heap.size+1]? =_
  rw[Array.getElem?_push,if_pos (by simp)]
 have hsz1:w1.heap.size=w.heap.size+2:=by show ((w.heap.push (.deferred (some []))).push (.loop eK)).size=_;simp
 have hold:∀B,B<w.heap.size→w1.heap[B]? =w.heap[B]? :=by
  intro B hB
  show ((w.heap.push (.deferred (some []))).push (.loop eK))[B]? =_
  rw[Array.getElem?_push,if_neg (by rw[Array.size_push];omega),Array.getElem?_push,if_neg (by omega)]
 have hndom:¬G.dom n:=F.1 n (Nat.le_refl _) (by simp only;omega)
 let G1:aI:={G with dom:=fun j=>G.dom j∨j=n,ι:=upd G.ι n (D+1),own:=fun B=>G.own B∨B=D+1}
 have hι1:∀j,G.dom j→G1.ι j=G.ι j:=fun j hj=>by
  simp only[G1,upd];rw[if_neg];rintro rfl;exact hndom hj
 have hιn:G1.ι n=D+1:=by simp[G1,upd]
 have hne:∀j o,f j=some o→j≠n:=fun j o h e=>by subst e;rw[hfresh] at h;cases h
 have hO:∀B,B<w.heap.size→H.O ⟨upd f n (some (.loop N t ps asg body .ready none)),n+1,T,m⟩ G1 B→H.O ⟨f,n,T,m⟩ G B:=by
  rintro B hB ⟨j,o,h1,h2⟩
  by_cases e':j=n
  ·subst e';rw[hιn] at h2;omega
  ·have h1':f j=some o:=by simpa [upd,e'] using h1
   exact ⟨j,o,h1',by rw[←hι1 j (rel.h.obj j o h1').1];exact h2⟩
 have Tr1:Trans G w ⟨f,n,T,m⟩ G1 w1 ⟨upd f n (some (.loop N t ps asg body .ready none)),n+1,T,m⟩:=by
  constructor
  ·exact fun _ x=> .inl x
  ·rintro j (h|rfl)
   ·exact .inl h
   ·exact .inr ⟨Nat.le_refl _,Nat.lt_succ_self _⟩
  ·exact hι1
  ·exact fun _ x=>x
  ·exact fun _=> .inl
  ·exact fun _ _=>rfl
  ·exact Nat.le_succ _
  ·exact Nat.le_refl _
  ·rw[hsz1];omega
  ·rfl
  ·rfl
  ·intro B hB;rw[hold B hB];exact bE.refl _
  ·exact fun B hB _ _=>hold B hB
  ·intro B hB _
   exact ⟨fun h=>h.resolve_right (by omega),.inl⟩
  ·exact fun _ _ _ _=>rfl
  ·intro B hB h1 h2 e' he'
   refine ⟨fun j hj=>?_,fun e'' he''=>?_⟩
   ·have:=hold B hB
    unfold World.cell?
    simp only[this]
   ·have he2:G.lim B=some e'':=he''
    rw[he'] at he2;cases he2;exact Nat.le_refl _
  ·exact hO
  ·exact fun _ _ h=>h
  ·intro j o h
   by_cases e':j=n
   ·subst e';exact .inr ⟨Nat.le_refl _,Nat.lt_succ_self _⟩
   ·exact .inl ⟨o,by simpa [upd,e'] using h⟩
  ·exact fun _=> .inl
 have R1:bf G1 ⟨upd f n (some (.loop N t ps asg body .ready none)),n+1,T,m⟩ w1:=by
  refine ⟨fun j o h=>?_,fun i j o o' h1 h2 h3=>?_,fun k hk=>⟨(rel.h.tok k hk).1,fun B e' he'=>?_⟩,rel.h.tinj⟩
  ·by_cases e':j=n
   ·subst e'
    have:o= .loop N t ps asg body .ready none:=by simpa [upd] using h.symm
    subst this
    refine ⟨.inr rfl,by rw[hιn];exact .inr rfl,by rw[hιn,hsz1];show w.heap.size+1<_;omega,eK,by rw[hιn];exact hL1,rel.size,fun i=>ah.mono rel.h Tr1 _ _ (rel.t i),c2,rfl,rfl,rfl,rfl⟩
   ·have h':f j=some o:=by simpa [upd,e'] using h
    obtain ⟨a1,a2,a3,a4⟩:=rel.h.obj j o h'
    refine ⟨.inl a1,by rw[hι1 j a1];exact .inl a2,by rw[hι1 j a1,hsz1];omega,?_⟩
    rw[hι1 j a1,hold _ a3]
    exact a4.mono rel.h Tr1
  ·have low:∀k p,f k=some p→G1.ι k<w.heap.size:=fun k p hk=>by rw[hι1 k (rel.h.obj k p hk).1];exact (rel.h.obj k p hk).2.2.1
   by_cases e1:i=n
   ·by_cases e2:j=n
    ·rw[e1,e2]
    ·have:=low j o' (by simpa [upd,e2] using h2)
     rw[←h3,e1,hιn] at this
     omega
   ·have hi:f i=some o:=by simpa [upd,e1] using h1
    by_cases e2:j=n
    ·have:=low i o hi
     rw[h3,e2,hιn] at this
     omega
    ·have hj:f j=some o':=by simpa [upd,e2] using h2
     exact rel.h.inj i j o o' hi hj (by rw[←hι1 i (rel.h.obj i o hi).1,←hι1 j (rel.h.obj j o' hj).1];exact h3)
  ·obtain ⟨b1,b2,b3⟩:=(rel.h.tok k hk).2 B e' he'
   refine ⟨b1,?_,by rw[hsz1];omega⟩
   rintro (h|h)
   ·exact b2 h
   ·omega
 have F1:dc G1 ⟨upd f n (some (.loop N t ps asg body .ready none)),n+1,T,m⟩ ⟨f2,n2,T2,m2⟩:=F.step Tr1
 have hargs:aq G1 w1 (first++[.yld n]++caps) (vs++[Value.func (.yield (D+1)) #[] #[]]++us):=by
  refine aq.append (aq.append (aq.mono rel.h Tr1 _ _ hv1) ?_) (aq.mono rel.h Tr1 _ _ hv2)
  simp only[aq,ah]
  exact ⟨_,[],rfl,⟨.inr rfl,by rw[hιn]⟩,rfl⟩
 refine ⟨D+1,[{target:= .collected D,args:= #[]}],w1,{target:= .fn (.func fi) us.toArray,args:=vs.toArray++ #[Value.func (.yield (D+1)) #[] #[]]},w1,fi,(vs++[Value.func (.yield (D+1)) #[] #[]]++us).toArray,w1,?_,?_,fun _ _=>trivial,?_,fun h=>by simp[rd,Fence.wide] at h,nz ?_⟩
 ·exact run_enterLoop_outer fid a.tmps qs asg body
 ·have he:∀v,a.eval (.const v)=v:=fun _=>rfl
  simp[resolve,rangeCall,hz,Deferred.ofValue,he]
 ·simp[invoke,iF w1 hf hfb hfn]
 ·refine (hcall G1 w1 _ hargs R1 F1).mono ?_
  rintro e' w3 ⟨v,G3,rfl,T3,R3,V3⟩
  obtain ⟨b1,b2,b3,⟨st3,pend3,fn3,tmps3,params3,asg3,body3,df3⟩,b4,b5,b6,b7,b8,b9,b10,b11⟩:=R3.obj n _ ho2
  simp only at b10 b11
  subst b11
  have hι3:G3.ι n=D+1:=(T3.ι_eq n (.inr rfl)).trans hιn
  rw[hι3] at b3 b4
  have hDO1:¬H.O ⟨upd f n (some (.loop N t ps asg body .ready none)),n+1,T,m⟩ G1 D:=by
   rintro ⟨j,o,h1,h2⟩
   by_cases e':j=n
   ·subst e';rw[hιn] at h2;omega
   ·have h1':f j=some o:=by simpa [upd,e'] using h1
    have:=(rel.h.obj j o h1').2.2.1
    rw[hι1 j (rel.h.obj j o h1').1] at h2
    omega
  have hDT1:¬H.T ⟨upd f n (some (.loop N t ps asg body .ready none)),n+1,T,m⟩ G1 D:=by
   rintro ⟨k,hk,e',he'⟩
   have:=((rel.h.tok k hk).2 D e' he').2.2
   omega
  have hDlt:D<w1.heap.size:=by rw[hsz1];show w.heap.size<_;omega
  have hD3:w3.heap[D]? =some (.deferred (some [])):=(T3.keep D hDlt hDO1 hDT1).trans hD1
  have hDO3:¬H.O ⟨f2,n2,T2,m2⟩ G3 D:=fun h=>hDO1 (T3.O_new D hDlt h)
  have hDT3:¬H.T ⟨f2,n2,T2,m2⟩ G3 D:=fun h=>hDT1 (T3.T_new D hDlt h)
  refine ⟨pend3,_,run_endLoop b4 (by simp only;rw[b10];exact hst),?_⟩
  let w4:=w3.putObj (D+1) (.loop ⟨.exhausted,pend3,fn3,tmps3,params3,asg3,body3,df3⟩)
  have tu:dO (D+1) w3 w4:=⟨by simp[w4],fun B hB=>World.putObj_heap_other hB,fun c T fr e=>absurd (b4.symm.trans e) (by simp),rfl,rfl⟩
  have hle3:HLe ⟨f2,n2,T2,m2⟩ ⟨fun j=>if j=n then none else f2 j,n2,T2,m2⟩:=by
   refine ⟨fun j o' hj=>?_,fun t h=>h⟩
   simp only at hj
   split at hj
   ·cases hj
   ·exact ⟨o',hj,cq.refl _⟩
  have T03:Trans G w ⟨f,n,T,m⟩ G3 w3 ⟨fun j=>if j=n then none else f2 j,n2,T2,m2⟩:=(Tr1.trans rel.h R1 T3).trans rel.h R3 (Trans.le hle3 (Nat.le_refl _) (Nat.le_refl _))
  have R03:=R3.le hle3
  have hLO:¬H.O ⟨fun j=>if j=n then none else f2 j,n2,T2,m2⟩ G3 (D+1):=by
   rintro ⟨j,o,h1,h2⟩
   simp only at h1
   split at h1
   ·cases h1
   ·rename_i hjn
    exact hjn (R3.inj j n o _ h1 ho2 (by rw[h2,hι3]))
  have T04:=T03.aZ tu (by show w.heap.size≤w.heap.size+1;omega)
  have R04:=R03.aZ tu hLO
  have hD4:w4.heap[D]? =some (.deferred (some [])):=by rw[tu.same D (by omega)];exact hD3
  have relEnd:Rel N ⟨t,⟨fun j=>if j=n then none else f2 j,n2,T2,m2⟩⟩ G3 w4 {a with defers:=[({target:= .collected D,args:= #[]}:Deferred)]++a.defers}:=by
   refine ⟨rel.size,fun i=>ah.aZ tu _ _ (ah.mono rel.h T03 _ _ (rel.t i)),R04,?_,?_⟩
   ·show ([({target:= .collected D,args:= #[]}:Deferred)]++a.defers).Nodup
    rw[List.singleton_append,List.nodup_cons]
    refine ⟨fun hm=>?_,rel.df.1⟩
    obtain ⟨D',e',h1,-⟩:=rel.df.2 _ hm
    simp only[Deferred.mk.injEq,Target.collected.injEq,and_true] at e'
    have:=uf h1
    rw[←e'] at this
    exact absurd this (Nat.lt_irrefl _)
   ·intro d hd
    rcases List.mem_append.1 hd with hd|hd
    ·rw[List.mem_singleton.1 hd]
     exact ⟨D,rfl,hD4,fun ⟨j,o,h1,h2⟩=>by
      simp only at h1
      split at h1
      ·cases h1
      ·exact hDO3 ⟨j,o,h1,h2⟩,hDT3⟩
    ·exact (rel.df.mono T04).2 d hd
  have hnew:kM w a.defers ([({target:= .collected D,args:= #[]}:Deferred)]++a.defers):=by
   intro d hd
   rcases List.mem_append.1 hd with hd|hd
   ·rw[List.mem_singleton.1 hd];exact .inr ⟨D,Nat.le_refl _,rfl⟩
   ·exact .inl hd
  cases hle with
  |none=>exact ⟨trivial,hnew,G3,T04,relEnd⟩
  |ret=>exact wpIn_ret ⟨trivial,hnew,G3,T04,relEnd⟩
  |exit i=>exact wpIn_exit ⟨rfl,hnew,G3,T04,relEnd⟩
  |goto l=>exact wpIn_goto ⟨rfl,hnew,G3,T04,relEnd⟩
end
end Go.Av
end
section
namespace Go.Av
section
variable {P:Program} {N:Nat} {o:Oper} {t:Tm} {h:H} {en:Ent}
theorem vJ {c:Call} {zs zx:Operand} {ys yx:Opd} {T U e:TypeId} {i:TypeInfo} {z:Value} {b:AV} {s:Nat} {n:Int} (hop:o.op= .call c) (hc:c.callee= .builtin .append) (ha:c.args.toList=[zs,zx]) (hta:c.argTypes.toList=[T,U])
  (hT:P.underlying T=some (.slice e)) (hU:P.underlying U=some (.int .i64)) (hi:P.info? e=some i) (hz:i.zero=some z) (hzs:z.cells.size=i.size) (hb0:cX P e z=some b) (hsz:0<i.size)
  (hys:opd P T zs=some ys) (hyx:opd P U zx=some yx) (hs:ev t ys= .sl s [] (.exact 0)) (hx:ev t yx= .int .i64 n) (h0:0<n) (hsh:shaped b=true)
  (hb:n.toNat*i.bytes≤140737488355328) (hlen:n.toNat<4611686018427387904):
  Loc P o t h (.tsl i.size h.n 0 n.toNat none) {h with objs:=upd h.objs h.n (some (.cells ((List.replicate n.toNat b).flatMap cellsOf))),n:=h.n+1} ⟨[],[h.n],[]⟩:=by
 have ha':c.args= #[zs,zx]:=by rw[←Array.toArray_toList (xs:=c.args),ha]
 have hta':c.argTypes= #[T,U]:=by rw[←Array.toArray_toList (xs:=c.argTypes),hta]
 refine ⟨_,_,dL h _,fun G w a ht R F=>?_⟩
 have r1:=aE hys ht
 have r2:=aE hyx ht
 rw[hs] at r1
 rw[hx] at r2
 simp only[ah] at r2
 have hbase:∃a0,a.eval zs= .slice a0 0 0:=by
  simp only[ah,cC] at r1
  rcases r1 with ⟨-,h,-⟩|⟨B,off,C,vs,q1,-,-,-,-,q6⟩
  ·exact h
  ·subst q6;exact ⟨_,by simpa using q1⟩
 obtain ⟨a0,ha0⟩:=hbase
 have rb:=dX (G:=G) (w:=w) hb0
 obtain ⟨sc1,sc2⟩:=ef rb hsh
 have hel:∀k:Nat,aB G w i.size (List.replicate k b) (List.replicate k z.cells.toList).flatten:=by
  intro k
  induction k with
  |zero=>simp[aB]
  |succ k ih=>
   simp only[List.replicate_succ,List.flatten_cons,aB]
   exact ⟨z,_,rfl,hzs,rb,ih⟩
 have hone:∀u∈(List.replicate n.toNat z.cells.toList).flatten,One u:=by
  intro u hu
  obtain ⟨x,hx,hu'⟩:=List.mem_flatten.1 hu
  rw[(List.mem_replicate.1 hx).2] at hu'
  exact dM sc1 sc2 u hu'
 have hnn:(n.toNat:Int)=n:=Int.toNat_of_nonneg (by omega)
 have hzf:=gr hzs hsz n.toNat
 obtain ⟨w',C,rest,e1,e2,e3,e4⟩:=gQ (ty:=o.type) (n:=n.toNat) hT hU hi hz hzs hsz (jd (P:=P) (w:=w) a0) (by omega) (Nat.le_refl _) (by simpa using hb) (by simpa using hlen)
 rw[List.nil_append,hzf] at e2
 simp only[Nat.zero_add] at e1 e3 e4
 have hnl:=(hel n.toNat).length
 obtain ⟨G',T1,R1,V⟩:=kJ (m:=h.m) (sz:=i.size) e2 (eC (hel n.toNat) (by simp[hsh])) hone (jH F (by simp[H.only])) e3 (by rw[hnl,e4,List.length_replicate];exact Nat.le_refl _)
 refine ⟨.value _,_,w',G',?_,.inl rfl,T1,R1,V⟩
 rw[hnn] at e1
 simp[execOp,hop,resolve,hc,ha',hta',invoke,builtin,ha0,r2,e1]
def nF (ρ:Opd→AV) (h:H):AOp→Option (AV × H × Ent)
 | .appz bytes zero sz s x=>match ρ s,ρ x with
  | .sl _ [] (.exact 0),.int .i64 n=>if 0<n∧n.toNat*bytes≤140737488355328∧n.toNat<4611686018427387904∧shaped zero=true then
    some (.tsl sz h.n 0 n.toNat none,{h with objs:=upd h.objs h.n (some (.cells ((List.replicate n.toNat zero).flatMap cellsOf))),n:=h.n+1},⟨[],[h.n],[]⟩) else none
  |_,_=>none
 |_=>none
theorem xp {sz bytes:Nat} {b:AV} {ys yx:Opd} (h:cOp P o=some (.appz bytes b sz ys yx)):∃c zs zx T U e i z,o.op= .call c∧c.callee= .builtin .append∧c.args.toList=[zs,zx]∧c.argTypes.toList=[T,U]∧
  opd P T zs=some ys∧opd P U zx=some yx∧P.underlying T=some (.slice e)∧P.underlying U=some (.int .i64)∧P.info? e=some i∧0<i.size∧i.zero=some z∧z.cells.size=i.size∧cX P e z=some b∧i.size=sz∧i.bytes=bytes:=by
 unfold cOp at h
 split at h
 case h_28 c hop=>
  split at h
  case h_7 hcal=>
   split at h
   ·rename_i zs zx T U ha hta
    split at h
    ·(repeat' split at h)<;>(try cases h)<;>simp at h
    ·(repeat' split at h)<;>(try cases h)<;>simp at h
    ·split at h
     ·rename_i i hi
      split at h
      ·rename_i b' hb'
       split at h
       ·rename_i hq
        cases h
        cases hz:i.zero with
        |none=>rw[hz] at hb';simp at hb'
        |some z=>
         rw[hz] at hb' hq
         exact ⟨c,zs,zx,T,U,_,i,z,hop,hcal,ha,hta,‹_›,‹_›,‹_›,‹_›,hi,hq.1,hz,by simpa using hq.2,by simpa using hb',rfl,rfl⟩
       ·cases h
      ·cases h
     ·cases h
    ·cases h
   ·cases h
  all_goals first
   |(cases h;done)
   |((repeat' split at h)<;>(try cases h)<;>simp at h)
 all_goals first
  |(cases h;done)
  |(simp at h;done)
  |((repeat' split at h)<;>(try cases h)<;>(try simp at h);done)
  |skip
theorem xq {op:AOp} {x:AV} {h':H} (hc:cOp P o=some op) (hx:nF (ev t) h op=some (x,h',en)):Loc P o t h x h' en:=by
 cases op<;>(try (simp [nF] at hx;done))
 case appz bytes b sz s x0=>
  obtain ⟨c,zs,zx,T,U,e,i,z,hop,hcal,ha,hta,hys,hyx,hT,hU,hi,hs1,hz1,hz2,hz3,rfl,rfl⟩:=xp hc
  simp only[nF] at hx
  split at hx
  ·split at hx
   ·rename_i hq
    cases hx
    exact vJ hop hcal ha hta hT hU hi hz1 hz2 hz3 hs1 hys hyx ‹_› ‹_› hq.1 hq.2.2.2 hq.2.1 hq.2.2.1
   ·cases hx
  ·cases hx
theorem tf {ρ ρ':Opd→AV} {op:AOp} (hx:∀y∈cE op,ρ y=ρ' y):nF ρ h op=nF ρ' h op:=by
 cases op<;>(try rfl)
 case appz bytes b sz s x0=>simp only[nF,hx s (by simp[cE]),hx x0 (by simp[cE])]
theorem vK {ops:Array Oper} {i:Nat} {o:Oper} {it:aO} {t:Tm} {h h':H} {x:AV} {en:Ent} (ho:ops[i]? =some o) (hit:dn P N ops o=some it) (hg:guardOf t it.guard=some true) (hx:nF (ev t) h it.op=some (x,h',en)):
  ∃h1 h1',Touch h h1 h1' h' en∧iT P ops i o t h1 x h1':=by
 unfold dn at hit
 split at hit
 ·rename_i op g hop hgd
  split at hit<;>cases hit
  rename_i hcond
  simp only[Bool.and_eq_true] at hcond
  have hop:=iE hop (by rintro rfl;simp[nF] at hx)
  have hx':nF (ev (jh (names ops o) t)) h op=some (x,h',en):=by
   rw[tf (ku hcond.2)];exact hx
  obtain ⟨h1,h1',tc,loc⟩:=xq hop hx'
  refine ⟨h1,h1',tc,fun G w a ht R F K Q hK ro=>?_⟩
  obtain ⟨nx,v,w',G',e1,e2,T1,R1,V⟩:=loc G w a (fW ht) R F
  unfold wpOpIn
  rw[ho]
  simp only[dd hgd ht hg,if_true]
  refine ⟨fun _ _=>trivial,?_⟩
  rw[Oper.semAt_eq _ _ _ (fp hop),e1]
  rcases e2 with rfl|⟨rfl,rfl⟩
  ·rw[Oper.uponIn_value];exact hK G' w' v T1 R1 V
  ·rw[Oper.uponIn_skip];exact hK G' w' undef T1 R1 V
 ·cases hit
theorem aQ.opZ {dst:Option Nat} {g:Option (Nat × Bool)} {op:AOp} {its:List aO} {t:Tm} {h h':H} {en:Ent} {K:Tm→H→Prop} {x:AV} (hg:guardOf t g=some true) (hx:nF (ev t) h op=some (x,h',en))
  (rest:aQ P N its (cL t dst x) h' K):aQ P N (⟨dst,g,op⟩::its) t h K:=
 aQ.step (it:=⟨dst,g,op⟩) (fun ops i o ho hit=>vK ho hit hg hx) rest
theorem bn.C8 {f:FuncId} {args:List AV} {n m n' sz id off:Nat} {cs:List AV} (hid:n≤id∧id<n') (hc:bn P f args (H0 n m) (.tsl sz id off 0 none) (.only (upd ag id (some (.cells cs))) [] n' m)):
  bn P f args (H0 n m) (.sl sz [] (.own m)) (.only ag [m] n' (m+1)):=by
 intro G w vs hv R F
 have F0:dc G (H0 n m) (.only (upd ag id (some (.cells cs))) [] n' m):=⟨F.1,fun t h1 h2=>F.2 t h1 (Nat.lt_succ_of_lt h2)⟩
 refine (hc G w vs hv R F0).mono ?_
 rintro e w' ⟨v,G',rfl,T,R',V⟩
 have ho:(H.only (upd ag id (some (.cells cs))) [] n' m).objs id=some (.cells cs):=by simp[H.only,upd]
 obtain ⟨q1,q2,q3,ws,rest,T0,fr,y1,y2,y3,y4⟩:=R'.obj id _ ho
 have hnew:w.heap.size≤G'.ι id:=by
  rcases Nat.lt_or_ge (G'.ι id) w.heap.size with hb|hb
  ·exact absurd (T.O_new _ hb ⟨id,_,ho,rfl⟩) (cr _)
  ·exact hb
 have hmt:¬G'.tdom m:=by
  intro h
  rcases T.tdom_new m h with h|⟨h1,h2⟩
  ·exact F.2 m (Nat.le_refl _) (Nat.lt_succ_self _) h
  ·exact Nat.lt_irrefl _ h2
 let G2:aI:={G' with tdom:=fun x=>G'.tdom x∨x=m,τ:=upd G'.τ m (some (G'.ι id,off)),own:=fun B=>G'.own B∧B≠G'.ι id,lim:=fun B=>if B=G'.ι id then some off else G'.lim B}
 have hτm:G2.τ m=some (G'.ι id,off):=by simp[G2,upd]
 have hτo:∀x,G'.tdom x→G2.τ x=G'.τ x:=fun x hx=>by
  simp only[G2,upd];rw[if_neg];rintro rfl;exact hmt hx
 refine ⟨v,G2,rfl,?_,?_,?_⟩
 ·constructor
  ·exact T.dom_le
  ·exact T.dom_new
  ·exact T.ι_eq
  ·exact fun x h=> .inl (T.tdom_le x h)
  ·rintro x (h|rfl)
   ·rcases T.tdom_new x h with h|⟨h1,h2⟩
    ·exact .inl h
    ·exact .inr ⟨h1,Nat.lt_succ_of_lt h2⟩
   ·exact .inr ⟨Nat.le_refl _,Nat.lt_succ_self _⟩
  ·exact fun x h=>(hτo x (T.tdom_le x h)).trans (T.τ_eq x h)
  ·exact T.n_le
  ·exact Nat.le_succ_of_le T.m_le
  ·exact T.size_le
  ·exact T.os
  ·exact T.output
  ·exact T.form
  ·exact fun B hB h1 h2=>T.keep B hB h1 h2
  ·intro B hB h1
   have:=T.own_keep B hB h1
   exact ⟨fun h=>this.1 h.1,fun h=>⟨this.2 h,by omega⟩⟩
  ·intro B hB h1 h2
   show (if B=G'.ι id then some off else G'.lim B)=_
   rw[if_neg (by omega)];exact T.lim_keep B hB h1 h2
  ·exact fun B hB h=>absurd h (dF B)
  ·exact fun B _ h=>absurd h (cr B)
  ·rintro B hB ⟨x,hx,e',he'⟩
   simp only[H.only,List.mem_singleton] at hx
   subst hx
   rw[hτm] at he'
   cases he'
   exact absurd hB (by omega)
  ·exact fun j o h=>by simp[H.only,ag] at h
  ·intro x hx
   simp only[H.only,List.mem_singleton] at hx
   subst hx
   exact .inr ⟨Nat.le_refl _,Nat.lt_succ_self _⟩
 ·refine ⟨fun j o h=>by simp[H.only,ag] at h,fun j _ o _ h=>by simp[H.only,ag] at h,fun x hx=>?_,fun x hx x' hx' B e e' h1 h2=>?_⟩
  ·simp only[H.only,List.mem_singleton] at hx
   subst hx
   refine ⟨.inr rfl,fun B e he=>?_⟩
   rw[hτm] at he
   cases he
   exact ⟨by simp[G2],fun h=>h.2 rfl,q3⟩
  ·simp only[H.only,List.mem_singleton] at hx hx'
   rw[hx,hx']
 ·simp only[ah] at V ⊢
  obtain ⟨-,⟨C,c,T1,fr1,v1,v2,-,v3,v4⟩|⟨-,⟨a,v1⟩,-⟩⟩:=V
  ·refine .inr ⟨G'.ι id,off,C,[],by simpa using v1,by simp,by simp,by simp[aB],Imm.nil,?_⟩
   refine .inr ⟨.inr rfl,by rw[hτm];simp,c,T1,fr1,v3,v4,?_⟩
   rw[y1] at v3
   simp only[Option.some.injEq,Go.Obj.cells.injEq] at v3
   obtain ⟨-,-,rfl⟩:=v3
   exact fun j _ hj=>by omega
  ·exact .inl ⟨by simp,⟨_,v1⟩,by simp[fO]⟩
end
end Go.Av
end
section
namespace Go.Av
section
variable {P:Program} {N:Nat}
theorem Ends.same {l:List Fr} {n m:Nat} {Q:AV→List Fr→Prop} {q r:AV} {h:H} (ok:Ok l n (ks l) m) (hs:ab q r) (hk:∀j,j<n→h.objs j=lay l j) (hn:n≤h.n) (hm:m≤h.m) (ht:∀t∈ks l,t∈h.toks) (hq:Q r l):Ends l n m Q q h r l where
 sub:=hs
 ole j o hj:=by
  refine ⟨o,?_,cq.refl _⟩
  rcases Nat.lt_or_ge j n with e|e
  ·rw[hk j e];exact hj
  ·rw[ok.fq e] at hj;cases hj
 tk:=ht
 ok:=ok.grow hn hm
 new j:=by
  cases h:lay l j with
  |none=>exact .inr (.inr rfl)
  |some o=>exact .inr (.inl rfl)
 knew t ht:= .inl ht
 q:=hq
theorem aM.xr {f:FuncId} {ac:AC} {args:List AV} {ds:List RV} {l:List Fr} {r:AV} (hF:aM P f N ac ds) (hl:args.length≤N)
  (hw:∀n m,Ok l n (ks l) m→Wp P N ac ⟨gv args,⟨lay l,n,ks l,m⟩⟩ fun e s'=>gw e∧∃q,bR ds s'.t s'.h=some q∧ab q r∧(∀j,j<n→s'.h.objs j=lay l j)∧(∀t∈ks l,t∈s'.h.toks)):aT P f args l (fun r' l'=>r'=r∧l'=l):=by
 refine hF.bo hl fun n m ok=>?_
 refine (hw n m ok).nm.mono ?_
 rintro e s' ⟨⟨h1,q,h2,h3,h4,h5⟩,h6,h7⟩
 exact ⟨h1,q,h2,r,l,Ends.same ok h3 h4 h6 h7 h5 ⟨rfl,rfl⟩⟩
theorem aM.nG {f:FuncId} {ac:AC} {args:List AV} {ds:List RV} {l:List Fr} {r:AV} (hF:aM P f N ac ds) (hl:args.length≤N)
  (hw:∀n m,Ok l n (ks l) m→Wp P N ac ⟨gv args,⟨lay l,n,ks l,m⟩⟩ fun e s'=>gw e∧∃q,bR ds s'.t s'.h=some q∧ab (unT s'.h (fun j=>decide (n≤j)) q) r∧(∀j,j<n→s'.h.objs j=lay l j)∧(∀t∈ks l,t∈s'.h.toks)):aT P f args l (fun r' l'=>r'=r∧l'=l):=by
 intro n m ok
 obtain ⟨q,h',hc,⟨h3,h4,h5⟩,hn,hm⟩:=hF.iH (Q:=fun q h'=>(ab (unT h' (fun j=>decide (n≤j)) q) r∧(∀j,j<n→h'.objs j=lay l j)∧(∀t∈ks l,t∈h'.toks))∧n≤h'.n∧m≤h'.m) hl ((hw n m ok).nm.mono fun e s' ⟨⟨h1,q,h2,h3⟩,h4,h5⟩=>⟨h1,q,h2,h3,h4,h5⟩)
 have hc2:=hc.frz (fun j=>decide (n≤j))
 have E:Ends l n m (fun r' l'=>r'=r∧l'=l) (unT h' (fun j=>decide (n≤j)) q) (h'.drop fun j=>decide (n≤j)) r l:=Ends.same ok h3 (fun j hj=>by simp only[H.drop];rw[if_neg (by simp;omega)];exact h4 j hj) hn hm h5 ⟨rfl,rfl⟩
 exact ⟨r,l,h'.n,h'.m,hc2.le E.sub ⟨E.ole,E.tk⟩ rfl rfl,hn,hm,E.ok,E.new,E.knew,E.q⟩
theorem cF {s n:Nat} (h:s<n):(∀k,(s=n+k)=False)∧(∀k,(n+k=s)=False)∧(s=n)=False∧(n=s)=False:=by
 refine ⟨fun k=>?_,fun k=>?_,?_,?_⟩ <;>simp<;>omega
theorem Ok.lt {F:Fr} {l:List Fr} {n m j:Nat} {T:List Nat} {o:Obj} (ok:Ok l n T m) (hF:F∈l) (h:F.o j=some o):j<n:=by
 rcases Nat.lt_or_ge j n with e|e
 ·exact e
 ·rw[ok.bd F hF j e] at h;cases h
theorem Ok.at {F:Fr} {A B:List Fr} {n m j:Nat} {T:List Nat} {o:Obj} (ok:Ok (A++F::B) n T m) (h:F.o j=some o):lay (A++F::B) j=some o:=by
 rw[bK,cO,h]
 have:lay A j=none:=cd.2 fun F' hF'=>by
  rcases (List.pairwise_append.1 ok.dj).2.2 F' hF' F (by simp) j with e|e
  ·exact e
  ·rw[e] at h;cases h
 rw[this];rfl
theorem Ok.at0 {F:Fr} {B:List Fr} {n m j:Nat} {T:List Nat} {o:Obj} (ok:Ok (F::B) n T m) (h:F.o j=some o):lay (F::B) j=some o:=Ok.at (A:=[]) ok h
def Fr.Fin (F:Fr):Prop:=∃ids:List Nat,∀id,(F.o id).isSome=true→id∈ids
def kd (P:Program) (f:FuncId) (args:List AV) (F:Fr) (r:AV):Prop:=F.Fin∧iI P f args F.o r
theorem aM.looks {f:FuncId} {ac:AC} {args:List AV} {ds:List RV} {F:Fr} {r:AV} (hfin:F.Fin) (hF:aM P f N ac ds) (hl:args.length≤N)
  (hw:∀n m,Wp P N ac ⟨gv args,⟨F.o,n,[],m⟩⟩ fun e s'=>gw e∧∃q,bR ds s'.t s'.h=some q∧ab q r∧s'.h=⟨F.o,n,[],m⟩):kd P f args F r:=by
 refine ⟨hfin,fun n m=>?_⟩
 obtain ⟨q,h',hc,hs,rfl⟩:=hF.iH (Q:=fun q h'=>ab q r∧h'=⟨F.o,n,[],m⟩) hl ((hw n m).mono fun e s' ⟨h1,q,h2,h3,h4⟩=>⟨h1,q,h2,h3,h4⟩)
 exact hc.le hs ⟨fun j o h=>⟨o,h,cq.refl _⟩,fun t h=>h⟩ rfl rfl
theorem aa.pa {dst:Option Nat} {g:Option (Nat × Bool)} {f:FuncId} {l:List Opd} {its:List aO} {t:Tm} {log:List Ent} {K:Tm→H→List Ent→Prop} {vals:List AV} {r:AV} {F:Fr} {n' m':Nat} {T':List Nat} {objs:jn}
  (hg:guardOf t g=some true) (hs:af (l.map (ev t)) vals) (hc:kd P f vals F r) (ho:∀j o,F.o j=some o→objs j=some o)
  (rest:∀ids,aa P N its (cL t dst r) ⟨objs,n',T',m'⟩ (⟨ids,[],[]⟩::log) K):aa P N (⟨dst,g,.call f l⟩::its) t ⟨objs,n',T',m'⟩ log K:=by
 obtain ⟨⟨ids,hi⟩,hc⟩:=hc
 exact aa.ji ids hg hs ho hi hc (rest ids)
theorem Ok.sub {l:List Fr} {n m:Nat} {T:List Nat} (ok:Ok l n T m) {F:Fr} (hF:F∈l):∀j o,F.o j=some o→lay l j=some o:=by
 intro j o h
 obtain ⟨A,B,rfl⟩:=List.append_of_mem hF
 exact ok.at h
end
end Go.Av
end
section
namespace Go.Av
section
variable {P:Program} {N:Nat} {Q:aP→St→Prop}
structure On (l0:List Fr) (n0 m0:Nat) (l:List Fr) (n:Nat) (T:List Nat) (m:Nat):Prop where
 gn:n0≤n
 gm:m0≤m
 ok:Ok l n T m
 wi:Wi l0 n0 l
 ki:Ki l0 m0 l
theorem On.refl {l:List Fr} {n m:Nat} {T:List Nat} (ok:Ok l n T m):On l n m l n T m:=⟨Nat.le_refl _,Nat.le_refl _,ok,.refl,.refl⟩
theorem On.step {l0 l l':List Fr} {n0 m0 n m n' m':Nat} {T T':List Nat} (a:On l0 n0 m0 l n T m) (b:On l n m l' n' T' m'):On l0 n0 m0 l' n' T' m':=
 ⟨Nat.le_trans a.gn b.gn,Nat.le_trans a.gm b.gm,b.ok,a.wi.trans a.gn b.wi,a.ki.trans a.gm b.ki⟩
theorem On.ends {l0 l:List Fr} {n0 m0 n m:Nat} {T:List Nat} {q r:AV} {QQ:AV→List Fr→Prop} (a:On l0 n0 m0 l n T m) (hs:ab q r) (hq:QQ r l):Ends l0 n0 m0 QQ q ⟨lay l,n,T,m⟩ r l:=
 ⟨hs,fun j o h=>⟨o,h,cq.refl _⟩,a.ok.tk,a.ok.shrink,a.wi,a.ki,hq⟩
theorem Wp.gU {β:Type} (L:List Nat) {K:List (Nat × AV)} {c:AC} {t:Tm} {l0:List Fr} {n0 m0:Nat} {T0:List Nat} (hK:(L.map fun i=>(i,t i))=K) (ch:β→List (Nat × AV)) (J:β→List Fr→Prop) (μ:β→Nat) (b0:β) (h0:J b0 l0) (ok0:Ok l0 n0 T0 m0) (hs:aC t (ch b0))
  (round:∀b l n T m,On l0 n0 m0 l n T m→J b l→Wp P N c ⟨tm (K++ch b),⟨lay l,n,T,m⟩⟩ (aP.andThen (fun s'=>∃b' l' n' T' m',On l n m l' n' T' m'∧J b' l'∧μ b'<μ b∧aU s' ⟨tm (K++ch b'),⟨lay l',n',T',m'⟩⟩) Q)):Wp P N (.loop c) ⟨t,⟨lay l0,n0,T0,m0⟩⟩ Q:=by
 refine Wp.mz (β:=β × List Fr × Nat × List Nat × Nat) L hK (fun j=>ch j.1) (fun j=>⟨lay j.2.1,j.2.2.1,j.2.2.2.1,j.2.2.2.2⟩) (fun j=>On l0 n0 m0 j.2.1 j.2.2.1 j.2.2.2.1 j.2.2.2.2∧J j.1 j.2.1) (fun j=>μ j.1) (b0,l0,n0,T0,m0) ⟨On.refl ok0,h0⟩ rfl hs ?_
 rintro ⟨b,l,n,T,m⟩ ⟨hn,hb⟩
 refine Wp.mono (round b l n T m hn hb) ?_
 intro e s' h
 cases e with
 |normal=>obtain ⟨b',l',n',T',m',h1,h2,h3,h4⟩:=h;exact ⟨(b',l',n',T',m'),⟨hn.step h1,h2⟩,h3,h4⟩
 |exit id=>exact h
 |goto l=>exact h
 |ret=>exact h
 |panic v=>exact h
theorem aa.eX {dst:Option Nat} {g:Option (Nat × Bool)} {f:FuncId} {l:List Opd} {its:List aO} {t:Tm} {log:List Ent} {K:Tm→H→List Ent→Prop} {vals:List AV} {Q:AV→List Fr→Prop} {G:List Fr} {n m:Nat} {T:List Nat}
  (hg:guardOf t g=some true) (hs:af (l.map (ev t)) vals) (hc:aT P f vals G Q) (ok:Ok G n T m)
  (rest:∀r G' n' T' m' ids,Q r G'→On G n m G' n' T' m'→aa P N its (cL t dst r) ⟨lay G',n',T',m'⟩ (⟨[],ids,ks G++ks G'⟩::log) K):
  aa P N (⟨dst,g,.call f l⟩::its) t ⟨lay G,n,T,m⟩ log K:=by
 have ok':Ok ([]++G++[]) n T m:=by simpa using ok
 have:=aa.ur (P:=P) (N:=N) (dst:=dst) (its:=its) (log:=log) (K:=K) [] G [] hg hs hc ok' fun r G' n' m' ids h1 h2 h3 h4 h5 h6=>?_
 ·simpa using this
 ·simp only[List.nil_append,List.append_nil] at h4 h5 h6 ⊢
  exact rest r G' n' _ m' _ h1 ⟨h2,h3,h4,h5,h6⟩
theorem aa.uu {dst:Option Nat} {g:Option (Nat × Bool)} {id:Nat} {y:Opd} {l:List Opd} {its:List aO} {t:Tm} {log:List Ent} {K:Tm→H→List Ent→Prop} {vals:List AV} {Q:AV→List Fr→Prop} {G:List Fr} {n m:Nat} {T:List Nat}
  (hg:guardOf t g=some true) (hy:ev t y= .yld id) (hs:af (l.map (ev t)) vals) (hc:mW P id vals G Q) (ok:Ok G n T m)
  (rest:∀r G' n' T' m' ids,Q r G'→On G n m G' n' T' m'→aa P N its (cL t dst r) ⟨lay G',n',T',m'⟩ (⟨[],ids,ks G++ks G'⟩::log) K):
  aa P N (⟨dst,g,.callv y l⟩::its) t ⟨lay G,n,T,m⟩ log K:=by
 have ok':Ok ([]++G++[]) n T m:=by simpa using ok
 have:=aa.BA (P:=P) (N:=N) (dst:=dst) (its:=its) (log:=log) (K:=K) [] G [] hg hy hs hc ok' fun r G' n' m' ids h1 h2 h3 h4 h5 h6=>?_
 ·simpa using this
 ·simp only[List.nil_append,List.append_nil] at h4 h5 h6 ⊢
  exact rest r G' n' _ m' _ h1 ⟨h2,h3,h4,h5,h6⟩
theorem aa.uv {dst:Option Nat} {g:Option (Nat × Bool)} {f:FuncId} {l:List Opd} {its:List aO} {t:Tm} {log:List Ent} {K:Tm→H→List Ent→Prop} {vals:List AV} {r:AV} {F:Fr} (A B:List Fr) {n m:Nat} {T:List Nat}
  (hg:guardOf t g=some true) (hs:af (l.map (ev t)) vals) (hc:aT P f vals [F] fun r' l'=>r'=r∧l'=[F]) (hk:F.k=[]) (ok:Ok (A++F::B) n T m)
  (rest:∀n' m' ids,n≤n'→m≤m'→Ok (A++F::B) n' T m'→aa P N its (cL t dst r) ⟨lay (A++F::B),n',T,m'⟩ (⟨[],ids,[]⟩::log) K):
  aa P N (⟨dst,g,.call f l⟩::its) t ⟨lay (A++F::B),n,T,m⟩ log K:=by
 have e:A++F::B=A++[F]++B:=by simp
 rw[e] at ok ⊢
 refine aa.ur A [F] B hg hs hc ok fun r' G' n' m' ids h1 h2 h3 h4 h5 h6=>?_
 obtain ⟨rfl,rfl⟩:=h1
 have k0:ks [F]=[]:=by simp[ks,hk]
 have f0:T.filter (fun _:Nat=>true)=T:=by simp
 simp only[k0,List.nil_append,List.contains_nil,Bool.not_false,f0] at h4 ⊢
 rw[←e] at h4 ⊢
 exact rest n' m' ids h2 h3 h4
theorem Ok.more {l:List Fr} {n m:Nat} {T:List Nat} (ok:Ok l n T m) (o:Obj):Ok (ob n o::l) (n+1) T m where
 bd F hF j hj:=by
  rcases List.mem_cons.1 hF with rfl|hF
  ·rw[aW,if_neg (by omega)]
  ·exact ok.bd F hF j (by omega)
 dj:=List.pairwise_cons.2 ⟨fun F hF j=>by
  rw[aW]
  by_cases e:j=n
  ·exact .inr (ok.bd F hF j (by omega))
  ·exact .inl (if_neg e),ok.dj⟩
 tk t ht:=ok.tk t (by simpa [ks,ob] using ht)
 td:=List.pairwise_cons.2 ⟨fun F hF t ht=>by simp[ob] at ht,ok.td⟩
 tb:=ok.tb
theorem aK (i:Nat) (o:Obj) (l:List Fr):lay (ob i o::l) i=some o:=by simp[lay,aW]
theorem bp {i j:Nat} (o:Obj) (l:List Fr) (h:j≠i):lay (ob i o::l) j=lay l j:=by simp[lay,aW,h]
theorem bu (i:Nat) (o o':Obj) (l:List Fr):upd (lay (ob i o::l)) i (some o')=lay (ob i o'::l):=by
 funext j
 simp only[upd]
 split
 ·rename_i e;subst e;rw[aK]
 ·rename_i e;rw[bp _ _ e,bp _ _ e]
theorem bm {n:Nat} {o:Obj} {l:List Fr}:upd (lay l) n (some o)=lay (ob n o::l):=by
 funext j
 simp only[upd]
 split
 ·rename_i e;subst e;rw[aK]
 ·rename_i e;rw[bp _ _ e]
theorem Ok.alone {i:Nat} {o:Obj} {l:List Fr} {n m:Nat} {T:List Nat} (ok:Ok (ob i o::l) n T m):lay l i=none:=ok.old (by simp[aW])
theorem Ok.aZ {i:Nat} {o o':Obj} {l:List Fr} {n m:Nat} {T:List Nat} (ok:Ok (ob i o::l) n T m):Ok (ob i o'::l) n T m:=by
 have hi:i<n:=ok.lt (by simp) (j:=i) (F:=ob i o) (o:=o) (by simp[aW])
 have:=ok.put (i:=i) (o:=o') ok.alone hi
 have e:(⟨upd (ob i o).o i (some o'),(ob i o).k⟩:Fr)=ob i o':=by
  simp only[ob,Fr.mk.injEq,and_true]
  funext j
  simp only[upd,ag]
  split<;>rfl
 rwa [e] at this
theorem ke (i:Nat) (o:Obj) (l:List Fr):ks (ob i o::l)=ks l:=by simp[ks,ob]
theorem qd (i j:Nat) (o o':Obj):(ob i o).o j=none→(ob i o').o j=none:=by
 simp only[aW];split<;>simp
theorem Ok.dv {A B:List Fr} {i:Nat} {o o':Obj} {n m:Nat} {T:List Nat} (ok:Ok (A++ob i o::B) n T m):Ok (A++ob i o'::B) n T m where
 bd F hF j hj:=by
  rcases List.mem_append.1 hF with h|h
  ·exact ok.bd F (by simp[h]) j hj
  ·rcases List.mem_cons.1 h with rfl|h
   ·exact qd i j o o' (ok.bd (ob i o) (by simp) j hj)
   ·exact ok.bd F (by simp[h]) j hj
 dj:=by
  have h1:=List.pairwise_append.1 ok.dj
  have h2:=List.pairwise_cons.1 h1.2.1
  refine List.pairwise_append.2 ⟨h1.1,List.pairwise_cons.2 ⟨fun F hF j=>(h2.1 F hF j).imp (qd i j o o') id,h2.2⟩,fun F hF F' hF' j=>?_⟩
  rcases List.mem_cons.1 hF' with rfl|h
  ·exact (h1.2.2 F hF (ob i o) (by simp) j).imp id (qd i j o o')
  ·exact h1.2.2 F hF F' (by simp[h]) j
 tk t ht:=ok.tk t (by simpa [ks,ob] using ht)
 td:=by
  have h1:=List.pairwise_append.1 ok.td
  have h2:=List.pairwise_cons.1 h1.2.1
  refine List.pairwise_append.2 ⟨h1.1,List.pairwise_cons.2 ⟨fun F hF t ht=>by simp[ob] at ht,h2.2⟩,fun F hF F' hF' t ht=>?_⟩
  rcases List.mem_cons.1 hF' with rfl|h
  ·simp[ob]
  ·exact h1.2.2 F hF F' (by simp[h]) t ht
 tb:=ok.tb
theorem Ok.bu {A B:List Fr} {i:Nat} {o:Obj} (o':Obj) {n m:Nat} {T:List Nat} (ok:Ok (A++ob i o::B) n T m):upd (lay (A++ob i o::B)) i (some o')=lay (A++ob i o'::B):=by
 have h1:lay A i=none:=cd.2 fun F hF=>by
  rcases (List.pairwise_append.1 ok.dj).2.2 F hF (ob i o) (by simp) i with h|h
  ·exact h
  ·simp[aW] at h
 funext j
 simp only[upd,bK]
 split
 ·rename_i e;subst e;rw[h1,aK];rfl
 ·rename_i e;rw[bp _ _ e,bp _ _ e]
theorem On.dv {A B:List Fr} {i:Nat} {o o':Obj} {n m:Nat} {T:List Nat} (ok:Ok (A++ob i o::B) n T m):On (A++ob i o::B) n m (A++ob i o'::B) n T m where
 gn:=Nat.le_refl _
 gm:=Nat.le_refl _
 ok:=ok.dv
 wi j:=by
  simp only[bK]
  by_cases e:j=i
  ·subst e
   rw[aK]
   right;left
   cases lay A j<;>rfl
  ·rw[bp _ _ e,bp _ _ e]
   cases h:(lay A j).or (lay B j) with
   |none=>exact .inr (.inr rfl)
   |some x=>exact .inr (.inl rfl)
 ki t ht:= .inl (by simpa [ks,ob] using ht)
theorem mC {i:Nat} {o:Obj} {l:List Fr} (h:lay l i=none):OLe (lay (ob i o::l)) (lay l):=by
 intro j p hj
 have e:j≠i:=by rintro rfl;rw[h] at hj;cases hj
 exact ⟨p,(bp _ _ e).trans hj,cq.refl _⟩
theorem On.under {l l':List Fr} {n m n' m':Nat} {T':List Nat} {o o':Obj} (a:On (ob n o::l) (n+1) m (ob n o'::l') n' T' m'):On l n m l' n' T' m':=by
 refine ⟨by have:=a.gn;omega,a.gm,a.ok.tail,fun j=>?_,fun t ht=>?_⟩
 ·by_cases e:j=n
  ·exact .inl (by omega)
  ·rcases a.wi j with h|h|h
   ·exact .inl (by omega)
   ·rw[bp _ _ e] at h;exact .inr (.inl h)
   ·rw[bp _ _ e] at h;exact .inr (.inr h)
 ·have:=a.ki t (by rw[ke];exact ht)
  rwa [ke] at this
theorem On.put {F:Fr} {l:List Fr} {i:Nat} {o:Obj} {n m:Nat} {T:List Nat} (ok:Ok (F::l) n T m) (h:(F.o i).isSome=true):On (F::l) n m (⟨upd F.o i (some o),F.k⟩::l) n T m:=by
 have hn:i<n:=by
  obtain ⟨x,hx⟩:=Option.isSome_iff_exists.1 h
  exact ok.lt (by simp) hx
 refine ⟨Nat.le_refl _,Nat.le_refl _,ok.put (ok.old h) hn,fun j=>?_,fun t ht=> .inl (by simpa [ks] using ht)⟩
 simp only[lay,upd]
 by_cases e:j=i
 ·subst e
  right;left
  obtain ⟨x,hx⟩:=Option.isSome_iff_exists.1 h
  rw[hx];rfl
 ·rw[if_neg e]
  cases hh:(F.o j).or (lay l j) with
  |none=>exact .inr (.inr rfl)
  |some x=>exact .inr (.inl rfl)
def obk (i:Nat) (o:Obj) (k:List Nat):Fr:=⟨upd ag i (some o),k⟩
theorem eD (i:Nat) (o:Obj) (k:List Nat) (j:Nat):(obk i o k).o j=if j=i then some o else none:=rfl
theorem eN (i:Nat) (o:Obj) (k:List Nat) (l:List Fr):lay (obk i o k::l) i=some o:=by simp[lay,eD]
theorem dk {i j:Nat} (o:Obj) (k:List Nat) (l:List Fr) (h:j≠i):lay (obk i o k::l) j=lay l j:=by simp[lay,eD,h]
theorem Ok.jN {A B:List Fr} {i:Nat} {o:Obj} {k:List Nat} (o':Obj) (k':List Nat) {n m:Nat} {T:List Nat} (ok:Ok (A++obk i o k::B) n T m):upd (lay (A++obk i o k::B)) i (some o')=lay (A++obk i o' k'::B):=by
 have h1:lay A i=none:=cd.2 fun F hF=>by
  rcases (List.pairwise_append.1 ok.dj).2.2 F hF (obk i o k) (by simp) i with h|h
  ·exact h
  ·simp[eD] at h
 funext j
 simp only[upd,bK]
 split
 ·rename_i e;subst e;rw[h1,eN];rfl
 ·rename_i e;rw[dk _ _ _ e,dk _ _ _ e]
theorem On.jO {A B:List Fr} {i:Nat} {o o':Obj} {k n m:Nat} {T:List Nat} (ok:Ok (A++obk i o [k]::B) n T m):On (A++obk i o [k]::B) n m (A++obk i o' [m]::B) n ([m]++T.filter fun t=> ![k].contains t) (m+1):=by
 have hi:i<n:=ok.lt (F:=obk i o [k]) (by simp) (j:=i) (o:=o) (by simp[eD])
 have okG':Ok [obk i o' [m]] n (ks [obk i o' [m]]) (m+1):=⟨fun F hF j hj=>by
  rw[List.mem_singleton.1 hF,eD,if_neg (by omega)],by simp,fun t h=>h,by simp,fun t ht=>by simp[ks,obk] at ht;omega⟩
 have e0:A++obk i o [k]::B=A++[obk i o [k]]++B:=by simp
 have e1:A++obk i o' [m]::B=A++[obk i o' [m]]++B:=by simp
 rw[e0] at ok ⊢
 rw[e1]
 have hw:∀j,n≤j∨(lay [obk i o [k]] j).isSome=true∨lay [obk i o' [m]] j=none:=fun j=>by
  by_cases e:j=i
  ·subst e;rw[eN];exact .inr (.inl rfl)
  ·rw[dk _ _ _ e,dk _ _ _ e];exact .inr (.inr rfl)
 have hk:∀t∈ks [obk i o' [m]],t∈ks [obk i o [k]]∨m≤t:=fun t ht=>by simp[ks,obk] at ht;omega
 have:=ok.swap okG' (Nat.le_refl _) (Nat.le_succ _) hw hk
 exact ⟨Nat.le_refl _,Nat.le_succ _,by simpa [ks,obk] using this,.mid hw,.mid hk⟩
theorem Ok.xu {l:List Fr} {n m:Nat} {T:List Nat} (ok:Ok l n T m) (o:Obj):Ok (obk n o [m]::l) (n+1) (m::T) (m+1) where
 bd F hF j hj:=by
  rcases List.mem_cons.1 hF with rfl|hF
  ·rw[eD,if_neg (by omega)]
  ·exact ok.bd F hF j (by omega)
 dj:=List.pairwise_cons.2 ⟨fun F hF j=>by
  rw[eD]
  by_cases e:j=n
  ·exact .inr (ok.bd F hF j (by omega))
  ·exact .inl (if_neg e),ok.dj⟩
 tk t ht:=by
  simp only[ks,obk,List.flatMap_cons,List.mem_append,List.mem_singleton] at ht
  rcases ht with rfl|ht
  ·simp
  ·exact List.mem_cons_of_mem _ (ok.tk t ht)
 td:=List.pairwise_cons.2 ⟨fun F hF t ht h2=>by
  simp only[obk,List.mem_singleton] at ht
  subst ht
  have:=ok.tb _ (ok.tk _ (iK.2 ⟨F,hF,h2⟩))
  omega,ok.td⟩
 tb t ht:=by
  rcases List.mem_cons.1 ht with rfl|ht
  ·omega
  ·have:=ok.tb t ht;omega
theorem rp {n:Nat} {o:Obj} {k:List Nat} {l:List Fr}:upd (lay l) n (some o)=lay (obk n o k::l):=by
 funext j
 simp only[upd]
 split
 ·rename_i e;subst e;rw[eN]
 ·rename_i e;rw[dk _ _ _ e]
theorem Wp.CI {g:Opd} {ps:List Nat} {x y:AC} {t:Tm} {l:List Fr} {n m:Nat} {T:List Nat} {fi:FuncId} {fn:Func} {first caps:List AV} (hg:ev t g= .clo (.func fi) first caps) (hf:P.funcs[fi]? =some fn) (hfb:fn.body.isSome=true) (hfn:fn.name≠ "runtime.NumGoroutine")
  (ok:Ok l n T m) (hT:T=ks l)
  (hw:∀asg body,cCode P N asg=some x→cCode P N body=some y→fl asg=true→fl body=true→
   aT P fi (first++[.yld n]++caps) (ob n (.loop N t ps asg body .ready none)::l) fun r l'=>∃t2 st pend e l1,l'=ob n (.loop N t2 ps asg body st pend)::l1∧st≠ .busy∧iL pend e∧∀n' m',On l n m l1 n' (ks l1) m'→Q e ⟨t,⟨lay l1,n',ks l1,m'⟩⟩):Wp P N (.oE g ps x y) ⟨t,⟨lay l,n,T,m⟩⟩ Q:=by
 subst hT
 refine Wp.oE hg hf hfb hfn (ok.fq (Nat.le_refl _)) fun asg body h1 h2 h3 h4=>?_
 obtain ⟨r,l',n',m',k1,k2,k3,k4,k5,k6,t2,st,pend,e,l1,rfl,k8,k9,k10⟩:=hw asg body h1 h2 h3 h4 (n+1) m (by rw[ke];exact ok.more _)
 simp only[ke] at k1 k4 k6
 refine ⟨r,lay (ob n (.loop N t2 ps asg body st pend)::l1),n',ks l1,m',t2,st,pend,e,?_,k2,k3,aK _ _ _,k8,k9,?_⟩
 ·rw[bm];exact k1
 ·have e1:(fun j=>if j=n then none else lay (ob n (.loop N t2 ps asg body st pend)::l1) j)=lay l1:=by
   funext j
   split
   ·rename_i e;subst e;exact k4.alone.symm
   ·rename_i e;rw[bp _ _ e]
  rw[e1]
  refine k10 n' m' ⟨by omega,k3,k4.tail,fun j=>?_,fun t ht=>k6 t ht⟩
  by_cases e:j=n
  ·exact .inl (by omega)
  ·rcases k5 j with h|h|h
   ·exact .inl (by omega)
   ·rw[bp _ _ e] at h;exact .inr (.inl h)
   ·rw[bp _ _ e] at h;exact .inr (.inr h)
theorem lK.le {id:Nat} {args:List AV} {h h' h'':H} {r r':AV} (hc:lK P id args h r h') (hs:ab r r') (hl:HLe h' h'') (n:h'.n=h''.n) (m:h'.m=h''.m):lK P id args h r' h'':=by
 intro G w vs hd hv R F
 obtain ⟨fn,tmps,assign,body,q1,q2⟩:=hc G w vs hd hv R (by unfold dc at F ⊢;rwa [n,m])
 refine ⟨fn,tmps,assign,body,q1,q2.mono ?_⟩
 rintro e w' ⟨v,G',rfl,T,R',V⟩
 exact ⟨v,G',rfl,T.trans R R' (Trans.le hl (by omega) (by omega)),R'.le hl,hs G' w' v V⟩
theorem tg {id M:Nat} {t:Tm} {ps:List Nat} {asg body:Code} {x y:AC} {args:List AV} {l:List Fr} {Q:AV→List Fr→Prop} (ha:cCode P M asg=some x) (hb:cCode P M body=some y) (hna:fl asg=true) (hnb:fl body=true)
  (hl:args.length=ps.length) (hps:∀p∈ps,p<M)
  (hw:∀n m,Ok (ob id (.loop M t ps asg body .busy none)::l) n (ks l) m→
   Wp P M x ⟨kO t ps args,⟨lay (ob id (.loop M t ps asg body .ready none)::l),n,ks l,m⟩⟩ fun e s=>e= .normal∧s.h=⟨lay (ob id (.loop M t ps asg body .ready none)::l),n,ks l,m⟩∧
    Wp P M y ⟨s.t,⟨lay (ob id (.loop M t ps asg body .busy none)::l),n,ks l,m⟩⟩ fun e2 s2=>∃b st pend l',gA e2 b st pend∧
     Ends (ob id (.loop M t ps asg body .busy none)::l) n m (fun _ _=>True) (.bool b) s2.h (.bool b) (ob id (.loop M t ps asg body .busy none)::l')∧Q (.bool b) (ob id (.loop M t ps asg body st pend)::l')):
  mW P id args (ob id (.loop M t ps asg body .ready none)::l) Q:=by
 intro n m ok
 rw[ke] at ok
 have okb:Ok (ob id (.loop M t ps asg body .busy none)::l) n (ks l) m:=ok.aZ
 obtain ⟨r,h',hy,st,pend,b,l',e2,rfl,hre,h2,E,hq,hn,hm,ho2,rfl⟩:=vH (P:=P) (id:=id) (M:=M) (n:=n) (m:=m) (f:=lay (ob id (.loop M t ps asg body .ready none)::l)) (T:=ks l) (t:=t) (ps:=ps) (asg:=asg) (body:=body) (x:=x) (y:=y) (args:=args)
  (Q:=fun r h'=>∃st pend b l' e2,r= .bool b∧gA e2 b st pend∧∃h2:H,Ends (ob id (.loop M t ps asg body .busy none)::l) n m (fun _ _=>True) (.bool b) h2 (.bool b) (ob id (.loop M t ps asg body .busy none)::l')∧Q (.bool b) (ob id (.loop M t ps asg body st pend)::l')∧n≤h2.n∧m≤h2.m∧h2.objs id=some (.loop M t ps asg body .busy none)∧h'= {h2 with objs:=upd h2.objs id (some (.loop M t ps asg body st pend))})
  (aK _ _ _) ha hb hna hnb hl hps ((hw n m okb).mono fun e s ⟨h1,h2,h3⟩=>⟨h1,t,by rw[h2];exact aK _ _ _,by
   rw[h2]
   simp only[bu]
   refine h3.nm.mono ?_
   rintro e2 s2 ⟨⟨b,st,pend,l',k1,k2,k3⟩,k4,k5⟩
   have hid:s2.h.objs id=some (.loop M t ps asg body .busy none):=by
    obtain ⟨o,a1,a2⟩:=k2.ole id _ (aK _ _ _)
    rw[a1]
    cases o<;>simp only[cq] at a2
    rw[a2]
   exact ⟨t,b,st,pend,hid,k1,st,pend,b,l',e2,rfl,k1,s2.h,k2,k3,k4,k5,hid,rfl⟩⟩)
 have low:OLe (upd h2.objs id (some (.loop M t ps asg body st pend))) (lay (ob id (.loop M t ps asg body st pend)::l')):=by
  intro j o hj
  by_cases e:j=id
  ·subst e
   rw[aK] at hj
   cases hj
   exact ⟨_,by simp[upd],cq.refl _⟩
  ·rw[bp _ _ e] at hj
   obtain ⟨o',a1,a2⟩:=E.ole j o (by rw[bp _ _ e];exact hj)
   exact ⟨o',by simp[upd,e,a1],a2⟩
 have ek:=E.tk
 have eok:=E.ok
 have ekn:=E.knew
 simp only[ke] at ek eok ekn
 refine ⟨.bool b,ob id (.loop M t ps asg body st pend)::l',h2.n,h2.m,?_,hn,hm,?_,fun j=>?_,?_,hq⟩
 ·simp only[ke]
  exact hy.le (ab.refl _) ⟨low,ek⟩ rfl rfl
 ·rw[ke];exact eok.aZ
 ·rcases E.new j with h|h|h
  ·exact .inl h
  ·by_cases e:j=id
   ·subst e;rw[aK];exact .inr (.inl rfl)
   ·rw[bp _ _ e] at h ⊢;exact .inr (.inl h)
  ·by_cases e:j=id
   ·subst e;rw[aK];exact .inr (.inl rfl)
   ·rw[bp _ _ e] at h;rw[bp _ _ e,bp _ _ e];exact .inr (.inr h)
 ·simp only[ke];exact ekn
end
end Go.Av
end
section
namespace Go.Av
section
variable {P:Program}
theorem bn.CJ {f:FuncId} {xs ys args:List AV} {sz k:Nat} (hc:∀n m,bn P f (.sl 1 xs .any::args) (H0 n m) (.tsl sz n 0 k none) (.only (upd ag n (some (.cells ys))) [] (n+1) m)) (hp:∀G G' w vs,aq G w ys vs→aq G' w ys vs) (c:Option Nat) (id n m:Nat) (hid:id<n):
  bn P f (.tsl 1 id 0 xs.length c::args) (.only (upd ag id (some (.cells xs))) [] n m) (.tsl sz n 0 k none) (.only (upd (upd ag id (some (.cells xs))) n (some (.cells ys))) [] (n+1) m):=by
 intro G w vs hv R F
 have ho:(H.only (upd ag id (some (.cells xs))) [] n m).objs id=some (.cells xs):=by simp[H.only,upd]
 have hv':aq (G.frz (H.only (upd ag id (some (.cells xs))) [] n m) fun _=>true) w (.sl 1 xs .any::args) vs:=by
  simp only[aq] at hv ⊢
  obtain ⟨v,us,e,h1,h2⟩:=hv
  refine ⟨v,us,e,?_,aq.mono R (bw _) _ _ h2⟩
  have:=mT R (d:=fun _=>true) ho rfl (by omega) h1
  simpa using this
 refine (hc n m _ w vs hv' eA F).mono ?_
 rintro e w' ⟨v,G',rfl,T,R',V⟩
 obtain ⟨q1,q2,q3,q4⟩:=R.obj id _ ho
 have hne:∀B,¬(H.only (upd ag id (some (.cells xs))) [] n m).O G B→B≠G.ι id:=fun B h1 e=>h1 ⟨id,_,ho,e.symm⟩
 have hDO:∀B,¬(H.only (upd ag id (some (.cells xs))) [] n m).O G B→¬(H.only (upd ag id (some (.cells xs))) [] n m).DO G (fun _=>true) B:=fun B h1 h2=>h1 (vD h2)
 have hT:∀{G:aI} B,¬(H0 n m).T G B:=fun B ⟨t,ht,_⟩=>by simp[H0,H.only] at ht
 have hι:G'.ι id=G.ι id:=T.ι_eq id q1
 have hnew:¬G'.ι n<w.heap.size:=fun hlt=>cr (G:=G.frz (H.only (upd ag id (some (.cells xs))) [] n m) fun _=>true) (G'.ι n) (T.O_new _ hlt ⟨n,.cells ys,by simp[H.only,upd],rfl⟩)
 have hnid:G'.ι n≠G.ι id:=fun e=>hnew (by rw[e];exact q3)
 have hj2:∀j o,(H.only (upd (upd ag id (some (.cells xs))) n (some (.cells ys))) [] (n+1) m).objs j=some o→(j=n∧o= .cells ys)∨(j=id∧o= .cells xs):=by
  intro j o hj
  simp only[H.only,upd,ag] at hj
  split at hj
  ·cases hj;exact .inl ⟨‹_›,rfl⟩
  ·split at hj
   ·cases hj;exact .inr ⟨‹_›,rfl⟩
   ·cases hj
 let G3:aI:={own:=fun B=>B=G.ι id∨G'.own B,lim:=fun B=>if B=G.ι id then G.lim B else G'.lim B,dom:=G'.dom,ι:=G'.ι,tdom:=G'.tdom,τ:=G'.τ}
 have T3:Trans G w (H.only (upd ag id (some (.cells xs))) [] n m) G3 w' (H.only (upd (upd ag id (some (.cells xs))) n (some (.cells ys))) [] (n+1) m):=by
  constructor
  ·exact T.dom_le
  ·exact T.dom_new
  ·exact T.ι_eq
  ·exact T.tdom_le
  ·exact T.tdom_new
  ·exact T.τ_eq
  ·exact Nat.le_succ _
  ·exact Nat.le_refl _
  ·exact T.size_le
  ·exact T.os
  ·exact T.output
  ·exact T.form
  ·exact fun B hB _ _=>T.keep B hB (cr B) (hT B)
  ·intro B hB h1
   have e1:=T.own_keep B hB (cr B)
   have e2:=hDO B h1
   have e3:=hne B h1
   simp only[G3,e3,false_or,e1,aI.frz,e2,not_false_eq_true,and_true]
  ·intro B hB h1 _
   have e1:=T.lim_keep B hB (cr B) (hT B)
   have e2:=hDO B h1
   have e3:=hne B h1
   simp only[G3,e3,if_false,e1,aI.frz,e2]
  ·exact fun B hB x=>absurd x (dF B)
  ·rintro B hB ⟨j,o,h1,h2⟩
   rcases hj2 j o h1 with ⟨rfl,-⟩|⟨rfl,-⟩
   ·exact absurd (by rw[show G'.ι j=B from h2];exact hB) hnew
   ·exact ⟨j,_,ho,by rw[←h2];exact hι.symm⟩
  ·exact fun B _ x=>absurd x (dF B)
  ·intro j o h1
   rcases hj2 j o h1 with ⟨rfl,-⟩|⟨rfl,-⟩
   ·exact .inr ⟨Nat.le_refl _,Nat.lt_succ_self _⟩
   ·exact .inl ⟨_,ho⟩
  ·exact fun t x=>by simp[H.only] at x
 refine ⟨v,G3,rfl,T3,?_,?_⟩
 ·refine ⟨fun j o hj=>?_,fun i j o o' a b e=>?_,fun t ht=>by simp[H.only] at ht,fun t ht=>by simp[H.only] at ht⟩
  ·rcases hj2 j o hj with ⟨rfl,rfl⟩|⟨rfl,rfl⟩
   ·obtain ⟨p1,p2,p3,p4⟩:=R'.obj j (.cells ys) (by simp[H.only,upd])
    refine ⟨p1,.inr p2,p3,?_⟩
    obtain ⟨vs,rest,T',fr,y1,y2,y3⟩:=p4
    exact ⟨vs,rest,T',fr,y1,hp _ _ _ _ y2,y3⟩
   ·refine ⟨T.dom_le _ q1,.inl hι,by show G'.ι j<_;rw[hι];exact Nat.lt_of_lt_of_le q3 T.size_le,?_⟩
    have hk:w'.heap[G'.ι j]? =w.heap[G.ι j]? :=by rw[hι];exact T.keep _ q3 (cr _) (hT _)
    show kH G3 w' _ w'.heap[G'.ι j]?
    rw[hk]
    obtain ⟨vs,rest,T',fr,y1,y2,y3⟩:=q4
    exact ⟨vs,rest,T',fr,y1,aq.mono R T3 _ _ y2,y3⟩
  ·have e':G'.ι i=G'.ι j:=e
   rcases hj2 i o a with ⟨rfl,-⟩|⟨rfl,-⟩ <;>rcases hj2 j o' b with ⟨rfl,-⟩|⟨rfl,-⟩
   ·rfl
   ·exact absurd (e'.trans hι) hnid
   ·exact absurd (e'.symm.trans hι) hnid
   ·rfl
 ·unfold ah at V ⊢
  exact V
end
end Go.Av
end
section
namespace Go.Av
section
variable {P:Program} {N:Nat}
theorem mD {A G G' B:List Fr} {n n' m m':Nat} {T:List Nat} (ok:Ok (A++G++B) n T m) (ok':Ok G' n' (ks G') m') (hn:n≤n') (hm:m≤m') (hw:∀j,n≤j∨(lay G j).isSome=true∨lay G' j=none):
  ∃ids,Touch ⟨lay (A++G++B),n,T,m⟩ ⟨lay G,n,ks G,m⟩ ⟨lay G',n',ks G',m'⟩ ⟨lay (A++G'++B),n',ks G'++T.filter (fun t=> !(ks G).contains t),m'⟩ ⟨[],ids,ks G++ks G'⟩∧∀id∈ids,(lay G id).isSome=true∨(n≤id∧id<n'):=by
 have bG:∀j,n≤j→lay G j=none:=fun j hj=>cd.2 fun F hF=>ok.bd F (by simp[hF]) j hj
 obtain ⟨ids,hi⟩:=xn bG
 refine ⟨ids++(List.range (n' - n)).map (n+ ·),?_,?_⟩
 ·have d1:=List.pairwise_append.1 (List.pairwise_append.1 ok.dj).1
  have tc:=jK (h:=⟨lay (A++G++B),n,T,m⟩) (h1:=⟨lay G,n,ks G,m⟩) (h1':=⟨lay G',n',ks G',m'⟩) (ids:=ids) ⟨fun j o hj=>?_,fun t ht=>ok.tk t ?_⟩ rfl rfl (fun id h=>(hi id).1 h) hn hm
  ·have e:(⟨lay (A++G'++B),n',ks G'++T.filter (fun t=> !(ks G).contains t),m'⟩:H)=H.patch ⟨lay (A++G++B),n,T,m⟩ ⟨lay G,n,ks G,m⟩ ⟨lay G',n',ks G',m'⟩:=
    H.ext (fun j=>(o7 ok ok' hn hw j).symm) rfl rfl rfl
   rw[e];exact tc
  ·show lay (A++G++B) j=some o
   have hj':lay G j=some o:=hj
   rw[bK,bK]
   have:lay A j=none:=by
    cases hA:lay A j with
    |none=>rfl
    |some o'=>
     obtain ⟨F,a,b⟩:=gz hA
     obtain ⟨F',a',b'⟩:=gz hj'
     rcases d1.2.2 F a F' a' j with e|e
     ·rw[e] at b;cases b
     ·rw[e] at b';cases b'
   rw[this,hj'];rfl
  ·have ht':t∈ks G:=ht
   rw[bI,bI];simp[ht']
 ·intro id hid
  rcases List.mem_append.1 hid with h|h
  ·exact .inl ((hi id).2 h)
  ·obtain ⟨k,hk,rfl⟩:=List.mem_map.1 h
   have:=List.mem_range.1 hk
   exact .inr (by omega)
theorem aa.iM {dst:Option Nat} {g:Option (Nat × Bool)} {f:FuncId} {l:List Opd} {its:List aO} {t:Tm} {log:List Ent} {K:Tm→H→List Ent→Prop} {vals:List AV} {r:AV} {F:Fr} (A B:List Fr) {n m:Nat} {T:List Nat}
  (hg:guardOf t g=some true) (hs:af (l.map (ev t)) vals) (hc:aT P f vals [F] fun r' l'=>r'=r∧l'=[F]) (hk:F.k=[]) (ok:Ok (A++F::B) n T m)
  (rest:∀n' m' ids,n≤n'→m≤m'→(∀id∈ids,(F.o id).isSome=true∨(n≤id∧id<n'))→Ok (A++F::B) n' T m'→aa P N its (cL t dst r) ⟨lay (A++F::B),n',T,m'⟩ (⟨[],ids,[]⟩::log) K):
  aa P N (⟨dst,g,.call f l⟩::its) t ⟨lay (A++F::B),n,T,m⟩ log K:=by
 have e:A++F::B=A++[F]++B:=by simp
 rw[e] at ok ⊢
 have okG:Ok [F] n (ks [F]) m:=by
  have d1:=List.pairwise_append.1 (List.pairwise_append.1 ok.dj).1
  have t1:=List.pairwise_append.1 (List.pairwise_append.1 ok.td).1
  exact ⟨fun F hF=>ok.bd F (by simp[List.mem_singleton.1 hF]),d1.2.1,fun t ht=>ht,t1.2.1,fun t ht=>ok.tb t (ok.tk t (by rw[bI,bI];simp[ht]))⟩
 obtain ⟨r',G',n',m',h1,h2,h3,h4,h5,h6,rfl,rfl⟩:=hc n m okG
 obtain ⟨ids,tc,hi⟩:=mD ok h4 h2 h3 h5
 have k0:ks [F]=[]:=by simp[ks,hk]
 have f0:T.filter (fun _:Nat=>true)=T:=by simp
 have ok2:=ok.swap h4 h2 h3 h5 h6
 simp only[k0,List.nil_append,List.contains_nil,Bool.not_false,f0] at ok2 tc h1 ⊢
 have hi':∀id∈ids,(F.o id).isSome=true∨(n≤id∧id<n'):=fun id h=>by
  have:=hi id h
  rwa [cO,show lay ([]:List Fr) id=none from rfl,Option.or_none] at this
 refine aa.eR hg hs h1 tc ?_
 rw[←e] at ok2 ⊢
 exact rest n' m' ids h2 h3 hi' ok2
theorem aa.cM {dst:Option Nat} {g:Option (Nat × Bool)} {f:FuncId} {l:List Opd} {its:List aO} {t:Tm} {log:List Ent} {K:Tm→H→List Ent→Prop} {vals:List AV} {Q:AV→List Fr→Prop} (A G B:List Fr) {n m:Nat} {T:List Nat}
  (hg:guardOf t g=some true) (hs:af (l.map (ev t)) vals) (hc:aT P f vals G Q) (ok:Ok (A++G++B) n T m)
  (rest:∀r G' n' T' m' ids,Q r G'→On (A++G++B) n m (A++G'++B) n' T' m'→(∀id∈ids,(lay G id).isSome=true∨(n≤id∧id<n'))→aa P N its (cL t dst r) ⟨lay (A++G'++B),n',T',m'⟩ (⟨[],ids,ks G++ks G'⟩::log) K):
  aa P N (⟨dst,g,.call f l⟩::its) t ⟨lay (A++G++B),n,T,m⟩ log K:=by
 have okG:Ok G n (ks G) m:=by
  have d1:=List.pairwise_append.1 (List.pairwise_append.1 ok.dj).1
  have t1:=List.pairwise_append.1 (List.pairwise_append.1 ok.td).1
  exact ⟨fun F hF=>ok.bd F (by simp[hF]),d1.2.1,fun t ht=>ht,t1.2.1,fun t ht=>ok.tb t (ok.tk t (by rw[bI,bI];simp[ht]))⟩
 obtain ⟨r,G',n',m',h1,h2,h3,h4,h5,h6,h7⟩:=hc n m okG
 obtain ⟨ids,tc,hi⟩:=mD ok h4 h2 h3 h5
 exact aa.eR hg hs h1 tc (rest r G' n' _ m' ids h7 ⟨h2,h3,ok.swap h4 h2 h3 h5 h6,.mid h5,.mid h6⟩ hi)
theorem On.grown {l L:List Fr} {n m n' m':Nat} {T:List Nat} {o:Obj} (a:On (ob n o::l) (n+1) m L n' T m'):On l n m L n' T m':=by
 refine ⟨by have:=a.gn;omega,a.gm,a.ok,fun j=>?_,fun t ht=>?_⟩
 ·by_cases e:j=n
  ·exact .inl (by omega)
  ·rcases a.wi j with h|h|h
   ·exact .inl (by omega)
   ·rw[bp _ _ e] at h;exact .inr (.inl h)
   ·exact .inr (.inr h)
 ·have:=a.ki t ht
  rwa [ke] at this
theorem aa.gB {dst:Option Nat} {g:Option (Nat × Bool)} {f:FuncId} {l:List Opd} {its:List aO} {t:Tm} {log:List Ent} {K:Tm→H→List Ent→Prop} {vals:List AV} {r:AV} {F:Fr} {n m:Nat} {T:List Nat}
  (hg:guardOf t g=some true) (hs:af (l.map (ev t)) vals) (hc:aT P f vals [F] fun r' l'=>r'=r∧l'=[F]) (hk:F.k=[]) (ok:Ok [F] n T m)
  (rest:∀n' m' ids,On [F] n m [F] n' T m'→(∀id∈ids,(F.o id).isSome=true∨(n≤id∧id<n'))→aa P N its (cL t dst r) ⟨lay [F],n',T,m'⟩ (⟨[],ids,[]⟩::log) K):
  aa P N (⟨dst,g,.call f l⟩::its) t ⟨lay [F],n,T,m⟩ log K:=
 aa.iM [] [] hg hs hc hk ok fun n' m' ids a b c d=>rest n' m' ids ⟨a,b,d,.refl,.refl⟩ c
end
end Go.Av
end
section
namespace Go.Av
theorem xOp {F Y X:Prop} (f:F) (y:Y) (h:F→Hid Y→X:=by
 intro f y
 refine aQ.op (by simp only[go_sem,reduceIte,Nat.reduceEqDiff,Nat.reduceAdd,bx]) (by simp only[go_sem,reduceIte,Nat.reduceEqDiff,Nat.reduceAdd,bx,f];exact rfl) y.1):X:=h f ⟨y⟩
theorem fv {Y X:Prop} (y:Y) (h:Hid Y→X:=by
 intro y
 refine aQ.op (by simp only[go_sem,reduceIte,Nat.reduceEqDiff,Nat.reduceAdd,bx]) (by simp only[go_sem,reduceIte,Nat.reduceEqDiff,Nat.reduceAdd,bx];exact rfl) y.1):X:=h ⟨y⟩
theorem aJ {Y X:Prop} (y:Y) (h:Hid Y→X:=by
 intro y
 refine Wp.ret ⟨trivial,_,rfl,?_⟩
 simp only[go_sem,reduceIte,Nat.reduceEqDiff,Nat.reduceAdd,bx]
 exact y.1):X:=h ⟨y⟩
theorem xSu {X:Prop} (h:X:=by
 refine aU.tm (by simp only[aC,go_sem,reduceIte,Nat.reduceEqDiff,Nat.reduceAdd,bx];and_intros<;>first|exact trivial|exact ab.refl _|exact ab.any _|(refine ab.int ?_;omega))):X:=h
theorem xSb {X:Prop} (h:X:=by
 simp only[aC,go_sem,reduceIte,Nat.reduceEqDiff,Nat.reduceAdd,bx];and_intros<;>first|exact trivial|exact ab.refl _|exact ab.any _|(refine ab.int ?_;omega)):X:=h
theorem xG1 {F Y X:Prop} (f:F) (y:Y) (h:F→Hid Y→X:=by
 intro f y
 first|(apply aa.evU;(· simp only[go_sem,reduceIte,Nat.reduceEqDiff,Nat.reduceAdd,bx,ax,if_true,if_false,Nat.reduceMul,Nat.reduceLeDiff,f];exact rfl);(· simp only[go_sem,reduceIte,Nat.reduceEqDiff,Nat.reduceAdd,bx,ax,if_true,if_false,Nat.reduceMul,Nat.reduceLeDiff,f];exact rfl);exact y.1)|fail):X:=h f ⟨y⟩
theorem xG2 {F Y X:Prop} (f:F) (y:Y) (h:F→Hid Y→X:=by
 intro f y
 first|(apply aa.part 1;(· simp only[go_sem,reduceIte,Nat.reduceEqDiff,Nat.reduceAdd,bx,ax,if_true,if_false,Nat.reduceMul,Nat.reduceLeDiff,f];exact rfl);exact y.1)|fail):X:=h f ⟨y⟩
theorem xG3 {F Y Z X:Prop} (f:F) (y:Y) (z:Z) (h:F→Hid Y→Hid Z→X:=by
 intro f y z
 first|(refine aa.s9 (p:=?_) ?_ ?_ ?_;rotate_left;(· simp only[go_sem,reduceIte,Nat.reduceEqDiff,Nat.reduceAdd,bx,ax,if_true,if_false,Nat.reduceMul,Nat.reduceLeDiff,f];exact rfl);exact y.1;exact z.1)|fail):X:=h f ⟨y⟩ ⟨z⟩
theorem xG4 {F Y Z X:Prop} (f:F) (y:Y) (z:Z) (h:F→Hid Y→Hid Z→X:=by
 intro f y z
 first|(refine aa.rj (p:=?_) ?_ ?_ ?_;rotate_left;(· simp only[go_sem,reduceIte,Nat.reduceEqDiff,Nat.reduceAdd,bx,ax,if_true,if_false,Nat.reduceMul,Nat.reduceLeDiff,f];exact rfl);exact y.1;exact z.1)|fail):X:=h f ⟨y⟩ ⟨z⟩
theorem xG5 {F Y Z X:Prop} (f:F) (y:Y) (z:Z) (h:F→Hid Y→Hid Z→X:=by
 intro f y z
 first|(refine aa.s8 (b:=?_) ?_ ?_ ?_;rotate_left;(· simp only[go_sem,reduceIte,Nat.reduceEqDiff,Nat.reduceAdd,bx,ax,if_true,if_false,Nat.reduceMul,Nat.reduceLeDiff,f];exact rfl);exact y.1;exact z.1)|fail):X:=h f ⟨y⟩ ⟨z⟩
theorem xG6 {F Y X:Prop} (f:F) (y:Y) (h:F→Hid Y→X:=by
 intro f y
 first|(refine Wp.cond_true ?_ y.1;(· simp only[go_sem,reduceIte,Nat.reduceEqDiff,Nat.reduceAdd,bx,ax,if_true,if_false,Nat.reduceMul,Nat.reduceLeDiff,f]))|fail):X:=h f ⟨y⟩
theorem xG7 {F Y X:Prop} (f:F) (y:Y) (h:F→Hid Y→X:=by
 intro f y
 first|(refine Wp.cond_false ?_ y.1;(· simp only[go_sem,reduceIte,Nat.reduceEqDiff,Nat.reduceAdd,bx,ax,if_true,if_false,Nat.reduceMul,Nat.reduceLeDiff,f]))|fail):X:=h f ⟨y⟩
theorem xG8 {F Y Z X:Prop} (f:F) (y:Y) (z:Z) (h:F→Hid Y→Hid Z→X:=by
 intro f y z
 first|(refine Wp.xo (p:=?_) ?_ ?_ ?_;rotate_left;(· simp only[go_sem,reduceIte,Nat.reduceEqDiff,Nat.reduceAdd,bx,ax,if_true,if_false,Nat.reduceMul,Nat.reduceLeDiff,f];exact rfl);exact y.1;exact z.1)|fail):X:=h f ⟨y⟩ ⟨z⟩
theorem xG9 {F Y Z X:Prop} (f:F) (y:Y) (z:Z) (h:F→Hid Y→Hid Z→X:=by
 intro f y z
 first|(refine Wp.vG (p:=?_) ?_ ?_ ?_;rotate_left;(· simp only[go_sem,reduceIte,Nat.reduceEqDiff,Nat.reduceAdd,bx,ax,if_true,if_false,Nat.reduceMul,Nat.reduceLeDiff,f];exact rfl);exact y.1;exact z.1)|fail):X:=h f ⟨y⟩ ⟨z⟩
theorem xGa {F Y Z X:Prop} (f:F) (y:Y) (z:Z) (h:F→Hid Y→Hid Z→X:=by
 intro f y z
 first|(refine Wp.bN (b:=?_) ?_ ?_ ?_;rotate_left;(· simp only[go_sem,reduceIte,Nat.reduceEqDiff,Nat.reduceAdd,bx,ax,if_true,if_false,Nat.reduceMul,Nat.reduceLeDiff,f];exact rfl);exact y.1;exact z.1)|fail):X:=h f ⟨y⟩ ⟨z⟩
theorem xGp {F C Y X:Prop} (f:F) (c:C) (y:Y) (h:F→C→Hid Y→X:=by
 intro f c y;first|(refine aa.bF ?_ ?_ c ?_;(· simp only[go_sem,reduceIte,Nat.reduceEqDiff,Nat.reduceAdd,bx]);(· simp only[go_sem,reduceIte,Nat.reduceEqDiff,Nat.reduceAdd,bx,List.map,go_sem,reduceIte,Nat.reduceEqDiff,Nat.reduceAdd,bx,ax,if_true,if_false,Nat.reduceMul,Nat.reduceLeDiff,f];first|exact af.refl _|assumption|(repeat (first|exact af.nil|refine af.cons (by first|exact ab.refl _|assumption|exact ab.cap|exact ab.any _) ?_)));exact y.1)|fail):X:=h f c ⟨y⟩
theorem xL0 {F D X:Prop} {Y:List Nat→Prop} (f:F) (d:D) (y:∀ids,Y ids) (h:F→D→(∀ids,Hid (Y ids))→X:=by
 intro f d y
 repeat (first
  |((first|apply Wp.cf|apply Wp.dU|((first
   |(refine aa.pa ?_ ?_ d (by first|exact fun j o h=>h|exact ok.sub (by simp)|assumption) (fun ids=>?_);(· simp only[go_sem,reduceIte,Nat.reduceEqDiff,Nat.reduceAdd,bx]);(· simp only[go_sem,reduceIte,Nat.reduceEqDiff,Nat.reduceAdd,bx,List.map];first|exact af.refl _|assumption|(repeat (first|exact af.nil|refine af.cons (by first|exact ab.refl _|assumption|exact ab.cap|exact ab.any _) ?_)))));apply aa.evR));(· simp only[go_sem,reduceIte,Nat.reduceEqDiff,Nat.reduceAdd,bx,ax,if_true,if_false,Nat.reduceMul,Nat.reduceLeDiff,f];exact rfl))
  |(refine aa.nil ⟨?_,?_⟩;(· first|trivial|simp[ay,au,apart,aH]))
  |(apply Wp.bq;(· simp only[go_sem,reduceIte,Nat.reduceEqDiff,Nat.reduceAdd,bx,ax,if_true,if_false,Nat.reduceMul,Nat.reduceLeDiff,f];exact rfl);(· rfl))
  |refine Wp.skip ?_
  |refine Wp.label ?_
  |refine Wp.block ?_
  |refine Wp.exit ?_
  |refine Wp.seq ?_
  |exact (y ids).1)):X:=h f d fun ids=>⟨y ids⟩
theorem Da {D X:Prop} {Y:List Nat→Prop} (d:D) (y:∀ids,Y ids) (h:D→(∀ids,Hid (Y ids))→X:=by
 intro d y
 repeat (first
  |((first|apply Wp.cf|apply Wp.dU|((first
   |(refine aa.pa ?_ ?_ d (by first|exact fun j o h=>h|exact ok.sub (by simp)|assumption) (fun ids=>?_);(· simp only[go_sem,reduceIte,Nat.reduceEqDiff,Nat.reduceAdd,bx]);(· simp only[go_sem,reduceIte,Nat.reduceEqDiff,Nat.reduceAdd,bx,List.map];first|exact af.refl _|assumption|(repeat (first|exact af.nil|refine af.cons (by first|exact ab.refl _|assumption|exact ab.cap|exact ab.any _) ?_)))));apply aa.evR));(· simp only[go_sem,reduceIte,Nat.reduceEqDiff,Nat.reduceAdd,bx,ax,if_true,if_false,Nat.reduceMul,Nat.reduceLeDiff];exact rfl))
  |(refine aa.nil ⟨?_,?_⟩;(· first|trivial|simp[ay,au,apart,aH]))
  |(apply Wp.bq;(· simp only[go_sem,reduceIte,Nat.reduceEqDiff,Nat.reduceAdd,bx,ax,if_true,if_false,Nat.reduceMul,Nat.reduceLeDiff];exact rfl);(· rfl))
  |refine Wp.skip ?_
  |refine Wp.label ?_
  |refine Wp.block ?_
  |refine Wp.exit ?_
  |refine Wp.seq ?_
  |exact (y ids).1)):X:=h d fun ids=>⟨y ids⟩
theorem xL1 {F D C0 X:Prop} {Y:List Nat→Prop} (f:F) (d:D) (c0:C0) (y:∀ids,Y ids) (h:F→D→C0→(∀ids,Hid (Y ids))→X:=by
 intro f d c0 y
 repeat (first
  |((first|apply Wp.cf|apply Wp.dU|((first
   |(refine aa.pa ?_ ?_ d (by first|exact fun j o h=>h|exact ok.sub (by simp)|assumption) (fun ids=>?_);(· simp only[go_sem,reduceIte,Nat.reduceEqDiff,Nat.reduceAdd,bx]);(· simp only[go_sem,reduceIte,Nat.reduceEqDiff,Nat.reduceAdd,bx,List.map];first|exact af.refl _|assumption|(repeat (first|exact af.nil|refine af.cons (by first|exact ab.refl _|assumption|exact ab.cap|exact ab.any _) ?_))))
   |(refine aa.bF ?_ ?_ c0 ?_;(· simp only[go_sem,reduceIte,Nat.reduceEqDiff,Nat.reduceAdd,bx]);(· simp only[go_sem,reduceIte,Nat.reduceEqDiff,Nat.reduceAdd,bx,List.map];first|exact af.refl _|assumption|(repeat (first|exact af.nil|refine af.cons (by first|exact ab.refl _|assumption|exact ab.cap|exact ab.any _) ?_)))));apply aa.evR));(· simp only[go_sem,reduceIte,Nat.reduceEqDiff,Nat.reduceAdd,bx,ax,if_true,if_false,Nat.reduceMul,Nat.reduceLeDiff,f];exact rfl))
  |(refine aa.nil ⟨?_,?_⟩;(· first|trivial|simp[ay,au,apart,aH]))
  |(apply Wp.bq;(· simp only[go_sem,reduceIte,Nat.reduceEqDiff,Nat.reduceAdd,bx,ax,if_true,if_false,Nat.reduceMul,Nat.reduceLeDiff,f];exact rfl);(· rfl))
  |refine Wp.skip ?_
  |refine Wp.label ?_
  |refine Wp.block ?_
  |refine Wp.exit ?_
  |refine Wp.seq ?_
  |exact (y ids).1)):X:=h f d c0 fun ids=>⟨y ids⟩
theorem xL2 {F D C0 C1 X:Prop} {Y:List Nat→Prop} (f:F) (d:D) (c0:C0) (c1:C1) (y:∀ids,Y ids) (h:F→D→C0→C1→(∀ids,Hid (Y ids))→X:=by
 intro f d c0 c1 y
 repeat (first
  |((first|apply Wp.cf|apply Wp.dU|((first
   |(refine aa.pa ?_ ?_ d (by first|exact fun j o h=>h|exact ok.sub (by simp)|assumption) (fun ids=>?_);(· simp only[go_sem,reduceIte,Nat.reduceEqDiff,Nat.reduceAdd,bx]);(· simp only[go_sem,reduceIte,Nat.reduceEqDiff,Nat.reduceAdd,bx,List.map];first|exact af.refl _|assumption|(repeat (first|exact af.nil|refine af.cons (by first|exact ab.refl _|assumption|exact ab.cap|exact ab.any _) ?_))))
   |(refine aa.bF ?_ ?_ c0 ?_;(· simp only[go_sem,reduceIte,Nat.reduceEqDiff,Nat.reduceAdd,bx]);(· simp only[go_sem,reduceIte,Nat.reduceEqDiff,Nat.reduceAdd,bx,List.map];first|exact af.refl _|assumption|(repeat (first|exact af.nil|refine af.cons (by first|exact ab.refl _|assumption|exact ab.cap|exact ab.any _) ?_))))
   |(refine aa.bF ?_ ?_ c1 ?_;(· simp only[go_sem,reduceIte,Nat.reduceEqDiff,Nat.reduceAdd,bx]);(· simp only[go_sem,reduceIte,Nat.reduceEqDiff,Nat.reduceAdd,bx,List.map];first|exact af.refl _|assumption|(repeat (first|exact af.nil|refine af.cons (by first|exact ab.refl _|assumption|exact ab.cap|exact ab.any _) ?_)))));apply aa.evR));(· simp only[go_sem,reduceIte,Nat.reduceEqDiff,Nat.reduceAdd,bx,ax,if_true,if_false,Nat.reduceMul,Nat.reduceLeDiff,f];exact rfl))
  |(refine aa.nil ⟨?_,?_⟩;(· first|trivial|simp[ay,au,apart,aH]))
  |(apply Wp.bq;(· simp only[go_sem,reduceIte,Nat.reduceEqDiff,Nat.reduceAdd,bx,ax,if_true,if_false,Nat.reduceMul,Nat.reduceLeDiff,f];exact rfl);(· rfl))
  |refine Wp.skip ?_
  |refine Wp.label ?_
  |refine Wp.block ?_
  |refine Wp.exit ?_
  |refine Wp.seq ?_
  |exact (y ids).1)):X:=h f d c0 c1 fun ids=>⟨y ids⟩
theorem xA1 {X:Prop} (h:X:=by simp only[go_sem,reduceIte,Nat.reduceEqDiff,Nat.reduceAdd,bx];exact rfl):X:=h
theorem xA2 {X:Prop} (h:X:=by simp only[go_sem,reduceIte,Nat.reduceEqDiff,Nat.reduceAdd,bx]):X:=h
theorem xA3 {X:Prop} (h:X:=by simp only[go_sem,reduceIte,Nat.reduceEqDiff,Nat.reduceAdd,bx,List.map];first|exact af.refl _|(repeat (first|exact af.nil|refine af.cons (by first|exact ab.refl _|assumption|exact ab.cap|exact ab.any _) ?_))):X:=h
theorem xA4 {X:Prop} (h:X:=by simp only[go_sem,reduceIte,Nat.reduceEqDiff,List.map];exact af.refl _):X:=h
theorem xA5 {X:Prop} (h:X:=by first|exact ab.refl _|assumption|exact ab.cap|exact ab.any _):X:=h
theorem xA6 {X:Prop} (h:X:=by simp only[go_sem,reduceIte,Nat.reduceEqDiff,Nat.reduceAdd,bx,List.map];exact rfl):X:=h
theorem xA7 {X:Prop} (h:X:=by simp only[go_sem,reduceIte,Nat.reduceEqDiff,List.map];exact rfl):X:=h
theorem xA8 {X:Prop} (h:X:=by simp only[go_sem,reduceIte,Nat.reduceEqDiff,bx]):X:=h
theorem xA9 {X:Prop} (h:X:=by simp only[aC,go_sem,reduceIte,Nat.reduceEqDiff];exact ⟨ab.refl _,trivial⟩):X:=h
theorem ixF {j n:Nat} (h:j<n) (hn:n≤9223372036854775806):decide ((j:Int)<(n:Int))=true∧(0:Int)≤(j:Int)∧(j:Int)<(n:Int)∧IntKind.i64.wrap ((j:Int)+1)=((j+1:Nat):Int):=
 ⟨decide_eq_true (by omega),by omega,by omega,by rw[IntWalk.i64_in _ (by omega)];omega⟩
theorem ixE (n:Nat):decide ((n:Int)<(n:Int))=false:=decide_eq_false (by omega)
end Go.Av
end
section
namespace Go.Av
section
variable {P:Program} {N:Nat} {Q:aP→St→Prop}
theorem aA.CL {f:FuncId} {xs args:List AV} {r:AV} {off len:Nat} (hlen:off+len≤xs.length) (hc:aA P f (.sl 1 ((xs.drop off).take len) .any::args) r) (hr:∀G G' w v,ah G w r v→ah G' w r v) (c:Option Nat) (id:Nat):iI P f (.tsl 1 id off len c::args) (upd ag id (some (.cells xs))) r:=by
 intro n m G w vs hv R F
 have ho:(H.only (upd ag id (some (.cells xs))) [] n m).objs id=some (.cells xs):=by simp[H.only,upd]
 have hv':aq (G.frz (H.only (upd ag id (some (.cells xs))) [] n m) fun _=>true) w (.sl 1 ((xs.drop off).take len) .any::args) vs:=by
  simp only[aq] at hv ⊢
  obtain ⟨v,us,e,h1,h2⟩:=hv
  refine ⟨v,us,e,?_,aq.mono R (bw _) _ _ h2⟩
  exact mT R (d:=fun _=>true) ho rfl hlen h1
 refine (hc n m _ w vs hv' eA ⟨fun j h1 h2=>by simp only[H0,H.only] at h1 h2;omega,fun j h1 h2=>by simp only[H0,H.only] at h1 h2;omega⟩).mono ?_
 rintro e w' ⟨v,G',rfl,T,R',V⟩
 obtain ⟨q1,q2,q3,q4⟩:=R.obj id _ ho
 have hne:∀B,¬(H.only (upd ag id (some (.cells xs))) [] n m).O G B→B≠G.ι id:=fun B h1 e=>h1 ⟨id,_,ho,e.symm⟩
 have hDO:∀B,¬(H.only (upd ag id (some (.cells xs))) [] n m).O G B→¬(H.only (upd ag id (some (.cells xs))) [] n m).DO G (fun _=>true) B:=fun B h1 h2=>h1 (vD h2)
 have hT:∀{G:aI} B,¬(H0 n m).T G B:=fun B ⟨t,ht,_⟩=>by simp[H0,H.only] at ht
 let G3:aI:={own:=fun B=>B=G.ι id∨G'.own B,lim:=fun B=>if B=G.ι id then G.lim B else G'.lim B,dom:=G.dom,ι:=G.ι,tdom:=G.tdom,τ:=G.τ}
 have T3:Trans G w (H.only (upd ag id (some (.cells xs))) [] n m) G3 w' (H.only (upd ag id (some (.cells xs))) [] n m):=by
  constructor
  ·exact fun _ x=>x
  ·exact fun _=> .inl
  ·exact fun _ _=>rfl
  ·exact fun _ x=>x
  ·exact fun _=> .inl
  ·exact fun _ _=>rfl
  ·exact Nat.le_refl _
  ·exact Nat.le_refl _
  ·exact T.size_le
  ·exact T.os
  ·exact T.output
  ·exact T.form
  ·exact fun B hB _ _=>T.keep B hB (cr B) (hT B)
  ·intro B hB h1
   have e1:=T.own_keep B hB (cr B)
   have e2:=hDO B h1
   have e3:=hne B h1
   simp only[G3,e3,false_or,e1,aI.frz,e2,not_false_eq_true,and_true]
  ·intro B hB h1 _
   have e1:=T.lim_keep B hB (cr B) (hT B)
   have e2:=hDO B h1
   have e3:=hne B h1
   simp only[G3,e3,if_false,e1,aI.frz,e2]
  ·exact fun B hB x=>absurd x (dF B)
  ·exact fun B _ x=>x
  ·exact fun B _ x=>absurd x (dF B)
  ·exact fun j o x=> .inl ⟨o,x⟩
  ·exact fun t x=>by simp[H.only] at x
 refine ⟨v,G3,rfl,T3,?_,hr G' G3 w' v V⟩
 refine ⟨fun j o hj=>?_,fun i j o o' a b e=>R.inj _ _ _ _ a b e,fun t ht=>by simp[H.only] at ht,fun t ht=>by simp[H.only] at ht⟩
 obtain ⟨p1,p2,p3,p4⟩:=R.obj j o hj
 have hj':j=id:=by
  simp only[H.only,upd,ag] at hj
  split at hj
  ·assumption
  ·cases hj
 subst hj'
 refine ⟨p1,.inl rfl,Nat.lt_of_lt_of_le p3 T.size_le,?_⟩
 have hk:w'.heap[G.ι j]? =w.heap[G.ι j]? :=T.keep _ p3 (cr _) (hT _)
 show kH G3 w' o w'.heap[G.ι j]?
 rw[hk]
 cases o with
 |cells cs=>
  obtain ⟨vs,rest,T',fr,y1,y2,y3⟩:=p4
  exact ⟨vs,rest,T',fr,y1,aq.mono R T3 _ _ y2,y3⟩
 |map es=>
  obtain ⟨en,clock,y1,y2⟩:=p4
  exact ⟨en,clock,y1,Entries.mono R T3 _ _ y2⟩
 |loop N t ps asg body st pend=>
  obtain ⟨r,y1,y2,y3,y4⟩:=p4
  exact ⟨r,y1,y2,fun i=>ah.mono R T3 _ _ (y3 i),y4⟩
end
end Go.Av
end
section
namespace Go.Av
section
variable {P:Program} {N:Nat} {o:Oper} {t:Tm} {h:H} {en:Ent} {G:aI} {w:World}
theorem pb {id n m:Nat} {c:Obj} {j:Nat} {o:Obj} (ho:(H.only (upd ag id (some c)) [] n m).objs j=some o):j=id∧o=c:=by
 simp only[H.only,upd,ag] at ho
 split at ho
 ·cases ho;exact ⟨‹_›,rfl⟩
 ·cases ho
theorem nH {id n m:Nat} {cs xs:List AV} {us:List Value} (R:bf G (.only (upd ag id (some (.cells cs))) [] n m) w) (hn:¬G.dom n) (hr:aq G w xs us) (h1:∀v∈us,One v)
  {c:Array Value} {T0:TypeId} {fr0:Nat × Nat} (hc0:w.heap[G.ι id]? =some (.cells c T0 fr0)) (hl:cs.length+xs.length≤c.size):
  ∃w' G',(storeCells ⟨G.ι id,cs.length,none⟩ us 0).run P w= .ok () w'∧Trans G w (.only (upd ag id (some (.cells cs))) [] n m) G' w' (.only (upd ag n (some (.cells (cs++xs)))) [] (n+1) m)∧bf G' (.only (upd ag n (some (.cells (cs++xs)))) [] (n+1) m) w'∧
   G'.dom n∧G'.ι n=G.ι id∧∃c' T' fr',w'.heap[G.ι id]? =some (.cells c' T' fr')∧c'.size=c.size:=by
 have hme:(H.only (upd ag id (some (.cells cs))) [] n m).objs id=some (.cells cs):=by simp[H.only,upd]
 obtain ⟨d1,d2,d3,-⟩:=R.obj id _ hme
 obtain ⟨vs,rest,T,fr,hg,hvs,hfr,hone⟩:=ib R hme
 have hlen:=hvs.length
 have hul:=hr.length
 have hcs:c.size=vs.length+rest.length:=by
  rw[hg] at hc0
  cases hc0
  simp
 have hc:∀j,w.cell? ⟨G.ι id,j,none⟩=(vs++rest)[j]? :=by
  intro j;unfold World.cell?;simp only[hg];simp
 have hcell:∀j,j<us.length→(w.cell? ⟨G.ι id,cs.length+0+j,none⟩).isSome=true:=fun j hj=>by rw[hc];simp;omega
 have hfrz:∀j,j<us.length→w.frozen? ⟨G.ι id,cs.length+0+j,none⟩=false:=fun j hj=>by
  unfold World.frozen?;simp only[hg]
  have:¬(fr.1≤cs.length+0+j∧cs.length+0+j<fr.2):=fun h=>by omega
  simpa using this
 have honec:∀v∈us,v.oneCell'=true:=fun v hv=>by
  obtain ⟨k1,k2⟩:=h1 v hv
  cases v with
  |agg a=>exact absurd rfl (k1 a)
  |tuple a=>exact absurd rfl (k2 a)
  |_=>rfl
 have hrun:=run_storeCells_cells (P:=P) (G.ι id) cs.length us 0 w hcell hfrz honec
 rw[Nat.add_zero] at hrun
 obtain ⟨a1,a2,a3,a4,a5⟩:=bX (G.ι id) T fr us cs.length (vs++rest) w hg (by simp;omega)
 have ecur:(vs++rest).take cs.length++us++(vs++rest).drop (cs.length+us.length)=(vs++us)++rest.drop us.length:=by
  rw[List.take_append_of_le_length (by omega),List.take_of_length_le (by omega),List.drop_append,List.drop_of_length_le (by omega),hlen,List.nil_append]
  congr 2;omega
 rw[ecur] at a1
 clear hcell hfrz honec
 generalize w.setCells (G.ι id) cs.length us=w1 at*
 let G':aI:={G with dom:=fun j=>G.dom j∨j=n,ι:=upd G.ι n (G.ι id)}
 have hιn:G'.ι n=G.ι id:=by simp[G',upd]
 have hι:∀j,G.dom j→G'.ι j=G.ι j:=fun j hj=>by
  simp only[G',upd];rw[if_neg];rintro rfl;exact hn hj
 refine ⟨w1,G',hrun,?_⟩
 have T1:Trans G w (.only (upd ag id (some (.cells cs))) [] n m) G' w1 (.only (upd ag n (some (.cells (cs++xs)))) [] (n+1) m):=by
  constructor
  ·exact fun _ x=> .inl x
  ·rintro j (x|rfl)
   ·exact .inl x
   ·exact .inr ⟨by simp[H.only],by simp[H.only]⟩
  ·exact hι
  ·exact fun _ x=>x
  ·exact fun _=> .inl
  ·exact fun _ _=>rfl
  ·simp[H.only]
  ·exact Nat.le_refl _
  ·rw[a3];exact Nat.le_refl _
  ·exact a4
  ·exact a5
  ·intro B hB
   by_cases hBi:B=G.ι id
   ·subst hBi
    rw[a1,hg]
    exact ⟨_,_,rfl,by simp;omega,fun _ _ h=>h⟩
   ·rw[a2 B hBi];exact bE.refl _
  ·intro B hB hO _
   exact a2 B fun e=>hO ⟨id,_,hme,e.symm⟩
  ·exact fun _ _ _=>Iff.rfl
  ·exact fun _ _ _ _=>rfl
  ·rintro B hB ⟨t,ht,_⟩;simp[H.only] at ht
  ·rintro B hB ⟨j,o,ho,e⟩
   obtain ⟨rfl,rfl⟩:=pb ho
   exact ⟨id,_,hme,by rw[←e,hιn]⟩
  ·rintro B hB ⟨t,ht,_⟩;simp[H.only] at ht
  ·intro j o ho
   obtain ⟨rfl,rfl⟩:=pb ho
   exact .inr ⟨by simp[H.only],by simp[H.only]⟩
  ·intro t ht;simp[H.only] at ht
 refine ⟨T1,⟨?_,?_,?_,?_⟩,.inr rfl,hιn,_,T,fr,a1,?_⟩
 ·intro j o ho
  obtain ⟨rfl,rfl⟩:=pb ho
  refine ⟨.inr rfl,by rw[hιn];exact d2,by rw[hιn,a3];exact d3,?_⟩
  rw[hιn,a1]
  refine ⟨_,_,T,fr,rfl,(aq.mono R T1 _ _ hvs).append (aq.mono R T1 _ _ hr),hfr,?_⟩
  intro v hv
  rcases List.mem_append.1 hv with hv|hv
  ·exact hone v hv
  ·exact h1 v hv
 ·intro j j' o o' ho ho' _
  rw[(pb ho).1,(pb ho').1]
 ·intro t ht;simp[H.only] at ht
 ·intro t ht;simp[H.only] at ht
 ·simp;omega
theorem Trans.Bb {id n m:Nat} {c:Obj} {G':aI} {w':World} {h':H} (T:Trans G w (.only ag [] n m) G' w' h'):Trans G w (.only (upd ag id (some c)) [] n m) G' w' h':=by
 constructor
 ·exact T.dom_le
 ·exact T.dom_new
 ·exact T.ι_eq
 ·exact T.tdom_le
 ·exact T.tdom_new
 ·exact T.τ_eq
 ·exact T.n_le
 ·exact T.m_le
 ·exact T.size_le
 ·exact T.os
 ·exact T.output
 ·exact T.form
 ·exact fun B hB _ _=>T.keep B hB (cr B) (dF B)
 ·exact fun B hB _=>T.own_keep B hB (cr B)
 ·exact fun B hB _ _=>T.lim_keep B hB (cr B) (dF B)
 ·exact fun B hB x=>absurd x (dF B)
 ·exact fun B hB x=>absurd (T.O_new B hB x) (cr B)
 ·exact fun B hB x=>absurd (T.T_new B hB x) (dF B)
 ·intro j o ho
  rcases T.objs_new j o ho with ⟨o',x⟩|x
  ·simp[H.only,ag] at x
  ·exact .inr x
 ·exact T.toks_new
theorem th (h:H) {id:Nat} {ob ob':Obj} (ho:h.objs id=some ob):Touch h (.only (upd ag id (some ob)) [] h.n h.m) (.only (upd ag h.n (some ob')) [] (h.n+1) h.m) {h with objs:=upd (fun j=>if j=id then none else h.objs j) h.n (some ob'),n:=h.n+1} ⟨[],[id,h.n],[]⟩ where
 sub:=⟨fun j o hj=>by obtain ⟨rfl,rfl⟩:=pb hj;exact ho,fun t ht=>by simp[H.only] at ht⟩
 n:=rfl
 m:=rfl
 eq:=by
  refine H.ext (fun j=>?_) rfl (by simp[H.patch,H.only];exact (List.filter_eq_self.2 fun _ _=>rfl).symm) rfl
  simp only[H.patch,H.only,upd,ag]
  by_cases e1:j=h.n
  ·subst e1;simp
  ·by_cases e2:j=id
   ·subst e2;simp[e1]
   ·have:¬(h.n≤j∧j<h.n+1):=by omega
    simp[e1,e2,this]
 rd j x:=by
  right
  simp only[H.only,upd,ag] at x
  split at x
  ·rename_i e;simp[e]
  ·simp at x
 wr j a b:=by simp only[H.only] at a b;simp;omega
 chg j x hx:=by
  simp only[H.only,upd,ag] at x
  split at x
  ·rename_i e;subst e;simp at hx
  ·simp at x
 tk t x:=by simp[H.only] at x
 tn t x:=by simp[H.only] at x
 le:=by simp[H.only]
 lem:=Nat.le_refl _
theorem xw {c:Call} {zs zx:Operand} {ys yx:Opd} {T U e:TypeId} {d:TypeDesc} {i:TypeInfo} {id len:Nat} {cap:Option Nat} {cs els:List AV} (hop:o.op= .call c) (hc:c.callee= .builtin .append) (ha:c.args.toList=[zs,zx]) (hta:c.argTypes.toList=[T,U])
  (hT:P.underlying T=some (.slice e)) (hU:P.underlying U=some d) (hd:(∃e',d= .slice e')∨d= .string) (hi:P.info? e=some i) (hz:i.zero.any (fun z=>z.cells.size == i.size)=true) (hsz:0<i.size)
  (hys:opd P T zs=some ys) (hyx:opd P U zx=some yx) (hs:ev t ys= .tsl i.size id 0 len cap) (ho:h.objs id=some (.cells cs)) (hcl:cs.length=len*i.size) (hx:∃s' c',ev t yx= .sl s' els c'∧s'=i.size) (hsh:els.all shaped=true)
  (hb:(len+els.length)*i.bytes≤140737488355328) (hlen:len+els.length<4611686018427387904):
  Loc P o t h (.tsl i.size h.n 0 (len+els.length) none) {h with objs:=upd (fun j=>if j=id then none else h.objs j) h.n (some (.cells (cs++els.flatMap cellsOf))),n:=h.n+1} ⟨[],[id,h.n],[]⟩:=by
 have ha':c.args= #[zs,zx]:=by rw[←Array.toArray_toList (xs:=c.args),ha]
 have hta':c.argTypes= #[T,U]:=by rw[←Array.toArray_toList (xs:=c.argTypes),hta]
 obtain ⟨z,hz1,hz2⟩:∃z,i.zero=some z∧z.cells.size=i.size:=by
  cases hzz:i.zero with
  |none=>rw[hzz] at hz;simp at hz
  |some z=>rw[hzz] at hz;exact ⟨z,rfl,by simpa using hz⟩
 refine ⟨_,_,th h ho,fun G w a ht R F=>?_⟩
 have r1:=aE hys ht
 have r2:=aE hyx ht
 rw[hs] at r1
 obtain ⟨s',c',hx,hs'⟩:=hx
 rw[hx] at r2
 obtain ⟨news,n1,n2,n3⟩:=ic (P:=P) (.inl hs') r2
 have hnl:=n2.length
 have hnr:=eC n2 hsh
 have hnrl:=hnr.length
 have hdn:¬G.dom h.n:=F.1 h.n (by simp[H.only]) (by simp[H.only])
 have hme:(H.only (upd ag id (some (.cells cs))) [] h.n h.m).objs id=some (.cells cs):=by simp[H.only,upd]
 obtain ⟨d1,d2,d3,-⟩:=R.obj id _ hme
 obtain ⟨vs,rest,T0,fr,hg,hvs,hfr,hone⟩:=ib R hme
 have hvl:=hvs.length
 have hmul:(len+els.length)*i.size=len*i.size+els.length*i.size:=Nat.add_mul _ _ _
 have fin:∀v w' G',(execOp a.eval o).run P w= .ok (.value v) w'→Trans G w (.only (upd ag id (some (.cells cs))) [] h.n h.m) G' w' (.only (upd ag h.n (some (.cells (cs++els.flatMap cellsOf)))) [] (h.n+1) h.m)→bf G' (.only (upd ag h.n (some (.cells (cs++els.flatMap cellsOf)))) [] (h.n+1) h.m) w'→ah G' w' (.tsl i.size h.n 0 (len+els.length) none) v→
   ∃nx v w' G',(execOp a.eval o).run P w= .ok nx w'∧(nx= .value v∨nx= .skip∧v=undef)∧Trans G w (.only (upd ag id (some (.cells cs))) [] h.n h.m) G' w' (.only (upd ag h.n (some (.cells (cs++els.flatMap cellsOf)))) [] (h.n+1) h.m)∧bf G' (.only (upd ag h.n (some (.cells (cs++els.flatMap cellsOf)))) [] (h.n+1) h.m) w'∧ah G' w' (.tsl i.size h.n 0 (len+els.length) none) v:=
  fun v w' G' a b c d=>⟨_,v,w',G',a,.inl rfl,b,c,d⟩
 have hex:∀{va vx r:Value} {w':World},a.eval zs=va→(Builtin.append_ #[T,U] o.type #[va,a.eval zx]).run P w= .ok r w'→(execOp a.eval o).run P w= .ok (.value r) w':=by
  intro va vx r w' h1 h2
  simp[execOp,hop,resolve,hc,ha',hta',invoke,builtin,h1,h2]
 simp only[ah] at r1
 obtain ⟨-,⟨C,c1,T1,fr1,hv,⟨hC,hC2⟩,-,hg1,hroom⟩|⟨rfl,⟨a0,hv⟩,-⟩⟩:=r1
 ·have hc1:c1.size=vs.length+rest.length:=by rw[hg] at hg1;cases hg1;simp
  by_cases hfit:len+els.length≤C
  ·have hCs:(len+els.length)*i.size≤C*i.size:=Nat.mul_le_mul_right _ hfit
   obtain ⟨w',G',q1,q2,q3,q4,q5,c',T',fr',q6,q7⟩:=nH (P:=P) R hdn hnr n3 hg1 (by omega)
   have hst:(storeCells ((⟨G.ι id,0,none⟩:Addr).add (len*i.size)) news).run P w= .ok () w':=by
    have e:(⟨G.ι id,0,none⟩:Addr).add (len*i.size)=⟨G.ι id,cs.length,none⟩:=by rw[add_plain,hcl,Nat.zero_add]
    rw[e];exact q1
   refine fin _ w' G' (hex (vx:= .nilIface) hv (run_append_fits (ty:=o.type) hT hU hd hi n1 hfit hst)) q2 q3 ?_
   unfold ah
   refine ⟨q4,.inl ⟨C,c',T',fr',by rw[q5],⟨hfit,hC2⟩,(fun _ h=>by cases h),by rw[q5];exact q6,by omega⟩⟩
  ·have hsrc:Src P w i.size (.slice (some ⟨G.ι id,0,none⟩) len C) len vs:=by
    refine ⟨by simp[Builtin.lenOf],fun w' hw=>?_⟩
    have:=run_loadCells_list (P:=P) w' ⟨G.ι id,0,none⟩ vs (fun j u hu=>by
     rw[add_plain,iB hw]
     unfold World.cell?
     simp only[hg]
     have hj:=(List.getElem?_eq_some_iff.1 hu).1
     simp[List.getElem?_append_left hj,hu])
    simp only[Builtin.firstCells]
    rw[←hcl,←hvl];exact this
   obtain ⟨w',C',rest',e1,e2,e3,e4⟩:=dZ (ty:=o.type) hT hU hd hi hz1 hz2 hsz n1 hsrc hfit hC hb hlen
   obtain ⟨G',T2,R2,V⟩:=kJ (m:=h.m) (sz:=i.size) (cs:=cs++els.flatMap cellsOf) e2 (hvs.append hnr) (fun u hu=>by
    rcases List.mem_append.1 hu with h|h
    ·exact hone u h
    ·exact n3 u h) hdn e3 (by simp only[List.length_append];omega)
   exact fin _ w' G' (hex (vx:= .nilIface) hv e1) T2.Bb R2 V
 ·by_cases hk:els=[]
  ·subst hk
   have hnn:news=[]:=by simpa [aB] using n2
   subst hnn
   have hcs0:cs=[]:=by
    cases cs with
    |nil=>rfl
    |cons x l=>simp at hcl
   subst hcs0
   obtain ⟨w',G',q1,q2,q3,q4,q5,-⟩:=nH (P:=P) (xs:=[]) (us:=[]) R hdn .nil (by simp) hg (by simp)
   have hw':w'=w:=by simpa [storeCells] using q1.symm
   subst hw'
   refine fin _ w' G' (hex (vx:= .nilIface) hv (run_append_fits (ty:=o.type) hT hU hd hi n1 (Nat.le_refl _) (w':=w') (by cases a0<;>rfl))) q2 q3 ?_
   unfold ah
   exact ⟨q4,.inr ⟨rfl,⟨a0,rfl⟩,fun _ h=>by cases h⟩⟩
  ·have hpos:0<els.length:=List.length_pos_iff.2 hk
   have hcs0:cs=[]:=by
    cases cs with
    |nil=>rfl
    |cons x l=>simp at hcl
   subst hcs0
   obtain ⟨w',C',rest',e1,e2,e3,e4⟩:=dZ (ty:=o.type) hT hU hd hi hz1 hz2 hsz n1 (jd (some a0)) (by omega) (Nat.le_refl _) (by simpa using hb) (by simpa using hlen)
   rw[List.nil_append] at e2
   obtain ⟨G',T2,R2,V⟩:=kJ (m:=h.m) (sz:=i.size) e2 hnr n3 hdn e3 (by omega)
   exact fin _ w' G' (hex (vx:= .nilIface) hv e1) T2.Bb R2 V
def kP (ρ:Opd→AV) (h:H):AOp→Option (AV × H × Ent)
 | .app false sz bytes s x=>match ρ s,ρ x with
  | .tsl z id 0 len _,.sl s' els _=>match h.objs id with
   |some (.cells cs)=>if z=sz∧s'=sz∧cs.length=len*sz∧els.all shaped=true∧(len+els.length)*bytes≤140737488355328∧len+els.length<4611686018427387904 then
     some (.tsl sz h.n 0 (len+els.length) none,{h with objs:=upd (fun j=>if j=id then none else h.objs j) h.n (some (.cells (cs++els.flatMap cellsOf))),n:=h.n+1},⟨[],[id,h.n],[]⟩) else none
   |_=>none
  |_,_=>none
 |_=>none
theorem xx {op:AOp} {x:AV} {h':H} (hc:cOp P o=some op) (hx:kP (ev t) h op=some (x,h',en)):Loc P o t h x h' en:=by
 cases op<;>(try (simp [kP] at hx;done))
 case app str sz bytes s x0=>
  cases str<;>(try (simp [kP] at hx;done))
  obtain ⟨c,zs,zx,T,U,e,e',i,hop,hcal,ha,hta,hys,hyx,hT,hU,hi,hs1,hs2,rfl,rfl⟩:=uo hc
  simp only[kP] at hx
  split at hx
  ·split at hx
   ·split at hx
    ·rename_i hq
     obtain ⟨q1,q2,q3,q4,q5,q6⟩:=hq
     subst q1
     cases hx
     exact xw hop hcal ha hta hT hU (.inl ⟨_,rfl⟩) hi hs2 hs1 hys hyx ‹_› ‹_› q3 ⟨_,_,‹_›,q2⟩ q4 q5 q6
    ·cases hx
   ·cases hx
  ·cases hx
theorem tp {ρ ρ':Opd→AV} {op:AOp} (hx:∀y∈cE op,ρ y=ρ' y):kP ρ h op=kP ρ' h op:=by
 cases op<;>(try rfl)
 case app str sz bytes s x0=>
  cases str
  ·simp only[kP,hx s (by simp[cE]),hx x0 (by simp[cE])]
  ·rfl
theorem pc {ops:Array Oper} {i:Nat} {o:Oper} {it:aO} {t:Tm} {h h':H} {x:AV} {en:Ent} (ho:ops[i]? =some o) (hit:dn P N ops o=some it) (hg:guardOf t it.guard=some true) (hx:kP (ev t) h it.op=some (x,h',en)):
  ∃h1 h1',Touch h h1 h1' h' en∧iT P ops i o t h1 x h1':=by
 unfold dn at hit
 split at hit
 ·rename_i op g hop hgd
  split at hit<;>cases hit
  rename_i hcond
  simp only[Bool.and_eq_true] at hcond
  have hop:=iE hop (by rintro rfl;simp[kP] at hx)
  have hx':kP (ev (jh (names ops o) t)) h op=some (x,h',en):=by
   rw[tp (ku hcond.2)];exact hx
  obtain ⟨h1,h1',tc,loc⟩:=xx hop hx'
  refine ⟨h1,h1',tc,fun G w a ht R F K Q hK ro=>?_⟩
  obtain ⟨nx,v,w',G',e1,e2,T1,R1,V⟩:=loc G w a (fW ht) R F
  unfold wpOpIn
  rw[ho]
  simp only[dd hgd ht hg,if_true]
  refine ⟨fun _ _=>trivial,?_⟩
  rw[Oper.semAt_eq _ _ _ (fp hop),e1]
  rcases e2 with rfl|⟨rfl,rfl⟩
  ·rw[Oper.uponIn_value];exact hK G' w' v T1 R1 V
  ·rw[Oper.uponIn_skip];exact hK G' w' undef T1 R1 V
 ·cases hit
theorem aa.opK {dst:Option Nat} {g:Option (Nat × Bool)} {op:AOp} {its:List aO} {t:Tm} {h h':H} {log:List Ent} {en:Ent} {K:Tm→H→List Ent→Prop} {x:AV} (hg:guardOf t g=some true) (hx:kP (ev t) h op=some (x,h',en)) (ht:eW op=true)
  (rest:aa P N its (cL t dst x) h' (en::log) K):aa P N (⟨dst,g,op⟩::its) t h log K:=by
 intro ops i hi hc
 obtain ⟨o,ho,hit,hi',hc'⟩:=gu hi hc
 obtain ⟨h1,h1',tc,run⟩:=pc ho hit hg hx
 obtain ⟨recs,t',hh',ch,hk,hen⟩:=rest ops (i+1) hi' hc'
 have hdst:dst=o.dst:=by
  unfold dn at hit
  split at hit
  ·split at hit<;>cases hit;rfl
  ·cases hit
 refine ⟨⟨t,h,h1,h1',h',x,en⟩::recs,t',hh',.cons ho rfl rfl tc run (by rw[←hdst];exact ch),by simpa using hk,?_⟩
 intro k r it' hr hit' ht'
 cases k with
 |zero=>
  simp at hr hit';subst hr hit'
  rw[ht] at ht';cases ht'
 |succ k=>simp at hr hit';exact hen k r it' hr hit' ht'
theorem aQ.opK {dst:Option Nat} {g:Option (Nat × Bool)} {op:AOp} {its:List aO} {t:Tm} {h h':H} {en:Ent} {K:Tm→H→Prop} {x:AV} (hg:guardOf t g=some true) (hx:kP (ev t) h op=some (x,h',en))
  (rest:aQ P N its (cL t dst x) h' K):aQ P N (⟨dst,g,op⟩::its) t h K:=
 aQ.step (it:=⟨dst,g,op⟩) (fun ops i o ho hit=>pc ho hit hg hx) rest
end
end Go.Av
end
section
namespace Go.Av
section
variable {P:Program} {N:Nat} {o:Oper} {t:Tm} {h:H} {G:aI} {w:World} {a:Act}
theorem ab.slt {sz:Nat} {xs ys:List AV}:ab (.slt sz xs ys) (.sl sz xs .any):=by
 intro G w v hv
 unfold ah at hv ⊢
 obtain ⟨B,off,C,us,vs,h1,h2,h3,h4,h5,h6⟩:=hv
 refine .inr ⟨B,off,C,us,h1,by omega,h3,h4,fun i v hi=>h6 i v ?_,trivial⟩
 rw[List.getElem?_append_left (List.getElem?_eq_some_iff.1 hi).1];exact hi
end
end Go.Av
end
section
namespace Go.Av
section
variable {P:Program} {N:Nat} {o:Oper} {t:Tm} {h:H} {en:Ent} {G:aI} {w:World}
end
end Go.Av
end
section
namespace Go.Av
structure LR where
 id:Nat
 N:Nat
 x:AC
 y:AC
section
variable {P:Program} {T:FT}
end
end Go.Av
end
section
set_option maxRecDepth 10000
namespace Go.Proofs.YtpehfflehebmbaaGreat.Batch
open Go Go.Av Go.Proofs Go.Proofs.YtpehfflehebmbaaGreat.C
theorem tq (b:List UInt8):Op.bytesLess [] b=decide (0<b.length):=by cases b<;>simp[Op.bytesLess]
theorem iN (a:List UInt8):Op.bytesLess a []=false:=by cases a<;>simp[Op.bytesLess]
theorem zQ {a b:List UInt8} {j:Nat} (ha:j<a.length) (hb:j<b.length):Op.bytesLess (a.drop j) (b.drop j)=(decide (a.getD j 0<b.getD j 0)||(a.getD j 0 == b.getD j 0&&Op.bytesLess (a.drop (j+1)) (b.drop (j+1)))):=by
 rw[List.drop_eq_getElem_cons ha,List.drop_eq_getElem_cons hb]
 simp[Op.bytesLess,List.getD,List.getElem?_eq_getElem ha,List.getElem?_eq_getElem hb]
theorem ru {a b:List UInt8} {j:Nat} (ha:j≤a.length) (hb:j≤b.length) (h:¬(j<a.length∧j<b.length)):Op.bytesLess (a.drop j) (b.drop j)=decide ((a.length:Int)<(b.length:Int)):=by
 by_cases h1:j<a.length
 ·have:b.drop j=[]:=List.drop_eq_nil_of_le (by omega)
  rw[this,iN];symm;simp;omega
 ·have:a.drop j=[]:=List.drop_eq_nil_of_le (by omega)
  rw[this,tq];simp;omega
def Ls (l:List UInt8):Prop:=l.length≤9223372036854775806
theorem cI (a b:List UInt8) (la:Ls a) (lb:Ls b):aA Tryz.prog 72 [.str a,.str b] (.bool (Op.bytesLess a b)):=by
 refine f72.p7 (by simp) (ct _ rfl) (dN _ rfl) fun k m=>?_
 unfold Ls at la lb
 unfold c72
 simp only[C.zz]
 refine Wp.aw xA1 (by trivial) ?_
 refine Wp.seq ?_
 refine Wp.aw xA1 (by trivial) ?_
 refine Wp.block ?_
 refine Wp.cZ [0,1] xA6 (fun j:Nat=>[(5,.int .i64 j)]) (fun j=>j≤a.length∧j≤b.length∧Op.bytesLess (a.drop j) (b.drop j)=Op.bytesLess a b) (fun j=>a.length - j) 0 ⟨Nat.zero_le _,Nat.zero_le _,rfl⟩ ?_ ?_
 ·exact xSb
 ·intro j hj
  obtain ⟨h1,h2,h3⟩:=hj
  refine Wp.seq ?_
  by_cases hc:j<a.length∧j<b.length
  ·have ha:decide ((j:Int)<(a.length:Int))=true:=by simp;omega
   have hb:decide ((j:Int)<(b.length:Int))=true:=by simp;omega
   have h4:(0:Int)≤(j:Int):=by omega
   have h5:(j:Int)<(a.length:Int):=by omega
   have h6:(j:Int)<(b.length:Int):=by omega
   refine Wp.aw (by simp only[go_sem,reduceIte,Nat.reduceEqDiff,Nat.reduceAdd,bx,ha,hb];exact rfl) (by trivial) ?_
   refine Wp.cond_true (by simp only[go_sem,reduceIte,Nat.reduceEqDiff,Bool.false_eq_true]) ?_
   refine Wp.skip ?_
   refine Wp.seq ?_
   refine Wp.block ?_
   refine Wp.aw (by simp only[go_sem,reduceIte,Nat.reduceEqDiff,Nat.reduceAdd,bx,h4,h5,h6,and_self,if_true,Int.toNat_natCast,byte];exact rfl) (by trivial) ?_
   have hs:=zQ hc.1 hc.2
   refine Wp.bN (b:= !decide (((a.getD j 0).toNat:Int)=((b.getD j 0).toNat:Int))) xA2 (fun hd=>?_) (fun hd=>?_)
   ·refine Wp.aw (by simp only[go_sem,reduceIte,Nat.reduceEqDiff,Nat.reduceAdd,bx,h4,h5,h6,and_self,if_true,Int.toNat_natCast,byte];exact rfl) (by trivial) ?_
    refine aJ ?_
    refine ab.of_eq ?_
    congr 1
    rw[←h3,hs]
    have hne:¬(a.getD j 0=b.getD j 0):=fun he=>by rw[he] at hd;simp at hd
    have:(a.getD j 0 == b.getD j 0)=false:=by simpa using hne
    rw[this,Bool.false_and,Bool.or_false]
    congr 1
    rw[UInt8.lt_iff_toNat_lt]
    simp
   ·refine Wp.skip ?_
    refine Wp.jX (by simp only[go_sem,reduceIte,Nat.reduceEqDiff,Nat.reduceAdd,bx];simp (disch:=omega) only[IntWalk.i64_in];exact rfl) (by trivial) ?_
    have he:a.getD j 0=b.getD j 0:=by
     apply UInt8.toNat_inj.1
     have:((a.getD j 0).toNat:Int)=((b.getD j 0).toNat:Int):=by simpa using hd
     omega
    refine ⟨j+1,⟨by omega,by omega,?_⟩,by omega,?_⟩
    ·rw[←h3,hs,he];simp[UInt8.lt_irrefl]
    ·exact xSu
  ·have hx:(decide ((j:Int)<(a.length:Int))&&decide ((j:Int)<(b.length:Int)))=false:=by
    by_cases h:j<a.length
    ·have:¬j<b.length:=fun h'=>hc ⟨h,h'⟩
     simp;omega
    ·simp;omega
   by_cases ha:j<a.length
   ·have h7:decide ((j:Int)<(a.length:Int))=true:=by simp;omega
    have h8:decide ((j:Int)<(b.length:Int))=false:=by rw[h7,Bool.true_and] at hx;exact hx
    refine Wp.aw (by simp only[go_sem,reduceIte,Nat.reduceEqDiff,Nat.reduceAdd,bx,h7,h8];exact rfl) (by trivial) ?_
    refine Wp.cond_false (by simp only[go_sem,reduceIte,Nat.reduceEqDiff,Bool.false_eq_true]) ?_
    refine Wp.exit ?_
    refine Wp.aw xA1 (by trivial) ?_
    refine aJ ?_
    rw[←h3,ru h1 h2 hc]
    exact ab.refl _
   ·have h7:decide ((j:Int)<(a.length:Int))=false:=by simp;omega
    refine Wp.aw (by simp only[go_sem,reduceIte,Nat.reduceEqDiff,Nat.reduceAdd,bx,h7];exact rfl) (by trivial) ?_
    refine Wp.cond_false (by simp only[go_sem,reduceIte,Nat.reduceEqDiff,Bool.false_eq_true]) ?_
    refine Wp.exit ?_
    refine Wp.aw xA1 (by trivial) ?_
    refine aJ ?_
    rw[←h3,ru h1 h2 hc]
    exact ab.refl _
theorem bk:∀a,Op.bytesLess a a=false
 |[]=>rfl
 |x::a=>by simp[Op.bytesLess,bk a,UInt8.lt_irrefl]
theorem bz:∀{a b c},Op.bytesLess a b=true→Op.bytesLess b c=true→Op.bytesLess a c=true
 |a,b,[],_,h=>by rw[iN] at h;cases h
 |a,[],c::cs,h,_=>by rw[iN] at h;cases h
 |[],b::bs,c::cs,_,_=>rfl
 |a::x,b::y,c::z,h1,h2=>by
  simp only[Op.bytesLess,Bool.or_eq_true,decide_eq_true_eq,Bool.and_eq_true,beq_iff_eq] at h1 h2 ⊢
  rcases h1 with h1|⟨rfl,h1⟩
  ·rcases h2 with h2|⟨rfl,h2⟩
   ·exact .inl (UInt8.lt_trans h1 h2)
   ·exact .inl h1
  ·rcases h2 with h2|⟨rfl,h2⟩
   ·exact .inl h2
   ·exact .inr ⟨rfl,bz h1 h2⟩
theorem cN:∀a b,Op.bytesLess a b=true∨a=b∨Op.bytesLess b a=true
 |[],[]=> .inr (.inl rfl)
 |[],_::_=> .inl rfl
 |_::_,[]=> .inr (.inr rfl)
 |x::a,y::b=>by
  simp only[Op.bytesLess,Bool.or_eq_true,decide_eq_true_eq,Bool.and_eq_true,beq_iff_eq,List.cons.injEq]
  rcases Nat.lt_trichotomy x.toNat y.toNat with h|h|h
  ·exact .inl (.inl (UInt8.lt_iff_toNat_lt.2 h))
  ·have:=UInt8.toNat_inj.1 h
   subst this
   rcases cN a b with h|h|h
   ·exact .inl (.inr ⟨rfl,h⟩)
   ·exact .inr (.inl ⟨rfl,h⟩)
   ·exact .inr (.inr (.inr ⟨rfl,h⟩))
  ·exact .inr (.inr (.inl (UInt8.lt_iff_toNat_lt.2 h)))
abbrev Bs:=List UInt8
structure Pr where
 k:Bs
 v:Bs
 deriving DecidableEq
structure Ch where
 k:Bs
 v:Bs
 d:Bool
 deriving DecidableEq
instance:Inhabited Pr:=⟨⟨[],[]⟩⟩
instance:Inhabited Ch:=⟨⟨[],[],false⟩⟩
def bV (p:Pr):AV:= .agg [.str p.k,.str p.v]
def aL (c:Ch):AV:= .agg [.str c.k,.str c.v,.bool c.d]
def prs (l:List Pr):List AV:=l.map bV
def chs (l:List Ch):List AV:=l.map aL
theorem aN (l:List Pr):(prs l).length=l.length:=by simp[prs]
theorem an (l:List Ch):(chs l).length=l.length:=by simp[chs]
theorem cg (l:List Pr) (k:Nat) (d:AV) (h:k<l.length):(prs l).getD k d=bV (l.getD k default):=by
 simp[prs,List.getD,List.getElem?_map,List.getElem?_eq_getElem h]
theorem bH (l:List Ch) (k:Nat) (d:AV) (h:k<l.length):(chs l).getD k d=aL (l.getD k default):=by
 simp[chs,List.getD,List.getElem?_map,List.getElem?_eq_getElem h]
theorem cS {α:Type} {f:α→AV} (h:∀x,av (f x)=true):∀l:List α,al (l.map f)=true
 |[]=>rfl
 |x::l=>by simp only[List.map_cons,al,h x,Bool.true_and];exact cS h l
theorem dV (l:List Pr):al (prs l)=true:=cS (fun x=>by simp[bV,av,al]) l
theorem dw (l:List Ch):al (chs l)=true:=cS (fun x=>by simp[aL,av,al]) l
theorem qe {α:Type} [Inhabited α] {l:List α} {i:Nat} (h:i<l.length):l.drop i=l.getD i default::l.drop (i+1):=by
 rw[List.drop_eq_getElem_cons h,List.getD_eq_getElem?_getD,List.getElem?_eq_getElem h];rfl
def kept (c:Ch):Bool:=decide (c.k.length≤120)&&decide (c.v.length≤199)&&(!c.d||decide (c.v=[]))
theorem xy {f:FuncId} (hF:aM Tryz.prog f 23 c71 [.tmp 2]) (c:Ch):aA Tryz.prog f [aL c] (.bool (kept c)):=by
 refine hF.aD (by simp) (by simp[al,av,aL]) rfl ?_
 unfold c71
 simp only[C.zz]
 by_cases h1:c.k.length≤120
 ·have d1:decide ((c.k.length:Int)≤120)=true:=decide_eq_true (by omega)
  by_cases h2:c.v.length≤199
  ·have d2:decide ((c.v.length:Int)≤199)=true:=decide_eq_true (by omega)
   cases h3:c.d with
   |true=>
    refine an0 (cj4 @aL.eq_1 d1 d2 h3) ?_
    refine aJ ?_
    simp only[kept,h1,h2,h3,decide_true,Bool.true_and,Bool.not_true,Bool.false_or]
    exact ab.refl _
   |false=>
    refine an0 (cj4 @aL.eq_1 d1 d2 h3) ?_
    refine aJ ?_
    simp only[kept,h1,h2,h3,decide_true,Bool.true_and,Bool.not_false,Bool.true_or]
    exact ab.refl _
  ·have d2:decide ((c.v.length:Int)≤199)=false:=decide_eq_false (by omega)
   refine an0 (cj3 @aL.eq_1 d1 d2) ?_
   refine aJ ?_
   simp only[kept,h1,decide_eq_false h2,decide_true,Bool.true_and,Bool.false_and]
   exact ab.refl _
 ·have d1:decide ((c.k.length:Int)≤120)=false:=decide_eq_false (by omega)
  refine an0 (cj2 @aL.eq_1 d1) ?_
  refine aJ ?_
  simp only[kept,decide_eq_false h1,Bool.false_and]
  exact ab.refl _
theorem kQ (c:Ch):aA Tryz.prog 71 [aL c] (.bool (kept c)):=xy f71 c
theorem oH (l:List Ch) (hl:l.length≤4611686018427387904):aA Tryz.prog 24 [.sl 3 (chs l) .any,.sl 3 (chs l) .any] (.bool true):=by
 refine f24.aD (by simp) (by simp[al,av,aG,dw]) rfl ?_
 unfold c24
 simp only[C.zz]
 refine an0 @an ?_
 refine Wp.cZ [0,1] xA6 (fun j:Nat=>[(5,.int .i64 j)]) (fun j=>j≤l.length) (fun j=>l.length - j) 0 (Nat.zero_le _) ?_ ?_
 ·exact xSb
 ·intro j hj
  by_cases hc:j<l.length
  ·have d1:decide ((j:Int)<(l.length:Int))=true:=decide_eq_true (by omega)
   have h2:(0:Int)≤(j:Int):=by omega
   have h3:(j:Int)<(l.length:Int):=by omega
   have e1:IntKind.i64.wrap ((j:Int)+1)=((j+1:Nat):Int):=by rw[IntWalk.i64_in _ (by omega)];omega
   refine an0 (lI @an d1 e1 h2 h3 @Int.toNat_natCast (fun d=>bH _ _ d hc) @aL.eq_1 @beq_self_eq_true.{0} @Bool.and_self @Option.map_some.{0,0}) ?_
   refine ⟨j+1,by omega,by omega,?_⟩
   exact xSu
  ·have d1:decide ((j:Int)<(l.length:Int))=false:=decide_eq_false (by omega)
   refine an0 (cj2 d1 @an) ?_
   refine aJ ?_
   exact ab.refl _
end Go.Proofs.YtpehfflehebmbaaGreat.Batch
end
section
set_option maxRecDepth 10000
namespace Go.Proofs.YtpehfflehebmbaaGreat.Space
open Go Go.Av Go.Proofs Go.Proofs.YtpehfflehebmbaaGreat.C Go.Proofs.YtpehfflehebmbaaGreat.Batch
abbrev Bs:=List UInt8
structure Ver where
 t:Int
 v:Bs
 d:Bool
 deriving DecidableEq
instance:Inhabited Ver:=⟨⟨0,[],false⟩⟩
def ba (x:Ver):AV:= .agg [.int .i64 x.t,.str x.v,.bool x.d]
theorem fy (x:Ver):av (ba x)=true:=rfl
theorem bC (l:List Ver):al (l.map ba)=true:=Av.cS fy l
def okV (x:Ver):Bool:=decide (1≤x.t)&&decide (x.t≤1152921504606846976)&&decide ((x.v.length:Int)≤200)&&(!x.d||decide (x.v=[]))
theorem fE (x:Ver):aA Tryz.prog 98 [ba x] (.bool (okV x)):=by
 refine f98.aD (by simp) (by simp[al,fy]) rfl ?_
 unfold c98
 simp only[C.zz]
 have zg:=(cj2 @ba.eq_1 @List.length_map.{0,0})
 repeat' (first
  |(refine aa.nil ⟨?_,?_⟩;(· first|trivial|simp[ay,au,apart,aH]))
  |refine xG1 @zg ?_
  |(refine xG2 @zg ?_;try simp only[List.drop_succ_cons,List.drop_zero,List.drop_nil])
  |(refine xG3 @zg ?_ ?_<;>intro hc)
  |(refine xG4 @zg ?_ ?_<;>intro hc)
  |(refine xG5 @zg ?_ ?_<;>intro hc)
  |refine Wp.eH ?_
  |refine Wp.mK ?_
  |refine xG6 @zg ?_
  |refine xG7 @zg ?_
  |(refine xG8 @zg ?_ ?_<;>intro hc)
  |(refine xG9 @zg ?_ ?_<;>intro hc)
  |(refine xGa @zg ?_ ?_<;>intro hc)
  |refine Wp.skip ?_
  |refine Wp.label ?_
  |refine Wp.block ?_
  |refine Wp.exit ?_
  |refine Wp.seq ?_)
 all_goals
  refine aJ ?_
  refine ab.of_eq ?_
  first|(simp_all [okV];done)|(simp_all [okV];intros;exfalso;omega)
theorem ig (x:Ver):aA Tryz.prog 122 [ba x] (.bool (okV x)):=by
 refine f122.aD (by simp) (by simp[al,fy]) rfl ?_
 unfold Cu
 simp only[C.zz]
 have zg:=(cj2 @ba.eq_1 @List.length_map.{0,0})
 repeat' (first
  |(refine aa.nil ⟨?_,?_⟩;(· first|trivial|simp[ay,au,apart,aH]))
  |refine xG1 @zg ?_
  |(refine xG2 @zg ?_;try simp only[List.drop_succ_cons,List.drop_zero,List.drop_nil])
  |(refine xG3 @zg ?_ ?_<;>intro hc)
  |(refine xG4 @zg ?_ ?_<;>intro hc)
  |(refine xG5 @zg ?_ ?_<;>intro hc)
  |refine Wp.eH ?_
  |refine Wp.mK ?_
  |refine xG6 @zg ?_
  |refine xG7 @zg ?_
  |(refine xG8 @zg ?_ ?_<;>intro hc)
  |(refine xG9 @zg ?_ ?_<;>intro hc)
  |(refine xGa @zg ?_ ?_<;>intro hc)
  |refine Wp.skip ?_
  |refine Wp.label ?_
  |refine Wp.block ?_
  |refine Wp.exit ?_
  |refine Wp.seq ?_)
 all_goals
  refine aJ ?_
  refine ab.of_eq ?_
  first|(simp_all [okV];done)|(simp_all [okV];intros;exfalso;omega)
def vOk (l:List Ver) (i:Nat):Bool:=okV (l.getD i default)&&(decide (i=0)||decide ((l.getD i default).t<(l.getD (i - 1) default).t))
def chB (l:List Ver):Bool:=(List.range l.length).all (vOk l)
theorem fH {l:List Ver} {j:Nat} (h:j=0):vOk l j=okV (l.getD j default):=by simp[vOk,h]
theorem eJ {l:List Ver} {j:Nat} (h:j≠0):vOk l j=(okV (l.getD j default)&&decide ((l.getD j default).t<(l.getD (j - 1) default).t)):=by simp[vOk,h]
set_option maxHeartbeats 1000000 in
theorem fY (l:List Ver) (hl:l.length≤1152921504606846976):aA Tryz.prog 86 [.sl 3 (l.map ba) .any] (.int .i64 (if chB l then 0 else 4)):=by
 refine f86.aD (by simp) (by simp[al,av,aG,bC]) rfl ?_
 unfold c86
 simp only[C.zz]
 have zg:= @List.length_map.{0,0}
 repeat' (first
  |(refine aa.nil ⟨?_,?_⟩;(· first|trivial|simp[ay,au,apart,aH]))
  |refine xG1 @zg ?_
  |(refine xG2 @zg ?_;try simp only[List.drop_succ_cons,List.drop_zero,List.drop_nil])
  |(refine xG3 @zg ?_ ?_<;>intro hc)
  |(refine xG4 @zg ?_ ?_<;>intro hc)
  |(refine xG5 @zg ?_ ?_<;>intro hc)
  |refine Wp.eH ?_
  |refine Wp.mK ?_
  |refine xG6 @zg ?_
  |refine xG7 @zg ?_
  |(refine xG8 @zg ?_ ?_<;>intro hc)
  |(refine xG9 @zg ?_ ?_<;>intro hc)
  |(refine xGa @zg ?_ ?_<;>intro hc)
  |refine Wp.skip ?_
  |refine Wp.label ?_
  |refine Wp.block ?_
  |refine Wp.exit ?_
  |refine Wp.seq ?_)
 refine Wp.uq [0,5,6] (by simp only[go_sem,reduceIte,Nat.reduceEqDiff,List.map,List.length_map];exact rfl) (fun j:Nat=>[(7,.int .i64 j)]) (fun j=>j≤l.length∧∀i,i<j→vOk l i=true) (fun j=>l.length - j) 0 ⟨Nat.zero_le _,fun i h=>absurd h (by omega)⟩ ?_ ?_
 ·exact xSb
 rintro j n hn ⟨hj,hs⟩
 by_cases hc:j<l.length
 ·obtain ⟨g1,h2,h3,e1⟩:=ixF (j:=j) (n:=l.length) (by omega) (by omega)
  have hat:=cR ba l j .any hc
  by_cases hz:j=0
  ·have g2:decide ((0:Int)<(j:Int))=false:=decide_eq_false (by omega)
   cases hr:okV (l.getD j default)
   ·refine an1 (fR g1 g2 h2 h3 e1 @Int.toNat_natCast @List.length_map.{0,0} hat @ba.eq_1 hr) (fE (l.getD j default)) ?_
    refine aJ ?_
    rw[chB,eM hc ((fH hz).trans hr)];exact ab.refl _
   ·refine an1 (fR g1 g2 h2 h3 e1 @Int.toNat_natCast @List.length_map.{0,0} hat @ba.eq_1 hr) (fE (l.getD j default)) ?_
    refine ⟨j+1,n+1,by omega,⟨by omega,fG hs ((fH hz).trans hr)⟩,by omega,?_⟩
    refine aU.tmN (by omega) (OLe.none _) (by simp only[aC,go_sem,reduceIte,Nat.reduceEqDiff,Nat.reduceAdd,bx];and_intros<;>first|exact trivial|exact ab.refl _|exact ab.any _|(refine ab.int ?_;omega))
  ·have g2:decide ((0:Int)<(j:Int))=true:=decide_eq_true (by omega)
   have e2:IntKind.i64.wrap ((j:Int) - 1)=((j - 1:Nat):Int):=by rw[IntWalk.i64_in _ (by omega)];omega
   have h4:(0:Int)≤((j - 1:Nat):Int):=by omega
   have h5:((j - 1:Nat):Int)<(l.length:Int):=by omega
   have hat2:=cR ba l (j - 1) .any (by omega)
   cases hr:okV (l.getD j default)
   ·refine an1 (fR g1 g2 h2 h3 e1 @Int.toNat_natCast @List.length_map.{0,0} hat @ba.eq_1 hr) (fE (l.getD j default)) ?_
    refine aJ ?_
    rw[chB,eM hc ((eJ hz).trans (by rw[hr];rfl))];exact ab.refl _
   ·cases hp:decide ((l.getD (j - 1) default).t≤(l.getD j default).t)
    ·have hlt:(l.getD j default).t<(l.getD (j - 1) default).t:=by simp only[decide_eq_false_iff_not] at hp;omega
     refine an1 (bD g1 g2 h2 h3 h4 h5 e1 e2 @Int.toNat_natCast @List.length_map.{0,0} hat (cj4 hat2 @ba.eq_1 hr hp)) (fE (l.getD j default)) ?_
     refine ⟨j+1,n+1,by omega,⟨by omega,fG hs ((eJ hz).trans (by rw[hr];simpa using hlt))⟩,by omega,?_⟩
     refine aU.tmN (by omega) (OLe.none _) (by simp only[aC,go_sem,reduceIte,Nat.reduceEqDiff,Nat.reduceAdd,bx];and_intros<;>first|exact trivial|exact ab.refl _|exact ab.any _|(refine ab.int ?_;omega))
    ·have hlt:¬(l.getD j default).t<(l.getD (j - 1) default).t:=by simp only[decide_eq_true_eq] at hp;omega
     refine an1 (bD g1 g2 h2 h3 h4 h5 e1 e2 @Int.toNat_natCast @List.length_map.{0,0} hat (cj4 hat2 @ba.eq_1 hr hp)) (fE (l.getD j default)) ?_
     refine aJ ?_
     rw[chB,eM hc ((eJ hz).trans (by rw[hr];simpa using hlt))];exact ab.refl _
 ·obtain rfl:j=l.length:=by omega
  have g1:=ixE (l.length)
  refine an0 (cj2 g1 @List.length_map.{0,0}) ?_
  refine aJ ?_
  rw[chB,eI hs];exact ab.refl _
set_option maxHeartbeats 1000000 in
theorem jP (l:List Ver) (hl:l.length≤1152921504606846976):aA Tryz.prog 121 [.sl 3 (l.map ba) .any] (.bool (chB l)):=by
 refine f121.aD (by simp) (by simp[al,av,aG,bC]) rfl ?_
 unfold Ct
 simp only[C.zz]
 refine lJ ?_
 refine Wp.cZ [0] xA6 (fun j:Nat=>[(3,.int .i64 j)]) (fun j=>j≤l.length∧∀i,i<j→vOk l i=true) (fun j=>l.length - j) 0 ⟨Nat.zero_le _,fun i h=>absurd h (by omega)⟩ ?_ ?_
 ·exact xSb
 rintro j ⟨hj,hs⟩
 by_cases hc:j<l.length
 ·obtain ⟨g1,h2,h3,e1⟩:=ixF (j:=j) (n:=l.length) (by omega) (by omega)
  have hat:=cR ba l j .any hc
  by_cases hz:j=0
  ·have g2:decide ((0:Int)<(j:Int))=false:=decide_eq_false (by omega)
   cases hr:okV (l.getD j default)
   ·refine an1 (fR g1 g2 h2 h3 e1 @Int.toNat_natCast @List.length_map.{0,0} hat @ba.eq_1 hr) (ig (l.getD j default)) ?_
    refine aJ ?_
    rw[chB,eM hc ((fH hz).trans hr)];exact ab.refl _
   ·refine an1 (fR g1 g2 h2 h3 e1 @Int.toNat_natCast @List.length_map.{0,0} hat @ba.eq_1 hr) (ig (l.getD j default)) ?_
    refine ⟨j+1,⟨by omega,fG hs ((fH hz).trans hr)⟩,by omega,?_⟩
    exact xSu
  ·have g2:decide ((0:Int)<(j:Int))=true:=decide_eq_true (by omega)
   have e2:IntKind.i64.wrap ((j:Int) - 1)=((j - 1:Nat):Int):=by rw[IntWalk.i64_in _ (by omega)];omega
   have h4:(0:Int)≤((j - 1:Nat):Int):=by omega
   have h5:((j - 1:Nat):Int)<(l.length:Int):=by omega
   have hat2:=cR ba l (j - 1) .any (by omega)
   cases hr:okV (l.getD j default)
   ·refine an1 (fR g1 g2 h2 h3 e1 @Int.toNat_natCast @List.length_map.{0,0} hat @ba.eq_1 hr) (ig (l.getD j default)) ?_
    refine aJ ?_
    rw[chB,eM hc ((eJ hz).trans (by rw[hr];rfl))];exact ab.refl _
   ·cases hp:decide ((l.getD (j - 1) default).t≤(l.getD j default).t)
    ·have hlt:(l.getD j default).t<(l.getD (j - 1) default).t:=by simp only[decide_eq_false_iff_not] at hp;omega
     refine an1 (bD g1 g2 h2 h3 h4 h5 e1 e2 @Int.toNat_natCast @List.length_map.{0,0} hat (cj4 hat2 @ba.eq_1 hr hp)) (ig (l.getD j default)) ?_
     refine ⟨j+1,⟨by omega,fG hs ((eJ hz).trans (by rw[hr];simpa using hlt))⟩,by omega,?_⟩
     exact xSu
    ·have hlt:¬(l.getD j default).t<(l.getD (j - 1) default).t:=by simp only[decide_eq_true_eq] at hp;omega
     refine an1 (bD g1 g2 h2 h3 h4 h5 e1 e2 @Int.toNat_natCast @List.length_map.{0,0} hat (cj4 hat2 @ba.eq_1 hr hp)) (ig (l.getD j default)) ?_
     refine aJ ?_
     rw[chB,eM hc ((eJ hz).trans (by rw[hr];simpa using hlt))];exact ab.refl _
 ·obtain rfl:j=l.length:=by omega
  have g1:=ixE (l.length)
  refine an0 (cj2 g1 @List.length_map.{0,0}) ?_
  refine aJ ?_
  rw[chB,eI hs];exact ab.refl _
def plc (l:List Ver) (t:Int):Nat:=l.findIdx fun v=>decide (v.t≤t)
theorem jq (l:List Ver) (t:Int):plc l t≤l.length:=List.findIdx_le_length
theorem desc {l:List Ver} (h:chB l=true) {i:Nat}:∀{j},i<j→j<l.length→(l.getD j default).t<(l.getD i default).t
 |0,hij,_=>absurd hij (by omega)
 |j+1,hij,hj=>by
  have h1:=List.all_eq_true.1 h (j+1) (List.mem_range.2 hj)
  have h2:(l.getD (j+1) default).t<(l.getD j default).t:=by
   rw[eJ (by omega)] at h1
   simp only[Bool.and_eq_true,decide_eq_true_eq] at h1
   exact h1.2
  by_cases e:i=j
  ·subst e;exact h2
  ·exact Int.lt_trans h2 (desc h (by omega) (by omega))
theorem qf {l:List Ver} {t:Int} {i:Nat} (h:i<plc l t):¬(l.getD i default).t≤t:=by
 have hl:i<l.length:=Nat.lt_of_lt_of_le h (jq l t)
 have:=List.not_of_lt_findIdx h
 rw[ar hl]
 simpa using this
theorem qg {l:List Ver} {t:Int} (h:plc l t<l.length):(l.getD (plc l t) default).t≤t:=by
 have:=List.findIdx_getElem (p:=fun v:Ver=>decide (v.t≤t)) (xs:=l) (w:=h)
 rw[ar h]
 have h2:(l[plc l t]'h).t≤t:=of_decide_eq_true this
 exact h2
theorem BB {l:List Ver} {t:Int} {i:Nat} (hc:chB l=true) (h:plc l t≤i) (hl:i<l.length):(l.getD i default).t≤t:=by
 have h1:=qg (l:=l) (t:=t) (by omega)
 by_cases e:i=plc l t
 ·rw[e];exact h1
 ·exact Int.le_trans (Int.le_of_lt (desc hc (by omega) hl)) h1
theorem qh (len:Nat) (hlen:len≤1152921504606846976) {g:FuncId} {fn:Func} (hf:Tryz.prog.funcs[g]? =some fn) (hb:fn.body.isSome=true) (hn:fn.name≠ "runtime.NumGoroutine") (caps:List AV) (hcp:al caps=true)
  (r:Nat) (hr:r≤len) (h0:∀i,i<r→aA Tryz.prog g (.int .i64 (i:Nat)::caps) (.bool false)) (h1:∀i,r≤i→i<len→aA Tryz.prog g (.int .i64 (i:Nat)::caps) (.bool true)):
  aA Tryz.prog 124 [.int .i64 len,.clo (.func g) [] caps] (.int .i64 r):=by
 refine f124.aD (by simp) (by simp[al,av,hcp]) rfl ?_
 unfold Cv
 simp only[C.zz]
 refine Wp.aw xA1 (by trivial) ?_
 refine Wp.aw xA1 (by trivial) ?_
 refine Wp.seq ?_
 refine Wp.block ?_
 refine Wp.cZ [1] xA6 (fun j:Nat × Nat=>[(5,.int .i64 j.1),(6,.int .i64 j.2)]) (fun j=>j.1≤r∧r≤j.2∧j.2≤len) (fun j=>j.2 - j.1) (0,len) ⟨Nat.zero_le _,hr,Nat.le_refl _⟩ ?_ ?_
 ·exact xSb
 ·rintro ⟨i,j⟩ ⟨a1,a2,a3⟩
  simp only at a1 a2 a3
  refine Wp.seq ?_
  refine Wp.aw xA1 (by trivial) ?_
  refine Wp.bN (b:=decide ((i:Int)<(j:Int))) xA2 (fun hc=>?_) (fun hc=>?_)
  ·have hc':(i:Int)<(j:Int):=by simpa using hc
   have e1:IntKind.i64.wrap ((i:Int)+(j:Int))=((i+j:Nat):Int):=by rw[IntWalk.i64_in _ (by omega)];omega
   have e2:IntKind.u64.wrap ((i+j:Nat):Int)=((i+j:Nat):Int):=IntWalk.u64_in _ (by omega)
   have e3:((i+j:Nat):Int).fdiv (2^(min (Int.toNat 1) 64))=(((i+j)/2:Nat):Int):=by
    rw[show min (Int.toNat 1) 64=1 from rfl,Int.fdiv_eq_ediv_of_nonneg _ (by omega)]
    omega
   have e4:IntKind.i64.wrap (((i+j)/2:Nat):Int)=(((i+j)/2:Nat):Int):=IntWalk.i64_in _ (by omega)
   have e5:¬(1:Int)<0:=by omega
   refine Wp.skip ?_
   refine Wp.block ?_
   refine Wp.aw (by simp only[go_sem,reduceIte,Nat.reduceEqDiff,Nat.reduceAdd,bx,e1,e2,IntKind.bits,e3,e4,e5];exact rfl) (by trivial) ?_
   refine Wp.seqItems xA1 ?_
   by_cases hh:(i+j)/2<r
   ·refine aa.lF (by simp only[go_sem]) (by simp only[go_sem,reduceIte,Nat.reduceEqDiff];exact rfl) hf hb hn xA4 (h0 _ hh) ?_
    refine aa.eval xA1 ?_
    refine aa.nil ⟨by trivial,?_⟩
    refine Wp.cond_true xA2 ?_
    refine Wp.jX (by simp only[go_sem,reduceIte,Nat.reduceEqDiff,Nat.reduceAdd,bx];simp (disch:=omega) only[IntWalk.i64_in];exact rfl) (by trivial) ?_
    refine ⟨((i+j)/2+1,j),⟨by simp only;omega,by simp only;omega,by simp only;omega⟩,by simp only;omega,?_⟩
    exact xSu
   ·refine aa.lF (by simp only[go_sem]) (by simp only[go_sem,reduceIte,Nat.reduceEqDiff];exact rfl) hf hb hn xA4 (h1 _ (by omega) (by omega)) ?_
    refine aa.eval xA1 ?_
    refine aa.nil ⟨by trivial,?_⟩
    refine Wp.cond_false xA2 ?_
    refine Wp.jX xA1 (by trivial) ?_
    refine ⟨(i,(i+j)/2),⟨by simp only;omega,by simp only;omega,by simp only;omega⟩,by simp only;omega,?_⟩
    exact xSu
  ·have hc':¬(i:Int)<(j:Int):=by simpa using hc
   obtain rfl:i=r:=by omega
   refine Wp.exit ?_
   refine Wp.aw xA1 (by trivial) ?_
   refine aJ ?_
   exact ab.refl _
theorem ry (l:List Ver) (hl:l.length≤1152921504606846976) (t:Int) (i:Nat) (hi:i<l.length):aA Tryz.prog 125 [.int .i64 i,.ref [.sl 3 (l.map ba) .any],.ref [.int .i64 t]] (.bool (decide ((l.getD i default).t≤t))):=by
 refine f125.aD (by simp) (by simp[al,av,aG,bC]) rfl ?_
 unfold Cw
 simp only[C.zz]
 obtain ⟨g1,h2,h3,e1⟩:=ixF (j:=i) (n:=l.length) (by omega) (by omega)
 have hat:=cR ba l i .any hi
 refine an0 (cj7 g1 h2 h3 @Int.toNat_natCast @List.length_map.{0,0} hat @ba.eq_1) ?_
 refine aJ ?_
 exact ab.refl _
theorem jQ (l:List Ver) (hl:l.length≤1152921504606846976) (hc:chB l=true) (t:Int):aA Tryz.prog 87 [.sl 3 (l.map ba) .any,.int .i64 t] (.int .i64 (plc l t)):=by
 refine f87.aD (by simp) (by simp[al,av,aG,bC]) rfl ?_
 unfold c87
 simp only[C.zz]
 refine Wp.aw xA1 (by trivial) ?_
 refine Wp.frz (fun _=>true) [(2,.ref [.sl 3 (l.map ba) .any]),(3,.ref [.int .i64 t])] ⟨ag,2,[],0⟩ ?_ (OLe.none _) (by simp) (by simp[go_sem]) (Nat.le_refl _) ?_
 ·simp only[aC,go_sem,reduceIte,Nat.reduceEqDiff,unT,and_true]
  and_intros<;>exact ab.refl _
 have hs:=qh l.length hl Tryz.func125 rfl (of_decide_eq_true (by kernel_rfl)) [.ref [.sl 3 (l.map ba) .any],.ref [.int .i64 t]] (by simp[al,av,aG,bC]) (plc l t) (jq l t)
  (fun i hi=>by have:=ry l hl t i (by have:=jq l t;omega);rwa [decide_eq_false (qf hi)] at this)
  (fun i hi hi2=>by have:=ry l hl t i hi2;rwa [decide_eq_true (BB hc hi hi2)] at this)
 refine an1 @List.length_map.{0,0} hs ?_
 refine aJ ?_
 exact ab.refl _
def atB (l:List Ver) (t:Int):Bs × Bool:=if chB l=true∧plc l t<l.length then ((l.getD (plc l t) default).v,!(l.getD (plc l t) default).d) else ([],false)
def dW (l:List Ver) (t:Int):Bool:=chB l&&decide (0<plc l t)
theorem CM (l:List Ver) (hl:l.length≤1152921504606846976) (t:Int):aA Tryz.prog 42 [.sl 3 (l.map ba) .any,.int .i64 t] (.tup [.str (atB l t).1,.bool (atB l t).2]):=by
 refine f42.aD (by simp) (by simp[al,av,aG,bC]) rfl ?_
 unfold c42
 simp only[C.zz]
 have hck:=fY l hl
 have d0:decide ((0:Int)=0)=true:=rfl
 have d4:decide ((4:Int)=0)=false:=rfl
 cases hc:chB l with
 |false=>
  simp only[hc,Bool.false_eq_true,if_false] at hck
  refine an1 d4 hck ?_
  refine aJ ?_
  rw[atB,if_neg (by simp[hc])];exact ab.refl _
 |true=>
  simp only[hc,if_true] at hck
  have hle:=jq l t
  by_cases hp:plc l t<l.length
  ·have g1:decide (((plc l t:Nat):Int)=(l.length:Int))=false:=decide_eq_false (by omega)
   have h2:(0:Int)≤((plc l t:Nat):Int):=by omega
   have h3:((plc l t:Nat):Int)<(l.length:Int):=by omega
   have hat:=cR ba l (plc l t) .any hp
   refine an2 (cj8 d0 g1 h2 h3 @Int.toNat_natCast @List.length_map.{0,0} hat @ba.eq_1) hck (jQ l hl hc t) ?_
   refine aJ ?_
   rw[atB,if_pos ⟨hc,hp⟩];exact ab.refl _
  ·have g1:decide (((plc l t:Nat):Int)=(l.length:Int))=true:=decide_eq_true (by omega)
   refine an2 (cj3 d0 g1 @List.length_map.{0,0}) hck (jQ l hl hc t) ?_
   refine aJ ?_
   rw[atB,if_neg (by omega)];exact ab.refl _
theorem zR (l:List Ver) (hl:l.length≤1152921504606846976) (t:Int):aA Tryz.prog 101 [.sl 3 (l.map ba) .any,.int .i64 t] (.bool (dW l t)):=by
 refine f101.aD (by simp) (by simp[al,av,aG,bC]) rfl ?_
 unfold Cc
 simp only[C.zz]
 have hck:=fY l hl
 have d0:decide ((0:Int)=0)=true:=rfl
 have d4:decide ((4:Int)=0)=false:=rfl
 cases hc:chB l with
 |false=>
  simp only[hc,Bool.false_eq_true,if_false] at hck
  refine an1 d4 hck ?_
  refine aJ ?_
  simp only[dW,hc,Bool.false_and];exact ab.refl _
 |true=>
  simp only[hc,if_true] at hck
  refine an2 d0 hck (jQ l hl hc t) ?_
  refine aJ ?_
  simp only[dW,hc,Bool.true_and]
  refine ab.of_eq (congrArg AV.bool ?_)
  rw[Bool.eq_iff_iff];simp only[decide_eq_true_eq];omega
theorem Bc (l:List Ver) (hl:l.length≤1152921504606846976) (t:Int):aA Tryz.prog 113 [.sl 3 (l.map ba) .any,.int .i64 t] (.tup [.str (atB l t).1,.bool (atB l t).2]):=by
 refine f113.aD (by simp) (by simp[al,av,aG,bC]) rfl ?_
 unfold Cl
 simp only[C.zz]
 have hck:=jP l hl
 cases hc:chB l with
 |false=>
  rw[hc] at hck
  refine oG hck ?_
  refine aJ ?_
  rw[atB,if_neg (by simp[hc])];exact ab.refl _
 |true=>
  rw[hc] at hck
  refine oG hck ?_
  refine Wp.cZ [0,1] xA6 (fun j:Nat=>[(6,.int .i64 j)]) (fun j=>j≤plc l t) (fun j=>l.length - j) 0 (Nat.zero_le _) ?_ ?_
  ·exact xSb
  intro j hj
  have hle:=jq l t
  by_cases hlt:j<l.length
  ·obtain ⟨g1,h2,h3,e1⟩:=ixF (j:=j) (n:=l.length) (by omega) (by omega)
   have hat:=cR ba l j .any hlt
   by_cases he:j<plc l t
   ·have g2:decide ((l.getD j default).t≤t)=false:=decide_eq_false (qf he)
    refine an0 (cj9 g1 g2 h2 h3 e1 @Int.toNat_natCast @List.length_map.{0,0} hat @ba.eq_1) ?_
    refine ⟨j+1,he,by omega,?_⟩
    exact xSu
   ·obtain rfl:j=plc l t:=by omega
    have g2:decide ((l.getD (plc l t) default).t≤t)=true:=decide_eq_true (qg hlt)
    refine an0 (cj9 g1 g2 h2 h3 e1 @Int.toNat_natCast @List.length_map.{0,0} hat @ba.eq_1) ?_
    refine aJ ?_
    rw[atB,if_pos ⟨hc,hlt⟩];exact ab.refl _
  ·obtain rfl:j=l.length:=by omega
   have g1:=ixE (l.length)
   refine an0 (cj2 g1 @List.length_map.{0,0}) ?_
   refine aJ ?_
   rw[atB,if_neg (by omega)];exact ab.refl _
theorem uw (l:List Ver) (t:Int):0<plc l t↔0<l.length∧t<(l.getD 0 default).t:=by
 constructor
 ·intro h
  have:=qf h
  have:=jq l t
  exact ⟨by omega,by omega⟩
 ·rintro ⟨h1,h2⟩
  rcases Nat.eq_zero_or_pos (plc l t) with e|e
  ·have:=qg (l:=l) (t:=t) (by omega)
   rw[e] at this;omega
  ·exact e
theorem xz (l:List Ver) (hl:l.length≤1152921504606846976) (t:Int):aA Tryz.prog 107 [.sl 3 (l.map ba) .any,.int .i64 t] (.bool (dW l t)):=by
 refine f107.aD (by simp) (by simp[al,av,aG,bC]) rfl ?_
 unfold Cf
 simp only[C.zz]
 have hck:=jP l hl
 cases hc:chB l with
 |false=>
  rw[hc] at hck
  refine oG hck ?_
  refine aJ ?_
  simp only[dW,hc,Bool.false_and];exact ab.refl _
 |true=>
  rw[hc] at hck
  by_cases h0:0<l.length
  ·have g1:decide ((0:Int)<(l.length:Int))=true:=decide_eq_true (by omega)
   have h2:(0:Int)<(l.length:Int):=by omega
   have hat:=cR ba l 0 .any h0
   refine an1 (cj7 g1 h2 Int.toNat_zero @Int.le_refl @List.length_map.{0,0} hat @ba.eq_1) hck ?_
   refine aJ ?_
   simp only[dW,hc,Bool.true_and]
   refine ab.of_eq (congrArg AV.bool ?_)
   rw[Bool.eq_iff_iff];simp only[decide_eq_true_eq];rw[uw]
   exact ⟨fun h=>⟨h0,h⟩,fun h=>h.2⟩
  ·have g1:decide ((0:Int)<(l.length:Int))=false:=decide_eq_false (by omega)
   refine an1 (cj2 g1 @List.length_map.{0,0}) hck ?_
   refine aJ ?_
   simp only[dW,hc,Bool.true_and]
   refine ab.of_eq (congrArg AV.bool ?_)
   symm;rw[decide_eq_false_iff_not,uw];omega
def kf (l:List Ver) (t:Int):Nat:=if plc l t<l.length∧(l.getD (plc l t) default).d=false then plc l t+1 else plc l t
def eP (l:List Ver) (t:Int):List Ver:=if chB l=true then l.take (kf l t) else []
theorem zS (l:List Ver) (hl:l.length≤4398046511104):aA Tryz.prog 123 [.sl 3 (l.map ba) .any] (.sl 3 (l.map ba) .any):=
 jL (sz:=3) (bytes:=32) f123 (l.map ba) (bC l) (by rw[List.length_map];omega) (by rw[List.length_map];omega)
theorem xA (l:List Ver) (hl:l.length≤1000000) (t:Int):aA Tryz.prog 82 [.sl 3 (l.map ba) .any,.int .i64 t] (.sl 3 ((eP l t).map ba) .any):=by
 refine f82.aD (by simp) (by simp[al,av,aG,bC]) (by simp[av,aG,bC]) ?_
 unfold c82
 simp only[C.zz]
 have hck:=fY l (by omega)
 have d0:decide ((0:Int)=0)=true:=rfl
 have d4:decide ((4:Int)=0)=false:=rfl
 cases hc:chB l with
 |false=>
  simp only[hc,Bool.false_eq_true,if_false] at hck
  refine an1 d4 hck ?_
  refine aJ ?_
  rw[eP,if_neg (by simp[hc])];exact ab.cap
 |true=>
  simp only[hc,if_true] at hck
  have hle:=jq l t
  have fin:∀k:Nat,k=kf l t→aA Tryz.prog 123 [.sl 3 ((l.map ba).take k) .any] (.sl 3 ((eP l t).map ba) .any):=by
   rintro k rfl
   have:=zS (l.take (kf l t)) (by rw[List.length_take];omega)
   rw[List.map_take] at this
   rw[eP,if_pos hc,List.map_take]
   exact this
  by_cases hp:plc l t<l.length
  ·have g1:decide (((plc l t:Nat):Int)<(l.length:Int))=true:=decide_eq_true (by omega)
   have h2:(0:Int)≤((plc l t:Nat):Int):=by omega
   have h3:((plc l t:Nat):Int)<(l.length:Int):=by omega
   have h3':((plc l t:Nat):Int)≤(l.length:Int):=by omega
   have hat:=cR ba l (plc l t) .any hp
   cases hd:(l.getD (plc l t) default).d with
   |true=>
    have f:=fin (plc l t) (by rw[kf,if_neg (fun h=>by rw[hd] at h;exact absurd h.2 (by simp))])
    refine an3 (bD d0 g1 h2 h3 h3' @Int.le_refl @Int.toNat_natCast @List.length_map.{0,0} @List.drop_zero.{0} hat @ba.eq_1 hd) hck (jQ l (by omega) hc t) f ?_
    refine aJ ?_
    exact ab.refl _
   |false=>
    have f:=fin (plc l t+1) (by rw[kf,if_pos ⟨hp,hd⟩])
    have e1:IntKind.i64.wrap (((plc l t:Nat):Int)+1)=((plc l t+1:Nat):Int):=by rw[IntWalk.i64_in _ (by omega)];omega
    have k2:(0:Int)≤((plc l t+1:Nat):Int):=by omega
    have k3:((plc l t+1:Nat):Int)≤(l.length:Int):=by omega
    refine an3 (bD d0 g1 h2 h3 h3' e1 k2 k3 @Int.le_refl @Int.toNat_natCast @List.length_map.{0,0} (cj4 @List.drop_zero.{0} hat @ba.eq_1 hd)) hck (jQ l (by omega) hc t) f ?_
    refine aJ ?_
    exact ab.refl _
  ·have hpe:plc l t=l.length:=by omega
   have f:=fin (plc l t) (by rw[kf,if_neg (by omega)])
   have g1:decide (((plc l t:Nat):Int)<(l.length:Int))=false:=decide_eq_false (by omega)
   have h2:(0:Int)≤((plc l t:Nat):Int):=by omega
   have h3':((plc l t:Nat):Int)≤(l.length:Int):=by omega
   refine an3 (cj8 d0 g1 h2 h3' @Int.le_refl @Int.toNat_natCast @List.length_map.{0,0} @List.drop_zero.{0}) hck (jQ l (by omega) hc t) f ?_
   refine aJ ?_
   exact ab.refl _
theorem xB {α:Type} (f:α→AV) (l:List α) (x:α):l.map f++[f x]=(l++[x]).map f:=by simp
theorem vL (l:List Ver) (hl:l.length≤1000000) (t:Int):aA Tryz.prog 81 [.sl 3 (l.map ba) .any,.int .i64 t] (.sl 3 ((eP l t).map ba) .any):=by
 refine f81.aD (by simp) (by simp[al,av,aG,bC]) (by simp[av,aG,bC]) ?_
 unfold c81
 simp only[C.zz]
 have hck:=jP l (by omega)
 cases hc:chB l with
 |false=>
  rw[hc] at hck
  refine oG hck ?_
  refine aJ ?_
  rw[eP,if_neg (by simp[hc])];exact ab.cap
 |true=>
  rw[hc] at hck
  rw[eP,if_pos hc]
  refine oG hck ?_
  refine Wp.le (aU.tok _ _) ?_
  refine Wp.fD [0,1] xA7 (fun (j:Nat) tk=>[(5,.sl 3 ((l.take j).map ba) (.own tk)),(6,.int .i64 j)]) (fun j=>j≤plc l t) (fun j=>l.length - j) 0 _ (Nat.zero_le _) rfl ?_ ?_
  ·simp only[aC,go_sem,reduceIte,Nat.reduceEqDiff,Nat.reduceAdd,bx];and_intros<;>first|exact trivial|exact ab.refl _|exact ab.any _|exact ab.eL rfl|(refine ab.int ?_;omega)
  intro j tk m hj
  have hle:=jq l t
  by_cases hlt:j<l.length
  ·obtain ⟨g1,h2,h3,e1⟩:=ixF (j:=j) (n:=l.length) (by omega) (by omega)
   have hat:=cR ba l j .any hlt
   have hln:(l.take j).length=j:=by rw[List.length_take];omega
   have r1:(j+1)*32≤140737488355328:=by omega
   have r2:j+1<4611686018427387904:=by omega
   have hsn:∀x,x=l.getD j default→(l.take j).map ba++[ba x]=(l.take (j+1)).map ba:=by
    rintro x rfl
    rw[xB,←bJ default hlt]
   have hsn':=hsn _ rfl
   simp only[ba] at hsn'
   by_cases he:j<plc l t
   ·have g2:decide ((l.getD j default).t≤t)=false:=decide_eq_false (qf he)
    refine an0 (bD g1 g2 h2 h3 e1 hln r1 r2 @Int.toNat_natCast @List.length_map.{0,0} hat (cj2 @ba.eq_1 hsn')) ?_
    refine ⟨j+1,m,m+1,he,by omega,?_⟩
    exact xSu
   ·obtain rfl:j=plc l t:=by omega
    have g2:decide ((l.getD (plc l t) default).t≤t)=true:=decide_eq_true (qg hlt)
    cases hd:(l.getD (plc l t) default).d with
    |true=>
     refine an0 (bD g1 g2 h2 h3 e1 hln r1 r2 @Int.toNat_natCast @List.length_map.{0,0} hat (cj3 @ba.eq_1 hsn' hd)) ?_
     refine aJ ?_
     rw[kf,if_neg (fun h=>by rw[hd] at h;exact absurd h.2 (by simp))];exact ab.cap
    |false=>
     rw[hd] at hsn'
     refine an0 (bD g1 g2 h2 h3 e1 hln r1 r2 @Int.toNat_natCast @List.length_map.{0,0} hat (cj3 @ba.eq_1 hsn' hd)) ?_
     refine aJ ?_
     rw[kf,if_pos ⟨hlt,hd⟩];exact ab.cap
  ·obtain rfl:j=l.length:=by omega
   have g1:=ixE (l.length)
   refine an0 (cj2 g1 @List.length_map.{0,0}) ?_
   refine aJ ?_
   rw[kf,if_neg (by omega),show plc l t=l.length by omega,List.take_length];exact ab.cap
theorem BC (k:Nat) (h0:0<k) (hk:k≤4398046511104) (n m:Nat):bn Tryz.prog 134 [.sl 3 [] (.exact 0),.int .i64 k] (H0 n m) (.sl 3 [] (.own m)) (.only ag [m] (n+1) (m+1)):=by
 refine bn.C8 (cs:=(List.replicate k (AV.agg [.int .i64 0,.str [],.bool false])).flatMap cellsOf) (id:=n) (off:=0) ⟨Nat.le_refl _,Nat.lt_succ_self _⟩ ?_
 have key:∃r h',bn Tryz.prog 134 [.sl 3 [] (.exact 0),.int .i64 k] (H0 n m) r h'∧(r= .tsl 3 n 0 0 none∧h'= .only (upd ag n (some (.cells ((List.replicate k (AV.agg [.int .i64 0,.str [],.bool false])).flatMap cellsOf)))) [] (n+1) m):=by
  refine f134.iH (by simp) ?_
  unfold CC
  simp only[C.zz]
  have g1:decide ((k:Int)<0)=false:=decide_eq_false (by omega)
  have g2:decide ((0:Int)<(k:Int))=true:=decide_eq_true (by omega)
  have e0:IntKind.i64.wrap (((0:Nat):Int) - ((0:Nat):Int))=0:=rfl
  have e1:IntKind.i64.wrap ((k:Int) - 0)=(k:Int):=by rw[Int.sub_zero];exact IntWalk.i64_in _ (by omega)
  have h3:(0:Int)<(k:Int):=by omega
  have z:((0:Nat):Int)=0:=rfl
  have r1:k*32≤140737488355328:=by omega
  have r2:k<4611686018427387904:=by omega
  refine rn0 (cj4 g1 g2 e0 e1) ?_
  refine Wp.vF ?_
  refine fv ?_
  refine fv ?_
  refine fv ?_
  refine aQ.op xA2 (by simp only[go_sem,reduceIte,Nat.reduceEqDiff,Nat.reduceAdd,bx,z,Int.le_refl,and_self,if_true,Int.toNat_zero,Nat.sub_self];exact rfl) ?_
  refine aQ.op xA2 (by simp only[go_sem,reduceIte,Nat.reduceEqDiff,Nat.reduceAdd,bx,z,Int.le_refl,and_self,if_true,Int.toNat_zero,Nat.sub_self];exact rfl) ?_
  refine aQ.opZ (by simp only[go_sem]) (by simp only[nF,go_sem,reduceIte,Nat.reduceEqDiff,h3,Int.toNat_natCast,r1,r2,and_self,if_true,true_and];exact rfl) ?_
  refine aQ.op xA2 (by simp only[go_sem,reduceIte,Nat.reduceEqDiff,Nat.reduceAdd,bx,z,Int.le_refl,and_self,if_true,Int.toNat_zero,Nat.sub_self,true_and,Int.toNat_natCast,Int.natCast_nonneg];exact rfl) ?_
  refine aQ.op xA2 (by simp only[go_sem,reduceIte,Nat.reduceEqDiff,Nat.reduceAdd,bx,z,Int.le_refl,and_self,if_true,Int.toNat_zero,Nat.sub_self,true_and,Int.toNat_natCast,Int.natCast_nonneg];exact rfl) ?_
  refine aQ.op xA2 (by simp only[go_sem,reduceIte,Nat.reduceEqDiff,Nat.reduceAdd,bx,z,Int.le_refl,and_self,if_true,Int.toNat_zero,Nat.sub_self,true_and,Int.toNat_natCast,Int.natCast_nonneg];exact rfl) ?_
  refine aQ.op xA2 (by simp only[go_sem,reduceIte,Nat.reduceEqDiff,Nat.reduceAdd,bx,z,Int.le_refl,and_self,if_true,Int.toNat_zero,Nat.sub_self,true_and,Int.toNat_natCast,Int.natCast_nonneg];exact rfl) ?_
  refine aa.toN (log:=[]) (aa.nil ?_)
  refine de ?_
  exact Wp.ret ⟨trivial,_,rfl,rfl,rfl⟩
 obtain ⟨r,h',hc,rfl,rfl⟩:=key
 exact hc
theorem xC (v:Ver) (l:List Ver) (hl:l.length≤4398046511103):aA Tryz.prog 99 [.sl 1 [.sl 3 [ba v] .any,.sl 3 (l.map ba) .any] .any] (.sl 3 ((v::l).map ba) .any):=by
 refine f99.aD (by simp) (by simp[al,av,aG,bC,fy]) (by simp[av,aG,bC,al,fy]) ?_
 unfold c99
 simp only[C.zz]
 have d1:decide ((0:Int)<((2:Nat):Int))=true:=rfl
 have d2:decide ((1:Int)<((2:Nat):Int))=true:=rfl
 have d3:decide ((2:Int)<((2:Nat):Int))=false:=rfl
 have f1:IntKind.i64.wrap ((0:Int)+1)=1:=rfl
 have f2:IntKind.i64.wrap ((1:Int)+1)=2:=rfl
 have f3:IntKind.i64.wrap ((0:Int)+((1:Nat):Int))=1:=rfl
 have f4:IntKind.i64.wrap ((1:Int)+(l.length:Int))=((l.length+1:Nat):Int):=by rw[IntWalk.i64_in _ (by omega)];omega
 have c1:decide ((1:Int)<0)=false:=rfl
 have c2:decide (((l.length+1:Nat):Int)<0)=false:=decide_eq_false (by omega)
 have i1:(0:Int)≤0∧(0:Int)<((2:Nat):Int):=by decide
 have i2:(0:Int)≤1∧(1:Int)<((2:Nat):Int):=by decide
 have t0:Int.toNat 0=0:=rfl
 have t1:Int.toNat 1=1:=rfl
 refine de ?_
 refine Wp.mB (WpL.next ?_)
 refine rn0 (cj6 d1 f1 f3 c1 i1 t0) ?_
 refine WpL.next ?_
 refine rn0 (cj7 d2 f2 f4 c2 i2 t1 @List.length_map.{0,0}) ?_
 refine WpL.next ?_
 refine rn0 d3 ?_
 refine aa.eR (by simp only[go_sem]) xA4 (BC (l.length+1) (by omega) (by omega) _ _) (jK ⟨ag,0,[],0⟩ _ _ (ids:=[]) ⟨fun j o h=>h,fun t h=>h⟩ rfl rfl (fun id h=>by simp[H0,H.only,ag] at h) (by simp[H.only]) (by simp[H.only])) ?_
 refine aa.evR xA1 ?_
 refine aa.nil ⟨by trivial,?_⟩
 refine de ?_
 have m1:(0+1)*32≤140737488355328∧0+1<4611686018427387904:=by decide
 have m2:(1+l.length)*32≤140737488355328:=by omega
 have m3:1+l.length<4611686018427387904:=by omega
 refine Wp.mB (WpL.next ?_)
 repeat (first
  |((first|apply Wp.cf|apply Wp.dU);(· simp only[go_sem,reduceIte,Nat.reduceEqDiff,Nat.reduceAdd,bx,ax,if_true,if_false,Nat.reduceMul,Nat.reduceLeDiff,d1,f1,i1,t0,H.patch,m1,List.filter_cons,List.contains_nil,List.singleton_append,List.mem_singleton];exact rfl))
  |(refine aa.nil ⟨?_,?_⟩;(· first|trivial|simp[ay,au,apart,aH]))
  |(apply Wp.bq;(· simp only[go_sem,reduceIte,Nat.reduceEqDiff,Nat.reduceAdd,bx,ax,if_true,if_false,Nat.reduceMul,Nat.reduceLeDiff,d1,f1,i1,t0,H.patch,m1,List.filter_cons,List.contains_nil,List.singleton_append,List.mem_singleton];exact rfl);(· rfl))
  |refine Wp.skip ?_
  |refine Wp.label ?_
  |refine Wp.block ?_
  |refine Wp.exit ?_
  |refine Wp.seq ?_)
 refine WpL.next ?_
 repeat (first
  |((first|apply Wp.cf|apply Wp.dU);(· simp only[go_sem,reduceIte,Nat.reduceEqDiff,Nat.reduceAdd,bx,ax,if_true,if_false,Nat.reduceMul,Nat.reduceLeDiff,d2,f2,i2,t1,m2,m3,List.length_map,List.mem_cons,List.mem_filter];exact rfl))
  |(refine aa.nil ⟨?_,?_⟩;(· first|trivial|simp[ay,au,apart,aH]))
  |(apply Wp.bq;(· simp only[go_sem,reduceIte,Nat.reduceEqDiff,Nat.reduceAdd,bx,ax,if_true,if_false,Nat.reduceMul,Nat.reduceLeDiff,d2,f2,i2,t1,m2,m3,List.length_map,List.mem_cons,List.mem_filter];exact rfl);(· rfl))
  |refine Wp.skip ?_
  |refine Wp.label ?_
  |refine Wp.block ?_
  |refine Wp.exit ?_
  |refine Wp.seq ?_)
 refine WpL.next ?_
 refine rn0 d3 ?_
 refine aJ ?_
 exact ab.cap
def fI (l:List Ver) (v:Ver):List Ver × Int:=if chB l=false then ([],4) else if okV v=false then ([],2) else if 0<l.length∧v.t≤(l.getD 0 default).t then ([],18) else (v::l,0)
theorem CN (l:List Ver) (hl:l.length≤4398046511103) (v:Ver):aA Tryz.prog 54 [.sl 3 (l.map ba) .any,ba v] (.tup [.sl 3 ((fI l v).1.map ba) .any,.int .i64 (fI l v).2]):=by
 refine f54.aD (by simp) (by simp[al,av,aG,bC,fy]) (by simp[av,al,aG,bC]) ?_
 unfold c54
 simp only[C.zz]
 have hck:=fY l (by omega)
 have hr:=fE v
 have d0:decide ((0:Int)=0)=true:=rfl
 have d4:decide ((4:Int)=0)=false:=rfl
 have bad:∀e:Int,ab (.tup [.sl 3 [] (.exact 0),.int .i64 e]) (.tup [.sl 3 (([]:List Ver).map ba) .any,.int .i64 e]):=fun e=>ab.tup (af.cons ab.cap (af.refl _))
 cases hc:chB l with
 |false=>
  simp only[hc,Bool.false_eq_true,if_false] at hck
  refine rn1 (cj2 d4 @ba.eq_1) hck ?_
  refine aJ ?_
  rw[fI,if_pos hc];exact bad 4
 |true=>
  simp only[hc,if_true] at hck
  have n1:¬(chB l=false):=by simp[hc]
  cases ho:okV v with
  |false=>
   rw[ho] at hr
   simp only[ba] at hr
   refine rn2 (cj2 d0 @ba.eq_1) hck hr ?_
   refine aJ ?_
   rw[fI,if_neg n1,if_pos ho];exact bad 2
  |true=>
   rw[ho] at hr
   have n2:¬(okV v=false):=by simp[ho]
   have hcc:=xC v l hl
   simp only[ba] at hr
   have fit:af [.sl 1 [.sl 3 [ba v] (.exact 1),.sl 3 (l.map ba) .any] (.exact 2)] [.sl 1 [.sl 3 [ba v] .any,.sl 3 (l.map ba) .any] .any]:=af.cons (ab.sl ⟨ab.sl ⟨ab.refl _,trivial⟩,ab.refl _,trivial⟩) af.nil
   simp only[ba] at fit hcc
   by_cases h0:0<l.length
   ·have g1:decide ((0:Int)<(l.length:Int))=true:=decide_eq_true (by omega)
    have h2:(0:Int)<(l.length:Int):=by omega
    have hat:=cR ba l 0 .any h0
    cases hp:decide (v.t≤(l.getD 0 default).t) with
    |true=>
     refine rn2 (cj9 d0 g1 h2 hp Int.toNat_zero @Int.le_refl @List.length_map.{0,0} hat @ba.eq_1) hck hr ?_
     refine aJ ?_
     rw[fI,if_neg n1,if_neg n2,if_pos ⟨h0,of_decide_eq_true hp⟩];exact bad 18
    |false=>
     refine rn3 (cj9 d0 g1 h2 hp Int.toNat_zero @Int.le_refl @List.length_map.{0,0} hat @ba.eq_1) hck hr hcc ?_
     refine aJ ?_
     rw[fI,if_neg n1,if_neg n2,if_neg (fun h=>of_decide_eq_false hp h.2)];exact ab.refl _
   ·have g1:decide ((0:Int)<(l.length:Int))=false:=decide_eq_false (by omega)
    refine rn3 (cj4 d0 g1 @List.length_map.{0,0} @ba.eq_1) hck hr hcc ?_
    refine aJ ?_
    rw[fI,if_neg n1,if_neg n2,if_neg (fun h=>h0 h.1)];exact ab.refl _
theorem BD (l:List Ver) (hl:l.length≤1000000) (v:Ver):aA Tryz.prog 78 [.sl 3 (l.map ba) .any,ba v] (.tup [.sl 3 ((fI l v).1.map ba) .any,.int .i64 (fI l v).2]):=by
 refine f78.aD (by simp) (by simp[al,av,aG,bC,fy]) (by simp[av,al,aG,bC]) ?_
 unfold c78
 simp only[C.zz]
 have hck:=jP l (by omega)
 have hr:=ig v
 have bad:∀e:Int,ab (.tup [.sl 3 [] (.exact 0),.int .i64 e]) (.tup [.sl 3 (([]:List Ver).map ba) .any,.int .i64 e]):=fun e=>ab.tup (af.cons ab.cap (af.refl _))
 cases hc:chB l with
 |false=>
  rw[hc] at hck
  refine rn1 @ba.eq_1 hck ?_
  refine aJ ?_
  rw[fI,if_pos hc];exact bad 4
 |true=>
  rw[hc] at hck
  have n1:¬(chB l=false):=by simp[hc]
  cases ho:okV v with
  |false=>
   rw[ho] at hr
   simp only[ba] at hr
   refine rn2 @ba.eq_1 hck hr ?_
   refine aJ ?_
   rw[fI,if_neg n1,if_pos ho];exact bad 2
  |true=>
   rw[ho] at hr
   have n2:¬(okV v=false):=by simp[ho]
   simp only[ba] at hr
   have m2:(1+l.length)*32≤140737488355328:=by omega
   have m3:1+l.length<4611686018427387904:=by omega
   have fin:∀c,ab (.tup [.sl 3 (.agg [.int .i64 v.t,.str v.v,.bool v.d]::l.map ba) c,.int .i64 0]) (.tup [.sl 3 ((v::l).map ba) .any,.int .i64 0]):=fun c=>ab.tup (af.cons ab.cap (af.refl _))
   by_cases h0:0<l.length
   ·have g1:decide ((0:Int)<(l.length:Int))=true:=decide_eq_true (by omega)
    have h2:(0:Int)<(l.length:Int):=by omega
    have hat:=cR ba l 0 .any h0
    cases hp:decide (v.t≤(l.getD 0 default).t) with
    |true=>
     refine rn2 (cj8 g1 h2 hp Int.toNat_zero @Int.le_refl @List.length_map.{0,0} hat @ba.eq_1) hck hr ?_
     refine aJ ?_
     rw[fI,if_neg n1,if_neg n2,if_pos ⟨h0,of_decide_eq_true hp⟩];exact bad 18
    |false=>
     refine rn2 (fR g1 h2 hp m2 m3 Int.toNat_zero @Int.le_refl @List.length_map.{0,0} hat @ba.eq_1) hck hr ?_
     refine aJ ?_
     rw[fI,if_neg n1,if_neg n2,if_neg (fun h=>of_decide_eq_false hp h.2)];exact fin _
   ·have g1:decide ((0:Int)<(l.length:Int))=false:=decide_eq_false (by omega)
    refine rn2 (cj5 g1 m2 m3 @List.length_map.{0,0} @ba.eq_1) hck hr ?_
    refine aJ ?_
    rw[fI,if_neg n1,if_neg n2,if_neg (fun h=>h0 h.1)];exact fin _
end Go.Proofs.YtpehfflehebmbaaGreat.Space
end
section
set_option maxRecDepth 10000
namespace Go.Proofs.YtpehfflehebmbaaGreat.Reads
open Go Go.Av Go.Proofs Go.Proofs.YtpehfflehebmbaaGreat.C Go.Proofs.YtpehfflehebmbaaGreat.Batch
abbrev Bs:=List UInt8
structure Sp where
 f:Bs
 t:Bs
 deriving DecidableEq
instance:Inhabited Sp:=⟨⟨[],[]⟩⟩
def aX (s:Sp):AV:= .agg [.str s.f,.str s.t]
def sps (l:List Sp):List AV:=l.map aX
theorem az (l:List Sp):(sps l).length=l.length:=by simp[sps]
theorem bt (l:List Sp) (k:Nat) (d:AV) (h:k<l.length):(sps l).getD k d=aX (l.getD k default):=by
 simp[sps,List.getD,List.getElem?_map,List.getElem?_eq_getElem h]
theorem cG (l:List Sp):al (sps l)=true:=Av.cS (fun x=>by simp[aX,av,al]) l
def bT (k:List Bs) (s:List Sp):AV:= .agg [.sl 1 (strs k) .any,.sl 2 (sps s) .any]
theorem cJ (k:List Bs) (s:List Sp):av (bT k s)=true:=by simp[bT,av,al,aG,du,cG]
def hasB (s:Sp):Bool:=decide (s.t=[])||Op.bytesLess s.f s.t
def bc (a b:Sp):Bool:= !decide (a.t=[])&&Op.bytesLess a.t b.f
def fz (s:Sp) (k:Bs):Bool:= !Op.bytesLess k s.f&&(decide (s.t=[])||Op.bytesLess k s.t)
def fJ (a b:Sp):Sp:=⟨if (Op.bytesLess a.f b.f||decide (a.f=b.f))=true then a.f else b.f,if a.t=[] then [] else if b.t=[] then [] else if (!Op.bytesLess a.t b.t)=true then a.t else b.t⟩
def aR (l:List Sp) (k:Bs):Bool:=l.any (fz · k)
theorem pd (s:Sp):aA Tryz.prog 95 [aX s] (.bool (hasB s)):=by
 refine f95.aD (by simp) (by simp[al,av,aX]) rfl ?_
 unfold c95
 simp only[C.zz]
 cases h1:decide (s.t=[])<;>cases h2:Op.bytesLess s.f s.t
 all_goals
  refine an0 (cj3 @aX.eq_1 h1 h2) ?_
  refine aJ ?_
  simp only[hasB,h1,h2,Bool.true_or,Bool.false_or]
  exact ab.refl _
theorem fZ (a b:Sp):aA Tryz.prog 96 [aX a,aX b] (.bool (bc a b)):=by
 refine f96.aD (by simp) (by simp[al,av,aX]) rfl ?_
 unfold c96
 simp only[C.zz]
 cases h1:decide (a.t=[])<;>cases h2:Op.bytesLess a.t b.f
 all_goals
  refine an0 (cj3 @aX.eq_1 h1 h2) ?_
  refine aJ ?_
  simp only[bc,h1,h2,Bool.not_true,Bool.not_false,Bool.true_and,Bool.false_and]
  exact ab.refl _
theorem kR (s:Sp) (k:Bs):aA Tryz.prog 141 [aX s,.str k] (.bool (fz s k)):=by
 refine f141.aD (by simp) (by simp[al,av,aX]) rfl ?_
 unfold CH
 simp only[C.zz]
 cases h1:Op.bytesLess k s.f<;>cases h2:decide (s.t=[])<;>cases h3:Op.bytesLess k s.t
 all_goals
  refine an0 (cj4 @aX.eq_1 h1 h2 h3) ?_
  refine aJ ?_
  simp only[fz,h1,h2,h3,Bool.not_true,Bool.not_false,Bool.true_and,Bool.false_and,Bool.true_or,Bool.false_or]
  exact ab.refl _
theorem xD (a b:Sp):aA Tryz.prog 97 [aX a,aX b] (aX (fJ a b)):=by
 refine f97.aD (by simp) (by simp[al,av,aX]) (by simp[al,av,aX]) ?_
 unfold c97
 simp only[C.zz]
 cases e1:decide (a.t=[])<;>cases e2:decide (b.t=[])
 all_goals
  have h1:=e1
  have h2:=e2
  simp only[decide_eq_true_eq,decide_eq_false_iff_not] at h1 h2
  refine an0 (cj3 @aX.eq_1 e1 e2) ?_
  refine aJ ?_
  simp only[fJ,h1,h2,if_true,if_false]
  exact ab.refl _
theorem lL (s:Sp) (h1:Ls s.f) (h2:Ls s.t):aA Tryz.prog 119 [aX s] (.bool (hasB s)):=by
 refine f119.aD (by simp) (by simp[al,av,aX]) rfl ?_
 unfold Cr
 simp only[C.zz]
 cases h3:decide (s.t=[])
 all_goals
  refine an1 (cj2 @aX.eq_1 h3) (cI s.f s.t h1 h2) ?_
  refine aJ ?_
  simp only[hasB,h3,Bool.true_or,Bool.false_or]
  exact ab.refl _
theorem rA (a b:Sp) (h1:Ls a.t) (h2:Ls b.f):aA Tryz.prog 120 [aX a,aX b] (.bool (bc a b)):=by
 refine f120.aD (by simp) (by simp[al,av,aX]) rfl ?_
 unfold Cs
 simp only[C.zz]
 cases h3:decide (a.t=[])
 all_goals
  refine an1 (cj2 @aX.eq_1 h3) (cI a.t b.f h1 h2) ?_
  refine aJ ?_
  simp only[bc,h3,Bool.not_true,Bool.not_false,Bool.true_and,Bool.false_and]
  exact ab.refl _
theorem pe (s:Sp) (k:Bs) (h1:Ls s.f) (h2:Ls s.t) (h3:Ls k):aA Tryz.prog 106 [.str k,.str s.f,.str s.t] (.bool (fz s k)):=by
 refine f106.aD (by simp) (by simp[al,av,aX]) rfl ?_
 unfold Bu
 simp only[C.zz]
 cases g1:Op.bytesLess k s.f<;>cases g2:decide (s.t=[])
 all_goals
  refine an2 (cj3 @aX.eq_1 g1 g2) (cI k s.f h3 h1) (cI k s.t h3 h2) ?_
  refine aJ ?_
  simp only[fz,g1,g2,Bool.not_true,Bool.not_false,Bool.true_and,Bool.false_and,Bool.true_or,Bool.false_or]
  exact ab.refl _
def ix {α:Type} (p:α→Bool) (l:List α):Int:=if l.any p then (l.findIdx p:Nat) else -1
theorem gC {α:Type} {p:α→Bool} {l:List α} {j:Nat} (hj:j<l.length) (h:p l[j]=true) (hs:∀i (hi:i<l.length),i<j→p l[i]=false):ix p l=j:=by
 have h1:l.any p=true:=List.any_eq_true.2 ⟨l[j],List.getElem_mem hj,h⟩
 have h2:l.findIdx p=j:=(List.findIdx_eq hj).2 ⟨h,fun i hi=>hs i (by omega) hi⟩
 simp[ix,h1,h2]
theorem gV {α:Type} {p:α→Bool} {l:List α} (hs:∀i (hi:i<l.length),p l[i]=false):ix p l= -1:=by
 have h1:l.any p=false:=by
  rw[List.any_eq_false]
  intro x hx
  obtain ⟨i,hi,rfl⟩:=List.mem_iff_getElem.1 hx
  simp[hs i hi]
 simp[ix,h1]
theorem cK {α:Type} {p:α→Bool} {l:List α}:decide (0≤ix p l)=l.any p:=by
 unfold ix
 cases l.any p<;>simp
theorem ar {α:Type} {l:List α} {i:Nat} {d:α} (h:i<l.length):l.getD i d=l[i]:=by
 rw[List.getD_eq_getElem?_getD,List.getElem?_eq_getElem h];rfl
theorem vM (l:List Sp) (hl:l.length≤4611686018427387904) (p:Sp→Bool) {g:FuncId} {fn:Func} (hf:Tryz.prog.funcs[g]? =some fn) (hb:fn.body.isSome=true) (hn:fn.name≠ "runtime.NumGoroutine") (caps:List AV) (hc:al caps=true)
  (hp:∀c∈l,aA Tryz.prog g (aX c::caps) (.bool (p c))):
  aA Tryz.prog 135 [.sl 2 (sps l) .any,.clo (.func g) [] caps] (.int .i64 (ix p l)):=by
 refine f135.aD (by simp) (by simp[al,av,aG,cG,hc]) rfl ?_
 unfold Bx
 simp only[C.zz]
 refine Wp.aw xA1 (by trivial) ?_
 refine Wp.seq ?_
 refine Wp.aw (by simp only[go_sem,reduceIte,Nat.reduceEqDiff,Nat.reduceAdd,bx,az];exact rfl) (by trivial) ?_
 refine Wp.block ?_
 refine Wp.cZ [0,1,7] xA6 (fun j:Nat=>[(8,.int .i64 j)]) (fun j=>j≤l.length∧∀i (hi:i<l.length),i<j→p l[i]=false) (fun j=>l.length - j) 0 ⟨Nat.zero_le _,fun i hi h=>absurd h (by omega)⟩ ?_ ?_
 ·exact xSb
 ·rintro j ⟨hj,hs⟩
  refine Wp.aw xA1 (by trivial) ?_
  refine Wp.seq ?_
  refine Wp.bN (b:=decide ((j:Int)<(l.length:Int))) xA2 (fun hc=>?_) (fun hc=>?_)
  ·have h1:(0:Int)≤(j:Int):=by omega
   have h2:(j:Int)<(l.length:Int):=by simpa using hc
   have h3:j<l.length:=by omega
   have hq:=hp _ (List.getElem_mem h3)
   rw[←ar (d:=default) h3] at hq
   refine Wp.skip ?_
   refine Wp.seq ?_
   refine Wp.block ?_
   refine Wp.aw xA1 (by trivial) ?_
   refine Wp.seqItems (by simp only[go_sem,reduceIte,Nat.reduceEqDiff,Nat.reduceAdd,bx,az,h1,h2,and_self,if_true,Int.toNat_natCast,bt _ _ _ h3,aX];exact rfl) ?_
   refine aa.lF (by simp only[go_sem]) (by simp only[go_sem,reduceIte,Nat.reduceEqDiff];exact rfl) hf hb hn xA4 hq ?_
   refine aa.eval xA1 ?_
   refine aa.nil ⟨by trivial,?_⟩
   rw[ar h3]
   refine Wp.bN (b:=p l[j]) xA2 (fun hd=>?_) (fun hd=>?_)
   ·refine Wp.aw xA1 (by trivial) ?_
    refine aJ ?_
    rw[gC h3 hd hs]
    exact ab.refl _
   ·refine Wp.skip ?_
    refine Wp.jX (by simp only[go_sem,reduceIte,Nat.reduceEqDiff,Nat.reduceAdd,bx];simp (disch:=omega) only[IntWalk.i64_in];exact rfl) (by trivial) ?_
    refine ⟨j+1,⟨by omega,fun i hi h=>?_⟩,by omega,?_⟩
    ·by_cases he:i=j
     ·subst he;exact hd
     ·exact hs i hi (by omega)
    ·exact xSu
  ·have:¬(j:Int)<(l.length:Int):=by simpa using hc
   refine Wp.exit ?_
   refine Wp.aw xA1 (by trivial) ?_
   refine aJ ?_
   rw[gV fun i hi=>hs i hi (by omega)]
   exact ab.refl _
theorem nI (l:List Bs) (hl:l.length≤4611686018427387904) (p:Bs→Bool) {g:FuncId} {fn:Func} (hf:Tryz.prog.funcs[g]? =some fn) (hb:fn.body.isSome=true) (hn:fn.name≠ "runtime.NumGoroutine") (caps:List AV) (hc:al caps=true)
  (hp:∀c∈l,aA Tryz.prog g (.str c::caps) (.bool (p c))):
  aA Tryz.prog 102 [.sl 1 (strs l) .any,.clo (.func g) [] caps] (.int .i64 (ix p l)):=by
 refine f102.aD (by simp) (by simp[al,av,aG,du,hc]) rfl ?_
 unfold zI
 simp only[C.zz]
 refine Wp.aw xA1 (by trivial) ?_
 refine Wp.seq ?_
 refine Wp.aw (by simp only[go_sem,reduceIte,Nat.reduceEqDiff,Nat.reduceAdd,bx,ao];exact rfl) (by trivial) ?_
 refine Wp.block ?_
 refine Wp.cZ [0,1,7] xA6 (fun j:Nat=>[(8,.int .i64 j)]) (fun j=>j≤l.length∧∀i (hi:i<l.length),i<j→p l[i]=false) (fun j=>l.length - j) 0 ⟨Nat.zero_le _,fun i hi h=>absurd h (by omega)⟩ ?_ ?_
 ·exact xSb
 ·rintro j ⟨hj,hs⟩
  refine Wp.aw xA1 (by trivial) ?_
  refine Wp.seq ?_
  refine Wp.bN (b:=decide ((j:Int)<(l.length:Int))) xA2 (fun hc=>?_) (fun hc=>?_)
  ·have h1:(0:Int)≤(j:Int):=by omega
   have h2:(j:Int)<(l.length:Int):=by simpa using hc
   have h3:j<l.length:=by omega
   have hq:=hp _ (List.getElem_mem h3)
   rw[←ar (d:=[]) h3] at hq
   refine Wp.skip ?_
   refine Wp.seq ?_
   refine Wp.block ?_
   refine Wp.aw xA1 (by trivial) ?_
   refine Wp.seqItems (by simp only[go_sem,reduceIte,Nat.reduceEqDiff,Nat.reduceAdd,bx,ao,h1,h2,and_self,if_true,Int.toNat_natCast,aV _ _ _ h3];exact rfl) ?_
   refine aa.lF (by simp only[go_sem]) (by simp only[go_sem,reduceIte,Nat.reduceEqDiff];exact rfl) hf hb hn xA4 hq ?_
   refine aa.eval xA1 ?_
   refine aa.nil ⟨by trivial,?_⟩
   rw[ar h3]
   refine Wp.bN (b:=p l[j]) xA2 (fun hd=>?_) (fun hd=>?_)
   ·refine Wp.aw xA1 (by trivial) ?_
    refine aJ ?_
    rw[gC h3 hd hs]
    exact ab.refl _
   ·refine Wp.skip ?_
    refine Wp.jX (by simp only[go_sem,reduceIte,Nat.reduceEqDiff,Nat.reduceAdd,bx];simp (disch:=omega) only[IntWalk.i64_in];exact rfl) (by trivial) ?_
    refine ⟨j+1,⟨by omega,fun i hi h=>?_⟩,by omega,?_⟩
    ·by_cases he:i=j
     ·subst he;exact hd
     ·exact hs i hi (by omega)
    ·exact xSu
  ·have:¬(j:Int)<(l.length:Int):=by simpa using hc
   refine Wp.exit ?_
   refine Wp.aw xA1 (by trivial) ?_
   refine aJ ?_
   rw[gV fun i hi=>hs i hi (by omega)]
   exact ab.refl _
theorem qi (l:List Sp) (hl:l.length≤4611686018427387904) (p:Sp→Bool) {g:FuncId} {fn:Func} (hf:Tryz.prog.funcs[g]? =some fn) (hb:fn.body.isSome=true) (hn:fn.name≠ "runtime.NumGoroutine") (caps:List AV) (hc:al caps=true)
  (hp:∀c∈l,aA Tryz.prog g (aX c::caps) (.bool (p c))):
  aA Tryz.prog 104 [.sl 2 (sps l) .any,.clo (.func g) [] caps] (.bool (l.any p)):=by
 refine f104.aD (by simp) (by simp[al,av,aG,cG,hc]) rfl ?_
 unfold Bt
 simp only[C.zz]
 refine an1 @cK (vM l hl p hf hb hn caps hc hp) ?_
 refine aJ ?_
 exact ab.refl _
theorem tr (s:Sp) (k:Bs):aA Tryz.prog 140 [aX s,.ref [.str k]] (.bool (fz s k)):=by
 refine f140.aD (by simp) (by simp[al,av,aX]) rfl ?_
 unfold CG
 simp only[C.zz]
 refine an1 @aX.eq_1 (kR s k) ?_
 refine aJ ?_
 exact ab.refl _
theorem gg (l:List Sp) (hl:l.length≤4611686018427387904) (k:Bs):aA Tryz.prog 130 [.sl 2 (sps l) .any,.str k] (.bool (aR l k)):=by
 refine f130.aD (by simp) (by simp[al,av,aG,cG]) rfl ?_
 unfold Cz
 simp only[C.zz]
 refine Wp.aw xA1 (by trivial) ?_
 refine Wp.frz (fun _=>true) [(0,.sl 2 (sps l) .any),(3,.ref [.str k])] ⟨ag,1,[],0⟩ ?_ (OLe.none _) (by simp) (by simp[go_sem]) (Nat.le_refl _) ?_
 ·simp only[aC,go_sem,reduceIte,Nat.reduceEqDiff,unT,and_true]
  and_intros<;>exact ab.refl _
 repeat (first
  |((first|apply Wp.seqItems|apply Wp.items|((first
    |(refine aa.bF ?_ ?_ (qi l hl (fz · k) (caps:=[.ref [.str k]]) Tryz.func140 rfl (of_decide_eq_true (by kernel_rfl)) rfl (fun c _=>tr c k)) ?_;(· simp only[go_sem,reduceIte,Nat.reduceEqDiff,Nat.reduceAdd,bx]);(· simp only[go_sem,reduceIte,Nat.reduceEqDiff,Nat.reduceAdd,bx,List.map];first|exact af.refl _|(repeat (first|exact af.nil|refine af.cons xA5 ?_)))));apply aa.eval));(· simp only[go_sem,reduceIte,Nat.reduceEqDiff,Nat.reduceAdd,bx,ax,if_true,if_false,Nat.reduceMul,Nat.reduceLeDiff];exact rfl))
  |(refine aa.nil ⟨?_,?_⟩;(· first|trivial|simp[ay,au,apart,aH]))
  |(apply Wp.bq;(· simp only[go_sem,reduceIte,Nat.reduceEqDiff,Nat.reduceAdd,bx,ax,if_true,if_false,Nat.reduceMul,Nat.reduceLeDiff];exact rfl);(· rfl))
  |refine Wp.skip ?_
  |refine Wp.label ?_
  |refine Wp.block ?_
  |refine Wp.exit ?_
  |refine Wp.seq ?_)
 refine aJ ?_
 exact ab.refl _
theorem zT (l:List Sp) (hl:l.length≤4611686018427387904) (k:Bs):aA Tryz.prog 132 [.str k,.ref [.sl 2 (sps l) .any]] (.bool (aR l k)):=by
 refine f132.aD (by simp) (by simp[al,av,aG,cG]) rfl ?_
 unfold CA
 simp only[C.zz]
 refine oG (gg l hl k) ?_
 refine aJ ?_
 exact ab.refl _
theorem zU (a:Bs):aA Tryz.prog 127 [.str a] (.bool false):=by
 refine f127.aD (by simp) rfl rfl ?_
 unfold Cy
 simp only[C.zz]
 have h:decide (a=a)=true:=decide_eq_true rfl
 refine an0 h ?_
 refine aJ ?_
 exact ab.refl _
theorem xE (a:Bs):aA Tryz.prog 138 [.str a] (.bool false):=by
 refine f138.aD (by simp) rfl rfl ?_
 unfold CF
 simp only[C.zz]
 have h:decide (a=a)=true:=decide_eq_true rfl
 refine an0 h ?_
 refine aJ ?_
 exact ab.refl _
theorem xF (a b:Bs):aA Tryz.prog 126 [.str a,.str b] (.bool (Op.bytesLess a b)):=by
 refine f126.aD (by simp) rfl rfl ?_
 unfold Cx
 simp only[C.zz]
 refine oG (xE a) ?_
 refine aJ ?_
 exact ab.refl _
theorem lM (l:List Bs) (hl:l.length≤1152921504606846976) (key:Bs) (r:Nat) (hr:r≤l.length) (h0:∀i,i<r→Op.bytesLess (l.getD i []) key=true) (h1:∀i,r≤i→i<l.length→Op.bytesLess (l.getD i []) key=false):
  aA Tryz.prog 89 [.sl 1 (strs l) .any,.str key] (.tup [.int .i64 r,.bool (decide (r<l.length)&&decide (l.getD r []=key))]):=by
 refine f89.aD (by simp) (by simp[al,av,aG,du]) (by simp[al,av]) ?_
 unfold c89
 simp only[C.zz]
 refine Wp.aw xA1 (by trivial) ?_
 refine Wp.aw (by simp only[go_sem,reduceIte,Nat.reduceEqDiff,Nat.reduceAdd,bx,ao];exact rfl) (by trivial) ?_
 refine Wp.aw xA1 (by trivial) ?_
 refine Wp.seq ?_
 refine Wp.block ?_
 refine Wp.cZ [0,1,6] xA6 (fun j:Nat × Nat=>[(7,.int .i64 j.1),(8,.int .i64 j.2)]) (fun j=>j.1≤r∧r≤j.2∧j.2≤l.length) (fun j=>j.2 - j.1) (0,l.length) ⟨Nat.zero_le _,hr,Nat.le_refl _⟩ ?_ ?_
 ·exact xSb
 ·rintro ⟨i,j⟩ ⟨a1,a2,a3⟩
  simp only at a1 a2 a3
  refine Wp.seq ?_
  refine Wp.aw xA1 (by trivial) ?_
  refine Wp.bN (b:=decide ((i:Int)<(j:Int))) xA2 (fun hc=>?_) (fun hc=>?_)
  ·have hc':(i:Int)<(j:Int):=by simpa using hc
   have e1:IntKind.i64.wrap ((i:Int)+(j:Int))=((i+j:Nat):Int):=by rw[IntWalk.i64_in _ (by omega)];omega
   have e2:IntKind.u64.wrap ((i+j:Nat):Int)=((i+j:Nat):Int):=IntWalk.u64_in _ (by omega)
   have e3:((i+j:Nat):Int).fdiv (2^(min (Int.toNat 1) 64))=(((i+j)/2:Nat):Int):=by
    rw[show min (Int.toNat 1) 64=1 from rfl,Int.fdiv_eq_ediv_of_nonneg _ (by omega)]
    omega
   have e4:IntKind.i64.wrap (((i+j)/2:Nat):Int)=(((i+j)/2:Nat):Int):=IntWalk.i64_in _ (by omega)
   have e5:¬(1:Int)<0:=by omega
   have p1:(0:Int)≤(((i+j)/2:Nat):Int):=by omega
   have p2:(((i+j)/2:Nat):Int)<(l.length:Int):=by omega
   have p3:(i+j)/2<l.length:=by omega
   refine Wp.skip ?_
   refine Wp.block ?_
   refine Wp.aw (by simp only[go_sem,reduceIte,Nat.reduceEqDiff,Nat.reduceAdd,bx,e1,e2,IntKind.bits,e3,e4,e5];exact rfl) (by trivial) ?_
   by_cases hh:(i+j)/2<r
   ·have hs:=h0 _ hh
    repeat (first
     |((first|apply Wp.seqItems|apply Wp.items|((first
       |(refine aa.bF ?_ ?_ (xF (l.getD ((i+j)/2) []) key) ?_;(· simp only[go_sem,reduceIte,Nat.reduceEqDiff,Nat.reduceAdd,bx]);(· simp only[go_sem,reduceIte,Nat.reduceEqDiff,Nat.reduceAdd,bx,List.map];first|exact af.refl _|(repeat (first|exact af.nil|refine af.cons xA5 ?_)))));apply aa.eval));(· simp only[go_sem,reduceIte,Nat.reduceEqDiff,Nat.reduceAdd,bx,ax,if_true,if_false,Nat.reduceMul,Nat.reduceLeDiff,ao,p1,p2,Int.toNat_natCast,aV _ _ _ p3,hs,IntWalk.i64_in];exact rfl))
     |(refine aa.nil ⟨?_,?_⟩;(· first|trivial|simp[ay,au,apart,aH]))
     |(apply Wp.bq;(· simp only[go_sem,reduceIte,Nat.reduceEqDiff,Nat.reduceAdd,bx,ax,if_true,if_false,Nat.reduceMul,Nat.reduceLeDiff,ao,p1,p2,Int.toNat_natCast,aV _ _ _ p3,hs,IntWalk.i64_in];exact rfl);(· rfl))
     |refine Wp.skip ?_
     |refine Wp.label ?_
     |refine Wp.block ?_
     |refine Wp.exit ?_
     |refine Wp.seq ?_)
    refine ⟨((i+j)/2+1,j),⟨by simp only;omega,by simp only;omega,by simp only;omega⟩,by simp only;omega,?_⟩
    have e6:IntKind.i64.wrap ((((i+j)/2:Nat):Int)+1)=(((i+j)/2+1:Nat):Int):=by rw[IntWalk.i64_in _ (by omega)];omega
    refine aU.tm (by simp only[aC,go_sem,reduceIte,Nat.reduceEqDiff,Nat.reduceAdd,bx,e6];and_intros<;>first|exact trivial|exact ab.refl _|exact ab.any _|(refine ab.int ?_;omega))
   ·have hs:=h1 _ (by omega) p3
    refine an1 (cj6 @ao p1 p2 @Int.toNat_natCast (fun d=>aV _ _ d p3) hs) (xF (l.getD ((i+j)/2) []) key) ?_
    refine ⟨(i,(i+j)/2),⟨by simp only;omega,by simp only;omega,by simp only;omega⟩,by simp only;omega,?_⟩
    exact xSu
  ·have hc':¬(i:Int)<(j:Int):=by simpa using hc
   obtain rfl:i=r:=by omega
   refine Wp.exit ?_
   have p1:(0:Int)≤(i:Int):=by omega
   by_cases hlt:i<l.length
   ·have d1:decide ((i:Int)<(l.length:Int))=true:=decide_eq_true (by omega)
    have p2:(i:Int)<(l.length:Int):=by omega
    cases he:decide (l.getD i []=key) with
    |true=>
     refine an0 (cj7 d1 p1 p2 @ao @Int.toNat_natCast (fun d=>aV _ _ d hlt) he) ?_
     refine aJ ?_
     simp only[decide_eq_true hlt,Bool.true_and]
     exact ab.refl _
    |false=>
     refine an1 (cj7 d1 p1 p2 @ao @Int.toNat_natCast (fun d=>aV _ _ d hlt) he) (zU (l.getD i [])) ?_
     refine aJ ?_
     simp only[decide_eq_true hlt,Bool.true_and]
     exact ab.refl _
   ·have d1:decide ((i:Int)<(l.length:Int))=false:=decide_eq_false (by omega)
    refine an0 d1 ?_
    refine aJ ?_
    simp only[decide_eq_false hlt,Bool.false_and]
    exact ab.refl _
theorem xG (l:List Bs) (i:Nat) (v:Bs):setAt (strs l) i [.str v]=strs (l.take i++v::l.drop (i+1)):=by
 simp[setAt,strs]
theorem zV (l:List Bs) (k:Nat) (h:k<l.length):(strs l)[k]? =some (.str (l.getD k [])):=by
 simp[strs,List.getD,List.getElem?_map,List.getElem?_eq_getElem h]
theorem mE {l:List Bs} {p:Bs→Bool} {j:Nat} (h:j<l.length):(l.take (j+1)).filter (fun x=> !p x)=(l.take j).filter (fun x=> !p x)++(if p (l.getD j []) then [] else [l.getD j []]):=by
 rw[List.take_succ_eq_append_getElem h,List.filter_append,List.getD_eq_getElem?_getD,List.getElem?_eq_getElem h]
 congr 1
 cases hp:p l[j] <;>simp[hp]
theorem CO (l:List Bs) (hl:l.length≤1152921504606846976) (p:Bs→Bool) {g:FuncId} {fn:Func} (hf:Tryz.prog.funcs[g]? =some fn) (hb:fn.body.isSome=true) (hn:fn.name≠ "runtime.NumGoroutine") (caps:List AV) (hc:al caps=true)
  (hp:∀c∈l,aA Tryz.prog g (.str c::caps) (.bool (p c))):
  qb Tryz.prog 131 (strs l) l.length [.clo (.func g) [] caps] (.sl 1 (strs (l.filter fun x=> !p x)) .any):=by
 refine f131.xm (by simp) (du _) (by simp[al,av,hc]) (by simp[av,aG,du]) ?_
 unfold Bw
 simp only[C.zz]
 have look:iI Tryz.prog 102 [.tsl 1 0 0 l.length none,.clo (.func g) [] caps] (upd ag 0 (some (.cells (strs l)))) (.int .i64 (ix p l)):=by
  have:=(nI l (by omega) p hf hb hn caps hc hp).look (fun G G' w v h=>by simpa only[ah] using h) none 0
  rwa [ao] at this
 refine lJ ?_
 refine aa.ji [0] (by simp only[go_sem]) xA4 (fun id o h=>h) (fun id h=>by simp only[upd,ag] at h;split at h<;>simp_all) look ?_
 refine aa.eval xA1 ?_
 refine aa.nil ⟨by trivial,?_⟩
 cases ha:l.any p with
 |false=>
  have e1:ix p l= -1:=by simp[ix,ha]
  have hfl:l.filter (fun x=> !p x)=l:=List.filter_eq_self.2 fun x hx=>by
   have:=List.any_eq_false.1 ha x hx
   simp[this]
  refine an0 (cj2 e1 @decide_true) ?_
  refine Wp.ret ⟨trivial,_,rfl,?_⟩
  simp only[go_sem,reduceIte,Nat.reduceEqDiff,Nat.reduceAdd,bx,unT]
  simp only[List.drop_zero,Nat.zero_add,H.only,upd,if_true,and_self,ao,Nat.le_refl,hfl]
  refine ab.of_eq ?_
  rw[List.take_of_length_le (by rw[ao];omega)]
 |true=>
  obtain ⟨x0,hx0,hpx⟩:=List.any_eq_true.1 ha
  have hlt:l.findIdx p<l.length:=List.findIdx_lt_length_of_exists ⟨x0,hx0,hpx⟩
  have e1:ix p l=((l.findIdx p:Nat):Int):=by simp[ix,ha]
  have d1:decide (((l.findIdx p:Nat):Int)= -1)=false:=decide_eq_false (by omega)
  have e2:IntKind.i64.wrap (((l.findIdx p:Nat):Int)+1)=((l.findIdx p+1:Nat):Int):=by rw[IntWalk.i64_in _ (by omega)];omega
  refine an0 (cj3 e1 d1 e2) ?_
  refine Wp.mz [0,1] xA7 (fun b:Nat × Nat × List Bs=>[(5,.int .i64 b.1),(6,.int .i64 b.2.1)]) (fun b=> .only (upd ag 0 (some (.cells (strs b.2.2)))) [] 1 0)
   (fun b=>b.1<b.2.1∧b.2.1≤l.length∧b.2.2.length=l.length∧b.2.2.take b.1=(l.take b.2.1).filter (fun x=> !p x)∧b.2.2.drop b.2.1=l.drop b.2.1) (fun b=>l.length - b.2.1) (l.findIdx p,l.findIdx p+1,l) ⟨by simp only;omega,by simp only;omega,rfl,?_,rfl⟩ rfl ?_ ?_
  ·simp only
   have hpi:p (l.getD (l.findIdx p) [])=true:=by rw[ar hlt];exact List.findIdx_getElem
   rw[mE hlt,hpi,if_pos rfl,List.append_nil]
   refine (List.filter_eq_self.2 fun x hx=>?_).symm
   obtain ⟨k,hk,rfl⟩:=List.mem_iff_getElem.1 hx
   rw[List.length_take] at hk
   rw[List.getElem_take]
   have:=List.not_of_lt_findIdx (p:=p) (xs:=l) (i:=k) (by omega)
   simpa using this
  ·exact xSb
  rintro ⟨i,j,cs⟩ ⟨h1,h2,h3,h4,h5⟩
  simp only at h1 h2 h3 h4 h5
  by_cases hc:j<l.length
  ·have g1:decide ((j:Int)<(l.length:Int))=true:=decide_eq_true (by omega)
   have q1:(0:Int)≤(j:Int):=by omega
   have q2:(j:Int)<(l.length:Int):=by omega
   have q3:j<cs.length:=by omega
   have q4:(0:Int)≤(i:Int):=by omega
   have q5:(i:Int)<(l.length:Int):=by omega
   have q6:i+1≤cs.length:=by omega
   have ej:cs.getD j []=l.getD j []:=by
    have h:=congrArg (fun l=>l[0]?) h5
    simp only[List.getElem?_drop,Nat.add_zero] at h
    rw[List.getD_eq_getElem?_getD,List.getD_eq_getElem?_getD,h]
   have hm:l.getD j []∈l:=by rw[ar hc];exact List.getElem_mem hc
   have e3:IntKind.i64.wrap ((j:Int)+1)=((j+1:Nat):Int):=by rw[IntWalk.i64_in _ (by omega)];omega
   have e4:IntKind.i64.wrap ((i:Int)+1)=((i+1:Nat):Int):=by rw[IntWalk.i64_in _ (by omega)];omega
   have hd:cs.drop (j+1)=l.drop (j+1):=by
    have h:=congrArg (List.drop 1) h5
    simpa only[List.drop_drop,Nat.add_comm] using h
   refine an0 (cj7 g1 q1 q2 @Int.toNat_natCast @Nat.mul_one (zV cs j q3) ej) ?_
   refine aa.lF (by simp only[go_sem]) (by simp only[go_sem,reduceIte,Nat.reduceEqDiff];exact rfl) hf hb hn xA4 (hp _ hm) ?_
   refine aa.eval xA1 ?_
   refine aa.nil ⟨by trivial,?_⟩
   have hfs:=mE (p:=p) hc
   cases hq:p (l.getD j []) with
   |true=>
    refine an0 e3 ?_
    refine ⟨(i,j+1,cs),⟨by simp only;omega,by simp only;omega,h3,?_,hd⟩,by simp only;omega,?_⟩
    ·simp only;rw[hfs,hq,if_pos rfl,List.append_nil];exact h4
    ·exact xSu
   |false=>
    refine an0 (cj8 e3 e4 q4 q5 q6 @Int.toNat_natCast @Nat.mul_one @xG) ?_
    have hti:(cs.take i).length=i:=by simp;omega
    refine ⟨(i+1,j+1,cs.take i++l.getD j []::cs.drop (i+1)),⟨by simp only;omega,by simp only;omega,by simp only[List.length_append,List.length_cons,List.length_take,List.length_drop];omega,?_,?_⟩,by simp only;omega,?_⟩
    ·simp only
     rw[hfs,hq,if_neg (by simp),←h4,List.take_append,hti,List.take_of_length_le (by omega),Nat.add_sub_cancel_left]
     rfl
    ·simp only
     rw[List.drop_append,hti,List.drop_eq_nil_of_le (by omega),List.nil_append,show j+1 - i=(j - i)+1 by omega,List.drop_succ_cons,List.drop_drop,←hd]
     congr 1;omega
    ·refine aU.tmN (by omega) (OLe.at (by simp[upd,ag,strs,List.map_append,List.map_cons,List.map_take,List.map_drop])) (by simp only[aC,go_sem,reduceIte,Nat.reduceEqDiff,Nat.reduceAdd,bx,strs,List.map_append,List.map_cons,List.map_take,List.map_drop];and_intros<;>first|exact trivial|exact ab.refl _|exact ab.any _|(refine ab.int ?_;omega))
  ·obtain rfl:j=l.length:=by omega
   have g1:decide ((l.length:Int)<(l.length:Int))=false:=decide_eq_false (by omega)
   have q4:(0:Int)≤(i:Int):=by omega
   have q5:(i:Int)≤(l.length:Int):=by omega
   have q6:¬(l.length - i=0):=by omega
   have q7:i+(l.length - i)≤l.length:=by omega
   have q8:(strs cs).length=l.length:=by rw[ao,h3]
   have q9:(0:Int)≤(l.length:Int):=by omega
   rw[List.take_length] at h4
   refine an0 (bD g1 q4 q5 q6 q7 q8 q9 @Int.toNat_natCast @Nat.mul_one @Int.le_refl @Nat.sub_zero @Option.map_none.{0,0}) ?_
   refine Wp.ret ⟨trivial,_,rfl,?_⟩
   simp only[go_sem,reduceIte,Nat.reduceEqDiff,Nat.reduceAdd,bx,unT]
   simp only[H.only,upd,if_true,and_self,List.drop_zero]
   have hti:(List.take i (strs cs)).length=i:=by rw[List.length_take,q8];omega
   rw[if_pos (by rw[List.append_assoc,List.length_append,hti];omega),List.append_assoc,List.take_append_of_le_length (by omega),List.take_take,Nat.min_self,←h4]
   exact ab.of_eq (by rw[strs,←List.map_take];rfl)
def jr (l:List Sp) (i:Nat):Bool:=hasB (l.getD i default)&&(decide (i=0)||bc (l.getD (i - 1) default) (l.getD i default))
def kOk (k:List Bs) (l:List Sp) (i:Nat):Bool:=(decide (i=0)||Op.bytesLess (k.getD (i - 1) []) (k.getD i []))&& !aR l (k.getD i [])
def mF (l:List Sp):Bool:=(List.range l.length).all (jr l)
def nJ (k:List Bs) (l:List Sp):Bool:=(List.range k.length).all (kOk k l)
def bg (k:List Bs) (l:List Sp):Bool:=decide (k.length≤64)&&decide (l.length≤64)&&mF l&&nJ k l
theorem eM {p:Nat→Bool} {n j:Nat} (h:j<n) (hp:p j=false):(List.range n).all p=false:=List.all_eq_false.2 ⟨j,List.mem_range.2 h,by simp[hp]⟩
theorem eI {p:Nat→Bool} {n:Nat} (h:∀i,i<n→p i=true):(List.range n).all p=true:=List.all_eq_true.2 fun i hi=>h i (List.mem_range.1 hi)
theorem fY (k:List Bs) (l:List Sp):aA Tryz.prog 91 [bT k l] (.int .i64 (if bg k l then 0 else 4)):=by
 refine f91.aD (by simp) (by simp[al,cJ]) rfl ?_
 unfold c91
 simp only[C.zz]
 refine Wp.aw (by simp only[go_sem,reduceIte,Nat.reduceEqDiff,Nat.reduceAdd,bx,bT];exact rfl) (by trivial) ?_
 refine Wp.frz (fun _=>true) [(1,.ref [.sl 1 (strs k) .any,.sl 2 (sps l) .any])] ⟨ag,1,[],0⟩ ?_ (OLe.none _) (by simp) (by simp[go_sem]) (Nat.le_refl _) ?_
 ·simp only[aC,go_sem,reduceIte,Nat.reduceEqDiff,unT,and_true]
  exact ab.refl _
 by_cases b1:k.length≤64
 rotate_left
 ·have d1:decide ((64:Int)<(k.length:Int))=true:=decide_eq_true (by omega)
  refine an0 (cj2 d1 @ao) ?_
  refine aJ ?_
  simp only[bg,decide_eq_false b1,Bool.false_and,Bool.false_eq_true,if_false]
  exact ab.refl _
 have d1:decide ((64:Int)<(k.length:Int))=false:=decide_eq_false (by omega)
 by_cases b2:l.length≤64
 rotate_left
 ·have d2:decide ((64:Int)<(l.length:Int))=true:=decide_eq_true (by omega)
  refine an0 (cj4 d1 d2 @ao @az) ?_
  refine aJ ?_
  simp only[bg,decide_eq_false b2,Bool.and_false,Bool.false_and,Bool.false_eq_true,if_false]
  exact ab.refl _
 have d2:decide ((64:Int)<(l.length:Int))=false:=decide_eq_false (by omega)
 refine an0 (cj4 d1 d2 @ao @az) ?_
 refine Wp.uq [1,18,19] (by simp only[go_sem,reduceIte,Nat.reduceEqDiff,List.map,az];exact rfl) (fun j:Nat=>[(20,.int .i64 j)]) (fun j=>j≤l.length∧∀i,i<j→jr l i=true) (fun j=>l.length - j) 0 ⟨Nat.zero_le _,fun i h=>absurd h (by omega)⟩ ?_ ?_
 ·exact xSb
 rintro j n hn ⟨hj,hs⟩
 by_cases hc:j<l.length
 ·have g1:decide ((j:Int)<(l.length:Int))=true:=decide_eq_true (by omega)
  have h2:(0:Int)≤(j:Int):=by omega
  have h3:(j:Int)<(l.length:Int):=by omega
  have e1:IntKind.i64.wrap ((j:Int)+1)=((j+1:Nat):Int):=by rw[IntWalk.i64_in _ (by omega)];omega
  have key:∀{b:Bool},jr l j=b→(b=true→∀i,i<j+1→jr l i=true)∧(b=false→bg k l=false):=by
   intro b hb
   refine ⟨fun h i hi=>?_,fun h=>?_⟩
   ·by_cases e:i=j
    ·subst e;rw[hb,h]
    ·exact hs i (by omega)
   ·have:mF l=false:=eM hc (hb.trans h)
    simp[bg,this]
  cases ha:hasB (l.getD j default) with
  |false=>
   have q:=(key (b:=false) (by simp only[jr,ha,Bool.false_and])).2 rfl
   refine an1 (cj9 g1 h2 h3 e1 @az @Int.toNat_natCast (fun d=>bt _ _ d hc) @aX.eq_1 ha) (pd (l.getD j default)) ?_
   refine aJ ?_
   simp only[q,Bool.false_eq_true,if_false]
   exact ab.refl _
  |true=>
   by_cases hz:j=0
   ·have g2:decide ((0:Int)<(j:Int))=false:=decide_eq_false (by omega)
    have q:=(key (b:=true) (by simp only[jr,ha,hz,decide_true,Bool.true_or,Bool.and_self] at ha ⊢;simp only[ha,Bool.and_self])).1 rfl
    refine an1 (fR g1 g2 h2 h3 e1 @az @Int.toNat_natCast (fun d=>bt _ _ d hc) @aX.eq_1 ha) (pd (l.getD j default)) ?_
    refine ⟨j+1,n+1,by omega,⟨by omega,q⟩,by omega,?_⟩
    refine aU.tmN (by omega) (OLe.none _) (by simp only[aC,go_sem,reduceIte,Nat.reduceEqDiff,Nat.reduceAdd,bx];and_intros<;>first|exact trivial|exact ab.refl _|exact ab.any _|(refine ab.int ?_;omega))
   ·have g2:decide ((0:Int)<(j:Int))=true:=decide_eq_true (by omega)
    have e2:IntKind.i64.wrap ((j:Int) - 1)=((j - 1:Nat):Int):=by rw[IntWalk.i64_in _ (by omega)];omega
    have h4:(0:Int)≤((j - 1:Nat):Int):=by omega
    have h5:((j - 1:Nat):Int)<(l.length:Int):=by omega
    have h6:j - 1<l.length:=by omega
    have hq:jr l j=bc (l.getD (j - 1) default) (l.getD j default):=by simp only[jr,ha,decide_eq_false hz,Bool.true_and,Bool.false_or]
    cases hp:bc (l.getD (j - 1) default) (l.getD j default) with
    |true=>
     have q:=(key (hq.trans hp)).1 rfl
     refine an2 (bD g1 g2 h2 h3 h4 h5 e1 e2 @az @Int.toNat_natCast (fun d=>bt _ _ d hc) (cj4 (fun d=>bt _ _ d h6) @aX.eq_1 ha hp)) (pd (l.getD j default)) (fZ (l.getD (j - 1) default) (l.getD j default)) ?_
     refine ⟨j+1,n+1,by omega,⟨by omega,q⟩,by omega,?_⟩
     refine aU.tmN (by omega) (OLe.none _) (by simp only[aC,go_sem,reduceIte,Nat.reduceEqDiff,Nat.reduceAdd,bx];and_intros<;>first|exact trivial|exact ab.refl _|exact ab.any _|(refine ab.int ?_;omega))
    |false=>
     have q:=(key (hq.trans hp)).2 rfl
     refine an2 (bD g1 g2 h2 h3 h4 h5 e1 e2 @az @Int.toNat_natCast (fun d=>bt _ _ d hc) (cj4 (fun d=>bt _ _ d h6) @aX.eq_1 ha hp)) (pd (l.getD j default)) (fZ (l.getD (j - 1) default) (l.getD j default)) ?_
     refine aJ ?_
     simp only[q,Bool.false_eq_true,if_false]
     exact ab.refl _
 obtain rfl:j=l.length:=by omega
 have g1:decide ((l.length:Int)<(l.length:Int))=false:=decide_eq_false (by omega)
 have hsp:mF l=true:=eI hs
 refine an0 (cj2 g1 @ao) ?_
 refine Wp.uq [1,45,46] (by simp only[go_sem,reduceIte,Nat.reduceEqDiff,List.map,ao];exact rfl) (fun j:Nat=>[(47,.int .i64 j)]) (fun j=>j≤k.length∧∀i,i<j→kOk k l i=true) (fun j=>k.length - j) 0 ⟨Nat.zero_le _,fun i h=>absurd h (by omega)⟩ ?_ ?_
 ·exact xSb
 rintro j n' hn' ⟨hj,hs'⟩
 by_cases hc:j<k.length
 ·have g1:decide ((j:Int)<(k.length:Int))=true:=decide_eq_true (by omega)
  have h2:(0:Int)≤(j:Int):=by omega
  have h3:(j:Int)<(k.length:Int):=by omega
  have e1:IntKind.i64.wrap ((j:Int)+1)=((j+1:Nat):Int):=by rw[IntWalk.i64_in _ (by omega)];omega
  have key:∀{b:Bool},kOk k l j=b→(b=true→∀i,i<j+1→kOk k l i=true)∧(b=false→bg k l=false):=by
   intro b hb
   refine ⟨fun h i hi=>?_,fun h=>?_⟩
   ·by_cases e:i=j
    ·subst e;rw[hb,h]
    ·exact hs' i (by omega)
   ·have:nJ k l=false:=eM hc (hb.trans h)
    simp[bg,this]
  have go:∀g:Bool,((decide (j=0)||Op.bytesLess (k.getD (j - 1) []) (k.getD j []))=g)→kOk k l j=(g&& !aR l (k.getD j [])):=fun g hg=>by simp only[kOk,hg]
  by_cases hz:j=0
  ·have g2:decide ((0:Int)<(j:Int))=false:=decide_eq_false (by omega)
   have hg:=go true (by simp[hz])
   cases hp:aR l (k.getD j []) with
   |true=>
    have q:=(key (b:=false) (by rw[hg,hp];rfl)).2 rfl
    refine an1 (cj9 g1 g2 h2 h3 e1 @ao @Int.toNat_natCast (fun d=>aV _ _ d hc) hp) (gg l (by omega) (k.getD j [])) ?_
    refine aJ ?_
    simp only[q,Bool.false_eq_true,if_false]
    exact ab.refl _
   |false=>
    have q:=(key (b:=true) (by rw[hg,hp];rfl)).1 rfl
    refine an1 (cj9 g1 g2 h2 h3 e1 @ao @Int.toNat_natCast (fun d=>aV _ _ d hc) hp) (gg l (by omega) (k.getD j [])) ?_
    refine ⟨j+1,n',by omega,⟨by omega,q⟩,by omega,?_⟩
    refine aU.tmN (by omega) (OLe.none _) (by simp only[aC,go_sem,reduceIte,Nat.reduceEqDiff,Nat.reduceAdd,bx];and_intros<;>first|exact trivial|exact ab.refl _|exact ab.any _|(refine ab.int ?_;omega))
  ·have g2:decide ((0:Int)<(j:Int))=true:=decide_eq_true (by omega)
   have e2:IntKind.i64.wrap ((j:Int) - 1)=((j - 1:Nat):Int):=by rw[IntWalk.i64_in _ (by omega)];omega
   have h4:(0:Int)≤((j - 1:Nat):Int):=by omega
   have h5:((j - 1:Nat):Int)<(k.length:Int):=by omega
   have h6:j - 1<k.length:=by omega
   have hg:=go _ (show _=Op.bytesLess (k.getD (j - 1) []) (k.getD j []) by simp[hz])
   cases hp:Op.bytesLess (k.getD (j - 1) []) (k.getD j []) with
   |false=>
    have q:=(key (b:=false) (by rw[hg,hp];rfl)).2 rfl
    refine an0 (bD g1 g2 h2 h3 h4 h5 e1 e2 @ao @Int.toNat_natCast (fun d=>aV _ _ d hc) (cj2 (fun d=>aV _ _ d h6) hp)) ?_
    refine aJ ?_
    simp only[q,Bool.false_eq_true,if_false]
    exact ab.refl _
   |true=>
    cases hp2:aR l (k.getD j []) with
    |true=>
     have q:=(key (b:=false) (by rw[hg,hp,hp2];rfl)).2 rfl
     refine an1 (bD g1 g2 h2 h3 h4 h5 e1 e2 @ao @Int.toNat_natCast (fun d=>aV _ _ d hc) (cj3 (fun d=>aV _ _ d h6) hp hp2)) (gg l (by omega) (k.getD j [])) ?_
     refine aJ ?_
     simp only[q,Bool.false_eq_true,if_false]
     exact ab.refl _
    |false=>
     have q:=(key (b:=true) (by rw[hg,hp,hp2];rfl)).1 rfl
     refine an1 (bD g1 g2 h2 h3 h4 h5 e1 e2 @ao @Int.toNat_natCast (fun d=>aV _ _ d hc) (cj3 (fun d=>aV _ _ d h6) hp hp2)) (gg l (by omega) (k.getD j [])) ?_
     refine ⟨j+1,n',by omega,⟨by omega,q⟩,by omega,?_⟩
     refine aU.tmN (by omega) (OLe.none _) (by simp only[aC,go_sem,reduceIte,Nat.reduceEqDiff,Nat.reduceAdd,bx];and_intros<;>first|exact trivial|exact ab.refl _|exact ab.any _|(refine ab.int ?_;omega))
 obtain rfl:j=k.length:=by omega
 have g1:decide ((k.length:Int)<(k.length:Int))=false:=decide_eq_false (by omega)
 have hk:nJ k l=true:=eI hs'
 refine an0 g1 ?_
 refine aJ ?_
 simp only[bg,decide_eq_true b1,decide_eq_true b2,hsp,hk,Bool.and_self,if_true]
 exact ab.refl _
end Go.Proofs.YtpehfflehebmbaaGreat.Reads
end
section
set_option maxRecDepth 10000
namespace Go.Proofs.YtpehfflehebmbaaGreat.Reads
open Go Go.Av Go.Proofs Go.Proofs.YtpehfflehebmbaaGreat.C Go.Lib Go.RowKit
def bj:Go.Shelf.Ren:=⟨fun|22=>90|29=>128|30=>129|36=>139|17=>142|n=>n,fun|24=>38|9=>9|3=>3|4=>4|0=>0|n=>n,fun|n=>n⟩
theorem kB:Lays2.n22 Tryz.prog bj where
 mixed:=by kernel_rfl
 f17:=Tryz.func142.trans (congrArg some (by kernel_rfl))
 f22:=Tryz.func90.trans (congrArg some (by kernel_rfl))
 f29:=Tryz.func128.trans (congrArg some (by kernel_rfl))
 f30:=Tryz.func129.trans (congrArg some (by kernel_rfl))
 f36:=Tryz.func139.trans (congrArg some (by kernel_rfl))
 t0:=Tryz.underlying0
 a0:=Tryz.isAgg0
 z0:=Tryz.sizeOf0
 v0:=Tryz.zeroValue0
 t3:=Tryz.underlying3
 a3:=Tryz.isAgg3
 z3:=Tryz.sizeOf3
 v3:=Tryz.zeroValue3
 t4:=Tryz.underlying4
 a4:=Tryz.isAgg4
 z4:=Tryz.sizeOf4
 v4:=Tryz.zeroValue4
 t9:=Tryz.underlying9
 a9:=Tryz.isAgg9
 z9:=Tryz.sizeOf9
 v9:=Tryz.zeroValue9
 t24:=Tryz.underlying38
 a24:=Tryz.isAgg38
 z24:=Tryz.sizeOf38
 v24:=Tryz.zeroValue38
 i9:=by kernel_rfl
def sv (l:List (List UInt8)):List Value:=l.map fun s=> .string ⟨s.toArray⟩
theorem eg (l:List (List UInt8)):(sv l).length=l.length:=by simp[sv]
theorem ux {G:aI} {w:World}:∀{l:List (List UInt8)} {vs:List Value},aq G w (strs l) vs→vs=sv l
 |[],vs,h=>by simpa [strs,aq,sv] using h
 |s::l,vs,h=>by
  simp only[strs,List.map_cons,aq,ah] at h
  obtain ⟨v,us,rfl,rfl,h⟩:=h
  rw[ux (l:=l) h]
  rfl
theorem jR (l:List (List UInt8)) (G:aI) (w:World):aq G w (strs l) (sv l):=by
 induction l with
 |nil=>simp[strs,sv,aq]
 |cons s l ih=>
  simp only[strs,sv,List.map_cons,aq]
  exact ⟨.string ⟨s.toArray⟩,sv l,rfl,by simp[ah],ih⟩
theorem lN {l:List (List UInt8)} {v:Value} (h:v∈sv l):One v:=by
 obtain ⟨s,_,rfl⟩:=List.mem_map.1 h
 exact ⟨(fun _ e=>by cases e),(fun _ e=>by cases e)⟩
theorem uy {l:List (List UInt8)} {v:Value} (h:v∈sv l):v.oneCell'=true:=by
 obtain ⟨s,_,rfl⟩:=List.mem_map.1 h
 rfl
theorem cell_of {w:World} {B:Nat} {T:TypeId} {fr:Nat × Nat} {L R:List Value} (hg:w.heap[B]? =some (.cells (L++R).toArray T fr)) (j:Nat) (v:Value) (h:L[j]? =some v):w.cell? ⟨B,0+j,none⟩=some v:=by
 have hj:=(List.getElem?_eq_some_iff.1 h).1
 unfold World.cell?
 simp only[hg,Nat.zero_add]
 simpa [List.getElem?_append_left hj] using h
theorem jS (l:List (List UInt8)) (i:Nat) (x:List UInt8):sv (l.take i++x::l.drop i)=(sv l).take i++ .string ⟨x.toArray⟩::(sv l).drop i:=by simp[sv]
theorem zX {A R:List Value} {X:Value} {n:Nat} (hn:A.length=n):(A++R).take (0+n)++[X]++(A++R).drop (0+n+1)=A.take n++X::A.drop n++R.drop 1:=by
 subst hn
 rw[Nat.zero_add,List.take_left,List.take_length,List.drop_length,List.drop_append,List.drop_eq_nil_of_le (by omega)]
 simp
theorem zY {A R:List Value} {X:Value} {n i:Nat} (hn:A.length=n) (hi:i<n):
  ((A++R).take (0+(i+1))++A.drop i++(A++R).drop (0+(i+1)+(A.drop i).length)).take (0+i)++[X]++((A++R).take (0+(i+1))++A.drop i++(A++R).drop (0+(i+1)+(A.drop i).length)).drop (0+i+1)=A.take i++X::A.drop i++(A++R).drop (n+1):=by
 subst hn
 have e2:((A++R).take (i+1)).length=i+1:=by simp;omega
 have e1:((A++R).take (i+1)).take i=A.take i:=by
  rw[List.take_take,Nat.min_eq_left (by omega),List.take_append_of_le_length (by omega)]
 have e3:i+1+(A.drop i).length=A.length+1:=by simp;omega
 rw[Nat.zero_add,Nat.zero_add,e3]
 have c1:((A++R).take (i+1)++A.drop i++(A++R).drop (A.length+1)).take i=A.take i:=by
  rw[List.append_assoc,List.take_append_of_le_length (by omega),e1]
 have c2:((A++R).take (i+1)++A.drop i++(A++R).drop (A.length+1)).drop (i+1)=A.drop i++(A++R).drop (A.length+1):=by
  rw[List.append_assoc,List.drop_append,e2,List.drop_eq_nil_of_le (by omega),Nat.sub_self,List.drop_zero,List.nil_append]
 rw[c1,c2]
 simp
theorem xH {A Z:List Value} {X:Value} {n i:Nat} (hn:A.length=n) (hi:i<n):
  ((A.take i++Z).take i++[X]++(A.take i++Z).drop (i+1)).take (i+1)++A.drop i++((A.take i++Z).take i++[X]++(A.take i++Z).drop (i+1)).drop (i+1+(A.drop i).length)=A.take i++X::A.drop i++((A.take i++Z).take i++[X]++(A.take i++Z).drop (i+1)).drop (i+1+(A.drop i).length):=by
 subst hn
 have e2:(A.take i).length=i:=by simp;omega
 have e1:(A.take i++Z).take i=A.take i:=by
  rw[List.take_append_of_le_length (by omega),List.take_take,Nat.min_self]
 have e4:((A.take i++Z).take i++[X]++(A.take i++Z).drop (i+1)).take (i+1)=A.take i++[X]:=by
  rw[e1,List.take_append_of_le_length (by simp;omega),List.take_of_length_le (by simp;omega)]
 rw[e4]
 simp
theorem kS {w:World} {n old:Nat} {e:TypeId} (h:n≤1099511627777):grownCap w n old e≤9223372036854775807:=by
 have:=Nat.mod_lt (w.tape w.drawn (.appendCap n old e)) (show 0<2^63 - n by omega)
 simp only[grownCap,Question.cut]
 omega
theorem nK (l:List (List UInt8)) (i:Nat) (x:List UInt8) (hi:i≤l.length) (hl:l.length<1099511627776) (h0:0<l.length) {id id2:Nat} (hne:id≠id2) {h:H} (ho:h.objs id=some (.cells (strs l))) (ho2:h.objs id2=some (.cells [.str x])) (htk:h.toks=[]):
  bn Tryz.prog 90 [.tsl 1 id 0 l.length none,.int .i64 i,.tsl 1 id2 0 1 none] h (.tsl 1 h.n 0 (l.length+1) none) (h.aZ id (.cells (strs (l.take i++x::l.drop i)))):=by
 intro G w vs hv R F
 simp only[aq,ah] at hv
 obtain ⟨v1,_,rfl,⟨hd1,hv1⟩,v2,_,rfl,rfl,v3,_,rfl,⟨hd2,hv3⟩,rfl⟩:=hv
 obtain ⟨C,c,T,fr,rfl,⟨hnC,hc63⟩,-,hg,hroom⟩|⟨hz,-⟩:=hv1
 rotate_left
 ·omega
 obtain ⟨C2,c2,T2,fr2,rfl,⟨hnC2,-⟩,-,hg2,hroom2⟩|⟨hz,-⟩:=hv3
 rotate_left
 ·omega
 obtain ⟨-,hown,hB,us,rest,T',fr',hg',hvs,hfr,-⟩:=R.obj id _ ho
 obtain ⟨-,hown2,hB2,us2,rest2,T2',fr2',hg2',hvs2,hfr2,-⟩:=R.obj id2 _ ho2
 have hus:=ux hvs
 subst hus
 have hus2:us2=[.string ⟨x.toArray⟩]:=by
  simp only[aq,ah] at hvs2
  obtain ⟨v,_,rfl,rfl,rfl⟩:=hvs2
  rfl
 subst hus2
 have hbb:G.ι id2≠G.ι id:=fun e=>hne (R.inj _ _ _ _ ho ho2 e.symm)
 rw[hg] at hg'
 obtain ⟨rfl,rfl,rfl⟩:c=(sv l++rest).toArray∧T=T'∧fr=fr':=by simpa using hg'
 rw[hg2] at hg2'
 obtain ⟨rfl,rfl,rfl⟩:c2=([Value.string ⟨x.toArray⟩]++rest2).toArray∧T2=T2'∧fr2=fr2':=by simpa using hg2'
 have hsl:=eg l
 have hrl:C≤l.length+rest.length:=by simpa [hsl] using hroom
 have hcs:∀(j:Nat) v,(sv l)[j]? =some v→w.cell? ⟨G.ι id,0+j,none⟩=some v:=fun j v=>cell_of hg j v
 have hvs':∀(j:Nat) v,([Value.string ⟨x.toArray⟩]:List Value)[j]? =some v→w.cell? ⟨G.ι id2,0+j,none⟩=some v:=fun j v=>cell_of hg2 j v
 have h1v:∀v∈([Value.string ⟨x.toArray⟩]:List Value),v.oneCell'=true:=by simp[Value.oneCell']
 have hsome:∀j,j<C→(w.cell? ⟨G.ι id,0+j,none⟩).isSome=true:=fun j hj=>by
  unfold World.cell?;simp only[hg];simp[hsl];omega
 have hfz:∀j,w.frozen? ⟨G.ι id,j,none⟩=false:=fun j=>by
  unfold World.frozen?;simp only[hg]
  have:=hfr
  simp;omega
 have hfz2:∀j,w.frozen? ⟨G.ι id2,j,none⟩=false:=fun j=>by
  unfold World.frozen?;simp only[hg2]
  have:=hfr2
  simp;omega
 have hfrn:¬G.dom h.n:=F.1 _ (Nat.le_refl _) (Nat.lt_succ_self _)
 have hout:(strs (l.take i++x::l.drop i)).length=l.length+1:=by simp[strs];omega
 have hso:(sv (l.take i++x::l.drop i)).length=l.length+1:=by rw[eg];simp;omega
 have newb:∀(w':World) (L2:List Value) (T0:TypeId) (C0:Nat),l.length+1≤C0→C0≤9223372036854775807→C0≤l.length+1+L2.length→w'.heap[w.heap.size]? =some (.cells (sv (l.take i++x::l.drop i)++L2).toArray T0 (0,0))→w.heap.size≤w'.heap.size→w'.os=w.os→w'.output=w.output→(∀b,b<w.heap.size→w'.heap[b]? =w.heap[b]?)→
   ∃v G',Ending.returned (.slice (some ⟨w.heap.size,0,none⟩) (l.length+1) C0)= .returned v∧Trans G w h G' w' (h.aZ id (.cells (strs (l.take i++x::l.drop i))))∧bf G' (h.aZ id (.cells (strs (l.take i++x::l.drop i)))) w'∧ah G' w' (.tsl 1 h.n 0 (l.length+1) none) v:=by
  intro w' L2 T0 C0 q1 q7 q8 q2 q3 q4 q5 q6
  obtain ⟨G',T1,R1,V⟩:=jM (B:=w.heap.size) (C:=C0) (w':=w') R ho htk hfrn q3 q4 q5 (fun b hb _=>q6 b hb) (by rw[q6 _ hB];exact bE.refl _) (.inr (Nat.le_refl _)) ⟨by rw[hout];exact q1,q7⟩ (by rw[hso,hout]) (jR _) (fun v hv=>lN hv) q2 (by rw[hso];exact q8) rfl
  exact ⟨_,G',rfl,T1,R1,by rw[hout] at V;exact V⟩
 have inpl:∀(w':World) (L2:List Value),w'.heap[G.ι id]? =some (.cells (sv (l.take i++x::l.drop i)++L2).toArray T fr)→(sv (l.take i++x::l.drop i)++L2).length=(sv l++rest).length→w'.heap.size=w.heap.size→w'.os=w.os→w'.output=w.output→(∀b,b≠G.ι id→w'.heap[b]? =w.heap[b]?)→l.length+1≤C→
   ∃v G',Ending.returned (.slice (some ⟨G.ι id,0,none⟩) (l.length+1) C)= .returned v∧Trans G w h G' w' (h.aZ id (.cells (strs (l.take i++x::l.drop i))))∧bf G' (h.aZ id (.cells (strs (l.take i++x::l.drop i)))) w'∧ah G' w' (.tsl 1 h.n 0 (l.length+1) none) v:=by
  intro w' L2 q1 q2 q3 q4 q5 q6 q7
  obtain ⟨G',T1,R1,V⟩:=jM (B:=G.ι id) (C:=C) (w':=w') R ho htk hfrn (Nat.le_of_eq q3.symm) q4 q5 (fun b _ hb=>q6 b hb) (by rw[hg,q1];exact ⟨_,_,rfl,by simpa using q2,fun _ _ h=>h⟩) (.inl rfl) ⟨by rw[hout];exact q7,hc63⟩ (by rw[hso,hout]) (jR _) (fun v hv=>lN hv) q1 (by rw[List.length_append,List.length_append,hsl] at q2;omega) hfr
  exact ⟨_,G',rfl,T1,R1,by rw[hout] at V;exact V⟩
 by_cases hfit:l.length+1≤C
 ·by_cases hie:i=l.length
  ·subst hie
   refine (Any2.slices_Insert_string_end_room kB (G.ι id) 0 l.length C (G.ι id2) 0 1 C2 [.string ⟨x.toArray⟩] w (by omega) hfit hc63 rfl (fun j hj=>by have:=hsome (l.length+j) (by omega);rwa [←Nat.add_assoc] at this) (fun j hj=>hfz _) hvs' h1v).mono ?_
   rintro e w' ⟨rfl,rfl⟩
   obtain ⟨a1,a2,a3,a4,a5⟩:=bX (G.ι id) T fr [.string ⟨x.toArray⟩] (0+l.length) (sv l++rest) w hg (by simp[hsl];omega)
   refine inpl _ (rest.drop 1) ?_ ?_ a3 a4 a5 a2 hfit
   ·rw[a1,jS,List.length_singleton,zX hsl]
   ·rw[List.length_append,List.length_append,hso,hsl,List.length_drop];omega
  ·have hlt:i<l.length:=by omega
   refine (Any2.slices_Insert_string_shift kB (G.ι id) 0 l.length C i (G.ι id2) 0 1 C2 (sv l) [.string ⟨x.toArray⟩] w hlt (by omega) hfit hc63 hbb hsl rfl hcs (fun j hj=>hsome j (by omega)) (fun j hj=>hfz _) hvs' (fun v hv=>uy hv) h1v T2 T ([Value.string ⟨x.toArray⟩]++rest2).toArray.size (sv l++rest).toArray.size (by unfold World.shape?;simp only[hg2]) (by unfold World.shape?;simp only[hg]) (by rw[List.size_toArray,List.length_append,hsl];omega) (hfz2 _) (hfz2 _)).mono ?_
   rintro e w' ⟨rfl,rfl⟩
   obtain ⟨a1,a2,a3,a4,a5⟩:=bX (G.ι id) T fr ((sv l).drop i) (0+(i+1)) (sv l++rest) w.drew hg (by simp[hsl];omega)
   obtain ⟨b1,b2,b3,b4,b5⟩:=bX (G.ι id) T fr [.string ⟨x.toArray⟩] (0+i) _ _ a1 (by simp[hsl];omega)
   refine inpl _ ((sv l++rest).drop (l.length+1)) ?_ ?_ (b3.trans a3) (b4.trans a4) (b5.trans a5) (fun b hb=>(b2 b hb).trans (a2 b hb)) hfit
   ·rw[b1,jS,List.length_singleton,zY hsl hlt]
   ·rw[List.length_append,hso,List.length_drop,List.length_append,hsl];omega
 ·have hCl:C=l.length:=by omega
  subst hCl
  have hbig:(l.length+1)*16≤140737488355328:=by omega
  have hgc:∀e,l.length+1≤grownCap w (l.length+1) l.length e:=fun e=>by simp[grownCap,Question.cut]
  by_cases hie:i=l.length
  ·subst hie
   refine (Any2.slices_Insert_string_end_grow kB (some ⟨G.ι id,0,none⟩) l.length l.length (G.ι id2) 0 1 C2 (sv l) [.string ⟨x.toArray⟩] w (by omega) (Nat.le_refl _) (by omega) hbig hsl rfl (fun e=>by cases e) (fun a ha j v hj=>by cases ha;rw[Addr.add_lit];exact hcs j v hj) hvs' h1v).mono ?_
   rintro e w' ⟨rfl,rfl⟩
   have hgc':=hgc (bj.t 9)
   have hgl:grownCap w (l.length+1) l.length (bj.t 9)≤9223372036854775807:=kS (by omega)
   generalize grownCap w (l.length+1) l.length (bj.t 9)=C0 at hgc' hgl ⊢
   have hZs:(Builtin.zeroCells (Value.string ⟨#[]⟩).cells (C0 - (l.length+1))).toList.length=C0 - (l.length+1):=by
    have hz:(Value.string ⟨#[]⟩).cells.size=1:=rfl
    generalize (Value.string ⟨#[]⟩).cells=zc at hz
    simp[Builtin.zeroCells,hz]
   generalize Builtin.zeroCells (Value.string ⟨#[]⟩).cells (C0 - (l.length+1))=Zc at hZs ⊢
   refine newb _ Zc.toList (bj.t 9) _ hgc' hgl (by omega) ?_ ?_ rfl rfl ?_
   ·show (w.heap.push _)[w.heap.size]? =_
    rw[Array.getElem?_push_size]
    refine congrArg some (congrArg (fun c=>Go.Obj.cells c _ (0,0)) (Array.ext' ?_))
    simp only[Array.toList_append,jS,←hsl,List.take_length,List.drop_length]
   ·show _≤(w.heap.push _).size
    rw[Array.size_push];omega
   ·intro b hb
    show (w.heap.push _)[b]? =_
    rw[Array.getElem?_push,if_neg (Nat.ne_of_lt hb)]
  ·have hlt:i<l.length:=by omega
   refine (Any2.slices_Insert_string_grow kB (G.ι id) 0 l.length l.length i (G.ι id2) 0 1 C2 (sv l) [.string ⟨x.toArray⟩] w hlt (by omega) (Nat.le_refl _) (by omega) hbig hsl rfl hcs hvs' (fun v hv=>uy hv) h1v).mono ?_
   rintro e w' ⟨rfl,rfl⟩
   generalize hC0:grownCap w (l.length+1) l.length (bj.t 9)=C0
   have hC1:l.length+1≤C0:=hC0▸hgc _
   have hC2:C0≤9223372036854775807:=hC0▸kS (by omega)
   generalize hA:w.alloc (.cells (((sv l).take i).toArray++Builtin.zeroCells (Value.string ⟨#[]⟩).cells (l.length+1 - i)++Builtin.zeroCells (Value.string ⟨#[]⟩).cells (C0 - (l.length+1))) (bj.t 9))=A0
   obtain ⟨Z,hZl,g1⟩:∃Z:List Value,Z.length=C0 - i∧A0.drew.heap[w.heap.size]? =some (.cells ((sv l).take i++Z).toArray (bj.t 9) (0,0)):=by
    refine ⟨(Builtin.zeroCells (Value.string ⟨#[]⟩).cells (l.length+1 - i)++Builtin.zeroCells (Value.string ⟨#[]⟩).cells (C0 - (l.length+1))).toList,?_,?_⟩
    ·have hz:(Value.string ⟨#[]⟩).cells.size=1:=rfl
     generalize (Value.string ⟨#[]⟩).cells=zc at hz
     simp[Builtin.zeroCells,hz];omega
    ·subst hA
     show (w.heap.push _)[w.heap.size]? =_
     rw[Array.getElem?_push_size]
     refine congrArg some (congrArg (fun c=>Go.Obj.cells c _ (0,0)) (Array.ext' ?_))
     simp only[Array.toList_append,List.append_assoc]
   have k3:A0.heap.size=w.heap.size+1:=by
    rw[←hA]
    show (w.heap.push _).size=_
    rw[Array.size_push]
   have k4:A0.os=w.os:=by rw[←hA];rfl
   have k5:A0.output=w.output:=by rw[←hA];rfl
   have k2:∀b,b<w.heap.size→A0.heap[b]? =w.heap[b]? :=fun b hb=>by
    rw[←hA]
    show (w.heap.push _)[b]? =_
    rw[Array.getElem?_push,if_neg (Nat.ne_of_lt hb)]
   clear hA
   have hT':((sv l).take i).length=i:=by rw[List.length_take,hsl];omega
   have hD:((sv l).drop i).length=l.length - i:=by rw[List.length_drop,hsl]
   obtain ⟨a1,a2,a3,a4,a5⟩:=bX w.heap.size _ (0,0) [.string ⟨x.toArray⟩] i _ A0.drew g1 (by rw[List.length_append,hT',hZl,List.length_singleton];omega)
   obtain ⟨b1,b2,b3,b4,b5⟩:=bX w.heap.size _ (0,0) ((sv l).drop i) (i+1) _ (World.setCells A0.drew w.heap.size i [.string ⟨x.toArray⟩]).drew a1 (by simp only[List.length_append,List.length_take,List.length_drop,hsl,hZl,List.length_singleton];omega)
   rw[List.length_singleton,xH hsl hlt,←jS] at b1
   refine newb _ _ _ _ hC1 hC2 (by simp only[List.length_append,List.length_take,List.length_drop,List.length_singleton,hsl,hZl];omega) b1 ?_ ?_ ?_ ?_
   ·rw[b3];show _≤(World.setCells A0.drew _ _ _).heap.size;rw[a3];show _≤A0.heap.size;omega
   ·rw[b4];show (World.setCells A0.drew _ _ _).os=_;rw[a4];exact k4
   ·rw[b5];show (World.setCells A0.drew _ _ _).output=_;rw[a5];exact k5
   ·intro b hb
    rw[b2 b (Nat.ne_of_lt hb)];show (World.setCells A0.drew _ _ _).heap[b]? =_
    rw[a2 b (Nat.ne_of_lt hb)]
    exact k2 b hb
theorem nL (x:List UInt8) {id2:Nat} {h:H} (ho2:h.objs id2=some (.cells [.str x])) (htk:h.toks=[]):
  bn Tryz.prog 90 [.sl 1 [] (.exact 0),.int .i64 0,.tsl 1 id2 0 1 none] h (.tsl 1 h.n 0 1 none) (h.aZ id2 (.cells (strs [x]))):=by
 intro G w vs hv R F
 simp only[aq] at hv
 obtain ⟨v1,_,rfl,hv1,v2,_,rfl,hv2,v3,_,rfl,hv3,rfl⟩:=hv
 have hbase:∃a0,v1= .slice a0 0 0:=by
  simp only[ah,cC] at hv1
  rcases hv1 with ⟨-,h,-⟩|⟨B,off,C,vs,q1,-,-,-,-,q6⟩
  ·exact h
  ·subst q6;exact ⟨_,by simpa using q1⟩
 obtain ⟨a0,rfl⟩:=hbase
 simp only[ah] at hv2 hv3
 subst hv2
 obtain ⟨hd2,hv3⟩:=hv3
 obtain ⟨C2,c2,T2,fr2,rfl,⟨hnC2,-⟩,-,hg2,hroom2⟩|⟨hz,-⟩:=hv3
 rotate_left
 ·omega
 obtain ⟨-,hown2,hB2,us2,rest2,T2',fr2',hg2',hvs2,hfr2,-⟩:=R.obj id2 _ ho2
 have hus2:us2=[.string ⟨x.toArray⟩]:=by
  simp only[aq,ah] at hvs2
  obtain ⟨v,_,rfl,rfl,rfl⟩:=hvs2
  rfl
 subst hus2
 rw[hg2] at hg2'
 obtain ⟨rfl,rfl,rfl⟩:c2=([Value.string ⟨x.toArray⟩]++rest2).toArray∧T2=T2'∧fr2=fr2':=by simpa using hg2'
 have hvs':∀(j:Nat) v,([Value.string ⟨x.toArray⟩]:List Value)[j]? =some v→w.cell? ⟨G.ι id2,0+j,none⟩=some v:=fun j v=>cell_of hg2 j v
 have h1v:∀v∈([Value.string ⟨x.toArray⟩]:List Value),v.oneCell'=true:=by simp[Value.oneCell']
 have key:=Any2.slices_Insert_string_end_grow kB a0 0 0 (G.ι id2) 0 1 C2 [] [.string ⟨x.toArray⟩] w (by omega) (Nat.le_refl _) (by omega) (by omega) rfl rfl (fun _=>rfl) (fun a ha j v hj=>by simp at hj) hvs' h1v
 refine key.mono ?_
 rintro e w' ⟨rfl,rfl⟩
 have hgc':0+1≤grownCap w (0+1) 0 (bj.t 9):=by simp[grownCap,Question.cut]
 have hgl:grownCap w (0+1) 0 (bj.t 9)≤9223372036854775807:=kS (by omega)
 generalize grownCap w (0+1) 0 (bj.t 9)=C0 at hgc' hgl ⊢
 have hZs:(Builtin.zeroCells (Value.string ⟨#[]⟩).cells (C0 - (0+1))).toList.length=C0 - (0+1):=by
  have hz:(Value.string ⟨#[]⟩).cells.size=1:=rfl
  generalize (Value.string ⟨#[]⟩).cells=zc at hz
  simp[Builtin.zeroCells,hz]
 generalize Builtin.zeroCells (Value.string ⟨#[]⟩).cells (C0 - (0+1))=Zc at hZs ⊢
 have hs:(w.drew.alloc (.cells (([]++[Value.string ⟨x.toArray⟩]).toArray++Zc) (bj.t 9))).heap.size=w.heap.size+1:=by
  show (w.heap.push _).size=_
  rw[Array.size_push]
 have hold:∀b,b<w.heap.size→(w.drew.alloc (.cells (([]++[Value.string ⟨x.toArray⟩]).toArray++Zc) (bj.t 9))).heap[b]? =w.heap[b]? :=fun b hb=>by
  show (w.heap.push _)[b]? =_
  rw[Array.getElem?_push,if_neg (Nat.ne_of_lt hb)]
 have hnew:(w.drew.alloc (.cells (([]++[Value.string ⟨x.toArray⟩]).toArray++Zc) (bj.t 9))).heap[w.heap.size]? =some (.cells (sv [x]++Zc.toList).toArray (bj.t 9) (0,0)):=by
  show (w.heap.push _)[w.heap.size]? =_
  rw[Array.getElem?_push_size]
  refine congrArg some (congrArg (fun c=>Go.Obj.cells c _ (0,0)) (Array.ext' ?_))
  simp only[Array.toList_append]
  rfl
 obtain ⟨G',T1,R1,V⟩:=jM (w':=w.drew.alloc (.cells (([]++[Value.string ⟨x.toArray⟩]).toArray++Zc) (bj.t 9))) (B:=w.heap.size) (C:=C0) (xs:=strs [x]) (vs:=sv [x]) R ho2 htk (F.1 _ (Nat.le_refl _) (Nat.lt_succ_self _)) (by omega) rfl rfl (fun b hb _=>hold b hb) (by rw[hold _ hB2];exact bE.refl _) (.inr (Nat.le_refl _)) ⟨by simpa [strs] using hgc',hgl⟩ rfl (jR _) (fun v hv=>lN hv) hnew (by simp only[eg,List.length_singleton];omega) rfl
 exact ⟨_,G',rfl,T1,R1,V⟩
end Go.Proofs.YtpehfflehebmbaaGreat.Reads
end
section
set_option maxRecDepth 10000
namespace Go.Proofs.YtpehfflehebmbaaGreat.Space
open Go Go.Av Go.Proofs Go.Proofs.YtpehfflehebmbaaGreat.C Go.Proofs.YtpehfflehebmbaaGreat.Reads Go.Lib Go.RowKit
def tv:Go.Shelf.Ren:=⟨fun|24=>100|n=>n,fun|24=>38|9=>9|3=>3|4=>4|0=>0|n=>n,fun|n=>n⟩
theorem BE:Lays2.n24 Tryz.prog tv where
 mixed:=by kernel_rfl
 f24:=Tryz.func100.trans (congrArg some (by kernel_rfl))
 t0:=Tryz.underlying0
 a0:=Tryz.isAgg0
 z0:=Tryz.sizeOf0
 v0:=Tryz.zeroValue0
 t3:=Tryz.underlying3
 a3:=Tryz.isAgg3
 z3:=Tryz.sizeOf3
 v3:=Tryz.zeroValue3
 t4:=Tryz.underlying4
 a4:=Tryz.isAgg4
 z4:=Tryz.sizeOf4
 v4:=Tryz.zeroValue4
 t9:=Tryz.underlying9
 a9:=Tryz.isAgg9
 z9:=Tryz.sizeOf9
 v9:=Tryz.zeroValue9
 t24:=Tryz.underlying38
 a24:=Tryz.isAgg38
 z24:=Tryz.sizeOf38
 v24:=Tryz.zeroValue38
 i9:=by kernel_rfl
theorem xI (l:List (List UInt8)) (i:Nat) (hi:i<l.length) (hl:l.length<1099511627776) {id:Nat} {h:H} (ho:h.objs id=some (.cells (strs l))) (htk:h.toks=[]):
  bn Tryz.prog 100 [.tsl 1 id 0 l.length none,.int .i64 i,.int .i64 ((i+1:Nat):Int)] h (.tsl 1 h.n 0 (l.length - 1) none) (h.aZ id (.cells (strs (l.take i++l.drop (i+1))))):=by
 intro G w vs hv R F
 simp only[aq,ah] at hv
 obtain ⟨v1,_,rfl,⟨hd1,hv1⟩,v2,_,rfl,rfl,v3,_,rfl,rfl,rfl⟩:=hv
 obtain ⟨C,c,T,fr,rfl,⟨hnC,hc63⟩,-,hg,hroom⟩|⟨hz,-⟩:=hv1
 rotate_left
 ·omega
 obtain ⟨-,hown,hB,us,rest,T',fr',hg',hvs,hfr,-⟩:=R.obj id _ ho
 have hus:=ux hvs
 subst hus
 rw[hg] at hg'
 obtain ⟨rfl,rfl,rfl⟩:c=(sv l++rest).toArray∧T=T'∧fr=fr':=by simpa using hg'
 have hsl:=eg l
 have hfz:∀j,w.frozen? ⟨G.ι id,j,none⟩=false:=fun j=>by
  unfold World.frozen?;simp only[hg]
  have:=hfr
  simp;omega
 have hout:(strs (l.take i++l.drop (i+1))).length=l.length - 1:=by simp[strs];omega
 have hcell:∀j,j<l.length→w.cell? ⟨G.ι id,0+j,none⟩=some (.string (⟨(l.getD j []).toArray⟩:ByteArray)):=fun j hj=>cell_of hg j _ (by
  simp[sv,List.getElem?_map,List.getElem?_eq_getElem hj,List.getD_eq_getElem?_getD])
 have hS:Lib.strsOf (fun j=>(⟨(l.getD j []).toArray⟩:ByteArray)) l.length=l:=by
  refine List.ext_getElem (Lib.strsOf_length _ _) fun j h1 h2=>?_
  simp[Lib.strsOf,List.getD_eq_getElem?_getD,List.getElem?_eq_getElem h2]
 refine (Any.slices_Delete_string_cells BE (G.ι id) 0 l.length C i (i+1) (fun j=>(⟨(l.getD j []).toArray⟩:ByteArray)) w hnC hc63 (by omega) (by omega) hcell (fun j hj=>hfz _)).mono ?_
 rintro e w' ⟨rfl,q,rfl⟩
 rw[hS]
 have hm:∀m:List (List UInt8),m.map encStr=sv m:=fun m=>rfl
 rw[hm]
 have hsv:sv (l.take i++l.drop (i+1)++List.replicate (i+1 - i) [])=sv (l.take i++l.drop (i+1))++[.string ⟨#[]⟩]:=by
  rw[show i+1 - i=1 by omega];simp[sv]
 have hlen:(sv (l.take i++l.drop (i+1)++List.replicate (i+1 - i) [])).length=l.length:=by rw[eg];simp;omega
 obtain ⟨a1,a2,a3,a4,a5⟩:=bX (G.ι id) T fr (sv (l.take i++l.drop (i+1)++List.replicate (i+1 - i) [])) 0 (sv l++rest) (w.drewN q) hg (by rw[hlen,List.length_append,hsl];omega)
 have e1:(sv l++rest).take 0++sv (l.take i++l.drop (i+1)++List.replicate (i+1 - i) [])++(sv l++rest).drop (0+(sv (l.take i++l.drop (i+1)++List.replicate (i+1 - i) [])).length)=sv (l.take i++l.drop (i+1))++(Value.string ⟨#[]⟩::rest):=by
  rw[hlen,hsv,Nat.zero_add,←hsl,List.drop_left,List.take_zero];simp
 rw[e1] at a1
 have hC:C≤l.length+rest.length:=by simpa [hsl] using hroom
 obtain ⟨G',T1,R1,V⟩:=jM (B:=G.ι id) (C:=C) (xs:=strs (l.take i++l.drop (i+1))) (vs:=sv (l.take i++l.drop (i+1))) R ho htk (F.1 _ (Nat.le_refl _) (Nat.lt_succ_self _)) (Nat.le_of_eq a3.symm) a4 a5 (fun b _ hb=>a2 b hb) (by
  rw[hg,a1]
  refine ⟨_,_,rfl,?_,fun _ _ h=>h⟩
  simp only[List.size_toArray,List.length_append,eg,List.length_cons,List.length_take,List.length_drop]
  omega) (.inl rfl) ⟨by rw[hout];omega,hc63⟩ (by rw[hout,eg];simp;omega) (jR _) (fun v hv=>lN hv) a1 (by simp only[eg,List.length_cons,List.length_append,List.length_take,List.length_drop];omega) hfr
 refine ⟨_,G',rfl,T1,R1,?_⟩
 rw[hout] at V
 rw[show l.length - (i+1 - i)=l.length - 1 by omega]
 exact V
theorem rB (x:List UInt8) {id id2:Nat} (hne:id≠id2) {h:H} (ho:h.objs id=some (.cells (strs []))) (ho2:h.objs id2=some (.cells [.str x])) (htk:h.toks=[]):
  bn Tryz.prog 90 [.tsl 1 id 0 0 none,.int .i64 0,.tsl 1 id2 0 1 none] h (.tsl 1 h.n 0 1 none) (h.aZ id (.cells (strs [x]))):=by
 intro G w vs hv R F
 simp only[aq,ah] at hv
 obtain ⟨v1,_,rfl,⟨hd1,hv1⟩,v2,_,rfl,rfl,v3,_,rfl,⟨hd2,hv3⟩,rfl⟩:=hv
 obtain ⟨C2,c2,T2,fr2,rfl,⟨hnC2,-⟩,-,hg2,hroom2⟩|⟨hz,-⟩:=hv3
 rotate_left
 ·omega
 obtain ⟨-,hown2,hB2,us2,rest2,T2',fr2',hg2',hvs2,hfr2,-⟩:=R.obj id2 _ ho2
 obtain ⟨-,hown,hB,us,rest,T',fr',hg',hvs,hfr,-⟩:=R.obj id _ ho
 have hus:=ux hvs
 subst hus
 have hus2:us2=[.string ⟨x.toArray⟩]:=by
  simp only[aq,ah] at hvs2
  obtain ⟨v,_,rfl,rfl,rfl⟩:=hvs2
  rfl
 subst hus2
 rw[hg2] at hg2'
 obtain ⟨rfl,rfl,rfl⟩:c2=([Value.string ⟨x.toArray⟩]++rest2).toArray∧T2=T2'∧fr2=fr2':=by simpa using hg2'
 have hvs':∀(j:Nat) v,([Value.string ⟨x.toArray⟩]:List Value)[j]? =some v→w.cell? ⟨G.ι id2,0+j,none⟩=some v:=fun j v=>cell_of hg2 j v
 have h1v:∀v∈([Value.string ⟨x.toArray⟩]:List Value),v.oneCell'=true:=by simp[Value.oneCell']
 have grow:∀a0:Option Addr,Calls Tryz.prog 90 #[.slice a0 0 0,.int .i64 0,.slice (some ⟨G.ι id2,0,none⟩) 1 C2] w fun e w'=>∃v G',e= .returned v∧Trans G w h G' w' (h.aZ id (.cells (strs [x])))∧bf G' (h.aZ id (.cells (strs [x]))) w'∧ah G' w' (.tsl 1 h.n 0 1 none) v:=by
  intro a0
  refine (Any2.slices_Insert_string_end_grow kB a0 0 0 (G.ι id2) 0 1 C2 [] [.string ⟨x.toArray⟩] w (by omega) (Nat.le_refl _) (by omega) (by omega) rfl rfl (fun _=>rfl) (fun a ha j v hj=>by simp at hj) hvs' h1v).mono ?_
  rintro e w' ⟨rfl,rfl⟩
  have hgc':0+1≤grownCap w (0+1) 0 (bj.t 9):=by simp[grownCap,Question.cut]
  have hgl:grownCap w (0+1) 0 (bj.t 9)≤9223372036854775807:=kS (by omega)
  generalize grownCap w (0+1) 0 (bj.t 9)=C0 at hgc' hgl ⊢
  have hZs:(Builtin.zeroCells (Value.string ⟨#[]⟩).cells (C0 - (0+1))).toList.length=C0 - (0+1):=by
   have hz:(Value.string ⟨#[]⟩).cells.size=1:=rfl
   generalize (Value.string ⟨#[]⟩).cells=zc at hz
   simp[Builtin.zeroCells,hz]
  generalize Builtin.zeroCells (Value.string ⟨#[]⟩).cells (C0 - (0+1))=Zc at hZs ⊢
  have hs:(w.drew.alloc (.cells (([]++[Value.string ⟨x.toArray⟩]).toArray++Zc) (bj.t 9))).heap.size=w.heap.size+1:=by
   show (w.heap.push _).size=_
   rw[Array.size_push]
  have hold:∀b,b<w.heap.size→(w.drew.alloc (.cells (([]++[Value.string ⟨x.toArray⟩]).toArray++Zc) (bj.t 9))).heap[b]? =w.heap[b]? :=fun b hb=>by
   show (w.heap.push _)[b]? =_
   rw[Array.getElem?_push,if_neg (Nat.ne_of_lt hb)]
  have hnew:(w.drew.alloc (.cells (([]++[Value.string ⟨x.toArray⟩]).toArray++Zc) (bj.t 9))).heap[w.heap.size]? =some (.cells (sv [x]++Zc.toList).toArray (bj.t 9) (0,0)):=by
   show (w.heap.push _)[w.heap.size]? =_
   rw[Array.getElem?_push_size]
   refine congrArg some (congrArg (fun c=>Go.Obj.cells c _ (0,0)) (Array.ext' ?_))
   simp only[Array.toList_append]
   rfl
  obtain ⟨G',T1,R1,V⟩:=jM (w':=w.drew.alloc (.cells (([]++[Value.string ⟨x.toArray⟩]).toArray++Zc) (bj.t 9))) (B:=w.heap.size) (C:=C0) (xs:=strs [x]) (vs:=sv [x]) R ho htk (F.1 _ (Nat.le_refl _) (Nat.lt_succ_self _)) (by omega) rfl rfl (fun b hb _=>hold b hb) (by rw[hold _ hB];exact bE.refl _) (.inr (Nat.le_refl _)) ⟨by simpa [strs] using hgc',hgl⟩ rfl (jR _) (fun v hv=>lN hv) hnew (by simp only[eg,List.length_singleton];omega) rfl
  exact ⟨_,G',rfl,T1,R1,V⟩
 rcases hv1 with ⟨C,c,T,fr,rfl,⟨hnC,hc63⟩,-,hg,hroom⟩|⟨-,⟨a0,rfl⟩,-⟩
 ·by_cases hC:C=0
  ·subst hC;exact grow _
  ·rw[hg] at hg'
   obtain ⟨rfl,rfl,rfl⟩:c=(sv []++rest).toArray∧T=T'∧fr=fr':=by simpa using hg'
   have hrl:C≤rest.length:=by simpa [sv] using hroom
   have hfz:∀j,w.frozen? ⟨G.ι id,j,none⟩=false:=fun j=>by
    unfold World.frozen?;simp only[hg]
    have:=hfr
    simp;omega
   have hsome:∀j,j<C→(w.cell? ⟨G.ι id,0+j,none⟩).isSome=true:=fun j hj=>by
    unfold World.cell?;simp only[hg];simp[sv];omega
   refine (Any2.slices_Insert_string_end_room kB (G.ι id) 0 0 C (G.ι id2) 0 1 C2 [.string ⟨x.toArray⟩] w (by omega) (by omega) hc63 rfl (fun j hj=>by have:=hsome (0+j) (by omega);rwa [←Nat.add_assoc] at this) (fun j hj=>hfz _) hvs' h1v).mono ?_
   rintro e w' ⟨rfl,rfl⟩
   obtain ⟨a1,a2,a3,a4,a5⟩:=bX (G.ι id) T fr [.string ⟨x.toArray⟩] (0+0) (sv []++rest) w hg (by simp[sv];omega)
   have e1:(sv []++rest).take (0+0)++[Value.string ⟨x.toArray⟩]++(sv []++rest).drop (0+0+[Value.string ⟨x.toArray⟩].length)=sv [x]++rest.drop 1:=by simp[sv]
   rw[e1] at a1
   obtain ⟨G',T1,R1,V⟩:=jM (B:=G.ι id) (C:=C) (xs:=strs [x]) (vs:=sv [x]) R ho htk (F.1 _ (Nat.le_refl _) (Nat.lt_succ_self _)) (Nat.le_of_eq a3.symm) a4 a5 (fun b _ hb=>a2 b hb) (by rw[hg,a1];exact ⟨_,_,rfl,by simp[sv];omega,fun _ _ h=>h⟩) (.inl rfl) ⟨by simp[strs];omega,hc63⟩ rfl (jR _) (fun v hv=>lN hv) a1 (by simp[sv];omega) hfr
   exact ⟨_,G',rfl,T1,R1,V⟩
 ·exact grow _
end Go.Proofs.YtpehfflehebmbaaGreat.Space
end
