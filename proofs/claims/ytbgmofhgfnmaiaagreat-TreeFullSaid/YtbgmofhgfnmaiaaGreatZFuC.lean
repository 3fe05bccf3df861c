/- Parts of a proof: a layer of abstract values over the model, the functions' walks, plain laws. -/
import Derived.Deep.CondSized
import Derived.Defers
import Derived.IntWalk
import Derived.KernelRfl
import Derived.Laws.Append
import Derived.Laws.AppendOwn
import Derived.Laws.BytesArg
import Derived.Laws.ComplexArith
import Derived.Laws.Cover3
import Derived.Laws.Entries
import Derived.Laws.IdiomCopy
import Derived.Laws.IdiomStrings
import Derived.Laws.Pointers
import Derived.Laws.Small
import Derived.Laws.Strings
import Derived.Laws.StructEq
import Derived.MapKept
import Derived.OpenShut
import Derived.Orders
import Derived.OrdersIn
import Derived.ProofKit
import Derived.RangeFuncRecord
import Derived.RangeFuncSeq
import Derived.ReadAgain
import Derived.Recover
import Derived.Scope
import Derived.Shelf.Slices.Cells
import Derived.Shelf.Slices.Clone
import Derived.Shelf.Slices.Delete
import Derived.Shelf.Spec.SlicesInsertGrow
import Derived.SizedLaws
import Derived.Tactics
import Derived.Tactics2
import Derived.Test.YtbgmofhgfnmaiaaGreatProg
import Derived.Test.YtbgmofhgfnmaiaaGreatRows
import Derived.WalkSmall
import Derived.Test.YtbgmofhgfnmaiaaGreatZFuB
set_option linter.unusedSimpArgs false
set_option linter.unusedVariables false
section
set_option maxRecDepth 10000
namespace Go.Av
section
variable {P:Program}
def lQ (sz bytes:Nat):AC:=(.seq (.reg [⟨some 2,none,.mov (.c (.sl sz [] (.exact 0)))⟩] none)
 (.seq (.seq (.reg [⟨some 3,none,.mov (.t 0)⟩,⟨some 4,none,.eqN false (.t 3)⟩] none)
 (.cond (.t 4) (.seq (.reg [⟨some 2,none,.mov (.c (.sl sz [] (.exact 0)))⟩] none)
 .ret) .skip))
 (.seq (.reg [⟨some 5,none,.buildSl sz []⟩,⟨some 6,none,.mov (.t 0)⟩,⟨some 7,none,.app false sz bytes (.t 5) (.t 6)⟩,⟨some 2,none,.mov (.t 7)⟩] none)
 .ret)))
theorem ay.own {sz:Nat} {xs:List AV} {t:Nat}:ay (.sl sz xs (.own t)) (.sl sz xs .any):=ay.cap
theorem ay.um {sz:Nat} {a:Option Addr} {C:Nat} (h:C=0∨∃B off,a=some ⟨B,off,none⟩):ay (.sc (.slice a 0 C)) (.sl sz [] .any):=by
 intro G w v hv
 simp only[aw] at hv
 subst hv
 unfold aw
 rcases h with rfl|⟨B,off,rfl⟩
 ·exact .inl ⟨rfl,⟨a,rfl⟩,trivial⟩
 ·exact .inr ⟨B,off,C,[],rfl,Nat.zero_le _,by simp,by simp[aF],Imm.nil,trivial⟩
theorem aI.oE {f:FuncId} {sz:Nat} {c:Cap} {rest:List AV} {h h':H} {r:AV} (hc:∀a C,(C=0∨∃B off,a=some ⟨B,off,none⟩)→aI P f (.sc (.slice a 0 C)::rest) h r h'):aI P f (.sl sz [] c::rest) h r h':=by
 intro G w vs hv R F
 simp only[aD] at hv
 obtain ⟨v,us,rfl,hv,hr⟩:=hv
 simp only[aw] at hv
 rcases hv with ⟨-,⟨a,rfl⟩,-⟩|⟨B,off,C,ws,rfl,-⟩
 ·exact hc a 0 (.inl rfl) G w _ (.cons (by simp[aw]) hr) R F
 ·exact hc _ C (.inr ⟨B,off,rfl⟩) G w _ (.cons (by simp[aw]) hr) R F
theorem rh {f:FuncId} {sz bytes:Nat} (hF:aW P f 8 (lQ sz bytes) [.tmp 2]) (xs:List AV) (hp:aU xs=true) (hb:xs.length*bytes≤140737488355328) (hl:xs.length<4611686018427387904):bc P f [.sl sz xs .any] (.sl sz xs .any):=by
 cases xs with
 |nil=>
  intro n m
  refine aI.oE fun a C hC=>?_
  have:bc P f [.sc (.slice a 0 C)] (.sl sz [] .any):=by
   refine hF.fD af (bN _ rfl) (cD _ rfl) fun n m=>?_
   unfold lQ
   refine Wp.aG (by simp only[go_sem,reduceIte,Nat.reduceEqDiff,Nat.reduceAdd,bx];exact rfl) ag ?_
   refine Wp.seq ?_
   refine Wp.aG (by simp only[go_sem,reduceIte,Nat.reduceEqDiff,Nat.reduceAdd,bx];exact rfl) ag ?_
   cases ha:a.isNone with
   |true=>
    refine Wp.cond_true (by simp only[go_sem,reduceIte,Nat.reduceEqDiff,Nat.reduceAdd,bx,ha]) ?_
    refine Wp.aG (by simp only[go_sem,reduceIte,Nat.reduceEqDiff,Nat.reduceAdd,bx];exact rfl) ag ?_
    refine Wp.ret ⟨trivial,_,rfl,?_⟩
    simp only[go_sem,reduceIte,Nat.reduceEqDiff,Nat.reduceAdd,bx]
    exact ay.cap
   |false=>
    refine Wp.cond_false (by simp only[go_sem,reduceIte,Nat.reduceEqDiff,Nat.reduceAdd,bx,ha]) ?_
    refine Wp.skip ?_
    refine Wp.le (s':=⟨tm [(0,.sl sz [] .any)],_⟩) (aK.tm ⟨ay.um hC,trivial⟩) ?_
    refine Wp.aG (by simp only[go_sem,reduceIte,Nat.reduceEqDiff,Nat.reduceAdd,bx,Nat.zero_mul,Nat.zero_le,and_self,or_true,if_true,Nat.reduceMul,Nat.reduceLT,Nat.reduceLeDiff,decide_true];exact rfl) ag ?_
    refine Wp.ret ⟨trivial,_,rfl,?_⟩
    simp only[go_sem,reduceIte,Nat.reduceEqDiff,Nat.reduceAdd,bx]
    exact ay.cap
  exact this n m
 |cons x xs=>
  refine hF.fD af (bN _ (by simp[aU,bq,cR] at hp ⊢;exact hp)) (cD _ (by simp[aU,bq,cR] at hp ⊢;exact hp)) fun n m=>?_
  unfold lQ
  refine Wp.aG (by simp only[go_sem,reduceIte,Nat.reduceEqDiff,Nat.reduceAdd,bx];exact rfl) ag ?_
  refine Wp.seq ?_
  refine Wp.aG (by simp only[go_sem,reduceIte,Nat.reduceEqDiff,Nat.reduceAdd,bx];exact rfl) ag ?_
  refine Wp.cond_false (by simp only[go_sem,reduceIte,Nat.reduceEqDiff,Nat.reduceAdd,bx]) ?_
  refine Wp.skip ?_
  simp only[List.length_cons] at hb hl
  have h1:(0+(xs.length+1))*bytes≤140737488355328:=by rw[Nat.zero_add];exact hb
  have h2:0+(xs.length+1)<4611686018427387904:=by omega
  refine Wp.aG (by simp only[go_sem,reduceIte,Nat.reduceEqDiff,Nat.reduceAdd,bx,Nat.zero_mul,Nat.zero_le,and_self,or_true,true_or,if_true,Nat.reduceMul,Nat.reduceLT,Nat.reduceLeDiff,decide_true,hb,hl];exact rfl) ag ?_
  refine Wp.ret ⟨trivial,_,rfl,?_⟩
  simp only[go_sem,reduceIte,Nat.reduceEqDiff,Nat.reduceAdd,bx]
  exact ay.cap
def OLe (f f':Nat→Option Obj):Prop:=∀j o',f' j=some o'→∃o,f j=some o∧ed o o'
theorem OLe.refl (f:Nat→Option Obj):OLe f f:=fun j o h=>⟨o,h,ed.refl o⟩
theorem OLe.none (f:Nat→Option Obj):OLe f aB:=fun j o h=>by cases h
theorem OLe.upd {f f':Nat→Option Obj} {i:Nat} {o o':Obj} (h:OLe f f') (hs:ed o o'):OLe (upd f i (some o)) (upd f' i (some o')):=by
 intro j p hp
 simp only[Go.Av.upd] at hp ⊢
 split at hp
 ·rename_i e;rw[if_pos e];cases hp;exact ⟨o,rfl,hs⟩
 ·rename_i e;rw[if_neg e];exact h j p hp
theorem aK.of {t t':Tm} {f f':Nat→Option Obj} {n n' m m':Nat} {k k':List Nat} (ht:∀i,ay (t i) (t' i)) (ho:OLe f f') (hk:∀x∈k',x∈k) (hn:n≤n') (hm:m≤m'):aK ⟨t,⟨f,n,k,m⟩⟩ ⟨t',⟨f',n',k',m'⟩⟩:=
 aK.mk' ht ⟨ho,hk⟩ hn hm
theorem ay.lR {sz:Nat} {xs:List AV} {k t:Nat} (h:k=xs.length):ay (.sl sz xs (.exact k)) (.sl sz xs (.own t)):=by
 intro G w v hv
 unfold aw at hv ⊢
 rcases hv with ⟨a,b,-⟩|⟨B,off,C,vs,h1,h2,h3,h4,h5,h6⟩
 ·exact .inl ⟨a,b,trivial⟩
 ·exact .inr ⟨B,off,C,vs,h1,h2,h3,h4,h5,.inl (by simp only[de] at h6;omega)⟩
theorem Wp.meet {N:Nat} {c y:AC} {s:St} {Q Q2:aQ→St→Prop} (S:St) (h1:Wp P N c s (aQ.andThen (fun s'=>aK s' S) Q)) (h2:Wp P N y S Q2):Wp P N c s (aQ.andThen (fun s'=>Wp P N y s' Q2) Q):=by
 refine Wp.mono h1 ?_
 intro e s' h
 cases e with
 |normal=>exact Wp.le h h2
 |exit id=>exact h
 |goto l=>exact h
 |ret=>exact h
 |panic v=>exact h
theorem au.Hi {sz:Nat} {x:AV} {xs ys zs:List AV} {a b c ta tb tc:Nat} (h1:a=xs.length) (h2:b=ys.length) (h3:c=zs.length):au [x,.sl sz xs (.exact a),.sl sz ys (.exact b),.sl sz zs (.exact c)] [x,.sl sz xs (.own ta),.sl sz ys (.own tb),.sl sz zs (.own tc)]:=
 au.cons (ay.refl _) (au.cons (ay.lR h1) (au.cons (ay.lR h2) (au.cons (ay.lR h3) au.nil)))
theorem OLe.put {f f':Nat→Option Obj} {i:Nat} {o o':Obj} (h:OLe f f') (hf:f i=some o) (hs:ed o o'):OLe f (Go.Av.upd f' i (some o')):=by
 intro j p hp
 simp only[Go.Av.upd] at hp
 split at hp
 ·rename_i e;subst e;cases hp;exact ⟨o,hf,hs⟩
 ·exact h j p hp
end
end Go.Av
end
section
namespace Go.Av
open Classical in
section
variable {P:Program} {G:aL} {h:H} {w:World}
def H.DO (h:H) (G:aL) (d:Nat→Bool) (B:Nat):Prop:=∃id o,d id=true∧h.objs id=some o∧G.ι id=B
def H.drop (h:H) (d:Nat→Bool):H:={h with objs:=fun j=>if d j then none else h.objs j}
noncomputable def aL.frz (G:aL) (h:H) (d:Nat→Bool):aL:=
 {G with own:=fun B=>G.own B∧¬h.DO G d B,lim:=fun B=>if h.DO G d B then none else G.lim B}
theorem DB {d:Nat→Bool} {B:Nat} (x:h.DO G d B):h.O G B:=by
 obtain ⟨id,o,-,a,b⟩:=x
 exact ⟨id,o,a,b⟩
theorem bZ (d:Nat→Bool):Trans G w h (G.frz h d) w (h.drop d):=by
 have hsub:∀B,(h.drop d).O (G.frz h d) B→h.O G B:=by
  rintro B ⟨id,o,a,b⟩
  simp only[H.drop] at a
  split at a
  ·cases a
  ·exact ⟨id,o,a,b⟩
 constructor
 ·exact fun _ x=>x
 ·exact fun _=> .inl
 ·exact fun _ _=>rfl
 ·exact fun _ x=>x
 ·exact fun _=> .inl
 ·exact fun _ _=>rfl
 ·exact Nat.le_refl _
 ·exact Nat.le_refl _
 ·exact Nat.le_refl _
 ·rfl
 ·rfl
 ·intro B hB
  exact bX.refl _
 ·exact fun _ _ _ _=>rfl
 ·intro B hB hO
  have:¬h.DO G d B:=fun x=>hO (DB x)
  simp[aL.frz,this]
 ·intro B hB hO hT
  have:¬h.DO G d B:=fun x=>hO (DB x)
  simp[aL.frz,this]
 ·intro B hB hT hO e he
  have:¬h.DO G d B:=fun x=>hO (DB x)
  refine ⟨fun _ _=>rfl,fun e' he'=>?_⟩
  simp only[aL.frz,this,if_false] at he'
  rw[he] at he'
  cases he'
  exact Nat.le_refl _
 ·exact fun B _ x=>hsub B x
 ·exact fun B _ x=>x
 ·intro j o a
  simp only[H.drop] at a
  split at a
  ·cases a
  ·exact .inl ⟨o,a⟩
 ·exact fun t x=> .inl x
theorem xF (R:aX G h w) (d:Nat→Bool):aX (G.frz h d) (h.drop d) w:=by
 have hd:∀{id o},(h.drop d).objs id=some o→h.objs id=some o∧d id=false:=by
  intro id o a
  simp only[H.drop] at a
  split at a
  ·cases a
  ·rename_i q;exact ⟨a,by simpa using q⟩
 constructor
 ·intro id o a
  obtain ⟨a,q⟩:=hd a
  obtain ⟨r1,r2,r3,r4⟩:=R.obj id o a
  refine ⟨r1,⟨r2,?_⟩,r3,?_⟩
  ·rintro ⟨id',o',x1,x2,x3⟩
   have:=R.inj _ _ _ _ x2 a x3
   subst this
   rw[x1] at q;cases q
  ·cases o with
   |cells cs=>
    obtain ⟨vs,rest,T,fr,y1,y2,y3⟩:=r4
    exact ⟨vs,rest,T,fr,y1,aD.mono R (bZ d) _ _ y2,y3⟩
   |map es=>
    obtain ⟨en,clock,y1,y2⟩:=r4
    exact ⟨en,clock,y1,Entries.mono R (bZ d) _ _ y2⟩
   |loop N t ps asg body st pend=>
    obtain ⟨r,y1,y2,y3,y4⟩:=r4
    exact ⟨r,y1,y2,fun i=>aw.mono R (bZ d) _ _ (y3 i),y4⟩
   |raw c=>exact r4
   |bk c=>exact r4
 ·intro id id' o o' a b e
  exact R.inj _ _ _ _ (hd a).1 (hd b).1 e
 ·intro t ht
  obtain ⟨r1,r2⟩:=R.tok t ht
  refine ⟨r1,fun B e q=>?_⟩
  obtain ⟨x1,x2,x3⟩:=r2 B e q
  have:¬h.DO G d B:=by
   rintro ⟨id,o,y1,y2,y3⟩
   have:=(R.obj id o y2).2.1
   rw[y3] at this
   exact x2 this
  refine ⟨by simp only[aL.frz,this,if_false];exact x1,fun x=>x2 x.1,x3⟩
 ·exact fun t ht t' ht' B e e' a b=>R.tinj t ht t' ht' B e e' a b
theorem ri {v:Value} (h:One v):v.cells= #[v]:=by
 obtain ⟨a,b⟩:=h
 cases v<;>first|rfl|exact absurd rfl (a _)|exact absurd rfl (b _)
theorem DC (R:aX G h w) {d:Nat→Bool} {id off len:Nat} {c:Option Nat} {cs:List AV} {v:Value} (ho:h.objs id=some (.cells cs)) (hd:d id=true) (hl:off+len≤cs.length) (r:aw G w (.tsl 1 id off len c) v):
  aw (G.frz h d) w (.sl 1 ((cs.drop off).take len) .any) v:=by
 simp only[aw] at r
 obtain ⟨-,⟨C,cc,Tt,fr,rfl,⟨h2,-⟩,-⟩|⟨h0,⟨a,rfl⟩,-⟩⟩:=r
 ·obtain ⟨-,r2,r3,vs,rest,T,fr',y1,y2,y3,y4⟩:=R.obj id _ ho
  have hlen:=aD.length y2
  have hx:aD (G.frz h d) w ((cs.drop off).take len) ((vs.drop off).take len):=aD.mono R (bZ d) _ _ (aD.take len (aD.drop off y2))
  have h1:∀v∈(vs.drop off).take len,One v:=fun v hv=>y4 v (List.mem_of_mem_drop (List.mem_of_mem_take hv))
  have he:=fX (sz:=1) hx (fun v hv=>by rw[ri (h1 v hv)];rfl)
  have hfl:((vs.drop off).take len).flatMap (·.cells.toList)=(vs.drop off).take len:=by
   have:∀l:List Value,(∀v∈l,One v)→l.flatMap (·.cells.toList)=l:=by
    intro l
    induction l with
    |nil=>intro _;rfl
    |cons x l ih=>intro hl;rw[List.flatMap_cons,ri (hl x af),ih (fun v hv=>hl v (by simp[hv]))];rfl
   exact this _ h1
  rw[hfl] at he
  unfold aw
  refine .inr ⟨G.ι id,off,C,(vs.drop off).take len,?_,?_,?_,he,?_,trivial⟩
  ·rw[List.length_take,List.length_drop];congr 1;omega
  ·rw[List.length_take];omega
  ·simp only[List.length_take,List.length_drop];omega
  ·intro i v hi
   have hi':=(List.getElem?_eq_some_iff.1 hi).1
   rw[List.length_take,List.length_drop] at hi'
   have hv1:vs[off+i]? =some v:=by
    rw[List.getElem?_take_of_lt ab,List.getElem?_drop] at hi
    exact hi
   refine ⟨?_,h1 v (List.mem_of_getElem? hi),?_,?_⟩
   ·unfold World.cell?
    simp only[y1]
    simp[List.getElem?_append_left (show off+i<vs.length by omega),hv1]
   ·exact fun x=>x.2 ⟨id,_,hd,ho,rfl⟩
   ·intro e he'
    have:h.DO G d (G.ι id):=⟨id,_,hd,ho,rfl⟩
    simp[aL.frz,this] at he'
 ·subst h0
  unfold aw
  exact .inl ⟨by simp,⟨_,rfl⟩,trivial⟩
theorem DD (R:aX G h w) {d:Nat→Bool} {id off:Nat} {cs:List AV} {v:Value} (ho:h.objs id=some (.cells cs)) (hd:d id=true) (r:aw G w (.ptr id off) v):
  aw (G.frz h d) w (.ref (cs.drop off)) v:=by
 simp only[aw] at r
 obtain ⟨-,rfl⟩:=r
 obtain ⟨-,r2,r3,vs,rest,T,fr',y1,y2,y3,y4⟩:=R.obj id _ ho
 unfold aw
 refine ⟨G.ι id,off,vs.drop off,rfl,aD.mono R (bZ d) _ _ (aD.drop off y2),?_⟩
 intro i v hi
 have hv1:vs[off+i]? =some v:=by rw[List.getElem?_drop] at hi;exact hi
 have hi':=(List.getElem?_eq_some_iff.1 hv1).1
 refine ⟨?_,y4 v (List.mem_of_getElem? hv1),?_,?_⟩
 ·unfold World.cell?
  simp only[y1]
  simp[List.getElem?_append_left hi',hv1]
 ·exact fun x=>x.2 ⟨id,_,hd,ho,rfl⟩
 ·intro e he'
  have:h.DO G d (G.ι id):=⟨id,_,hd,ho,rfl⟩
  simp[aL.frz,this] at he'
mutual
def unT (h:H) (d:Nat→Bool):AV→AV
 | .tsl sz id off len c=>if sz=1∧d id=true then (match h.objs id with
  |some (.cells cs)=>if off+len≤cs.length then .sl 1 ((cs.drop off).take len) .any else .any
  |_=> .any) else .tsl sz id off len c
 | .ptr id off=>if d id=true then (match h.objs id with
  |some (.cells cs)=> .ref (cs.drop off)
  |_=> .any) else .ptr id off
 | .agg xs=> .agg (gP h d xs)
 | .tup xs=> .tup (gP h d xs)
 | .clo fn a b=> .clo fn (gP h d a) (gP h d b)
 |x=>x
def gP (h:H) (d:Nat→Bool):List AV→List AV
 |[]=>[]
 |x::xs=>unT h d x::gP h d xs
end
mutual
theorem sD (R:aX G h w) (d:Nat→Bool):∀(x:AV) (v:Value),aw G w x v→aw (G.frz h d) w (unT h d x) v
 | .tsl sz id off len c,v,r=>by
  unfold unT
  split
  ·rename_i hs
   obtain ⟨rfl,hd⟩:=hs
   split
   ·rename_i cs ho
    split
    ·rename_i hl
     exact DC R ho hd hl r
    ·simp[aw]
   ·simp[aw]
  ·exact aw.mono R (bZ d) _ _ r
 | .agg xs,v,r=>by
  simp only[unT,aw] at r ⊢
  obtain ⟨vs,e,r⟩:=r
  exact ⟨vs,e,gQ R d xs vs r⟩
 | .tup xs,v,r=>by
  simp only[unT,aw] at r ⊢
  obtain ⟨vs,e,r⟩:=r
  exact ⟨vs,e,gQ R d xs vs r⟩
 | .any,v,r=>by simp[unT,aw]
 | .int k n,v,r=>by unfold unT;exact aw.mono R (bZ d) _ _ r
 | .bool b,v,r=>by unfold unT;exact aw.mono R (bZ d) _ _ r
 | .str l,v,r=>by unfold unT;exact aw.mono R (bZ d) _ _ r
 | .sc x,v,r=>by unfold unT;exact aw.mono R (bZ d) _ _ r
 | .sl sz xs c,v,r=>by unfold unT;exact aw.mono R (bZ d) _ _ r
 | .ref cs,v,r=>by unfold unT;exact aw.mono R (bZ d) _ _ r
 | .ptr id off,v,r=>by
  unfold unT
  split
  ·rename_i hd
   split
   ·rename_i cs ho
    exact DD R ho hd r
   ·simp[aw]
  ·exact aw.mono R (bZ d) _ _ r
 | .clo fn a b,v,r=>by
  simp only[unT,aw] at r ⊢
  obtain ⟨vs,us,e,r1,r2⟩:=r
  exact ⟨vs,us,e,gQ R d a vs r1,gQ R d b us r2⟩
 | .ifc t x,v,r=>by unfold unT;exact aw.mono R (bZ d) _ _ r
 | .mp id,v,r=>by unfold unT;exact aw.mono R (bZ d) _ _ r
 | .yld id,v,r=>by unfold unT;exact aw.mono R (bZ d) _ _ r
 | .slt sz xs ys,v,r=>by unfold unT;exact aw.mono R (bZ d) _ _ r
 | .sup B,v,r=>by unfold unT;exact aw.mono R (bZ d) _ _ r
 | .supb B,v,r=>by unfold unT;exact aw.mono R (bZ d) _ _ r
 | .wint k,v,r=>by unfold unT;exact aw.mono R (bZ d) _ _ r
 | .one,v,r=>by unfold unT;exact aw.mono R (bZ d) _ _ r
theorem gQ (R:aX G h w) (d:Nat→Bool):∀(xs:List AV) (vs:List Value),aD G w xs vs→aD (G.frz h d) w (gP h d xs) vs
 |[],vs,r=>by simpa [gP,aD] using r
 |x::xs,vs,r=>by
  simp only[gP,aD] at r ⊢
  obtain ⟨v,us,e,r1,r2⟩:=r
  exact ⟨v,us,e,sD R d x v r1,gQ R d xs us r2⟩
end
theorem aI.frz {f:FuncId} {args:List AV} {h h':H} {r:AV} (hc:aI P f args h r h') (d:Nat→Bool):aI P f args h (unT h' d r) (h'.drop d):=by
 intro G w vs hv R F
 refine (hc G w vs hv R F).mono ?_
 rintro e w' ⟨v,G',rfl,T,R',V⟩
 exact ⟨v,G'.frz h' d,rfl,T.trans R R' (bZ d),xF R' d,sD R' d _ _ V⟩
theorem aW.DE {f:FuncId} {N:Nat} {ac:AC} {args:List AV} {ds:List RV} {r:AV} (hF:aW P f N ac ds) (hl:args.length≤N) (ha:aU args=true) (hp:bq r=true) (hw:Wp P N ac ⟨fB args,H0 0 0⟩ fun e s'=>jb e∧∃q,cJ ds s'.t s'.h=some q∧ay (unT s'.h (fun _=>true) q) r):bc P f args r:=by
 obtain ⟨r',h',aY,hs⟩:=hF.fC (Q:=fun r' h'=>ay (unT h' (fun _=>true) r') r) hl hw
 exact (aY.frz _).ED (bN _ ha) hs (cD _ hp)
end
end Go.Av
end
section
namespace Go.Av
section
variable {P:Program} {N:Nat} {o:Oper} {t:Tm} {h:H} {en:Ent}
theorem zt {x:AV} (h:shaped x=true):aP x=true∨∃cs,x= .agg cs:=by
 unfold shaped at h
 simp only[Bool.or_eq_true] at h
 rcases h with h|h
 ·exact .inl h
 ·cases x<;>simp at h
  exact .inr ⟨_,rfl⟩
theorem ff {G:aL} {w:World} {sz:Nat}:∀{els:List AV} {vs:List Value},aF G w sz els vs→els.all shaped=true→aD G w (els.flatMap cellsOf) vs
 |[],vs,h,_=>by simpa [aF,aD] using h
 |x::els,vs,h,ha=>by
  simp only[aF] at h
  obtain ⟨v,us,rfl,h1,h2,h3⟩:=h
  simp only[List.all_cons,Bool.and_eq_true] at ha
  rw[List.flatMap_cons]
  exact (dP h2 (zt ha.1)).append (ff h3 ha.2)
theorem Bx {c:Call} {zs zx:Operand} {ys yx:Opd} {T U e:TypeId} {d:TypeDesc} {i:TypeInfo} {s:Nat} {els:List AV} (hop:o.op= .call c) (hc:c.callee= .builtin .append) (ha:c.args.toList=[zs,zx]) (hta:c.argTypes.toList=[T,U])
  (hT:P.underlying T=some (.slice e)) (hU:P.underlying U=some d) (hd:(∃e',d= .slice e')∨d= .string) (hi:P.info? e=some i) (hz:i.zero.any (fun z=>z.cells.size == i.size)=true) (hsz:0<i.size)
  (hys:opd P T zs=some ys) (hyx:opd P U zx=some yx) (hs:ev t ys= .sl s [] (.exact 0)) (hx:∃s' c',ev t yx= .sl s' els c'∧s'=i.size) (hsh:els.all shaped=true) (hne:0<els.length)
  (hb:els.length*i.bytes≤140737488355328) (hlen:els.length<4611686018427387904):
  Loc P o t h (.tsl i.size h.n 0 els.length none) {h with objs:=upd h.objs h.n (some (.cells (els.flatMap cellsOf))),n:=h.n+1} ⟨[],[h.n],[]⟩:=by
 have ha':c.args= #[zs,zx]:=by rw[←Array.toArray_toList (xs:=c.args),ha]
 have hta':c.argTypes= #[T,U]:=by rw[←Array.toArray_toList (xs:=c.argTypes),hta]
 obtain ⟨z,hz1,hz2⟩:∃z,i.zero=some z∧z.cells.size=i.size:=by
  cases hzz:i.zero with
  |none=>rw[hzz] at hz;simp at hz
  |some z=>rw[hzz] at hz;exact ⟨z,rfl,by simpa using hz⟩
 refine ⟨_,_,eg h _,fun G w a ht R F=>?_⟩
 have r1:=aE hys ht
 have r2:=aE hyx ht
 rw[hs] at r1
 obtain ⟨s',c',hx,hs'⟩:=hx
 rw[hx] at r2
 obtain ⟨news,n1,n2,n3⟩:=gF (P:=P) (.inl hs') r2
 have hbase:∃a0,a.eval zs= .slice a0 0 0:=by
  simp only[aw,de] at r1
  rcases r1 with ⟨-,h,-⟩|⟨B,off,C,vs,q1,-,-,-,-,q6⟩
  ·exact h
  ·subst q6;exact ⟨_,by simpa using q1⟩
 obtain ⟨a0,ha0⟩:=hbase
 obtain ⟨w',C,rest,e1,e2,e3,e4⟩:=eL (ty:=o.type) hT hU hd hi hz1 hz2 hsz n1 (iX a0) ab (Nat.le_refl _) (by simpa using hb) (by simpa using hlen)
 rw[List.nil_append] at e2
 simp only[Nat.zero_add] at e1 e3 e4
 have hnl:=n2.length
 obtain ⟨G',T1,R1,V⟩:=mq (m:=h.m) (sz:=i.size) e2 (ff n2 hsh) n3 (kG F (by simp[H.only])) e3 ab
 refine ⟨.value _,_,w',G',?_,.inl rfl,T1,R1,V⟩
 simp[execOp,hop,resolve,hc,ha',hta',invoke,builtin,ha0,e1]
theorem sE {ty e:TypeId} {len:Nat} {parts:Array (Nat × Operand)} {ys:List Opd} {z:Value} (hop:o.op= .buildSlice ty len parts) (hu:P.underlying ty=some (.slice e)) (hi:(P.info? e).isSome=true) (hn:parts.size=len) (hpos:0<P.cellsOf e)
  (hz:(P.info? e).bind (·.zero)=some z) (hzs:z.cells.size=P.cellsOf e)
  (hys:iw P e 0 parts.toList=some ys) (hs:∀y∈ys,(cellsOf (ev t y)).length=P.cellsOf e∧shaped (ev t y)=true) (hle:ys.length*P.cellsOf e≤16777216):
  Loc P o t h (.tsl (P.cellsOf e) h.n 0 ys.length none) {h with objs:=upd h.objs h.n (some (.cells ((ys.map (ev t)).flatMap cellsOf))),n:=h.n+1} ⟨[],[h.n],[]⟩:=by
 refine ⟨_,_,eg h _,fun G w a ht R F=>?_⟩
 obtain ⟨r1,r2,r3⟩:=jZ ht hys
 simp only[Array.length_toList,hn] at r2 r3
 have hsz:∀v∈parts.toList.map (fun p=>a.eval p.2),v.cells.size=P.cellsOf e∧∀u∈v.cells.toList,One u:=by
  intro v hv
  obtain ⟨k,hk⟩:=List.getElem?_of_mem hv
  have hlt:k<(parts.toList.map (fun p=>a.eval p.2)).length:=by
   rcases Nat.lt_or_ge k (parts.toList.map (fun p=>a.eval p.2)).length with h|h
   ·exact h
   ·rw[List.getElem?_eq_none h] at hk;cases hk
  have hlt':k<ys.length:=by simp at hlt;omega
  obtain ⟨u,hu1,hu2⟩:=r1.get (i:=k) (x:=ev t ys[k]) (by simp[List.getElem?_eq_getElem hlt'])
  have e:u=v:=Option.some.inj (hu1.symm.trans hk)
  subst e
  obtain ⟨s1,s2⟩:=hs ys[k] (List.getElem_mem hlt')
  obtain ⟨c1,c2⟩:=ec hu2 s2
  have:=c1.length
  exact ⟨by simpa [s1] using this,ep c1 c2⟩
 generalize hV:parts.toList.map (fun p=>a.eval p.2)=vals at*
 have hvl:vals.length=len:=by rw[←hV];simp[hn]
 have he:=fX r1 fun v hv=>(hsz v hv).1
 have hfl:(vals.flatMap (·.cells.toList)).length=len*P.cellsOf e:=by
  have:=he.length;rw[this];simp[r3]
 have hfill:∀cells:Array Value,cells.size=len*P.cellsOf e→Instr.fill (fun i=>some (i*P.cellsOf e,P.cellsOf e)) cells ((parts.map fun (i,x)=>(i,a.eval x)).toList)=some (vals.flatMap (·.cells.toList)).toArray:=by
  intro cells hc
  have hz:(parts.map fun (i,x)=>(i,a.eval x)).toList=(List.range' 0 vals.length).zip vals:=by
   have:∀l:List (Nat × Operand),l.map (fun (i,x)=>(i,a.eval x))=(l.map (·.1)).zip (l.map fun p=>a.eval p.2):=by
    intro l;induction l with
    |nil=>rfl
    |cons p l ih=>simp[ih]
   rw[Array.toList_map,this,r2,hV,hvl]
  rw[hz]
  have:=lK (sz:=P.cellsOf e) (cells:=cells) vals 0 [] cells af af (by rw[hc,hvl];simp) (fun v hv=>(hsz v hv).1)
  simpa using this
 have hle':¬(len*P.cellsOf e>16777216):=by rw[←r3];omega
 obtain ⟨G',T1,R1,V⟩:=mq (m:=h.m) (sz:=P.cellsOf e) (len:=len) (C:=len) (rest:=[]) (vs:=vals.flatMap fun v:Value=>v.cells.toList) (dZ w (.cells ((vals.flatMap fun v:Value=>v.cells.toList)++[]).toArray e (0,0))) (ff he (by
  rw[List.all_map]
  exact List.all_eq_true.2 fun y hy=>(hs y hy).2)) (by
  intro u hu
  obtain ⟨v,hv,hu'⟩:=List.mem_flatMap.1 hu
  exact (hsz v hv).2 u hu') (kG F (by simp[H.only])) ⟨Nat.le_refl _,by
  have:=Nat.le_mul_of_pos_right len hpos
  omega⟩ (by rw[hfl];simp)
 rw[List.append_nil] at T1 R1 V
 refine ⟨.value (.slice (some ⟨w.heap.size,0,none⟩) len len),_,_,G',?_,.inl rfl,T1,R1,by rw[r3];exact V⟩
 obtain ⟨i,hi1,hi2⟩:=Option.bind_eq_some_iff.1 hz
 have hle2:¬(16777216<len*P.cellsOf e):=by omega
 have hmap:∀(zc:Array Value),((Array.range (len*P.cellsOf e)).map (zc[· %zc.size]!)).size=len*P.cellsOf e:=by intro zc;simp
 have hrz:(zeroValue e).run P w= .ok z w:=by simp[zeroValue,typeInfo,hi1,hi2]
 simp only[execOp,hop,Sem.run_bind,Instr.buildSlice,run_underlying hu,Result.andThen_ok,cI P w e hi,if_neg hle2,Sem.run_pure,Sem.run_ite,hrz,hfill _ (hmap _)]
 by_cases h0:len*P.cellsOf e=0
 ·rw[if_pos h0];simp[newRow]
 ·rw[if_neg h0];simp[newRow]
theorem By {c:Call} {zs zx:Operand} {ys yx:Opd} {T U e:TypeId} {d:TypeDesc} {i:TypeInfo} {s s':Nat} {xs:List AV} {cp c':Cap} (hop:o.op= .call c) (hc:c.callee= .builtin .append) (ha:c.args.toList=[zs,zx]) (hta:c.argTypes.toList=[T,U])
  (hT:P.underlying T=some (.slice e)) (hU:P.underlying U=some d) (hd:(∃e',d= .slice e')∨d= .string) (hi:P.info? e=some i)
  (hys:opd P T zs=some ys) (hyx:opd P U zx=some yx) (hs:ev t ys= .sl s xs cp) (hx:ev t yx= .sl s' [] c'):Loc P o t h (.sl s xs cp) h aT:=by
 have ha':c.args= #[zs,zx]:=by rw[←Array.toArray_toList (xs:=c.args),ha]
 have hta':c.argTypes= #[T,U]:=by rw[←Array.toArray_toList (xs:=c.argTypes),hta]
 refine Loc.plain fun G w a ht=>?_
 have r1:=aE hys ht
 have r2:=aE hyx ht
 rw[hs] at r1
 rw[hx] at r2
 obtain ⟨news,n1,n2,-⟩:=gF (P:=P) (sz:=i.size) (.inr rfl) r2
 have hnn:news=[]:=by simpa [aF] using n2
 subst hnn
 obtain ⟨base,len,C,hv,hlC⟩:∃base len C,a.eval zs= .slice base len C∧len≤C:=by
  simp only[aw] at r1
  rcases r1 with ⟨-,⟨a0,h⟩,-⟩|⟨B,off,C,vs,q1,q2,-⟩
  ·exact ⟨_,_,_,h,Nat.le_refl _⟩
  ·exact ⟨_,_,_,q1,q2⟩
 have hrun:=run_append_fits (ty:=o.type) (base:=base) (sLen:=len) (sCap:=C) (w':=w) hT hU hd hi n1 (by simpa using hlC) (by cases base<;>simp[storeCells])
 refine ⟨a.eval zs,?_,r1⟩
 simp[execOp,hop,resolve,hc,ha',hta',invoke,builtin,hv] at hrun ⊢
 rw[hrun]
 rfl
def gC (ρ:Opd→AV) (h:H):AOp→Option (AV × H × Ent)
 | .app false sz bytes s x=>match ρ s,ρ x with
  | .sl s xs c,.sl _ [] _=>some (.sl s xs c,h,aT)
  | .sl _ [] (.exact 0),.sl s' els _=>if s'=sz∧els.all shaped=true∧0<els.length∧els.length*bytes≤140737488355328∧els.length<4611686018427387904 then
    some (.tsl sz h.n 0 els.length none,{h with objs:=upd h.objs h.n (some (.cells (els.flatMap cellsOf))),n:=h.n+1},⟨[],[h.n],[]⟩) else none
  |_,_=>none
 | .buildSl sz parts=>if parts.all (fun x=>(cellsOf (ρ x)).length=sz∧shaped (ρ x))=true∧parts.length*sz≤16777216 then
   some (.tsl sz h.n 0 parts.length none,{h with objs:=upd h.objs h.n (some (.cells ((parts.map ρ).flatMap cellsOf))),n:=h.n+1},⟨[],[h.n],[]⟩) else none
 |_=>none
theorem xG {sz bytes:Nat} {ys yx:Opd} (h:cOp P o=some (.app false sz bytes ys yx)):∃c zs zx T U e e' i,o.op= .call c∧c.callee= .builtin .append∧c.args.toList=[zs,zx]∧c.argTypes.toList=[T,U]∧
  opd P T zs=some ys∧opd P U zx=some yx∧P.underlying T=some (.slice e)∧P.underlying U=some (.slice e')∧P.info? e=some i∧0<i.size∧(i.zero.any fun z=>z.cells.size == i.size)=true∧i.size=sz∧i.bytes=bytes:=by
 unfold cOp at h
 split at h
 case h_28 c hop=>
  split at h
  case h_7 hcal=>
   split at h
   ·rename_i zs zx T U ha hta
    split at h
    ·split at h
     ·split at h
      ·rename_i hq
       cases h
       exact ⟨c,zs,zx,T,U,_,_,_,hop,hcal,ha,hta,‹_›,‹_›,‹_›,‹_›,‹_›,hq.1,hq.2,rfl,rfl⟩
      ·cases h
     ·cases h
    ·(repeat' split at h)<;>(try cases h)<;>simp at h
    ·(repeat' split at h)<;>(try cases h)<;>simp at h
    ·cases h
   ·cases h
  all_goals first
   |(cases h;done)
   |((repeat' split at h)<;>(try cases h)<;>simp at h)
 all_goals first
  |(cases h;done)
  |(simp at h;done)
  |((repeat' split at h)<;>(try cases h)<;>(try simp at h);done)
  |skip
theorem uo {sz:Nat} {ys:List Opd} (h:cOp P o=some (.buildSl sz ys)):∃ty e len parts z,o.op= .buildSlice ty len parts∧P.underlying ty=some (.slice e)∧(P.info? e).isSome=true∧parts.size=len∧0<P.cellsOf e∧(P.info? e).bind (·.zero)=some z∧z.cells.size=P.cellsOf e∧
  iw P e 0 parts.toList=some ys∧sz=P.cellsOf e:=by
 unfold cOp at h
 split at h
 case h_7 ty len parts hop=>
  split at h
  ·split at h
   ·rename_i hq
    simp only[Option.map_eq_some_iff] at h
    obtain ⟨l,h1,h2⟩:=h
    cases h2
    obtain ⟨q1,q2,q3,q4⟩:=hq
    cases hz:(P.info? _).bind (·.zero) with
    |none=>rw[hz] at q4;simp at q4
    |some z=>rw[hz] at q4;exact ⟨ty,_,len,parts,z,hop,‹_›,q2,q1,q3,hz,by simpa using q4,h1,rfl⟩
   ·cases h
  ·cases h
 all_goals first
  |(cases h;done)
  |(simp at h;done)
  |((repeat' split at h)<;>(try cases h)<;>(try simp at h);done)
  |skip
theorem Bz {op:AOp} {x:AV} {h':H} (hc:cOp P o=some op) (hx:gC (ev t) h op=some (x,h',en)):Loc P o t h x h' en:=by
 cases op<;>(try (simp [gC] at hx;done))
 case app str sz bytes s x0=>
  cases str<;>(try (simp [gC] at hx;done))
  obtain ⟨c,zs,zx,T,U,e,e',i,hop,hcal,ha,hta,hys,hyx,hT,hU,hi,hs1,hs2,rfl,rfl⟩:=xG hc
  simp only[gC] at hx
  split at hx
  ·cases hx
   exact By hop hcal ha hta hT hU (.inl ⟨_,rfl⟩) hi hys hyx ‹_› ‹_›
  ·split at hx
   ·rename_i hq
    cases hx
    exact Bx hop hcal ha hta hT hU (.inl ⟨_,rfl⟩) hi hs2 hs1 hys hyx ‹_› ⟨_,_,‹_›,hq.1⟩ hq.2.1 hq.2.2.1 hq.2.2.2.1 hq.2.2.2.2
   ·cases hx
  ·cases hx
 case buildSl sz parts=>
  obtain ⟨ty,e,len,ps,z,hop,hu,hi,hn,hpos,hz,hzs,hys,rfl⟩:=uo hc
  simp only[gC] at hx
  split at hx
  ·rename_i hq
   cases hx
   exact sE hop hu hi hn hpos hz hzs hys (fun y hy=>by simpa using List.all_eq_true.1 hq.1 y hy) hq.2
  ·cases hx
theorem vS {ρ ρ':Opd→AV} {op:AOp} (hx:∀y∈bR op,ρ y=ρ' y):gC ρ h op=gC ρ' h op:=by
 cases op<;>(try rfl)
 case app str sz bytes s x0=>
  cases str
  ·simp only[gC,hx s (by simp[bR]),hx x0 (by simp[bR])]
  ·rfl
 case buildSl sz parts=>
  have e1:parts.map ρ=parts.map ρ':=List.map_congr_left fun y hy=>hx y (by simpa [bR] using hy)
  have e2:parts.all (fun x=>(cellsOf (ρ x)).length=sz∧shaped (ρ x))=parts.all (fun x=>(cellsOf (ρ' x)).length=sz∧shaped (ρ' x)):=by
   refine Bool.eq_iff_iff.2 ?_
   simp only[List.all_eq_true]
   exact ⟨fun h y hy=>by rw[←hx y (by simpa [bR] using hy)];exact h y hy,fun h y hy=>by rw[hx y (by simpa [bR] using hy)];exact h y hy⟩
  simp only[gC,e1,e2]
theorem nM {ops:Array Oper} {i:Nat} {o:Oper} {it:aO} {t:Tm} {h h':H} {x:AV} {en:Ent} (ho:ops[i]? =some o) (hit:bO P N ops o=some it) (hg:guardOf t it.guard=some true) (hx:gC (ev t) h it.op=some (x,h',en)):
  ∃h1 h1',Touch h h1 h1' h' en∧gy P ops i o t h1 x h1':=by
 unfold bO at hit
 split at hit
 ·rename_i op g hop hgd
  split at hit<;>cases hit
  rename_i hcond
  simp only[Bool.and_eq_true] at hcond
  have hop:=fk hop (by rintro rfl;simp[gC] at hx) (by cases op<;>first|rfl|(simp [gC] at hx))
  have hx':gC (ev (ja (names ops o) t)) h op=some (x,h',en):=by
   rw[vS (jG hcond.2)];exact hx
  obtain ⟨h1,h1',tc,loc⟩:=Bz hop hx'
  refine ⟨h1,h1',tc,fun G w a ht R F K Q hK ro=>?_⟩
  obtain ⟨nx,v,w',G',e1,e2,T1,R1,V⟩:=loc G w a (fA ht) R F
  unfold wpOpIn
  rw[ho]
  simp only[dd hgd ht hg,if_true]
  refine ⟨fun _ _=>trivial,?_⟩
  rw[Oper.semAt_eq _ _ _ (eP hop),e1]
  rcases e2 with rfl|⟨rfl,rfl⟩
  ·rw[Oper.uponIn_value];exact hK G' w' v T1 R1 V
  ·rw[Oper.uponIn_skip];exact hK G' w' undef T1 R1 V
 ·cases hit
theorem ao.opT {dst:Option Nat} {g:Option (Nat × Bool)} {op:AOp} {its:List aO} {t:Tm} {h h':H} {log:List Ent} {en:Ent} {K:Tm→H→List Ent→Prop} {x:AV} (hg:guardOf t g=some true) (hx:gC (ev t) h op=some (x,h',en)) (ht:bT op=true)
  (rest:ao P N its (bY t dst x) h' (en::log) K):ao P N (⟨dst,g,op⟩::its) t h log K:=by
 intro ops i hi hc
 obtain ⟨o,ho,hit,hi',hc'⟩:=cE hi hc
 obtain ⟨h1,h1',tc,run⟩:=nM ho hit hg hx
 obtain ⟨recs,t',hh',ch,hk,hen⟩:=rest ops (i+1) hi' hc'
 have hdst:dst=o.dst:=by
  unfold bO at hit
  split at hit
  ·split at hit<;>cases hit;rfl
  ·cases hit
 refine ⟨⟨t,h,h1,h1',h',x,en⟩::recs,t',hh',.cons ho rfl rfl tc (fun _=>run) (by rw[←hdst];exact ch),by simpa using hk,?_⟩
 intro k r it' hr hit' ht'
 cases k with
 |zero=>
  simp at hr hit';subst hr hit'
  rw[ht] at ht';cases ht'
 |succ k=>simp at hr hit';exact hen k r it' hr hit' ht'
theorem lS {f:FuncId} {sz bytes:Nat} (hF:aW P f 8 (lQ sz bytes) [.tmp 2]) (x:AV) (xs:List AV) (hsh:(x::xs).all shaped=true) (hb:(xs.length+1)*bytes≤140737488355328) (hl:xs.length+1<4611686018427387904) (n m:Nat):
  aI P f [.sl sz (x::xs) .any] (H0 n m) (.tsl sz n 0 (xs.length+1) none) (.only (upd aB n (some (.cells ((x::xs).flatMap cellsOf)))) [] (n+1) m):=by
 obtain ⟨r,h',hc,rfl,rfl⟩:=hF.fC (args:=[.sl sz (x::xs) .any]) (h:=H0 n m) (Q:=fun r h'=>r= .tsl sz n 0 (xs.length+1) none∧h'= .only (upd aB n (some (.cells ((x::xs).flatMap cellsOf)))) [] (n+1) m) af (by
  unfold lQ
  refine Wp.aG (by simp only[go_sem,reduceIte,Nat.reduceEqDiff,Nat.reduceAdd,bx];exact rfl) ag ?_
  refine Wp.seq ?_
  refine Wp.aG (by simp only[go_sem,reduceIte,Nat.reduceEqDiff,Nat.reduceAdd,bx];exact rfl) ag ?_
  refine Wp.cond_false (by simp only[go_sem,reduceIte,Nat.reduceEqDiff,Nat.reduceAdd,bx]) ?_
  refine Wp.skip ?_
  refine Wp.seq (Wp.reg ?_)
  refine ao.part 2 (by simp only[go_sem,reduceIte,Nat.reduceEqDiff,Nat.reduceAdd,bx,Nat.zero_mul,Nat.zero_le,and_self,if_true];exact rfl) ?_
  simp only[List.drop_succ_cons,List.drop_zero,List.drop_nil]
  refine ao.opT (by simp only[go_sem,reduceIte,Nat.reduceEqDiff,Nat.reduceAdd,bx]) (by simp only[gC,go_sem,reduceIte,Nat.reduceEqDiff,Nat.reduceAdd,bx,hsh,hb,hl,List.length_cons,and_self,if_true,Nat.zero_lt_succ];exact rfl) rfl ?_
  refine ao.eval (by simp only[go_sem,reduceIte,Nat.reduceEqDiff,Nat.reduceAdd,bx];exact rfl) ?_
  refine ao.nil ⟨by trivial,?_⟩
  refine Wp.ret ⟨trivial,_,rfl,rfl,?_⟩
  rfl)
 exact hc
def H.less (h:H) (id:Nat):H:={h with objs:=fun j=>if j=id then none else h.objs j}
theorem jM {G:aL} {h:H} {w w':World} {id B off C:Nat} {cs xs:List AV} {vs:List Value} (R:aX G h w) (ho:h.objs id=some (.cells cs)) (ht:h.toks=[]) (hs:w.heap.size≤w'.heap.size) (hos:w'.os=w.os) (hou:w'.output=w.output)
  (hk:∀b,b<w.heap.size→b≠G.ι id→w'.heap[b]? =w.heap[b]?) (hf:bX w.heap[G.ι id]? w'.heap[G.ι id]?) (hB:B=G.ι id∨w.heap.size≤B) (hC:xs.length≤C) (hl:vs.length=xs.length) (hE:∀G w,aF G w 1 xs vs)
  (h1:∀v∈vs,One v) (hc:∀(j:Nat) v,vs[j]? =some v→w'.cell? ⟨B,off+j,none⟩=some v):
  ∃G',Trans G w h G' w' (h.less id)∧aX G' (h.less id) w'∧aw G' w' (.sl 1 xs .any) (.slice (some ⟨B,off,none⟩) xs.length C):=by
 let G':aL:={G with own:=fun b=>G.own b∧b≠G.ι id∧b<w.heap.size,lim:=fun b=>if b=G.ι id∨w.heap.size≤b then none else G.lim b}
 have hO:∀b,¬h.O G b→b≠G.ι id:=fun b hh e=>hh ⟨id,_,ho,e.symm⟩
 have hd:∀{j o},(h.less id).objs j=some o→h.objs j=some o∧j≠id:=by
  intro j o a
  simp only[H.less] at a
  split at a
  ·cases a
  ·exact ⟨a,‹_›⟩
 have T:Trans G w h G' w' (h.less id):=by
  constructor
  ·exact fun _ x=>x
  ·exact fun _=> .inl
  ·exact fun _ _=>rfl
  ·exact fun _ x=>x
  ·exact fun _=> .inl
  ·exact fun _ _=>rfl
  ·exact Nat.le_refl _
  ·exact Nat.le_refl _
  ·exact hs
  ·exact hos
  ·exact hou
  ·intro b hb
   by_cases e:b=G.ι id
   ·subst e;exact hf
   ·rw[hk b hb e];exact bX.refl _
  ·exact fun b hb h _=>hk b hb (hO b h)
  ·intro b hb h
   simp only[G',hb,hO b h,and_true,ne_eq,not_false_eq_true]
  ·intro b hb h _
   simp only[G']
   rw[if_neg]
   rintro (e|e)
   ·exact hO b h e
   ·omega
  ·rintro b hb ⟨t,htt,_⟩
   simp[ht] at htt
  ·rintro b _ ⟨j,o,a,e⟩
   exact ⟨j,o,(hd a).1,e⟩
  ·rintro b _ ⟨t,htt,_⟩
   simp[H.less,ht] at htt
  ·exact fun j o x=> .inl ⟨o,(hd x).1⟩
  ·exact fun t x=>by simp[H.less,ht] at x
 refine ⟨G',T,?_,?_⟩
 ·constructor
  ·intro j o a
   obtain ⟨a,q⟩:=hd a
   obtain ⟨r1,r2,r3,r4⟩:=R.obj j o a
   have hne:G.ι j≠G.ι id:=fun e=>q (R.inj _ _ _ _ a ho e)
   refine ⟨r1,⟨r2,hne,r3⟩,Nat.lt_of_lt_of_le r3 hs,?_⟩
   show iS G' w' o w'.heap[G.ι j]?
   rw[hk _ r3 hne]
   cases o with
   |cells cs=>
    obtain ⟨vs,rest,T',fr,y1,y2,y3⟩:=r4
    exact ⟨vs,rest,T',fr,y1,aD.mono R T _ _ y2,y3⟩
   |map es=>
    obtain ⟨en,clock,y1,y2⟩:=r4
    exact ⟨en,clock,y1,Entries.mono R T _ _ y2⟩
   |loop N t ps asg body st pend=>
    obtain ⟨r,y1,y2,y3,y4⟩:=r4
    exact ⟨r,y1,y2,fun i=>aw.mono R T _ _ (y3 i),y4⟩
   |raw c=>exact r4
   |bk c=>exact r4
  ·exact fun i j o o' a b e=>R.inj _ _ _ _ (hd a).1 (hd b).1 e
  ·exact fun t x=>by simp[H.less,ht] at x
  ·exact fun t x=>by simp[H.less,ht] at x
 ·unfold aw
  refine .inr ⟨B,off,C,vs,rfl,hC,ab,hE _ _,fun i v hv=>⟨hc i v hv,h1 v (List.mem_of_getElem? hv),?_,?_⟩,trivial⟩
  ·rintro ⟨-,a,b⟩
   rcases hB with e|e
   ·exact a e
   ·omega
  ·intro e he
   simp only[G',hB,if_true] at he
   cases he
theorem vT {f:FuncId} {sz bytes:Nat} (hF:aW P f 8 (lQ sz bytes) [.tmp 2]):bc P f [.sl sz [] .any] (.sl sz [] (.exact 0)):=by
 intro n m
 refine aI.oE fun a C hC=>?_
 have:bc P f [.sc (.slice a 0 C)] (.sl sz [] (.exact 0)):=by
  refine hF.fD af (bN _ rfl) (cD _ rfl) fun n m=>?_
  unfold lQ
  refine Wp.aG (by simp only[go_sem,reduceIte,Nat.reduceEqDiff,Nat.reduceAdd,bx];exact rfl) ag ?_
  refine Wp.seq ?_
  refine Wp.aG (by simp only[go_sem,reduceIte,Nat.reduceEqDiff,Nat.reduceAdd,bx];exact rfl) ag ?_
  cases ha:a.isNone with
  |true=>
   refine Wp.cond_true (by simp only[go_sem,reduceIte,Nat.reduceEqDiff,Nat.reduceAdd,bx,ha]) ?_
   refine Wp.aG (by simp only[go_sem,reduceIte,Nat.reduceEqDiff,Nat.reduceAdd,bx];exact rfl) ag ?_
   refine Wp.ret ⟨trivial,_,rfl,?_⟩
   simp only[go_sem,reduceIte,Nat.reduceEqDiff,Nat.reduceAdd,bx]
   exact ay.refl _
  |false=>
   refine Wp.cond_false (by simp only[go_sem,reduceIte,Nat.reduceEqDiff,Nat.reduceAdd,bx,ha]) ?_
   refine Wp.skip ?_
   refine Wp.le (s':=⟨tm [(0,.sl sz [] .any)],_⟩) (aK.tm ⟨ay.um hC,trivial⟩) ?_
   refine Wp.seq (Wp.reg ?_)
   refine ao.part 2 (by simp only[go_sem,reduceIte,Nat.reduceEqDiff,Nat.reduceAdd,bx,Nat.zero_mul,Nat.zero_le,and_self,if_true];exact rfl) ?_
   simp only[List.drop_succ_cons,List.drop_zero,List.drop_nil]
   refine ao.opT (by simp only[go_sem,reduceIte,Nat.reduceEqDiff,Nat.reduceAdd,bx]) (by simp only[gC,go_sem,reduceIte,Nat.reduceEqDiff,Nat.reduceAdd,bx];exact rfl) rfl ?_
   refine ao.eval (by simp only[go_sem,reduceIte,Nat.reduceEqDiff,Nat.reduceAdd,bx];exact rfl) ?_
   refine ao.nil ⟨by trivial,?_⟩
   refine Wp.ret ⟨trivial,_,rfl,?_⟩
   simp only[go_sem,reduceIte,Nat.reduceEqDiff,Nat.reduceAdd,bx]
   exact ay.refl _
 exact this n m
def bI (P:Program) (N:Nat) (items:List aO) (t:Tm) (h:H) (K:Tm→H→Prop):Prop:=
 ∀ops i,i≤ops.size→dv P N ops (ops.toList.drop i)=some items→∃recs t' h',bH P ops i recs t h t' h'∧K t' h'
theorem ao.toN {items:List aO} {t:Tm} {h:H} {log:List Ent} {K:Tm→H→Prop} (hw:ao P N items t h log fun t h _=>K t h):bI P N items t h K:=by
 intro ops i hi hc
 obtain ⟨recs,t',h',ch,hk,-⟩:=hw ops i hi hc
 exact ⟨recs,t',h',ch,hk⟩
theorem bI.step {it:aO} {its:List aO} {t:Tm} {h h':H} {x:AV} {en:Ent} {K:Tm→H→Prop}
  (run:∀(ops:Array Oper) i o,ops[i]? =some o→bO P N ops o=some it→∃h1 h1',Touch h h1 h1' h' en∧gy P ops i o t h1 x h1') (rest:bI P N its (bY t it.dst x) h' K):bI P N (it::its) t h K:=by
 intro ops i hi hc
 obtain ⟨o,ho,hit,hi',hc'⟩:=cE hi hc
 obtain ⟨h1,h1',tc,run⟩:=run ops i o ho hit
 obtain ⟨recs,t',hh',ch,hk⟩:=rest ops (i+1) hi' hc'
 have hdst:it.dst=o.dst:=by
  unfold bO at hit
  split at hit
  ·split at hit<;>cases hit;rfl
  ·cases hit
 exact ⟨⟨t,h,h1,h1',h',x,en⟩::recs,t',hh',.cons ho rfl rfl tc (fun _=>run) (by rw[←hdst];exact ch),hk⟩
theorem bI.op {dst:Option Nat} {g:Option (Nat × Bool)} {op:AOp} {its:List aO} {t:Tm} {h h':H} {en:Ent} {K:Tm→H→Prop} {x:AV} (hg:guardOf t g=some true) (hx:aop (ev t) h op=some (x,h',en))
  (rest:bI P N its (bY t dst x) h' K):bI P N (⟨dst,g,op⟩::its) t h K:=
 bI.step (fun ops i o ho hit=>gg ho hit hg hx) rest
theorem bI.opT {dst:Option Nat} {g:Option (Nat × Bool)} {op:AOp} {its:List aO} {t:Tm} {h h':H} {en:Ent} {K:Tm→H→Prop} {x:AV} (hg:guardOf t g=some true) (hx:gC (ev t) h op=some (x,h',en))
  (rest:bI P N its (bY t dst x) h' K):bI P N (⟨dst,g,op⟩::its) t h K:=
 bI.step (fun ops i o ho hit=>nM ho hit hg hx) rest
theorem bI.cx {dst:Option Nat} {g:Option (Nat × Bool)} {f:FuncId} {l:List Opd} {its:List aO} {t:Tm} {h h' h1 h1':H} {en:Ent} {K:Tm→H→Prop} {vals:List AV} {r:AV} (hg:guardOf t g=some true) (hs:au (l.map (ev t)) vals) (hc:aI P f vals h1 r h1')
  (tc:Touch h h1 h1' h' en) (rest:bI P N its (bY t dst r) h' K):bI P N (⟨dst,g,.call f l⟩::its) t h K:=
 bI.step (fun ops i o ho hit=>⟨h1,h1',tc,fS ho hit hg rfl hs hc⟩) rest
theorem bI.cd {dst:Option Nat} {g:Option (Nat × Bool)} {f:FuncId} {l:List Opd} {its:List aO} {t:Tm} {h:H} {K:Tm→H→Prop} {vals:List AV} {r:AV} (hg:guardOf t g=some true) (hs:au (l.map (ev t)) vals) (hc:bc P f vals r)
  (rest:bI P N its (bY t dst r) h K):bI P N (⟨dst,g,.call f l⟩::its) t h K:=
 bI.cx hg hs (hc h.n h.m) (bF h) rest
theorem Wp.DF {items:List aO} {s:St} {Q:aQ→St→Prop} (h:bI P N items s.t s.h fun t' h'=>Q .normal ⟨t',h'⟩):Wp P N (.reg items none) s Q:=by
 intro code hc
 obtain ⟨id,ops,draw,rfl,hi,hd⟩:=ko hc
 obtain ⟨recs,t',h',ch,hq⟩:=h ops 0 (Nat.zero_le _) (by simpa using hi)
 obtain ⟨nm,-,-⟩:=gN ch
 obtain ⟨cl,ci⟩:=fT hi
 have hN:∀(i:Nat) o d,ops[i]? =some o→o.dst=some d→d<N:=by
  intro i o d ho hdd
  have hlt:i<ops.size:=(Array.getElem?_eq_some_iff.1 ho).1
  have hit:i<items.length:=by rw[cl];simpa using hlt
  have:=ci i o items[i] (by simpa using ho) (List.getElem?_eq_getElem hit)
  generalize items[i]=it at this
  unfold bO at this
  split at this
  ·split at this<;>cases this
   rename_i hcond
   simp only[Bool.and_eq_true] at hcond
   have:=hcond.1
   rw[hdd] at this
   simpa using this
  ·cases this
 refine ⟨.normal,⟨t',h'⟩,⟨nm,fun ro okc G w a r F=>?_⟩,hq⟩
 rcases hd with ⟨rfl,-⟩|⟨-,-,-,hn⟩
 ·refine wpIn_region ?_
  rw[List.range_eq_range']
  have:=qX ro (Q:=fun e' a' w'=>aQ.normal.fa e'∧lf w a.defers a'.defers∧∃G',Trans G w s.h G' w' h'∧Rel N ⟨t',h'⟩ G' w' a') hN ch G w a r.size r.t r.h F
   (fun G' w' a' T1 t1 R1 s1 d1=>⟨trivial,by rw[d1];exact .refl,G',T1,⟨s1,t1,R1,by rw[d1];exact r.df.mono T1⟩⟩)
  simpa using this
 ·cases hn
end
end Go.Av
end
section
namespace Go.Av
variable {P:Program} {N:Nat} {s:St} {Q:aQ→St→Prop}
def aQ.noGoto (Q:aQ→St→Prop):aQ→St→Prop
 | .goto _,_=>False
 |e,s=>Q e s
theorem Wp.BA {c:AC} (h:Wp P N c s (aQ.noGoto Q)):Wp P N (.scope c) s Q:=by
 refine Wp.scope (WpS.step (Wp.mono h ?_))
 intro e s' h
 cases e with
 |normal=>exact h
 |exit id=>exact h
 |goto l=>exact h.elim
 |ret=>exact h
 |panic v=>exact h
theorem OLe.skip {f:Nat→Option Obj} {i:Nat} {o:Option Obj} (h:f i=Option.none):OLe (Go.Av.upd f i o) f:=by
 intro j p hp
 refine ⟨p,?_,ed.refl p⟩
 simp only[Go.Av.upd]
 split
 ·rename_i e;subst e;rw[h] at hp;cases hp
 ·exact hp
end Go.Av
end
section
namespace Go.Av
section
variable {P:Program} {N:Nat} {Q:aQ→St→Prop}
theorem o6 {G:aL} {f:Nat→Option Obj} {n m:Nat} (B:Nat):¬(H.only f [] n m).T G B:=fun ⟨t,ht,_⟩=>by simp[H.only] at ht
end
abbrev BB:=Nat→Option Obj
structure Fr where
 o:BB
 k:List Nat
def lay:List Fr→BB
 |[]=>aB
 |F::l=>fun j=>(F.o j).or (lay l j)
def ks (l:List Fr):List Nat:=l.flatMap (·.k)
def ob (i:Nat) (o:Obj):Fr:=⟨upd aB i (some o),[]⟩
def fr0:Fr:=⟨aB,[]⟩
structure Ok (l:List Fr) (n:Nat) (T:List Nat) (m:Nat):Prop where
 bd:∀F∈l,∀j,n≤j→F.o j=none
 dj:l.Pairwise fun F F'=>∀j,F.o j=none∨F'.o j=none
 tk:∀t∈ks l,t∈T
 td:l.Pairwise fun F F'=>∀t∈F.k,t∉F'.k
 tb:∀t∈T,t<m
section
variable {P:Program} {N:Nat}
theorem Wp.nm {c:AC} {s:St} {Q:aQ→St→Prop} (h:Wp P N c s Q):Wp P N c s fun e s'=>Q e s'∧s.h.n≤s'.h.n∧s.h.m≤s'.h.m:=by
 intro code hc
 obtain ⟨e,s',r,q⟩:=h code hc
 exact ⟨e,s',r,q,r.1⟩
structure Ends (l:List Fr) (n m:Nat) (Q:AV→List Fr→Prop) (q:AV) (h:H) (r:AV) (l':List Fr):Prop where
 sub:ay q r
 ole:OLe h.objs (lay l')
 tk:∀t∈ks l',t∈h.toks
 ok:Ok l' h.n (Go.Av.ks l') h.m
 new:∀j,n≤j∨(lay l j).isSome=true∨lay l' j=none
 knew:∀t∈Go.Av.ks l',t∈Go.Av.ks l∨m≤t
 q:Q r l'
def fin (h:H) (ids toks:List Nat):Ent:=⟨[],ids,toks⟩
def Wi (l0:List Fr) (n0:Nat) (l:List Fr):Prop:=∀j,n0≤j∨(lay l0 j).isSome=true∨lay l j=none
def Ki (l0:List Fr) (m0:Nat) (l:List Fr):Prop:=∀t∈ks l,t∈ks l0∨m0≤t
end
section
variable {P:Program} {N:Nat} {s:St} {Q:aQ→St→Prop}
def jc:List aO→Tm→H→List Ent→Option (List aO × Tm × H × List Ent)
 |[],t,h,l=>some ([],t,h,l)
 |it::its,t,h,l=>match guardOf t it.guard with
  |some true=>(match aop (ev t) h it.op with
   |some (x,h',en)=>jc its (bY t it.dst x) h' (en::l)
   |none=>some (it::its,t,h,l))
  |some false=>jc its (bY t it.dst (.sc undef)) h (aT::l)
  |none=>some (it::its,t,h,l)
theorem dg:∀{items:List aO} {t:Tm} {h:H} {l:List Ent} {r:List aO × Tm × H × List Ent},jc items t h l=some r→cQ items t h l=r
 |[],t,h,l,r,he=>by simpa [jc,cQ] using he
 |it::its,t,h,l,r,he=>by
  simp only[jc] at he
  simp only[cQ]
  cases hg:guardOf t it.guard with
  |none=>rw[hg] at he;simpa using he
  |some g=>
   rw[hg] at he
   cases g with
   |false=>exact dg he
   |true=>
    simp only at he ⊢
    cases hx:aop (ev t) h it.op with
    |none=>rw[hx] at he;simpa using he
    |some p=>
     obtain ⟨x,h',en⟩:=p
     rw[hx] at he
     exact dg he
theorem Wp.zu {items its:List aO} {p:Option (List (Nat × Nat))} {y:AC} {t':Tm} {h':H} {log:List Ent} (he:jc items s.t s.h []=some (its,t',h',log)) (h:ao P N its t' h' log fun t h l=>bw p l∧Wp P N y ⟨t,h⟩ Q):Wp P N (.seq (.reg items p) y) s Q:=Wp.seqItems (dg he) h
theorem Wp.E7 {items its:List aO} {p:Option (List (Nat × Nat))} {t':Tm} {h':H} {log:List Ent} (he:jc items s.t s.h []=some (its,t',h',log)) (h:ao P N its t' h' log fun t h l=>bw p l∧Q .normal ⟨t,h⟩):Wp P N (.reg items p) s Q:=Wp.items (dg he) h
def EE:List aO→Tm→H→List Ent→List aO × Tm × H × List Ent
 |[],t,h,l=>([],t,h,l)
 |it::its,t,h,l=>match it.guard with
  |some _=>(it::its,t,h,l)
  |none=>(match aop (ev t) h it.op with
   |some (x,h',en)=>EE its (bY t it.dst x) h' (en::l)
   |none=>(it::its,t,h,l))
end
attribute [go_sem] EE jc
section
variable {P:Program} {N:Nat}
def vU (P:Program) (id:Nat) (args:List AV) (h:H) (r:AV) (h':H):Prop:=
 ∀G w vs,G.dom id→aD G w args vs→aX G h w→cU G h h'→YieldAt Fence.wide 0 P (G.ι id) vs.toArray w fun e w'=>∃v G',e= .returned v∧Trans G w h G' w' h'∧aX G' h' w'∧aw G' w' r v
theorem vV {ro:Option Nat} {n l:Nat} {f:FuncId} {tmps:Array Value} {assign body:Code} {w:World} {R:Ending→World→Prop} (h:RoundIn Fence.wide n P l f tmps assign body w R):RoundIn (rd ro) n P l f tmps assign body w R:=h
theorem uq {ops:Array Oper} {i:Nat} {o:Oper} {it:aO} {t:Tm} {id:Nat} {y:Opd} {l:List Opd} {vals:List AV} {h1 h1':H} {r:AV} (ho:ops[i]? =some o) (hit:bO P N ops o=some it) (hg:guardOf t it.guard=some true) (hop:it.op= .callv y l)
  (hy:ev t y= .yld id) (hs:au (l.map (ev t)) vals) (hc:vU P id vals h1 r h1'):gy P ops i o t h1 r h1':=by
 unfold bO at hit
 split at hit
 ·rename_i op g hcop hgd
  split at hit<;>cases hit
  rename_i hcond
  simp only[Bool.and_eq_true] at hcond
  simp only at hop
  subst hop
  have hcop:=fk hcop af rfl
  obtain ⟨c,z,e1,e2,e3,e4⟩:=qZ hcop
  intro G w a ht R F K Q hK ro
  unfold wpOpIn
  rw[ho]
  simp only[dd hgd ht hg,if_true]
  have rr:=gd (P:=P) (fA ht) e4
  have rz:=aE (P:=P) e3 (fA ht)
  have hcut:=jG (t:=t) hcond.2
  have el:l.map (ev (ja (names ops o) t))=l.map (ev t):=List.map_congr_left fun x hx=>hcut x (by simp[bR,hx])
  rw[el] at rr
  rw[hcut y (by simp[bR]),hy] at rz
  simp only[aw] at rz
  obtain ⟨rdom,rz⟩:=rz
  refine ⟨fun _ _=>trivial,?_⟩
  obtain ⟨fn,tmps,asg,body,q1,q2⟩:=hc G w _ rdom (hs G w _ rr) R F
  have hargs:(c.args.map a.eval)=(c.args.toList.map a.eval).toArray:=by cases c.args;simp
  have hrun:(execOp a.eval o).run P w= .ok (.round (G.ι id) fn tmps asg body) w:=by
   simp[execOp,e1,resolve,e2,rz,Deferred.ofValue,invoke,hargs]
   exact q1
  rw[Oper.semAt_eq _ _ _ (eP hcop),hrun,Oper.uponIn_round]
  refine ⟨fun h=>by simp[rd,Fence.wide] at h,vV (q2.mono ?_)⟩
  rintro e w' ⟨v,G',rfl,T,R',V⟩
  exact hK G' w' v T R' V
 ·cases hit
def mK (t:Tm):List Nat→List AV→Tm
 |p::ps,x::xs=>mK (upd t p x) ps xs
 |_,_=>t
theorem rl {G:aL} {w:World}:∀{ps:List Nat} {xs:List AV} {vs:List Value} {t:Tm} {tmps:Array Value},aD G w xs vs→(∀p∈ps,p<tmps.size)→(∀i,aw G w (t i) (tmps.getD i undef))→
  (∀i,aw G w (mK t ps xs i) (((ps.zip vs).foldl (fun tm (p:Nat × Value)=>tm.setIfInBounds p.1 p.2) tmps).getD i undef))∧((ps.zip vs).foldl (fun tm (p:Nat × Value)=>tm.setIfInBounds p.1 p.2) tmps).size=tmps.size
 |[],xs,vs,t,tmps,_,_,h=>by simpa [mK] using h
 |p::ps,[],vs,t,tmps,hv,_,h=>by
  simp only[aD] at hv;subst hv
  simpa [mK] using h
 |p::ps,x::xs,vs,t,tmps,hv,hp,h=>by
  simp only[aD] at hv
  obtain ⟨v,us,rfl,h1,h2⟩:=hv
  have hk:=hp p af
  have:=rl (ps:=ps) (t:=upd t p x) (tmps:=tmps.setIfInBounds p v) h2 (fun q hq=>by simpa using hp q (by simp[hq])) (fun i=>by
   simp only[upd]
   by_cases e:i=p
   ·subst e;simp[Array.getElem?_setIfInBounds,hk];exact h1
   ·have e2:(tmps.setIfInBounds p v).getD i undef=tmps.getD i undef:=by simp[Array.getElem?_setIfInBounds,Ne.symm e]
    rw[if_neg e,e2];exact h i)
  simp only[mK,List.zip_cons_cons,List.foldl_cons]
  exact ⟨this.1,by rw[this.2];simp⟩
inductive jd:aQ→Bool→LoopState→Option Code→Prop where
 |normal:jd .normal true .ready none
 |ret:jd .ret false .done (some .ret)
 |exit (i:Nat):jd (.exit i) false .done (some (.exit i))
 |goto (l:Nat):jd (.goto l) false .done (some (.goto l))
theorem rp {G:aL} {w:World} {f:BB} {n m id M:Nat} {T:List Nat} {t:Nat→AV} {ps:List Nat} {asg body:Code} {st:LoopState} {pend:Option Code} (R:aX G ⟨f,n,T,m⟩ w) (ho:f id=some (.loop M t ps asg body st pend)) {r:Loop}
  (hr:w.heap[G.ι id]? =some (.loop r)) (st':LoopState) (pend':Option Code):
  Trans G w ⟨f,n,T,m⟩ G (w.putObj (G.ι id) (.loop {r with state:=st',pending:=pend'})) ⟨upd f id (some (.loop M t ps asg body st' pend')),n,T,m⟩∧
  aX G ⟨upd f id (some (.loop M t ps asg body st' pend')),n,T,m⟩ (w.putObj (G.ι id) (.loop {r with state:=st',pending:=pend'})):=by
 obtain ⟨d1,d2,d3,r0,e0,d4⟩:=R.obj id _ ho
 have hrr:r0=r:=by
  have:=hr
  rw[e0] at this
  cases this;rfl
 subst hrr
 have tu:dI (G.ι id) w (w.putObj (G.ι id) (.loop {r0 with state:=st',pending:=pend'})):=
  ⟨by simp,fun B hB=>World.putObj_heap_other hB,fun c T fr e=>absurd (hr.symm.trans e) af,rfl,rfl⟩
 have hO:∀B,H.O ⟨f,n,T,m⟩ G B↔H.O ⟨upd f id (some (.loop M t ps asg body st' pend')),n,T,m⟩ G B:=by
  intro B
  constructor
  ·rintro ⟨j,o,h1,h2⟩
   by_cases e:j=id
   ·exact ⟨id,.loop M t ps asg body st' pend',by simp[upd],by rw[←h2,e]⟩
   ·exact ⟨j,o,by simpa [upd,e] using h1,h2⟩
  ·rintro ⟨j,o,h1,h2⟩
   by_cases e:j=id
   ·exact ⟨id,_,ho,by rw[←h2,e]⟩
   ·exact ⟨j,o,by simpa [upd,e] using h1,h2⟩
 have hne:∀B,¬H.O ⟨f,n,T,m⟩ G B→B≠G.ι id:=fun B h e=>h ⟨id,_,ho,e.symm⟩
 have Tr:Trans G w ⟨f,n,T,m⟩ G (w.putObj (G.ι id) (.loop {r0 with state:=st',pending:=pend'})) ⟨upd f id (some (.loop M t ps asg body st' pend')),n,T,m⟩:=by
  constructor
  ·exact fun _ x=>x
  ·exact fun _=> .inl
  ·exact fun _ _=>rfl
  ·exact fun _ x=>x
  ·exact fun _=> .inl
  ·exact fun _ _=>rfl
  ·exact Nat.le_refl _
  ·exact Nat.le_refl _
  ·rw[tu.size];exact Nat.le_refl _
  ·exact tu.os
  ·exact tu.out
  ·intro B hB
   by_cases e:B=G.ι id
   ·subst e
    rw[hr,World.putObj_heap_same d3]
    exact ⟨_,rfl⟩
   ·rw[tu.same B e];exact bX.refl _
  ·exact fun B hB h1 _=>tu.same B (hne B h1)
  ·exact fun _ _ _=>Iff.rfl
  ·exact fun _ _ _ _=>rfl
  ·intro B hB h1 h2 e he
   refine ⟨fun j hj=>?_,fun e' he'=>by rw[he] at he';cases he';exact Nat.le_refl _⟩
   have:=tu.same B (hne B h2)
   unfold World.cell?
   simp only[this]
  ·exact fun B _ h=>(hO B).2 h
  ·exact fun B _ h=>h
  ·intro j o h
   by_cases e:j=id
   ·exact .inl ⟨_,by rw[e];exact ho⟩
   ·exact .inl ⟨o,by simpa [upd,e] using h⟩
  ·exact fun _=> .inl
 refine ⟨Tr,⟨fun j o hj=>?_,fun i j o o' h1 h2=>?_,fun t ht=>⟨(R.tok t ht).1,fun B e he=>by rw[tu.size];exact (R.tok t ht).2 B e he⟩,R.tinj⟩⟩
 ·by_cases e:j=id
  ·subst e
   have:o= .loop M t ps asg body st' pend':=by simpa [upd] using hj.symm
   subst this
   refine ⟨d1,d2,by rw[tu.size];exact d3,_,World.putObj_heap_same d3,d4.1,fun i=>aw.dt tu _ _ (d4.2.1 i),d4.2.2.1,d4.2.2.2.1,d4.2.2.2.2.1,rfl,rfl⟩
  ·have hj':f j=some o:=by simpa [upd,e] using hj
   obtain ⟨a1,a2,a3,a4⟩:=R.obj j o hj'
   refine ⟨a1,a2,by rw[tu.size];exact a3,?_⟩
   have hb:G.ι j≠G.ι id:=fun e'=>e (R.inj j id o _ hj' ho e')
   rw[tu.same _ hb]
   exact a4.dt tu
 ·have get:∀k p,upd f id (some (.loop M t ps asg body st' pend')) k=some p→∃p',f k=some p':=by
   intro k p hk
   by_cases e:k=id
   ·exact ⟨_,by rw[e];exact ho⟩
   ·exact ⟨p,by simpa [upd,e] using hk⟩
  obtain ⟨p,hp⟩:=get i o h1
  obtain ⟨p',hp'⟩:=get j o' h2
  exact R.inj i j p p' hp hp'
theorem zw {id M n m:Nat} {f:BB} {T:List Nat} {t:Tm} {ps:List Nat} {asg body:Code} {x y:AC} {args:List AV} {Q:AV→H→Prop} (ho:f id=some (.loop M t ps asg body .ready none)) (ha:cCode P M asg=some x) (hb:cCode P M body=some y) (hna:fQ asg=true) (hnb:fQ body=true)
  (hl:args.length=ps.length) (hps:∀p∈ps,p<M)
  (hw:Wp P M x ⟨mK t ps args,⟨f,n,T,m⟩⟩ fun e s=>e= .normal∧∃t1,s.h.objs id=some (.loop M t1 ps asg body .ready none)∧
   Wp P M y ⟨s.t,{s.h with objs:=upd s.h.objs id (some (.loop M t1 ps asg body .busy none))}⟩ fun e2 s2=>∃t2 b st pend,s2.h.objs id=some (.loop M t2 ps asg body .busy none)∧jd e2 b st pend∧
    Q (.bool b) {s2.h with objs:=upd s2.h.objs id (some (.loop M t2 ps asg body st pend))}):
  ∃r h',vU P id args ⟨f,n,T,m⟩ r h'∧Q r h':=by
 obtain ⟨e,s,run,rfl,t1,ho1,hw2⟩:=hw asg ha
 obtain ⟨e2,s2,run2,t2,b,st,pend,ho2,hre,hq⟩:=hw2 body hb
 refine ⟨_,_,?_,hq⟩
 have nm1:=run.1
 have nm2:=run2.1
 simp only at nm1 nm2
 intro G w vs hdom hv R F
 obtain ⟨d1,d2,d3,r,e0,d4,d5,d6,d7,d8,d9,d10⟩:=R.obj id _ ho
 have hsz:vs.toArray.size=r.params.size:=by
  have h1:=hv.length
  have h2:r.params.toList.length=ps.length:=by rw[d6]
  simp at h2 ⊢
  omega
 refine ⟨r.fn,_,r.assign,r.body,run_yield e0 hsz,?_⟩
 refine roundIn_of_wpIn (F:=Fence.wide) trivial ?_
 have hzip:(r.params.zip vs.toArray).foldl (fun tmps (p:Tmp × Value)=>tmps.setIfInBounds p.1 p.2) r.tmps=(ps.zip vs).foldl (fun tm (p:Nat × Value)=>tm.setIfInBounds p.1 p.2) r.tmps:=by
  rw[←Array.foldl_toList,Array.toList_zip,d6]
 have hput:=rl (ps:=ps) (t:=t) (tmps:=r.tmps) hv (fun p hp=>by rw[d4];exact hps p hp) d5
 have F1:cU G ⟨f,n,T,m⟩ s.h:=F.sub (Nat.le_refl _) nm2.1 (Nat.le_refl _) nm2.2
 have rel0:Rel M ⟨mK t ps args,⟨f,n,T,m⟩⟩ G w {tmps:=(r.params.zip vs.toArray).foldl (fun tmps (p:Tmp × Value)=>tmps.setIfInBounds p.1 p.2) r.tmps,defers:=[]}:=by
  rw[hzip]
  exact ⟨hput.2.trans d4,hput.1,R,by simp,by simp⟩
 have w1:=run.2 (some (G.ι id)) (.inr hna) G w _ rel0 F1
 rw[d7,d8]
 refine wpIn_mono w1 ?_
 rintro e' a1 w1' ⟨h1,-,G1,T1,r1⟩
 cases e'<;>simp only[aQ.fa] at h1
 have hι:G1.ι id=G.ι id:=T1.ι_eq id d1
 obtain ⟨k1,k2,k3,r',k4,k5,k6,k7,k8,k9,k10,k11⟩:=r1.h.obj id _ ho1
 rw[hι] at k3 k4
 have hbr:=run_beginRound (P:=P) k4 k10
 refine ⟨_,hbr,?_⟩
 have k4':w1'.heap[G1.ι id]? =some (.loop r'):=by rw[hι];exact k4
 obtain ⟨T2,R2⟩:=rp (n:=s.h.n) (m:=s.h.m) (T:=s.h.toks) (f:=s.h.objs) r1.h ho1 k4' .busy none
 rw[hι] at T2 R2
 have hrec:{r' with state:=LoopState.busy,pending:=(none:Option Code)}= {r' with state:= .busy}:=by rw[←k11]
 rw[hrec] at T2 R2
 have rel1:Rel M ⟨s.t,{s.h with objs:=upd s.h.objs id (some (.loop M t1 ps asg body .busy none))}⟩ G1 (w1'.putObj (G.ι id) (.loop {r' with state:= .busy})) a1:=
  ⟨r1.size,fun i=>aw.mono r1.h T2 _ _ (r1.t i),R2,r1.df.mono T2⟩
 have F2:cU G1 {s.h with objs:=upd s.h.objs id (some (.loop M t1 ps asg body .busy none))} s2.h:=by
  have:=(F.step (h':={s2.h with objs:=upd s2.h.objs id (some (.loop M t2 ps asg body st pend))}) T1)
  exact this
 refine wpIn_mono (run2.2 (some (G.ι id)) (.inr hnb) G1 _ a1 rel1 F2) ?_
 rintro e' a2 w2 ⟨q1,-,G2,T3,r2⟩
 have hι2:G2.ι id=G.ι id:=(T3.ι_eq id k1).trans hι
 obtain ⟨j1,j2,j3,r'',j4,j5,j6,j7,j8,j9,j10,j11⟩:=r2.h.obj id _ ho2
 have j4':w2.heap[G.ι id]? =some (.loop r''):=by rw[←hι2];exact j4
 obtain ⟨T4,R4⟩:=rp (n:=s2.h.n) (m:=s2.h.m) (T:=s2.h.toks) (f:=s2.h.objs) r2.h ho2 j4 st pend
 rw[hι2] at T4 R4
 have Tall:=((T1.trans R r1.h T2).trans R R2 T3).trans R r2.h T4
 cases hre
 all_goals
  cases e'<;>simp only[aQ.fa] at q1
  try subst q1
  have hend:=fun j=>run_endRound (P:=P) j j4'
  refine ⟨_,_,hend _,_,G2,rfl,Tall,R4,?_⟩
  simp only[aw,Option.isNone_none,Option.isNone_some]
theorem zy {code:Code} {g:Opd} {ps:List Nat} {x y:AC} (h:cCode P N code=some (.vL g ps x y)):∃z qs a b,code= .rangeFunc z qs a b∧opd P 0 z=some g∧qs.toList=ps∧cCode P N a=some x∧cCode P N b=some y∧fQ a=true∧fQ b=true:=by
 cases code with
 |rangeFunc z qs a b=>
  simp only[cCode] at h
  split at h
  ·rename_i g' x' y' h1 h2 h3
   split at h
   ·rename_i hcc
    cases h
    have hcc':fQ a=true∧fQ b=true:=by simpa using hcc
    exact ⟨_,_,_,_,rfl,h1,rfl,h2,h3,hcc'.1,hcc'.2⟩
   ·cases h
  ·cases h
 |_=>
  simp only[cCode] at h
  first|(simp at h;done)|(cases h;done)|((repeat' split at h)<;>cases h;done)
inductive kM:Option Code→aQ→Prop where
 |none:kM none .normal
 |ret:kM (some .ret) .ret
 |exit (i:Nat):kM (some (.exit i)) (.exit i)
 |goto (l:Nat):kM (some (.goto l)) (.goto l)
theorem Wp.vL {g:Opd} {ps:List Nat} {x y:AC} {t:Tm} {f:BB} {n m:Nat} {T:List Nat} {Q:aQ→St→Prop} {fi:FuncId} {fn:Func} {first caps:List AV} (hg:ev t g= .clo (.func fi) first caps) (hf:P.funcs[fi]? =some fn) (hfb:fn.body.isSome=true) (hfn:fn.name≠ "runtime.NumGoroutine")
  (hfresh:f n=none)
  (hw:∀asg body,cCode P N asg=some x→cCode P N body=some y→fQ asg=true→fQ body=true→∃r f2 n2 T2 m2 t2 st pend e,
   aI P fi (first++[.yld n]++caps) ⟨upd f n (some (.loop N t ps asg body .ready none)),n+1,T,m⟩ r ⟨f2,n2,T2,m2⟩∧n+1≤n2∧m≤m2∧f2 n=some (.loop N t2 ps asg body st pend)∧st≠ .busy∧kM pend e∧
   Q e ⟨t,⟨fun j=>if j=n then none else f2 j,n2,T2,m2⟩⟩):Wp P N (.vL g ps x y) ⟨t,⟨f,n,T,m⟩⟩ Q:=by
 intro code hc
 obtain ⟨z,qs,asg,body,rfl,c1,c2,c3,c4,c5,c6⟩:=zy hc
 obtain ⟨r,f2,n2,T2,m2,t2,st,pend,e,aY,hn2,hm2,ho2,hst,hle,hq⟩:=hw asg body c3 c4 c5 c6
 refine ⟨e,_,⟨⟨by simp only;omega,by simp only;omega⟩,fun ro okc G w a rel F=>?_⟩,hq⟩
 obtain rfl:ro=none:=by
  rcases okc with h|h
  ·exact h
  ·simp[fQ] at h
 have hz:aw G w (.clo (.func fi) first caps) (a.eval z):=by rw[←hg];exact aE c1 rel.t
 simp only[aw] at hz
 obtain ⟨vs,us,hz,hv1,hv2⟩:=hz
 refine wpIn_rangeFunc (F:=rd none) (n:=0) fun fid _=>?_
 let D:=w.heap.size
 let dG:Loop:={state:= .ready,pending:=none,fn:=fid,tmps:=a.tmps,params:=qs,assign:=asg,body:=body,defers:=w.heap.size}
 let w1:=(w.alloc (.deferred (some []))).alloc (.loop dG)
 have hD1:w1.heap[D]? =some (.deferred (some [])):=by
  show ((w.heap.push (.deferred (some []))).push (.loop dG))[w.heap.size]? =_
  rw[Array.getElem?_push,if_neg af,Array.getElem?_push,if_pos rfl]
 have hL1:w1.heap[D+1]? =some (.loop dG):=by
  show ((w.heap.push (.deferred (some []))).push (.loop dG))[w.heap.size+1]? =_
  rw[Array.getElem?_push,if_pos af]
 have hsz1:w1.heap.size=w.heap.size+2:=by show ((w.heap.push (.deferred (some []))).push (.loop dG)).size=_;simp
 have hold:∀B,B<w.heap.size→w1.heap[B]? =w.heap[B]? :=by
  intro B hB
  show ((w.heap.push (.deferred (some []))).push (.loop dG))[B]? =_
  rw[Array.getElem?_push,if_neg (by rw[Array.size_push];omega),Array.getElem?_push,if_neg ab]
 have hndom:¬G.dom n:=F.1 n (Nat.le_refl _) (by simp only;omega)
 let G1:aL:={G with dom:=fun j=>G.dom j∨j=n,ι:=upd G.ι n (D+1),own:=fun B=>G.own B∨B=D+1}
 have hι1:∀j,G.dom j→G1.ι j=G.ι j:=fun j hj=>by
  simp only[G1,upd];rw[if_neg];rintro rfl;exact hndom hj
 have hιn:G1.ι n=D+1:=by simp[G1,upd]
 have hne:∀j o,f j=some o→j≠n:=fun j o h e=>by subst e;rw[hfresh] at h;cases h
 have hO:∀B,B<w.heap.size→H.O ⟨upd f n (some (.loop N t ps asg body .ready none)),n+1,T,m⟩ G1 B→H.O ⟨f,n,T,m⟩ G B:=by
  rintro B hB ⟨j,o,h1,h2⟩
  by_cases e':j=n
  ·subst e';rw[hιn] at h2;omega
  ·have h1':f j=some o:=by simpa [upd,e'] using h1
   exact ⟨j,o,h1',by rw[←hι1 j (rel.h.obj j o h1').1];exact h2⟩
 have Tr1:Trans G w ⟨f,n,T,m⟩ G1 w1 ⟨upd f n (some (.loop N t ps asg body .ready none)),n+1,T,m⟩:=by
  constructor
  ·exact fun _ x=> .inl x
  ·rintro j (h|rfl)
   ·exact .inl h
   ·exact .inr ⟨Nat.le_refl _,Nat.lt_succ_self _⟩
  ·exact hι1
  ·exact fun _ x=>x
  ·exact fun _=> .inl
  ·exact fun _ _=>rfl
  ·exact Nat.le_succ _
  ·exact Nat.le_refl _
  ·rw[hsz1];omega
  ·rfl
  ·rfl
  ·intro B hB;rw[hold B hB];exact bX.refl _
  ·exact fun B hB _ _=>hold B hB
  ·intro B hB _
   exact ⟨fun h=>h.resolve_right ab,.inl⟩
  ·exact fun _ _ _ _=>rfl
  ·intro B hB h1 h2 e' he'
   refine ⟨fun j hj=>?_,fun e'' he''=>?_⟩
   ·have:=hold B hB
    unfold World.cell?
    simp only[this]
   ·have he2:G.lim B=some e'':=he''
    rw[he'] at he2;cases he2;exact Nat.le_refl _
  ·exact hO
  ·exact fun _ _ h=>h
  ·intro j o h
   by_cases e':j=n
   ·subst e';exact .inr ⟨Nat.le_refl _,Nat.lt_succ_self _⟩
   ·exact .inl ⟨o,by simpa [upd,e'] using h⟩
  ·exact fun _=> .inl
 have R1:aX G1 ⟨upd f n (some (.loop N t ps asg body .ready none)),n+1,T,m⟩ w1:=by
  refine ⟨fun j o h=>?_,fun i j o o' h1 h2 h3=>?_,fun k hk=>⟨(rel.h.tok k hk).1,fun B e' he'=>?_⟩,rel.h.tinj⟩
  ·by_cases e':j=n
   ·subst e'
    have:o= .loop N t ps asg body .ready none:=by simpa [upd] using h.symm
    subst this
    refine ⟨.inr rfl,by rw[hιn];exact .inr rfl,by rw[hιn,hsz1];show w.heap.size+1<_;omega,dG,by rw[hιn];exact hL1,rel.size,fun i=>aw.mono rel.h Tr1 _ _ (rel.t i),c2,rfl,rfl,rfl,rfl⟩
   ·have h':f j=some o:=by simpa [upd,e'] using h
    obtain ⟨a1,a2,a3,a4⟩:=rel.h.obj j o h'
    refine ⟨.inl a1,by rw[hι1 j a1];exact .inl a2,by rw[hι1 j a1,hsz1];omega,?_⟩
    rw[hι1 j a1,hold _ a3]
    exact a4.mono rel.h Tr1
  ·have low:∀k p,f k=some p→G1.ι k<w.heap.size:=fun k p hk=>by rw[hι1 k (rel.h.obj k p hk).1];exact (rel.h.obj k p hk).2.2.1
   by_cases e1:i=n
   ·by_cases e2:j=n
    ·rw[e1,e2]
    ·have:=low j o' (by simpa [upd,e2] using h2)
     rw[←h3,e1,hιn] at this
     omega
   ·have hi:f i=some o:=by simpa [upd,e1] using h1
    by_cases e2:j=n
    ·have:=low i o hi
     rw[h3,e2,hιn] at this
     omega
    ·have hj:f j=some o':=by simpa [upd,e2] using h2
     exact rel.h.inj i j o o' hi hj (by rw[←hι1 i (rel.h.obj i o hi).1,←hι1 j (rel.h.obj j o' hj).1];exact h3)
  ·obtain ⟨b1,b2,b3⟩:=(rel.h.tok k hk).2 B e' he'
   refine ⟨b1,?_,by rw[hsz1];omega⟩
   rintro (h|h)
   ·exact b2 h
   ·omega
 have F1:cU G1 ⟨upd f n (some (.loop N t ps asg body .ready none)),n+1,T,m⟩ ⟨f2,n2,T2,m2⟩:=F.step Tr1
 have hargs:aD G1 w1 (first++[.yld n]++caps) (vs++[Value.func (.yield (D+1)) #[] #[]]++us):=by
  refine aD.append (aD.append (aD.mono rel.h Tr1 _ _ hv1) ?_) (aD.mono rel.h Tr1 _ _ hv2)
  simp only[aD,aw]
  exact ⟨_,[],rfl,⟨.inr rfl,by rw[hιn]⟩,rfl⟩
 refine ⟨D+1,[{target:= .collected D,args:= #[]}],w1,{target:= .fn (.func fi) us.toArray,args:=vs.toArray++ #[Value.func (.yield (D+1)) #[] #[]]},w1,fi,(vs++[Value.func (.yield (D+1)) #[] #[]]++us).toArray,w1,?_,?_,fun _ _=>trivial,?_,fun h=>by simp[rd,Fence.wide] at h,lP ?_⟩
 ·exact run_enterLoop_outer fid a.tmps qs asg body
 ·have he:∀v,a.eval (.const v)=v:=fun _=>rfl
  simp[resolve,rangeCall,hz,Deferred.ofValue,he]
 ·simp[invoke,eQ w1 hf hfb hfn]
 ·refine (aY G1 w1 _ hargs R1 F1).mono ?_
  rintro e' w3 ⟨v,G3,rfl,T3,R3,V3⟩
  obtain ⟨b1,b2,b3,⟨st3,pend3,fn3,tmps3,params3,asg3,body3,df3⟩,b4,b5,b6,b7,b8,b9,b10,b11⟩:=R3.obj n _ ho2
  simp only at b10 b11
  subst b11
  have hι3:G3.ι n=D+1:=(T3.ι_eq n (.inr rfl)).trans hιn
  rw[hι3] at b3 b4
  have hDO1:¬H.O ⟨upd f n (some (.loop N t ps asg body .ready none)),n+1,T,m⟩ G1 D:=by
   rintro ⟨j,o,h1,h2⟩
   by_cases e':j=n
   ·subst e';rw[hιn] at h2;omega
   ·have h1':f j=some o:=by simpa [upd,e'] using h1
    have:=(rel.h.obj j o h1').2.2.1
    rw[hι1 j (rel.h.obj j o h1').1] at h2
    omega
  have hDT1:¬H.T ⟨upd f n (some (.loop N t ps asg body .ready none)),n+1,T,m⟩ G1 D:=by
   rintro ⟨k,hk,e',he'⟩
   have:=((rel.h.tok k hk).2 D e' he').2.2
   omega
  have hDlt:D<w1.heap.size:=by rw[hsz1];show w.heap.size<_;omega
  have hD3:w3.heap[D]? =some (.deferred (some [])):=(T3.keep D hDlt hDO1 hDT1).trans hD1
  have hDO3:¬H.O ⟨f2,n2,T2,m2⟩ G3 D:=fun h=>hDO1 (T3.O_new D hDlt h)
  have hDT3:¬H.T ⟨f2,n2,T2,m2⟩ G3 D:=fun h=>hDT1 (T3.T_new D hDlt h)
  refine ⟨pend3,_,run_endLoop b4 (by simp only;rw[b10];exact hst),?_⟩
  let w4:=w3.putObj (D+1) (.loop ⟨.exhausted,pend3,fn3,tmps3,params3,asg3,body3,df3⟩)
  have tu:dI (D+1) w3 w4:=⟨by simp[w4],fun B hB=>World.putObj_heap_other hB,fun c T fr e=>absurd (b4.symm.trans e) af,rfl,rfl⟩
  have hle3:HLe ⟨f2,n2,T2,m2⟩ ⟨fun j=>if j=n then none else f2 j,n2,T2,m2⟩:=by
   refine ⟨fun j o' hj=>?_,fun t h=>h⟩
   simp only at hj
   split at hj
   ·cases hj
   ·exact ⟨o',hj,ed.refl _⟩
  have T03:Trans G w ⟨f,n,T,m⟩ G3 w3 ⟨fun j=>if j=n then none else f2 j,n2,T2,m2⟩:=(Tr1.trans rel.h R1 T3).trans rel.h R3 (Trans.le hle3 (Nat.le_refl _) (Nat.le_refl _))
  have R03:=R3.le hle3
  have hLO:¬H.O ⟨fun j=>if j=n then none else f2 j,n2,T2,m2⟩ G3 (D+1):=by
   rintro ⟨j,o,h1,h2⟩
   simp only at h1
   split at h1
   ·cases h1
   ·rename_i hjn
    exact hjn (R3.inj j n o _ h1 ho2 (by rw[h2,hι3]))
  have T04:=T03.dt tu (by show w.heap.size≤w.heap.size+1;omega)
  have R04:=R03.dt tu hLO
  have hD4:w4.heap[D]? =some (.deferred (some [])):=by rw[tu.same D ab];exact hD3
  have relEnd:Rel N ⟨t,⟨fun j=>if j=n then none else f2 j,n2,T2,m2⟩⟩ G3 w4 {a with defers:=[({target:= .collected D,args:= #[]}:Deferred)]++a.defers}:=by
   refine ⟨rel.size,fun i=>aw.dt tu _ _ (aw.mono rel.h T03 _ _ (rel.t i)),R04,?_,?_⟩
   ·show ([({target:= .collected D,args:= #[]}:Deferred)]++a.defers).Nodup
    rw[List.singleton_append,List.nodup_cons]
    refine ⟨fun hm=>?_,rel.df.1⟩
    obtain ⟨D',e',h1,-⟩:=rel.df.2 _ hm
    simp only[Deferred.mk.injEq,Target.collected.injEq,and_true] at e'
    have:=xy h1
    rw[←e'] at this
    exact absurd this (Nat.lt_irrefl _)
   ·intro d hd
    rcases List.mem_append.1 hd with hd|hd
    ·rw[List.mem_singleton.1 hd]
     exact ⟨D,rfl,hD4,fun ⟨j,o,h1,h2⟩=>by
      simp only at h1
      split at h1
      ·cases h1
      ·exact hDO3 ⟨j,o,h1,h2⟩,hDT3⟩
    ·exact (rel.df.mono T04).2 d hd
  have hnew:lf w a.defers ([({target:= .collected D,args:= #[]}:Deferred)]++a.defers):=by
   intro d hd
   rcases List.mem_append.1 hd with hd|hd
   ·rw[List.mem_singleton.1 hd];exact .inr ⟨D,Nat.le_refl _,rfl⟩
   ·exact .inl hd
  cases hle with
  |none=>exact ⟨trivial,hnew,G3,T04,relEnd⟩
  |ret=>exact wpIn_ret ⟨trivial,hnew,G3,T04,relEnd⟩
  |exit i=>exact wpIn_exit ⟨rfl,hnew,G3,T04,relEnd⟩
  |goto l=>exact wpIn_goto ⟨rfl,hnew,G3,T04,relEnd⟩
end
section
variable {P:Program} {N:Nat} {o:Oper} {t:Tm} {h:H} {en:Ent}
end
section
variable {P:Program} {N:Nat} {o:Oper} {t:Tm} {h:H}
theorem zA {ty e:TypeId} {zl zc:Operand} {yl yc:Opd} {i:TypeInfo} {z:Value} {b:AV} {kl kc:IntKind} {l c:Int} (hop:o.op= .makeSlice ty zl zc) (hu:P.underlying ty=some (.slice e)) (hi:P.info? e=some i) (hz:i.zero=some z) (hzs:z.cells.size=i.size) (hpos:0<i.size)
  (hb:db P e z=some b) (hyl:opd P 0 zl=some yl) (hyc:opd P 0 zc=some yc) (hl:ev t yl= .int kl l) (hc:ev t yc= .int kc c) (h0:0≤l) (hlc:l≤c) (hbytes:c*i.bytes≤140737488355328) (hc63:c<9223372036854775808) (hsh:shaped b=true):
  Loc P o t h (.tsl i.size h.n 0 l.toNat none) {h with objs:=upd h.objs h.n (some (.cells ((List.replicate l.toNat b).flatMap cellsOf))),n:=h.n+1} ⟨[],[h.n],[]⟩:=by
 refine ⟨_,_,eg h _,fun G w a ht R F=>?_⟩
 have r1:=aE hyl ht
 have r2:=aE hyc ht
 rw[hl] at r1
 rw[hc] at r2
 simp only[aw] at r1 r2
 have rb:=dO (G:=G) (w:=w) hb
 obtain ⟨sc1,sc2⟩:=ec rb hsh
 have hel:∀k:Nat,aF G w i.size (List.replicate k b) (List.replicate k z.cells.toList).flatten:=by
  intro k
  induction k with
  |zero=>simp[aF]
  |succ k ih=>
   simp only[List.replicate_succ,List.flatten_cons,aF]
   exact ⟨z,_,rfl,hzs,rb,ih⟩
 have hone:∀k:Nat,∀u∈(List.replicate k z.cells.toList).flatten,One u:=by
  intro k u hu
  obtain ⟨x,hx,hu'⟩:=List.mem_flatten.1 hu
  rw[(List.mem_replicate.1 hx).2] at hu'
  exact ep sc1 sc2 u hu'
 have hrow:∀k:Nat,(((Array.range (k*i.size)).map (z.cells[· %z.cells.size]!))).toList=(List.replicate k z.cells.toList).flatten:=by
  intro k
  apply List.ext_getElem?
  intro j
  have hL:z.cells.toList.length=i.size:=by simp[hzs]
  rcases Nat.lt_or_ge j (k*i.size) with hj|hj
  ·rw[mu z.cells.toList ab k j (by rw[hL];exact hj),hL]
   have hm:j%i.size<z.cells.size:=by rw[hzs];exact Nat.mod_lt _ hpos
   have hb2:z.cells[j%i.size]? =some z.cells[j%i.size]! :=by rw[getElem!_pos z.cells (j%i.size) hm];exact Array.getElem?_eq_getElem hm
   simp[hj,hzs,hb2]
  ·rw[List.getElem?_eq_none ak,List.getElem?_eq_none (by simp[hzs];omega)]
 have hrow2:((Array.range (c.toNat*i.size)).map (z.cells[· %z.cells.size]!))=((List.replicate l.toNat z.cells.toList).flatten++(List.replicate (c.toNat - l.toNat) z.cells.toList).flatten).toArray:=by
  apply Array.ext'
  rw[hrow]
  have:c.toNat=l.toNat+(c.toNat - l.toNat):=by omega
  rw[this,←List.replicate_append_replicate,List.flatten_append]
  simp
 have hlen:∀k:Nat,((List.replicate k z.cells.toList).flatten).length=k*i.size:=by intro k;simp[hzs]
 obtain ⟨G',T1,R1,V⟩:=mq (m:=h.m) (sz:=i.size) (len:=l.toNat) (C:=c.toNat) (dZ w (.cells ((List.replicate l.toNat z.cells.toList).flatten++(List.replicate (c.toNat - l.toNat) z.cells.toList).flatten).toArray e (0,0))) (ff (hel l.toNat) (by simp[hsh])) (hone _) (kG F (by simp[H.only])) ⟨ab,ab⟩ (by rw[hlen,hlen,←Nat.add_mul];exact Nat.mul_le_mul_right _ ab)
 refine ⟨.value (.slice (some ⟨w.heap.size,0,none⟩) l.toNat c.toNat),_,_,G',?_,.inl rfl,T1,R1,V⟩
 have hwl:IntKind.i64.wrap l=l:=by
  simp[IntKind.wrap,IntKind.bits,IntKind.signed];omega
 have hwc:IntKind.i64.wrap c=c:=by
  simp[IntKind.wrap,IntKind.bits,IntKind.signed];omega
 have hcc:i.bytes*c≤140737488355328:=by rw[Int.mul_comm];exact hbytes
 have e1:¬(c<0):=by omega
 have e2:¬(281474976710656<(i.bytes:Int)*c):=by omega
 have e3:¬(l<0):=by omega
 have e4:¬(c<l):=by omega
 have hrz:(zeroValue e).run P w= .ok z w:=by simp[zeroValue,typeInfo,hi,hz]
 have hsize:(sizeOf e).run P w= .ok i.size w:=by simp[sizeOf,typeInfo,hi]
 simp only[execOp,hop,Instr.makeSlice,Sem.run_bind,run_underlying hu,Result.andThen_ok,r1,r2,asInt,asIntOf,Sem.run_pure,typeInfo,run_program,hi,hwl,hwc]
 simp[e1,e2,e3,e4,hsize,hrz,newRow]
 split
 ·rename_i hz0
  have hc0:c.toNat=0:=by
   rcases Nat.mul_eq_zero.1 hz0 with h|h
   ·exact h
   ·omega
  have hl0:l.toNat=0:=by omega
  have hr0:Array.range 0= #[]:=rfl
  simp[hc0,hl0,hr0]
 ·have hrow3:=hrow2
  simp only[hrow3]
def jN (ρ:Opd→AV) (h:H):AOp→Option (AV × H × Ent)
 | .mksl sz bytes zero len cap=>match ρ len,ρ cap with
  | .int _ l,.int _ c=>if 0≤l∧l≤c∧c*bytes≤140737488355328∧c<9223372036854775808∧shaped zero then
    some (.tsl sz h.n 0 l.toNat none,{h with objs:=upd h.objs h.n (some (.cells ((List.replicate l.toNat zero).flatMap cellsOf))),n:=h.n+1},⟨[],[h.n],[]⟩) else none
  |_,_=>none
 |_=>none
theorem ur {op:AOp} {x:AV} {h':H} {en:Ent} (hc:cOp P o=some op) (hx:jN (ev t) h op=some (x,h',en)):Loc P o t h x h' en:=by
 cases op<;>(try (simp [jN] at hx;done))
 rename_i sz bytes zero len cap
 have inv:∃ty zl zc e i z,o.op= .makeSlice ty zl zc∧P.underlying ty=some (.slice e)∧P.info? e=some i∧i.zero=some z∧z.cells.size=i.size∧0<i.size∧db P e z=some zero∧opd P 0 zl=some len∧opd P 0 zc=some cap∧i.size=sz∧i.bytes=bytes:=by
  unfold cOp at hc
  split at hc
  case h_14=>
   split at hc
   ·split at hc
    ·split at hc
     ·split at hc
      ·split at hc
       case isFalse=>cases hc
       rename_i hcond
       cases hc
       exact ⟨_,_,_,_,_,_,‹_›,‹_›,‹_›,‹_›,hcond.1,hcond.2,‹_›,‹_›,‹_›,rfl,rfl⟩
      ·cases hc
     ·cases hc
    ·cases hc
   ·cases hc
  all_goals first
   |(cases hc;done)
   |(simp at hc;done)
   |((repeat' split at hc)<;>(try cases hc)<;>(try simp at hc);done)
 obtain ⟨ty,zl,zc,e,i,z,h1,h2,h3,h4,h5,h6,h7,h8,h9,rfl,rfl⟩:=inv
 simp only[jN] at hx
 split at hx
 ·split at hx
  ·rename_i hq
   obtain ⟨q1,q2,q3,q4,q5⟩:=hq
   cases hx
   exact zA h1 h2 h3 h4 h5 h6 h7 h8 h9 ‹_› ‹_› q1 q2 q3 q4 q5
  ·cases hx
 ·cases hx
theorem vW {ρ ρ':Opd→AV} {op:AOp} (hx:∀y∈bR op,ρ y=ρ' y):jN ρ h op=jN ρ' h op:=by
 cases op<;>(try rfl)
 rename_i sz bytes zero len cap
 simp only[jN,hx len (by simp[bR]),hx cap (by simp[bR])]
end
section
variable {P:Program} {N:Nat} {o:Oper} {t:Tm} {h:H} {en:Ent} {G:aL} {w:World}
theorem pO {id n m:Nat} {c:Obj} {j:Nat} {o:Obj} (ho:(H.only (upd aB id (some c)) [] n m).objs j=some o):j=id∧o=c:=by
 simp only[H.only,upd,aB] at ho
 split at ho
 ·cases ho;exact ⟨‹_›,rfl⟩
 ·cases ho
theorem pP {id n m:Nat} {cs xs:List AV} {us:List Value} (R:aX G (.only (upd aB id (some (.cells cs))) [] n m) w) (hn:¬G.dom n) (hr:aD G w xs us) (h1:∀v∈us,One v)
  {c:Array Value} {T0:TypeId} {fr0:Nat × Nat} (hc0:w.heap[G.ι id]? =some (.cells c T0 fr0)) (hl:cs.length+xs.length≤c.size):
  ∃w' G',(storeCells ⟨G.ι id,cs.length,none⟩ us 0).run P w= .ok () w'∧Trans G w (.only (upd aB id (some (.cells cs))) [] n m) G' w' (.only (upd aB n (some (.cells (cs++xs)))) [] (n+1) m)∧aX G' (.only (upd aB n (some (.cells (cs++xs)))) [] (n+1) m) w'∧
   G'.dom n∧G'.ι n=G.ι id∧∃c' T' fr',w'.heap[G.ι id]? =some (.cells c' T' fr')∧c'.size=c.size:=by
 have hme:(H.only (upd aB id (some (.cells cs))) [] n m).objs id=some (.cells cs):=by simp[H.only,upd]
 obtain ⟨d1,d2,d3,-⟩:=R.obj id _ hme
 obtain ⟨vs,rest,T,fr,hg,hvs,hfr,hone⟩:=fp R hme
 have hlen:=hvs.length
 have hul:=hr.length
 have hcs:c.size=vs.length+rest.length:=by
  rw[hg] at hc0
  cases hc0
  simp
 have hc:∀j,w.cell? ⟨G.ι id,j,none⟩=(vs++rest)[j]? :=by
  intro j;unfold World.cell?;simp only[hg];simp
 have hcell:∀j,j<us.length→(w.cell? ⟨G.ι id,cs.length+0+j,none⟩).isSome=true:=fun j hj=>by rw[hc];simp;omega
 have hfrz:∀j,j<us.length→w.frozen? ⟨G.ι id,cs.length+0+j,none⟩=false:=fun j hj=>by
  unfold World.frozen?;simp only[hg]
  have:¬(fr.1≤cs.length+0+j∧cs.length+0+j<fr.2):=fun h=>by omega
  simpa using this
 have honec:∀v∈us,v.oneCell'=true:=fun v hv=>by
  obtain ⟨k1,k2⟩:=h1 v hv
  cases v with
  |agg a=>exact absurd rfl (k1 a)
  |tuple a=>exact absurd rfl (k2 a)
  |_=>rfl
 have hrun:=run_storeCells_cells (P:=P) (G.ι id) cs.length us 0 w hcell hfrz honec
 rw[Nat.add_zero] at hrun
 obtain ⟨a1,a2,a3,a4,a5⟩:=bM (G.ι id) T fr us cs.length (vs++rest) w hg ak
 have ecur:(vs++rest).take cs.length++us++(vs++rest).drop (cs.length+us.length)=(vs++us)++rest.drop us.length:=by
  rw[List.take_append_of_le_length ab,List.take_of_length_le ab,List.drop_append,List.drop_of_length_le ab,hlen,List.nil_append]
  congr 2;omega
 rw[ecur] at a1
 clear hcell hfrz honec
 generalize w.setCells (G.ι id) cs.length us=w1 at*
 let G':aL:={G with dom:=fun j=>G.dom j∨j=n,ι:=upd G.ι n (G.ι id)}
 have hιn:G'.ι n=G.ι id:=by simp[G',upd]
 have hι:∀j,G.dom j→G'.ι j=G.ι j:=fun j hj=>by
  simp only[G',upd];rw[if_neg];rintro rfl;exact hn hj
 refine ⟨w1,G',hrun,?_⟩
 have T1:Trans G w (.only (upd aB id (some (.cells cs))) [] n m) G' w1 (.only (upd aB n (some (.cells (cs++xs)))) [] (n+1) m):=by
  constructor
  ·exact fun _ x=> .inl x
  ·rintro j (x|rfl)
   ·exact .inl x
   ·exact .inr ⟨by simp[H.only],by simp[H.only]⟩
  ·exact hι
  ·exact fun _ x=>x
  ·exact fun _=> .inl
  ·exact fun _ _=>rfl
  ·simp[H.only]
  ·exact Nat.le_refl _
  ·rw[a3];exact Nat.le_refl _
  ·exact a4
  ·exact a5
  ·intro B hB
   by_cases hBi:B=G.ι id
   ·subst hBi
    rw[a1,hg]
    exact ⟨_,_,rfl,by simp;omega,fun _ _ h=>h⟩
   ·rw[a2 B hBi];exact bX.refl _
  ·intro B hB hO _
   exact a2 B fun e=>hO ⟨id,_,hme,e.symm⟩
  ·exact fun _ _ _=>Iff.rfl
  ·exact fun _ _ _ _=>rfl
  ·rintro B hB ⟨t,ht,_⟩;simp[H.only] at ht
  ·rintro B hB ⟨j,o,ho,e⟩
   obtain ⟨rfl,rfl⟩:=pO ho
   exact ⟨id,_,hme,by rw[←e,hιn]⟩
  ·rintro B hB ⟨t,ht,_⟩;simp[H.only] at ht
  ·intro j o ho
   obtain ⟨rfl,rfl⟩:=pO ho
   exact .inr ⟨by simp[H.only],by simp[H.only]⟩
  ·intro t ht;simp[H.only] at ht
 refine ⟨T1,⟨?_,?_,?_,?_⟩,.inr rfl,hιn,_,T,fr,a1,?_⟩
 ·intro j o ho
  obtain ⟨rfl,rfl⟩:=pO ho
  refine ⟨.inr rfl,by rw[hιn];exact d2,by rw[hιn,a3];exact d3,?_⟩
  rw[hιn,a1]
  refine ⟨_,_,T,fr,rfl,(aD.mono R T1 _ _ hvs).append (aD.mono R T1 _ _ hr),hfr,?_⟩
  intro v hv
  rcases List.mem_append.1 hv with hv|hv
  ·exact hone v hv
  ·exact h1 v hv
 ·intro j j' o o' ho ho' _
  rw[(pO ho).1,(pO ho').1]
 ·intro t ht;simp[H.only] at ht
 ·intro t ht;simp[H.only] at ht
 ·simp;omega
theorem Trans.EF {id n m:Nat} {c:Obj} {G':aL} {w':World} {h':H} (T:Trans G w (.only aB [] n m) G' w' h'):Trans G w (.only (upd aB id (some c)) [] n m) G' w' h':=by
 constructor
 ·exact T.dom_le
 ·exact T.dom_new
 ·exact T.ι_eq
 ·exact T.tdom_le
 ·exact T.tdom_new
 ·exact T.τ_eq
 ·exact T.n_le
 ·exact T.m_le
 ·exact T.size_le
 ·exact T.os
 ·exact T.output
 ·exact T.form
 ·exact fun B hB _ _=>T.keep B hB (eY B) (o6 B)
 ·exact fun B hB _=>T.own_keep B hB (eY B)
 ·exact fun B hB _ _=>T.lim_keep B hB (eY B) (o6 B)
 ·exact fun B hB x=>absurd x (o6 B)
 ·exact fun B hB x=>absurd (T.O_new B hB x) (eY B)
 ·exact fun B hB x=>absurd (T.T_new B hB x) (o6 B)
 ·intro j o ho
  rcases T.objs_new j o ho with ⟨o',x⟩|x
  ·simp[H.only,aB] at x
  ·exact .inr x
 ·exact T.toks_new
theorem vX (h:H) {id:Nat} {ob ob':Obj} (ho:h.objs id=some ob):Touch h (.only (upd aB id (some ob)) [] h.n h.m) (.only (upd aB h.n (some ob')) [] (h.n+1) h.m) {h with objs:=upd (fun j=>if j=id then none else h.objs j) h.n (some ob'),n:=h.n+1} ⟨[],[id,h.n],[]⟩ where
 sub:=⟨fun j o hj=>by obtain ⟨rfl,rfl⟩:=pO hj;exact ho,fun t ht=>by simp[H.only] at ht⟩
 n:=rfl
 m:=rfl
 eq:=by
  refine H.ext (fun j=>?_) rfl (by simp[H.patch,H.only];exact (List.filter_eq_self.2 fun _ _=>rfl).symm) rfl
  simp only[H.patch,H.only,upd,aB]
  by_cases e1:j=h.n
  ·subst e1;simp
  ·by_cases e2:j=id
   ·subst e2;simp[e1]
   ·have:¬(h.n≤j∧j<h.n+1):=by omega
    simp[e1,e2,this]
 rd j x:=by
  right
  simp only[H.only,upd,aB] at x
  split at x
  ·rename_i e;simp[e]
  ·simp at x
 wr j a b:=by simp only[H.only] at a b;simp;omega
 chg j x hx:=by
  simp only[H.only,upd,aB] at x
  split at x
  ·rename_i e;subst e;simp at hx
  ·simp at x
 tk t x:=by simp[H.only] at x
 tn t x:=by simp[H.only] at x
 le:=by simp[H.only]
 lem:=Nat.le_refl _
theorem BC {c:Call} {zs zx:Operand} {ys yx:Opd} {T U e:TypeId} {d:TypeDesc} {i:TypeInfo} {id len:Nat} {cap:Option Nat} {cs els:List AV} (hop:o.op= .call c) (hc:c.callee= .builtin .append) (ha:c.args.toList=[zs,zx]) (hta:c.argTypes.toList=[T,U])
  (hT:P.underlying T=some (.slice e)) (hU:P.underlying U=some d) (hd:(∃e',d= .slice e')∨d= .string) (hi:P.info? e=some i) (hz:i.zero.any (fun z=>z.cells.size == i.size)=true) (hsz:0<i.size)
  (hys:opd P T zs=some ys) (hyx:opd P U zx=some yx) (hs:ev t ys= .tsl i.size id 0 len cap) (ho:h.objs id=some (.cells cs)) (hcl:cs.length=len*i.size) (hx:∃s' c',ev t yx= .sl s' els c'∧s'=i.size) (hsh:els.all shaped=true)
  (hb:(len+els.length)*i.bytes≤140737488355328) (hlen:len+els.length<4611686018427387904):
  Loc P o t h (.tsl i.size h.n 0 (len+els.length) none) {h with objs:=upd (fun j=>if j=id then none else h.objs j) h.n (some (.cells (cs++els.flatMap cellsOf))),n:=h.n+1} ⟨[],[id,h.n],[]⟩:=by
 have ha':c.args= #[zs,zx]:=by rw[←Array.toArray_toList (xs:=c.args),ha]
 have hta':c.argTypes= #[T,U]:=by rw[←Array.toArray_toList (xs:=c.argTypes),hta]
 obtain ⟨z,hz1,hz2⟩:∃z,i.zero=some z∧z.cells.size=i.size:=by
  cases hzz:i.zero with
  |none=>rw[hzz] at hz;simp at hz
  |some z=>rw[hzz] at hz;exact ⟨z,rfl,by simpa using hz⟩
 refine ⟨_,_,vX h ho,fun G w a ht R F=>?_⟩
 have r1:=aE hys ht
 have r2:=aE hyx ht
 rw[hs] at r1
 obtain ⟨s',c',hx,hs'⟩:=hx
 rw[hx] at r2
 obtain ⟨news,n1,n2,n3⟩:=gF (P:=P) (.inl hs') r2
 have hnl:=n2.length
 have hnr:=ff n2 hsh
 have hnrl:=hnr.length
 have hdn:¬G.dom h.n:=F.1 h.n (by simp[H.only]) (by simp[H.only])
 have hme:(H.only (upd aB id (some (.cells cs))) [] h.n h.m).objs id=some (.cells cs):=by simp[H.only,upd]
 obtain ⟨d1,d2,d3,-⟩:=R.obj id _ hme
 obtain ⟨vs,rest,T0,fr,hg,hvs,hfr,hone⟩:=fp R hme
 have hvl:=hvs.length
 have hmul:(len+els.length)*i.size=len*i.size+els.length*i.size:=Nat.add_mul _ _ _
 have fin:∀v w' G',(execOp a.eval o).run P w= .ok (.value v) w'→Trans G w (.only (upd aB id (some (.cells cs))) [] h.n h.m) G' w' (.only (upd aB h.n (some (.cells (cs++els.flatMap cellsOf)))) [] (h.n+1) h.m)→aX G' (.only (upd aB h.n (some (.cells (cs++els.flatMap cellsOf)))) [] (h.n+1) h.m) w'→aw G' w' (.tsl i.size h.n 0 (len+els.length) none) v→
   ∃nx v w' G',(execOp a.eval o).run P w= .ok nx w'∧(nx= .value v∨nx= .skip∧v=undef)∧Trans G w (.only (upd aB id (some (.cells cs))) [] h.n h.m) G' w' (.only (upd aB h.n (some (.cells (cs++els.flatMap cellsOf)))) [] (h.n+1) h.m)∧aX G' (.only (upd aB h.n (some (.cells (cs++els.flatMap cellsOf)))) [] (h.n+1) h.m) w'∧aw G' w' (.tsl i.size h.n 0 (len+els.length) none) v:=
  fun v w' G' a b c d=>⟨_,v,w',G',a,.inl rfl,b,c,d⟩
 have hex:∀{va vx r:Value} {w':World},a.eval zs=va→(Builtin.append_ #[T,U] o.type #[va,a.eval zx]).run P w= .ok r w'→(execOp a.eval o).run P w= .ok (.value r) w':=by
  intro va vx r w' h1 h2
  simp[execOp,hop,resolve,hc,ha',hta',invoke,builtin,h1,h2]
 simp only[aw] at r1
 obtain ⟨-,⟨C,c1,T1,fr1,hv,⟨hC,hC2⟩,-,hg1,hroom⟩|⟨rfl,⟨a0,hv⟩,-⟩⟩:=r1
 ·have hc1:c1.size=vs.length+rest.length:=by rw[hg] at hg1;cases hg1;simp
  by_cases hfit:len+els.length≤C
  ·have hCs:(len+els.length)*i.size≤C*i.size:=Nat.mul_le_mul_right _ hfit
   obtain ⟨w',G',q1,q2,q3,q4,q5,c',T',fr',q6,q7⟩:=pP (P:=P) R hdn hnr n3 hg1 ab
   have hst:(storeCells ((⟨G.ι id,0,none⟩:Addr).add (len*i.size)) news).run P w= .ok () w':=by
    have e:(⟨G.ι id,0,none⟩:Addr).add (len*i.size)=⟨G.ι id,cs.length,none⟩:=by rw[add_plain,hcl,Nat.zero_add]
    rw[e];exact q1
   refine fin _ w' G' (hex (vx:= .nilIface) hv (run_append_fits (ty:=o.type) hT hU hd hi n1 hfit hst)) q2 q3 ?_
   unfold aw
   refine ⟨q4,.inl ⟨C,c',T',fr',by rw[q5],⟨hfit,hC2⟩,(fun _ h=>by cases h),by rw[q5];exact q6,ab⟩⟩
  ·have hsrc:Src P w i.size (.slice (some ⟨G.ι id,0,none⟩) len C) len vs:=by
    refine ⟨by simp[Builtin.lenOf],fun w' hw=>?_⟩
    have:=run_loadCells_list (P:=P) w' ⟨G.ι id,0,none⟩ vs (fun j u hu=>by
     rw[add_plain,cell_of_heap hw]
     unfold World.cell?
     simp only[hg]
     have hj:=(List.getElem?_eq_some_iff.1 hu).1
     simp[List.getElem?_append_left hj,hu])
    simp only[Builtin.firstCells]
    rw[←hcl,←hvl];exact this
   obtain ⟨w',C',rest',e1,e2,e3,e4⟩:=eL (ty:=o.type) hT hU hd hi hz1 hz2 hsz n1 hsrc hfit hC hb hlen
   obtain ⟨G',T2,R2,V⟩:=mq (m:=h.m) (sz:=i.size) (cs:=cs++els.flatMap cellsOf) e2 (hvs.append hnr) (fun u hu=>by
    rcases List.mem_append.1 hu with h|h
    ·exact hone u h
    ·exact n3 u h) hdn e3 (by simp only[List.length_append];omega)
   exact fin _ w' G' (hex (vx:= .nilIface) hv e1) T2.EF R2 V
 ·by_cases hk:els=[]
  ·subst hk
   have hnn:news=[]:=by simpa [aF] using n2
   subst hnn
   have hcs0:cs=[]:=by
    cases cs with
    |nil=>rfl
    |cons x l=>simp at hcl
   subst hcs0
   obtain ⟨w',G',q1,q2,q3,q4,q5,-⟩:=pP (P:=P) (xs:=[]) (us:=[]) R hdn .nil af hg af
   have hw':w'=w:=by simpa [storeCells] using q1.symm
   subst hw'
   refine fin _ w' G' (hex (vx:= .nilIface) hv (run_append_fits (ty:=o.type) hT hU hd hi n1 (Nat.le_refl _) (w':=w') (by cases a0<;>rfl))) q2 q3 ?_
   unfold aw
   exact ⟨q4,.inr ⟨rfl,⟨a0,rfl⟩,fun _ h=>by cases h⟩⟩
  ·have hpos:0<els.length:=List.length_pos_iff.2 hk
   have hcs0:cs=[]:=by
    cases cs with
    |nil=>rfl
    |cons x l=>simp at hcl
   subst hcs0
   obtain ⟨w',C',rest',e1,e2,e3,e4⟩:=eL (ty:=o.type) hT hU hd hi hz1 hz2 hsz n1 (iX (some a0)) ab (Nat.le_refl _) (by simpa using hb) (by simpa using hlen)
   rw[List.nil_append] at e2
   obtain ⟨G',T2,R2,V⟩:=mq (m:=h.m) (sz:=i.size) e2 hnr n3 hdn e3 ab
   exact fin _ w' G' (hex (vx:= .nilIface) hv e1) T2.EF R2 V
def mL (ρ:Opd→AV) (h:H):AOp→Option (AV × H × Ent)
 | .app false sz bytes s x=>match ρ s,ρ x with
  | .tsl z id 0 len _,.sl s' els _=>match h.objs id with
   |some (.cells cs)=>if z=sz∧s'=sz∧cs.length=len*sz∧els.all shaped=true∧(len+els.length)*bytes≤140737488355328∧len+els.length<4611686018427387904 then
     some (.tsl sz h.n 0 (len+els.length) none,{h with objs:=upd (fun j=>if j=id then none else h.objs j) h.n (some (.cells (cs++els.flatMap cellsOf))),n:=h.n+1},⟨[],[id,h.n],[]⟩) else none
   |_=>none
  |_,_=>none
 |_=>none
theorem BD {op:AOp} {x:AV} {h':H} (hc:cOp P o=some op) (hx:mL (ev t) h op=some (x,h',en)):Loc P o t h x h' en:=by
 cases op<;>(try (simp [mL] at hx;done))
 case app str sz bytes s x0=>
  cases str<;>(try (simp [mL] at hx;done))
  obtain ⟨c,zs,zx,T,U,e,e',i,hop,hcal,ha,hta,hys,hyx,hT,hU,hi,hs1,hs2,rfl,rfl⟩:=xG hc
  simp only[mL] at hx
  split at hx
  ·split at hx
   ·split at hx
    ·rename_i hq
     obtain ⟨q1,q2,q3,q4,q5,q6⟩:=hq
     subst q1
     cases hx
     exact BC hop hcal ha hta hT hU (.inl ⟨_,rfl⟩) hi hs2 hs1 hys hyx ‹_› ‹_› q3 ⟨_,_,‹_›,q2⟩ q4 q5 q6
    ·cases hx
   ·cases hx
  ·cases hx
theorem vY {ρ ρ':Opd→AV} {op:AOp} (hx:∀y∈bR op,ρ y=ρ' y):mL ρ h op=mL ρ' h op:=by
 cases op<;>(try rfl)
 case app str sz bytes s x0=>
  cases str
  ·simp only[mL,hx s (by simp[bR]),hx x0 (by simp[bR])]
  ·rfl
theorem zB {ops:Array Oper} {i:Nat} {o:Oper} {it:aO} {t:Tm} {h h':H} {x:AV} {en:Ent} (ho:ops[i]? =some o) (hit:bO P N ops o=some it) (hg:guardOf t it.guard=some true) (hx:mL (ev t) h it.op=some (x,h',en)):
  ∃h1 h1',Touch h h1 h1' h' en∧gy P ops i o t h1 x h1':=by
 unfold bO at hit
 split at hit
 ·rename_i op g hop hgd
  split at hit<;>cases hit
  rename_i hcond
  simp only[Bool.and_eq_true] at hcond
  have hop:=fk hop (by rintro rfl;simp[mL] at hx) (by cases op<;>first|rfl|(simp [mL] at hx))
  have hx':mL (ev (ja (names ops o) t)) h op=some (x,h',en):=by
   rw[vY (jG hcond.2)];exact hx
  obtain ⟨h1,h1',tc,loc⟩:=BD hop hx'
  refine ⟨h1,h1',tc,fun G w a ht R F K Q hK ro=>?_⟩
  obtain ⟨nx,v,w',G',e1,e2,T1,R1,V⟩:=loc G w a (fA ht) R F
  unfold wpOpIn
  rw[ho]
  simp only[dd hgd ht hg,if_true]
  refine ⟨fun _ _=>trivial,?_⟩
  rw[Oper.semAt_eq _ _ _ (eP hop),e1]
  rcases e2 with rfl|⟨rfl,rfl⟩
  ·rw[Oper.uponIn_value];exact hK G' w' v T1 R1 V
  ·rw[Oper.uponIn_skip];exact hK G' w' undef T1 R1 V
 ·cases hit
theorem ao.opK {dst:Option Nat} {g:Option (Nat × Bool)} {op:AOp} {its:List aO} {t:Tm} {h h':H} {log:List Ent} {en:Ent} {K:Tm→H→List Ent→Prop} {x:AV} (hg:guardOf t g=some true) (hx:mL (ev t) h op=some (x,h',en)) (ht:bT op=true)
  (rest:ao P N its (bY t dst x) h' (en::log) K):ao P N (⟨dst,g,op⟩::its) t h log K:=by
 intro ops i hi hc
 obtain ⟨o,ho,hit,hi',hc'⟩:=cE hi hc
 obtain ⟨h1,h1',tc,run⟩:=zB ho hit hg hx
 obtain ⟨recs,t',hh',ch,hk,hen⟩:=rest ops (i+1) hi' hc'
 have hdst:dst=o.dst:=by
  unfold bO at hit
  split at hit
  ·split at hit<;>cases hit;rfl
  ·cases hit
 refine ⟨⟨t,h,h1,h1',h',x,en⟩::recs,t',hh',.cons ho rfl rfl tc (fun _=>run) (by rw[←hdst];exact ch),by simpa using hk,?_⟩
 intro k r it' hr hit' ht'
 cases k with
 |zero=>
  simp at hr hit';subst hr hit'
  rw[ht] at ht';cases ht'
 |succ k=>simp at hr hit';exact hen k r it' hr hit' ht'
end
theorem je {d:List (Nat × List UInt8)} (ok:∀x∈d,x.2.length=128) (i:Nat):(eD d i).length=128:=by
 induction d with
 |nil=>simp[eD]
 |cons x d ih=>
  simp only[eD]
  split
  ·exact ok x af
  ·exact ih fun y hy=>ok y (by simp[hy])
theorem kN (d:List (Nat × List UInt8)) (i j:Nat) (l:List UInt8):eD ((i,l)::d) j=if j=i then l else eD d j:=by
 simp only[eD]
 by_cases h:j=i
 ·subst h;simp
 ·rw[if_neg h]
  have:Nat.beq i j=false:=by
   cases e:Nat.beq i j with
   |false=>rfl
   |true=>exact absurd (Nat.eq_of_beq_eq_true e).symm h
  rw[this]
def iF (n:Nat) (f:Nat→List AV):List AV:=((List.range n).map f).flatten
theorem gh {n i:Nat} (f:Nat→List AV) (h:i<n):iF n f=iF i f++f i++((List.range' (i+1) (n - (i+1))).map f).flatten:=by
 have e:List.range n=List.range i++[i]++List.range' (i+1) (n - (i+1)):=by
  rw[List.range_eq_range',List.range_eq_range']
  have:n=i+(1+(n - (i+1))):=by omega
  conv=>lhs;rw[this,←List.range'_append_1,←List.range'_append_1]
  simp
 unfold iF
 rw[e]
 simp
theorem kO {f:Nat→List AV} {k:Nat} (hf:∀i,(f i).length=k) (n:Nat):(iF n f).length=n*k:=by
 induction n with
 |zero=>simp[iF]
 |succ n ih=>
  rw[gh f (Nat.lt_succ_self n)]
  simp[ih,hf,Nat.succ_mul]
theorem vZ {f:Nat→List AV} {k n i:Nat} (hf:∀i,(f i).length=k) (h:i<n):part (i*k) (some k) (iF n f)=some (.agg (f i)):=by
 have hl:=kO hf n
 have hi:i*k+k≤n*k:=by rw[←Nat.succ_mul];exact Nat.mul_le_mul_right _ h
 unfold part
 simp only[hl,if_pos hi]
 have h1:=kO hf i
 rw[gh f h,List.append_assoc,List.drop_append_of_le_length ab,List.drop_eq_nil_of_le ab,List.nil_append,List.take_append_of_le_length (by rw[hf];omega),List.take_of_length_le (by rw[hf];omega)]
theorem DG {A F g B:List AV} (h:g.length=F.length):setAt (A++F++B) A.length g=A++g++B:=by
 unfold setAt
 rw[h,←List.length_append,List.drop_left,List.append_assoc A F B,List.take_left]
theorem zD {f g:Nat→List AV} {k n i:Nat} (hf:∀i,(f i).length=k) (h:i<n) (hl:(g i).length=k) (hg:∀j,j≠i→g j=f j):setAt (iF n f) (i*k) (g i)=iF n g:=by
 have h1:=kO hf i
 rw[gh f h,gh g h]
 have e1:iF i g=iF i f:=by
  unfold iF
  congr 1
  exact List.map_congr_left fun j hj=>hg j (by have:=List.mem_range.1 hj;omega)
 have e2:(List.range' (i+1) (n - (i+1))).map g=(List.range' (i+1) (n - (i+1))).map f:=List.map_congr_left fun j hj=>hg j (by have:=List.mem_range'_1.1 hj;omega)
 rw[e1,e2,←h1,DG (by rw[hl,hf])]
theorem mM (b:BK):dX b=iF b.n fun i=>ar (eD b.d i):=by
 unfold dX bkI iF tJ
 rw[List.map_flatten,List.map_map]
 congr 1
 refine List.map_congr_left fun i _=>?_
 simp[u8I,ar,byte]
theorem v7 {b:BK} (ok:lF b) (i:Nat):(ar (eD b.d i)).length=128:=by simp[ar,je ok i]
theorem DH {b:BK} (ok:lF b) {i:Nat} (h:i<b.n):part (i*128) (some 128) (dX b)=some (.agg (ar (eD b.d i))):=by
 rw[mM];exact vZ (v7 ok) h
theorem E8 {b:BK} (ok:lF b) {i:Nat} (h:i<b.n) {l:List UInt8} (hl:l.length=128):setAt (dX b) (i*128) (ar l)=dX ⟨b.n,(i,l)::b.d⟩:=by
 rw[mM,mM]
 have e:=zD (f:=fun i=>ar (eD b.d i)) (g:=fun j=>ar (eD ((i,l)::b.d) j)) (v7 ok) h (by simp[kN,ar,hl]) fun j hj=>by simp[kN,hj]
 have e2:ar (eD ((i,l)::b.d) i)=ar l:=by simp[kN]
 rw[e2] at e
 exact e
theorem Gw {b:BK} (ok:lF b) {i:Nat} {l:List UInt8} (hl:l.length=128):lF ⟨b.n,(i,l)::b.d⟩:=by
 intro x hx
 simp only[List.mem_cons] at hx
 rcases hx with rfl|hx
 ·exact hl
 ·exact ok x hx
theorem BE {b:BK} (ok:lF b):(dX b).length=b.n*128:=by rw[mM];exact kO (v7 ok) _
theorem E9 (n:Nat):(List.replicate n (AV.agg (List.replicate 128 (.int .u8 0)))).flatMap cellsOf=dX ⟨n,[]⟩:=by
 rw[mM]
 induction n with
 |zero=>simp[iF]
 |succ n ih=>
  rw[List.replicate_succ',List.flatMap_append,ih,gh _ (Nat.lt_succ_self n)]
  simp[cellsOf,eD,ar,byte]
theorem Fa {G:aL} {w:World} {objs:Nat→Option Obj} {n m:Nat} {T:List Nat} {id:Nat} {b:BK} (R:aX G ⟨upd objs id (some (.bk b)),n,T,m⟩ w):lF b∧aX G ⟨upd objs id (some (.cells (dX b))),n,T,m⟩ w:=by
 have ok:lF b:=by
  have:=(R.obj id (.bk b) (by simp[upd])).2.2.2
  exact this.1
 refine ⟨ok,R.le ⟨fun j o' hj=>?_,fun t ht=>ht⟩⟩
 simp only[upd] at hj ⊢
 by_cases e:j=id
 ·rw[if_pos e] at hj ⊢
  cases hj
  exact ⟨_,rfl,by simp[ed]⟩
 ·rw[if_neg e] at hj ⊢
  exact ⟨o',hj,ed.refl _⟩
theorem xH {G:aL} {w:World} {objs:Nat→Option Obj} {n m:Nat} {T:List Nat} {id:Nat} {b:BK} (ok:lF b) (R:aX G ⟨upd objs id (some (.cells (dX b))),n,T,m⟩ w):aX G ⟨upd objs id (some (.bk b)),n,T,m⟩ w:=by
 refine R.le ⟨fun j o' hj=>?_,fun t ht=>ht⟩
 simp only[upd] at hj ⊢
 by_cases e:j=id
 ·rw[if_pos e] at hj ⊢
  cases hj
  exact ⟨_,rfl,by simp[ed,ok]⟩
 ·rw[if_neg e] at hj ⊢
  exact ⟨o',hj,ed.refl _⟩
theorem Trans.EG {G G':aL} {w w':World} {h1 h1' h2 h2':H} (T:Trans G w h1 G' w' h1') (e1:h1.n=h2.n) (e2:h1.m=h2.m) (e3:h1.toks=h2.toks) (e4:∀j,(h1.objs j).isSome=(h2.objs j).isSome) (f1:h1'.n=h2'.n) (f2:h1'.m=h2'.m) (f3:h1'.toks=h2'.toks) (f4:∀j,(h1'.objs j).isSome=(h2'.objs j).isSome):Trans G w h2 G' w' h2':=by
 have hO:∀G B,h1.O G B↔h2.O G B:=by
  intro G B
  constructor
  ·rintro ⟨id,o,ho,e⟩
   have:=e4 id;rw[ho] at this
   obtain ⟨o2,h⟩:=Option.isSome_iff_exists.1 this.symm
   exact ⟨id,o2,h,e⟩
  ·rintro ⟨id,o,ho,e⟩
   have:=e4 id;rw[ho] at this
   obtain ⟨o2,h⟩:=Option.isSome_iff_exists.1 this
   exact ⟨id,o2,h,e⟩
 have hO':∀G B,h1'.O G B↔h2'.O G B:=by
  intro G B
  constructor
  ·rintro ⟨id,o,ho,e⟩
   have:=f4 id;rw[ho] at this
   obtain ⟨o2,h⟩:=Option.isSome_iff_exists.1 this.symm
   exact ⟨id,o2,h,e⟩
  ·rintro ⟨id,o,ho,e⟩
   have:=f4 id;rw[ho] at this
   obtain ⟨o2,h⟩:=Option.isSome_iff_exists.1 this
   exact ⟨id,o2,h,e⟩
 have hT:∀G B,h1.T G B↔h2.T G B:=fun G B=>by unfold H.T;rw[e3]
 have hT':∀G B,h1'.T G B↔h2'.T G B:=fun G B=>by unfold H.T;rw[f3]
 exact {
  dom_le:=T.dom_le
  dom_new:=by rw[←e1,←f1];exact T.dom_new
  ι_eq:=T.ι_eq
  tdom_le:=T.tdom_le
  tdom_new:=by rw[←e2,←f2];exact T.tdom_new
  τ_eq:=T.τ_eq
  n_le:=by rw[←e1,←f1];exact T.n_le
  m_le:=by rw[←e2,←f2];exact T.m_le
  size_le:=T.size_le
  os:=T.os
  output:=T.output
  form:=T.form
  keep:=fun B hB a b=>T.keep B hB (fun x=>a ((hO _ _).1 x)) (fun x=>b ((hT _ _).1 x))
  own_keep:=fun B hB a=>T.own_keep B hB fun x=>a ((hO _ _).1 x)
  lim_keep:=fun B hB a b=>T.lim_keep B hB (fun x=>a ((hO _ _).1 x)) (fun x=>b ((hT _ _).1 x))
  tok_keep:=fun B hB a b=>T.tok_keep B hB ((hT _ _).2 a) fun x=>b ((hO _ _).1 x)
  O_new:=fun B hB a=>(hO _ _).1 (T.O_new B hB ((hO' _ _).2 a))
  T_new:=fun B hB a=>(hT _ _).1 (T.T_new B hB ((hT' _ _).2 a))
  objs_new:=fun j o ho=>by
   have:=f4 j;rw[ho] at this
   obtain ⟨o2,h⟩:=Option.isSome_iff_exists.1 this
   rcases T.objs_new j o2 h with ⟨o3,h3⟩|h3
   ·have:=e4 j;rw[h3] at this
    obtain ⟨o4,h⟩:=Option.isSome_iff_exists.1 this.symm
    exact .inl ⟨o4,h⟩
   ·rw[e1,f1] at h3;exact .inr h3
  toks_new:=by rw[←e3,←f3,←e2,←f2];exact T.toks_new}
theorem Local.bk {P:Program} {o:Oper} {t:Tm} {x:AV} {id n m:Nat} {b b':BK} (ok':lF b→lF b') (L:lF b→Local P o t (.only (upd aB id (some (.cells (dX b)))) [] n m) x (.only (upd aB id (some (.cells (dX b')))) [] n m)):
  Local P o t (.only (upd aB id (some (.bk b))) [] n m) x (.only (upd aB id (some (.bk b'))) [] n m):=by
 intro G w a ht R F
 obtain ⟨ok,R1⟩:=Fa R
 obtain ⟨nx,v,w',G',e1,e2,T,R2,V⟩:=L ok G w a ht R1 F
 have is:∀{o1 o2:Obj} (j:Nat),((upd aB id (some o1)) j).isSome=((upd aB id (some o2)) j).isSome:=by
  intro o1 o2 j
  simp only[upd]
  split<;>rfl
 exact ⟨nx,v,w',G',e1,e2,T.EG rfl rfl rfl is rfl rfl rfl is,xH (ok' ok) R2,V⟩
theorem Local.Gx {P:Program} {o:Oper} {t:Tm} {x:AV} {n m:Nat} {b:BK} (ok:lF b) (L:Local P o t (.only aB [] n m) x (.only (upd aB n (some (.cells (dX b)))) [] (n+1) m)):
  Local P o t (.only aB [] n m) x (.only (upd aB n (some (.bk b))) [] (n+1) m):=by
 intro G w a ht R F
 obtain ⟨nx,v,w',G',e1,e2,T,R2,V⟩:=L G w a ht R F
 refine ⟨nx,v,w',G',e1,e2,T.EG rfl rfl rfl (fun _=>rfl) rfl rfl rfl (fun j=>?_),xH ok R2,V⟩
 simp only[H.only,upd]
 split<;>rfl
section
variable {P:Program} {N:Nat} {o:Oper} {t:Tm} {h:H} {en:Ent} {G:aL} {w:World} {a:Act}
theorem BF (h:H) {id id':Nat} {ob ob' ob2:Obj} (hne:id'≠id) (ho:h.objs id=some ob) (ho2:h.objs id'=some ob2):
  Touch h (.only (upd (upd aB id' (some ob2)) id (some ob)) [] h.n h.m) (.only (upd (upd aB id' (some ob2)) id (some ob')) [] h.n h.m) {h with objs:=upd h.objs id (some ob')} ⟨[id'],[id],[]⟩ where
 sub:=⟨(fun j o x=>by
  simp only[H.only,upd,aB] at x
  split at x
  ·rename_i e;subst e;rw[ho];exact x
  ·split at x
   ·rename_i e;subst e;rw[ho2];exact x
   ·cases x),fun t x=>by simp[H.only] at x⟩
 n:=rfl
 m:=rfl
 eq:=H.ext (fun j=>by
  simp only[H.patch,H.only,upd,aB]
  by_cases e:j=id
  ·subst e;simp
  ·by_cases e2:j=id'
   ·subst e2;simp[e,ho2]
   ·simp[e,e2];omega) rfl (by simp[H.patch,H.only,eM]) rfl
 rd j x:=by
  simp only[H.only,upd,aB] at x
  split at x
  ·rename_i e;subst e;simp
  ·split at x
   ·rename_i e;subst e;simp
   ·cases x
 wr j a b:=by simp only[H.only] at a b;omega
 chg j x hj:=by
  simp only[H.only,upd,aB] at x ⊢
  split at x
  ·rename_i e;subst e;simp at hj
  ·rename_i e;simp[e]
 tk t x:=by simp[H.only] at x
 tn t x:=by simp[H.only] at x
 le:=Nat.le_refl _
 lem:=Nat.le_refl _
theorem DI {sz n:Nat} {xs:List Opd} (hc:dY P o=some (.raw (.slp sz n) xs)):∃ty z zlo zhi e y l h,o.op= .slice ty z zlo zhi none∧P.underlying ty=some (.array n e)∧(P.info? e).isSome=true∧sz=P.cellsOf e∧opd P 0 z=some y∧iu P zlo=some l∧iu P zhi=some h∧
  xs=[y,l.getD (.c (.int .i64 0)),h.getD (.c (.int .i64 n))]:=by
 unfold dY at hc
 repeat' split at hc
 all_goals first
  |(cases hc;done)
  |(simp at hc;done)
  |(rename_i hq;cases hc;exact ⟨_,_,_,_,_,_,_,_,‹_›,‹_›,hq,rfl,‹_›,‹_›,‹_›,rfl⟩)
theorem xI (ht:cK G w t a) {l:Option Operand} {yl:Option Opd} (hl:iu P l=some yl) {d:Int} {k:IntKind} {r:Int} (hr:ev t (yl.getD (.c (.int .i64 d)))= .int k r):(l.map a.eval=none∧r=d)∨l.map a.eval=some (.int k r):=by
 cases l with
 |none=>
  simp[iu] at hl
  subst hl
  simp only[Option.getD_none,ev] at hr
  cases hr
  exact .inl ⟨rfl,rfl⟩
 |some q=>
  simp only[iu,Option.map_eq_some_iff] at hl
  obtain ⟨b,hb,rfl⟩:=hl
  have rr:=aE hb ht
  simp only[Option.getD_some] at hr
  rw[hr] at rr
  simp only[aw] at rr
  exact .inr (by simp[rr])
theorem DJ {sz n id off:Nat} {xs:List Opd} {cs:List AV} {k k':IntKind} {l u:Int} (hc:dY P o=some (.raw (.slp sz n) xs)) (hx:xs.map (ev t)=[.ptr id off,.int k l,.int k' u]) (ho:h.objs id=some (.cells cs)) (h0:0≤l) (h1:l≤u) (h2:u≤n) (hfit:off+n*sz≤cs.length) (hn:n≤9223372036854775807):
  Loc P o t h (.tsl sz id (off+l.toNat*sz) (u.toNat - l.toNat) (some (n - l.toNat))) h ⟨[id],[],[]⟩:=by
 obtain ⟨ty,z,zlo,zhi,e,y,lo,hi,hop,hu,hinf,rfl,hy,hlo,hhi,rfl⟩:=DI hc
 simp only[List.map_cons,List.map_nil,List.cons.injEq,and_true] at hx
 obtain ⟨x1,x2,x3⟩:=hx
 refine ⟨_,_,eG h ho,fun G w a ht R F=>?_⟩
 have r1:=aE hy ht
 rw[x1] at r1
 simp only[aw] at r1
 obtain ⟨hd,hv⟩:=r1
 have hme:(H.only (upd aB id (some (.cells cs))) [] h.n h.m).objs id=some (.cells cs):=by simp[H.only,upd]
 obtain ⟨vs,rest,T0,fr,hg,hvs,hfr,hone⟩:=fp R hme
 have hvl:=hvs.length
 have hb:(Instr.sliceBounds false n n (zlo.map a.eval) (zhi.map a.eval) none).run P w= .ok (l.toNat,u.toNat,n) w:=by
  have eu:(u.toNat:Int)=u:=Int.toNat_of_nonneg ab
  unfold Instr.sliceBounds
  rcases xI ht hlo x2 with ⟨e1,rfl⟩|e1<;>rcases xI ht hhi x3 with ⟨e2,rfl⟩|e2<;>rw[e1,e2]
  ·simp
  ·simp[du P w (show 0≤u by omega) h2]
  ·simp[du P w h0 h1]
  ·simp[du P w (show 0≤u by omega) h2,du P w h0 (show l≤(u.toNat:Int) by omega)]
 have hrun:(execOp a.eval o).run P w= .ok (.value (.slice (some (if n=l.toNat then ⟨G.ι id,off,none⟩ else ⟨G.ι id,off+l.toNat*P.cellsOf e,none⟩)) (u.toNat - l.toNat) (n - l.toNat))) w:=by
  simp[execOp,hop,Instr.sliceAt,run_underlying hu,hv,Instr.sureAddr,hb,cI P w e hinf,add_plain]
 refine ⟨_,_,w,G,hrun,.inl rfl,Trans.refl _ _ _,R,?_⟩
 unfold aw
 refine ⟨hd,?_⟩
 by_cases e1:n=l.toNat
 ·right
  rw[if_pos e1]
  refine ⟨ab,⟨⟨G.ι id,off,none⟩,?_⟩,fun k hk=>?_⟩
  ·have a1:u.toNat - l.toNat=0:=by omega
   have a2:n - l.toNat=0:=by omega
   rw[a1,a2]
  ·cases hk;omega
 ·left
  rw[if_neg e1]
  refine ⟨n - l.toNat,_,_,_,rfl,⟨ab,ab⟩,fun k hk=>by cases hk;rfl,hg,?_⟩
  have:l.toNat*P.cellsOf e+(n - l.toNat)*P.cellsOf e=n*P.cellsOf e:=by rw[←Nat.add_mul];congr 1;omega
  simp;omega
theorem xJ {xs:List Opd} (hc:dY P o=some (.raw .cpy xs)):∃c x y T U e b1 b2,o.op= .call c∧c.callee= .builtin .copy∧c.args.toList=[x,y]∧c.argTypes.toList=[T,U]∧opd P T x=some b1∧opd P U y=some b2∧P.underlying T=some (.slice e)∧P.cellsOf e=1∧(P.info? e).isSome=true∧xs=[b1,b2]:=by
 unfold dY at hc
 repeat' split at hc
 all_goals first
  |(cases hc;done)
  |(simp at hc;done)
  |(rename_i hq;cases hc;exact ⟨_,_,_,_,_,_,_,_,‹_›,‹_›,‹_›,‹_›,‹_›,‹_›,‹_›,hq.1,hq.2,rfl⟩)
theorem DK {s k:Nat} {xs:List AV} {c:Cap} {v:Value} (hs:s=1∨xs=[]) (hall:xs.all aP=true) (hv:aw G w (.sl s xs c) v) (hk:k≤xs.length):
  (Builtin.lenOf v).run P w= .ok xs.length w∧∃news,(Builtin.firstCells 1 k v).run P w= .ok news.toArray w∧aD G w (xs.take k) news∧∀u∈news,One u:=by
 obtain ⟨news,⟨n1,n1'⟩,n2,n3⟩:=gF (P:=P) hs hv
 refine ⟨n1,news.take k,?_,(ss n2 hall).take k,fun u hu=>n3 u (List.mem_of_mem_take hu)⟩
 have hl:=(ss n2 hall).length
 simp only[aw] at hv
 rcases hv with ⟨rfl,⟨a0,rfl⟩,-⟩|⟨B,off,C,vs,rfl,hC,hvl,he,him,-⟩
 ·have:k=0:=by simpa using hk
  subst this
  simpa using (iX (P:=P) (w:=w) (sz:=1) a0).2 w rfl
 ·rcases hs with rfl|rfl
  ·have hev:news=vs:=by
    have:=n1' w rfl
    have h2:=run_loadCells_list (P:=P) w ⟨B,off,none⟩ vs (fun j u hu=>by rw[add_plain];exact (him j u hu).1)
    simp only[Builtin.firstCells] at this
    rw[←hvl,h2] at this
    injection this with e
    exact (congrArg Array.toList e).symm
   subst hev
   have:=run_loadCells_list (P:=P) w ⟨B,off,none⟩ (news.take k) (fun j u hu=>by
    rw[add_plain]
    exact (him j u (by
     have hj:=(List.getElem?_eq_some_iff.1 hu).1
     simp at hj
     rw[List.getElem?_take_of_lt ab] at hu
     exact hu)).1)
   simp only[Builtin.firstCells]
   rw[Nat.mul_one]
   have e2:(news.take k).length=k:=by simp;omega
   rw[e2] at this
   exact this
  ·have:k=0:=by simpa using hk
   subst this
   have:=run_loadCells_list (P:=P) w ⟨B,off,none⟩ [] (fun j u hu=>by simp at hu)
   simpa [Builtin.firstCells] using this
theorem BG {hh:H} {id off len k:Nat} {cap:Option Nat} {ds:List AV} {v:Value} (R:aX G hh w) (ho:hh.objs id=some (.cells ds)) (hl:off+len≤ds.length) (hv:aw G w (.tsl 1 id off len cap) v) (hk:k≤len):
  (Builtin.lenOf v).run P w= .ok len w∧∃news,(Builtin.firstCells 1 k v).run P w= .ok news.toArray w∧aD G w ((ds.drop off).take k) news∧∀u∈news,One u:=by
 obtain ⟨vs,rest,T0,fr,hg,hvs,hfr,hone⟩:=fp R ho
 have hvl:=hvs.length
 simp only[aw] at hv
 obtain ⟨-,⟨C,c0,T1,fr1,rfl,-⟩|⟨rfl,⟨a0,rfl⟩,-⟩⟩:=hv
 ·refine ⟨by simp[Builtin.lenOf],(vs.drop off).take k,?_,(hvs.drop off).take k,fun u hu=>hone u (List.mem_of_mem_drop (List.mem_of_mem_take hu))⟩
  have:=run_loadCells_list (P:=P) w ⟨G.ι id,off,none⟩ ((vs.drop off).take k) (fun j u hu=>by
   rw[add_plain]
   unfold World.cell?
   simp only[hg]
   have hj:=(List.getElem?_eq_some_iff.1 hu).1
   simp at hj
   rw[List.getElem?_take_of_lt ab,List.getElem?_drop] at hu
   simp[List.getElem?_append_left (show off+j<vs.length by omega),hu])
  simp only[Builtin.firstCells]
  rw[Nat.mul_one]
  have e2:((vs.drop off).take k).length=k:=by simp;omega
  rw[e2] at this
  exact this
 ·have:k=0:=by omega
  subst this
  refine ⟨by simp[Builtin.lenOf],[],?_,by simp[aD],by simp⟩
  simpa using (iX (P:=P) (w:=w) (sz:=1) (some a0)).2 w rfl
def stO (base:Option Addr) (news:List Value):Sem Unit:=match base with
 |some a=>storeCells a news
 |none=>pure ()
theorem ru {id n m off len k:Nat} {cap:Option Nat} {cs xs:List AV} {news:List Value} {v:Value} (R:aX G (.only (upd aB id (some (.cells cs))) [] n m) w) (hv:aw G w (.tsl 1 id off len cap) v) (hr:aD G w xs news) (h1:∀u∈news,One u) (hk:xs.length=k) (hkl:k≤len) (hl:off+len≤cs.length):
  ∃base C w',v= .slice base len C∧(stO base news).run P w= .ok () w'∧Trans G w (.only (upd aB id (some (.cells cs))) [] n m) G w' (.only (upd aB id (some (.cells (setAt cs off xs)))) [] n m)∧aX G (.only (upd aB id (some (.cells (setAt cs off xs)))) [] n m) w':=by
 simp only[aw] at hv
 obtain ⟨-,⟨C,c0,T1,fr1,rfl,-⟩|⟨rfl,⟨a0,rfl⟩,-⟩⟩:=hv
 ·obtain ⟨w',s1,T,R'⟩:=nF (P:=P) (off:=off) R hr h1 ab
  exact ⟨_,_,w',rfl,s1,T,R'⟩
 ·have:xs=[]:=List.eq_nil_of_length_eq_zero ab
  subst this
  have:news=[]:=by simpa [aD] using hr
  subst this
  have e:setAt cs off []=cs:=by simp[setAt]
  rw[e]
  exact ⟨_,_,w,rfl,by simp[stO,storeCells],Trans.refl _ _ _,R⟩
theorem xK {c:Call} {x y:Operand} {T U e:TypeId} {base:Option Addr} {len C n k:Nat} {news:List Value} {w':World} (hop:o.op= .call c) (hcal:c.callee= .builtin .copy) (ha:c.args.toList=[x,y]) (hta:c.argTypes.toList=[T,U]) (hT:P.underlying T=some (.slice e)) (he:P.cellsOf e=1) (hinf:(P.info? e).isSome=true)
  (hx:a.eval x= .slice base len C) (hn:(Builtin.lenOf (a.eval y)).run P w= .ok n w) (hk:k=min n len) (hf:(Builtin.firstCells 1 k (a.eval y)).run P w= .ok news.toArray w) (hs:(stO base news).run P w= .ok () w'):
  (execOp a.eval o).run P w= .ok (.value (.int .i64 k)) w':=by
 have ha':c.args= #[x,y]:=by rw[←Array.toArray_toList (xs:=c.args),ha]
 have hta':c.argTypes= #[T,U]:=by rw[←Array.toArray_toList (xs:=c.argTypes),hta]
 have hk':Nat.min n len=k:=hk.symm
 cases base with
 |none=>
  simp[stO] at hs
  subst hs
  simp[execOp,hop,resolve,hcal,ha',hta',invoke,builtin,Builtin.copy_,run_underlying hT,hx,hn,hk',cI P _ e hinf,he,hf,goInt]
 |some b=>
  simp only[stO] at hs
  simp[execOp,hop,resolve,hcal,ha',hta',invoke,builtin,Builtin.copy_,run_underlying hT,hx,hn,hk',cI P _ e hinf,he,hf,goInt,hs]
theorem BH {xs:List Opd} {id off len:Nat} {cap:Option Nat} {s:Nat} {ys cs:List AV} {c:Cap} (hc:dY P o=some (.raw .cpy xs)) (hx:xs.map (ev t)=[.tsl 1 id off len cap,.sl s ys c]) (ho:h.objs id=some (.cells cs)) (hl:off+len≤cs.length) (hs:s=1∨ys=[]) (hall:ys.all aP=true):
  Loc P o t h (.int .i64 (min ys.length len:Nat)) {h with objs:=upd h.objs id (some (.cells (setAt cs off (ys.take (min ys.length len)))))} ⟨[],[id],[]⟩:=by
 obtain ⟨c0,x,y,T,U,e,b1,b2,hop,hcal,ha,hta,h1,h2,hT,he,hinf,rfl⟩:=xJ hc
 simp only[List.map_cons,List.map_nil,List.cons.injEq,and_true] at hx
 obtain ⟨x1,x2⟩:=hx
 refine ⟨_,_,cb h ho,fun G w a ht R F=>?_⟩
 have r1:=aE h1 ht
 have r2:=aE h2 ht
 rw[x1] at r1
 rw[x2] at r2
 obtain ⟨n1,news,n2,n3,n4⟩:=DK (P:=P) (k:=min ys.length len) hs hall r2 (Nat.min_le_left _ _)
 obtain ⟨base,C,w',hv,hst,T1,R1⟩:=ru (P:=P) R r1 n3 n4 af (Nat.min_le_right ys.length len) hl
 exact ⟨_,_,w',G,xK hop hcal ha hta hT he hinf hv n1 rfl n2 hst,.inl rfl,T1,R1,by simp[aw]⟩
theorem BI {xs:List Opd} {id id' off off' len len':Nat} {cap cap':Option Nat} {ds cs:List AV} (hc:dY P o=some (.raw .cpy xs)) (hx:xs.map (ev t)=[.tsl 1 id off len cap,.tsl 1 id' off' len' cap']) (ho:h.objs id=some (.cells cs)) (ho2:h.objs id'=some (.cells ds)) (hne:id'≠id) (hl:off+len≤cs.length) (hl2:off'+len'≤ds.length):
  Loc P o t h (.int .i64 (min len' len:Nat)) {h with objs:=upd h.objs id (some (.cells (setAt cs off ((ds.drop off').take (min len' len)))))} ⟨[id'],[id],[]⟩:=by
 obtain ⟨c0,x,y,T,U,e,b1,b2,hop,hcal,ha,hta,h1,h2,hT,he,hinf,rfl⟩:=xJ hc
 simp only[List.map_cons,List.map_nil,List.cons.injEq,and_true] at hx
 obtain ⟨x1,x2⟩:=hx
 refine ⟨_,_,BF h hne ho ho2,fun G w a ht R F=>?_⟩
 have r1:=aE h1 ht
 have r2:=aE h2 ht
 rw[x1] at r1
 rw[x2] at r2
 have hme2:(H.only (upd (upd aB id' (some (.cells ds))) id (some (.cells cs))) [] h.n h.m).objs id'=some (.cells ds):=by simp[H.only,upd,hne]
 obtain ⟨n1,news,n2,n3,n4⟩:=BG (P:=P) (k:=min len' len) R hme2 hl2 r2 (Nat.min_le_left _ _)
 have hsub:(H.only (upd aB id (some (.cells cs))) [] h.n h.m).sub (.only (upd (upd aB id' (some (.cells ds))) id (some (.cells cs))) [] h.n h.m):=by
  refine ⟨fun j o hj=>?_,fun t ht=>by simp[H.only] at ht⟩
  obtain ⟨rfl,rfl⟩:=pO hj
  simp[H.only,upd]
 obtain ⟨base,C,w',hv,hst,T1,R1⟩:=ru (P:=P) (R.sub hsub) r1 n3 n4 ak (Nat.min_le_right len' len) hl
 obtain ⟨R2,T2⟩:=frame R hsub rfl rfl R1 T1 (F.sub (Nat.le_refl _) (Nat.le_refl _) (Nat.le_refl _) (Nat.le_refl _))
 have e2:(H.only (upd (upd aB id' (some (.cells ds))) id (some (.cells cs))) [] h.n h.m).patch (.only (upd aB id (some (.cells cs))) [] h.n h.m) (.only (upd aB id (some (.cells (setAt cs off ((ds.drop off').take (min len' len)))))) [] h.n h.m)= .only (upd (upd aB id' (some (.cells ds))) id (some (.cells (setAt cs off ((ds.drop off').take (min len' len)))))) [] h.n h.m:=by
  refine H.ext (fun j=>?_) rfl (by simp[H.patch,H.only]) rfl
  simp only[H.patch,H.only,upd,aB]
  by_cases e:j=id
  ·subst e;simp
  ·simp[e];omega
 rw[e2] at R2 T2
 exact ⟨_,_,w',G,xK hop hcal ha hta hT he hinf hv n1 rfl n2 hst,.inl rfl,T2,R2,by simp[aw]⟩
theorem Loc.full {x:AV} {h':H} (L:Loc P o t h x h' en):Local P o t h x h':=by
 obtain ⟨h1,h1',tc,loc⟩:=L
 intro G w a ht R F
 have e3:h'.n=h1'.n:=by rw[tc.eq];rfl
 have e4:h'.m=h1'.m:=by rw[tc.eq];rfl
 have e1:=tc.n
 have e2:=tc.m
 have l1:=tc.le
 have l2:=tc.lem
 have F1:cU G h1 h1':=F.sub ab ab ab ab
 obtain ⟨nx,v,w',G',q1,q2,T1,R1,V⟩:=loc G w a ht (R.sub tc.sub) F1
 obtain ⟨R2,T2⟩:=frame R tc.sub tc.n tc.m R1 T1 F1
 rw[←tc.eq] at R2 T2
 exact ⟨nx,v,w',G',q1,q2,T2,R2,V⟩
def unB:AV→Option UInt8
 | .int .u8 (.ofNat n)=>match Nat.ble n 255 with
  |true=>some (UInt8.ofNat n)
  |false=>none
 |_=>none
def sF:List AV→Option (List UInt8)
 |[]=>some []
 |x::l=>match unB x,sF l with
  |some b,some r=>some (b::r)
  |_,_=>none
theorem Fb {x:AV} {b:UInt8} (h:unB x=some b):x=byte b:=by
 unfold unB at h
 split at h
 ·split at h
  ·rename_i hn
   cases h
   have:=Nat.le_of_ble_eq_true hn
   simp[byte];omega
  ·cases h
 ·cases h
theorem sG:∀{l:List AV} {r:List UInt8},sF l=some r→l=ar r
 |[],r,h=>by simp[sF] at h;subst h;rfl
 |x::l,r,h=>by
  simp only[sF] at h
  split at h
  ·rename_i h1 h2
   cases h
   rw[Fb h1,sG h2];rfl
  ·cases h
def jO (ρ:Opd→AV) (h:H):AOp→Option (AV × H × Ent)
 | .load (some 128) x=>match ρ x with
  | .ptr id off=>match h.objs id with
   |some (.bk b)=>if off%128=0∧off/128<b.n then some (.agg (ar (eD b.d (off/128))),h,⟨[id],[],[]⟩) else none
   |_=>none
  |_=>none
 | .store 128 x v=>match ρ x,ρ v with
  | .ptr id off,.agg cs=>match h.objs id,sF cs with
   |some (.bk b),some l=>if off%128=0∧off/128<b.n∧l.length=128 then some (.any,{h with objs:=upd h.objs id (some (.bk ⟨b.n,(off/128,l)::b.d⟩))},⟨[],[id],[]⟩) else none
   |_,_=>none
  |_,_=>none
 | .mksl sz bytes (.agg zs) len cap=>match ρ len,ρ cap with
  | .int _ l,.int _ c=>if sz=128∧0≤l∧l≤c∧c*bytes≤140737488355328∧c<9223372036854775808∧sF zs=some (List.replicate 128 0) then
    some (.tsl 128 h.n 0 l.toNat none,{h with objs:=upd h.objs h.n (some (.bk ⟨l.toNat,[]⟩)),n:=h.n+1},⟨[],[h.n],[]⟩) else none
  |_,_=>none
 |_=>none
theorem pQ {op:AOp} {x:AV} {h':H} (hc:su P o=some op) (hx:jO (ev t) h op=some (x,h',en)):Loc P o t h x h' en:=by
 unfold jO at hx
 split at hx
 ·rename_i y
  have hc:=fk hc (by rintro ⟨⟩) rfl
  split at hx
  ·rename_i id off hy
   split at hx
   ·rename_i b hb
    split at hx
    ·rename_i hq
     cases hx
     refine ⟨_,_,eG h hb,Local.bk (fun x=>x) fun ok=>Loc.full (en:=⟨[id],[],[]⟩) (sr hc ?_)⟩
     have hp:=DH ok hq.2
     have ho:off/128*128=off:=by omega
     rw[ho] at hp
     simp only[aop,hy,H.only,upd,if_true,hp,Option.map_some]
    ·cases hx
   ·cases hx
  ·cases hx
 ·rename_i y z
  have hc:=fk hc (by rintro ⟨⟩) rfl
  split at hx
  ·rename_i id off cs hy hz
   split at hx
   ·rename_i b l hb hl
    split at hx
    ·rename_i hq
     obtain ⟨q1,q2,q3⟩:=hq
     cases hx
     have hl:=sG hl
     subst hl
     refine ⟨_,_,cb h hb,Local.bk (fun ok=>Gw ok q3) fun ok=>Loc.full (en:=⟨[],[id],[]⟩) (sr hc ?_)⟩
     have hp:=E8 ok q2 q3
     have ho:off/128*128=off:=by omega
     rw[ho] at hp
     have h1:(ar l).length=128:=by simp[ar,q3]
     have h2:off+128≤(dX b).length:=by rw[BE ok];omega
     have h3:(ar l).all aP=true:=by simp[ar,byte,aP]
     have hz':cellsOf (ev t z)=ar l:=by rw[hz];rfl
     simp only[aop,hy,H.only,upd,if_true,hz',h1,h2,h3,and_self,hp,Option.some.injEq,Prod.mk.injEq,true_and,and_true]
     refine H.ext (fun j=>?_) rfl rfl rfl
     simp only[upd]
     split<;>rfl
    ·cases hx
   ·cases hx
  ·cases hx
 ·rename_i sz bytes zs len cap
  have hc:=fk hc (by rintro ⟨⟩) rfl
  split at hx
  ·rename_i kl l kc c hl hcc
   split at hx
   ·rename_i hq
    obtain ⟨rfl,q1,q2,q3,q4,q5⟩:=hq
    cases hx
    have q5:=sG q5
    have e0:ar (List.replicate 128 0)=List.replicate 128 (AV.int .u8 0):=by simp[ar,byte]
    rw[e0] at q5
    subst q5
    have sh:shaped (.agg (List.replicate 128 (.int .u8 0)))=true:=by simp[shaped,aP]
    refine ⟨_,_,eg h _,Local.Gx (fun x hx=>by simp at hx) (Loc.full (en:=⟨[],[h.n],[]⟩) (ur hc ?_))⟩
    rw[←E9]
    simp only[jN,hl,hcc,q1,q2,q3,q4,sh,and_self,if_true,H.only]
   ·cases hx
  ·cases hx
 ·cases hx
theorem lT {ρ ρ':Opd→AV} {op:AOp} (hx:∀y∈bR op,ρ y=ρ' y):jO ρ h op=jO ρ' h op:=by
 unfold jO
 split
 ·rw[hx _ (by simp[bR])]
 ·rw[hx _ (by simp[bR]),hx _ (by simp[bR])]
 ·rw[hx _ (by simp[bR]),hx _ (by simp[bR])]
 ·rfl
def fE (ρ:Opd→AV) (h:H) (op:AOp):Option (AV × H × Ent):=
 match op with
 | .raw (.slp sz n) xs=>match xs.map ρ with
  |[.ptr id off,.int _ l,.int _ u]=>match h.objs id with
   |some (.cells cs)=>if 0≤l∧l≤u∧u≤n∧off+n*sz≤cs.length∧n≤9223372036854775807 then some (.tsl sz id (off+l.toNat*sz) (u.toNat - l.toNat) (some (n - l.toNat)),h,⟨[id],[],[]⟩) else none
   |_=>none
  |_=>none
 | .raw .cpy xs=>match xs.map ρ with
  |[.tsl s id off len _,.sl s' ys _]=>match h.objs id with
   |some (.cells cs)=>if s=1∧off+len≤cs.length∧(s'=1∨ys=[])∧ys.all aP then some (.int .i64 (min ys.length len:Nat),{h with objs:=upd h.objs id (some (.cells (setAt cs off (ys.take (min ys.length len)))))},⟨[],[id],[]⟩) else none
   |_=>none
  |[.tsl s id off len _,.tsl s' id' off' len' _]=>match h.objs id,h.objs id' with
   |some (.cells cs),some (.cells ds)=>if s=1∧s'=1∧id'≠id∧off+len≤cs.length∧off'+len'≤ds.length then some (.int .i64 (min len' len:Nat),{h with objs:=upd h.objs id (some (.cells (setAt cs off ((ds.drop off').take (min len' len)))))},⟨[id'],[id],[]⟩) else none
   |_,_=>none
  |_=>none
 | .mksl sz bytes zero len cap=>match jO ρ h (.mksl sz bytes zero len cap) with
  |some r=>some r
  |none=>jN ρ h (.mksl sz bytes zero len cap)
 | .load n x=>jO ρ h (.load n x)
 | .store n x v=>jO ρ h (.store n x v)
 |_=>none
theorem BJ {op:AOp} {x:AV} {h':H} {en:Ent} (hc:su P o=some op) (hx:fE (ev t) h op=some (x,h',en)):Loc P o t h x h' en:=by
 cases op<;>(try (simp [fE] at hx;done))
 case load n y=>exact pQ hc hx
 case store n y z=>exact pQ hc hx
 case mksl sz bytes zero len cap=>
  simp only[fE] at hx
  split at hx
  ·rename_i r hr
   cases hx
   exact pQ hc hr
  ·exact ur (fk hc (by rintro ⟨⟩) rfl) hx
 case raw k xs=>
  have hc:=ud hc
  cases k<;>(try (simp [fE] at hx;done))
  case slp sz n=>
   simp only[fE] at hx
   split at hx
   ·split at hx
    ·split at hx
     ·rename_i hq
      cases hx
      exact DJ hc ‹_› ‹_› hq.1 hq.2.1 hq.2.2.1 hq.2.2.2.1 hq.2.2.2.2
     ·cases hx
    ·cases hx
   ·cases hx
  case cpy=>
   simp only[fE] at hx
   split at hx
   ·split at hx
    ·split at hx
     ·rename_i hq
      obtain ⟨rfl,q2,q3,q4⟩:=hq
      cases hx
      exact BH hc ‹_› ‹_› q2 q3 q4
     ·cases hx
    ·cases hx
   ·split at hx
    ·split at hx
     ·rename_i hq
      obtain ⟨rfl,rfl,q3,q4,q5⟩:=hq
      cases hx
      exact BI hc ‹_› ‹_› ‹_› q3 q4 q5
     ·cases hx
    ·cases hx
   ·cases hx
theorem v8 {ρ ρ':Opd→AV} {op:AOp} (hx:∀y∈bR op,ρ y=ρ' y):fE ρ h op=fE ρ' h op:=by
 cases op<;>(try rfl)
 case load n y=>exact lT hx
 case store n y z=>exact lT hx
 case mksl sz bytes zero len cap=>simp only[fE,vW hx,lT hx]
 case raw k xs=>
  have e:xs.map ρ=xs.map ρ':=List.map_congr_left fun y hy=>hx y (by simpa [bR] using hy)
  cases k<;>(try rfl)<;>simp only[fE,e]
theorem uu {ρ:Opd→AV} {op:AOp} {r:AV × H × Ent} (hx:fE ρ h op=some r):bT op=true:=by
 cases op<;>(try (simp [fE] at hx;done))<;>(try rfl)
 case raw k xs=>cases k<;>first|rfl|(simp [fE] at hx)
theorem wa {op:AOp} (h:su P o=some op) (hd:op≠ .dead):∀c,o.op≠ .defer c:=by
 simp only[su,Option.some.injEq] at h
 cases hc:cOp P o with
 |some q=>exact eP hc
 |none=>
  rw[hc] at h
  simp only at h
  cases hb:dY P o with
  |some q=>exact pG hb
  |none=>rw[hb] at h;exact absurd h.symm hd
theorem ry {ops:Array Oper} {i:Nat} {o:Oper} {it:aO} {t:Tm} {h h':H} {x:AV} {en:Ent} (ho:ops[i]? =some o) (hit:bO P N ops o=some it) (hg:guardOf t it.guard=some true) (hx:fE (ev t) h it.op=some (x,h',en)):
  ∃h1 h1',Touch h h1 h1' h' en∧gy P ops i o t h1 x h1':=by
 unfold bO at hit
 split at hit
 ·rename_i op g hop hgd
  split at hit<;>cases hit
  rename_i hcond
  simp only[Bool.and_eq_true] at hcond
  have hx':fE (ev (ja (names ops o) t)) h op=some (x,h',en):=by
   rw[v8 (jG hcond.2)];exact hx
  obtain ⟨h1,h1',tc,loc⟩:=BJ hop hx'
  refine ⟨h1,h1',tc,fun G w a ht R F K Q hK ro=>?_⟩
  obtain ⟨nx,v,w',G',e1,e2,T1,R1,V⟩:=loc G w a (fA ht) R F
  unfold wpOpIn
  rw[ho]
  simp only[dd hgd ht hg,if_true]
  refine ⟨fun _ _=>trivial,?_⟩
  rw[Oper.semAt_eq _ _ _ (wa hop (by rintro rfl;simp[fE] at hx)),e1]
  rcases e2 with rfl|⟨rfl,rfl⟩
  ·rw[Oper.uponIn_value];exact hK G' w' v T1 R1 V
  ·rw[Oper.uponIn_skip];exact hK G' w' undef T1 R1 V
 ·cases hit
end
section
variable {P:Program} {N:Nat}
end
section
variable {P:Program} {N:Nat} {Q:aQ→St→Prop}
structure On (l0:List Fr) (n0 m0:Nat) (l:List Fr) (n:Nat) (T:List Nat) (m:Nat):Prop where
 gn:n0≤n
 gm:m0≤m
 ok:Ok l n T m
 wi:Wi l0 n0 l
 ki:Ki l0 m0 l
end
section
variable {P:Program} {N:Nat} {o:Oper} {t:Tm} {h:H} {en:Ent} {G:aL} {w:World}
end
section
variable {P:Program} {T:FT}
end
structure Hid (p:Prop):Prop where
 o:p
theorem cj2 {A0 A1:Prop} (a0:A0) (a1:A1):A0∧A1:=⟨a0,a1⟩
theorem cj3 {A0 A1 A2:Prop} (a0:A0) (a1:A1) (a2:A2):A0∧A1∧A2:=⟨a0,a1,a2⟩
theorem cj4 {A0 A1 A2 A3:Prop} (a0:A0) (a1:A1) (a2:A2) (a3:A3):A0∧A1∧A2∧A3:=⟨a0,a1,a2,a3⟩
theorem cj5 {A0 A1 A2 A3 A4:Prop} (a0:A0) (a1:A1) (a2:A2) (a3:A3) (a4:A4):A0∧A1∧A2∧A3∧A4:=⟨a0,a1,a2,a3,a4⟩
theorem cj6 {A0 A1 A2 A3 A4 A5:Prop} (a0:A0) (a1:A1) (a2:A2) (a3:A3) (a4:A4) (a5:A5):A0∧A1∧A2∧A3∧A4∧A5:=⟨a0,a1,a2,a3,a4,a5⟩
theorem cj7 {A0 A1 A2 A3 A4 A5 A6:Prop} (a0:A0) (a1:A1) (a2:A2) (a3:A3) (a4:A4) (a5:A5) (a6:A6):A0∧A1∧A2∧A3∧A4∧A5∧A6:=⟨a0,a1,a2,a3,a4,a5,a6⟩
theorem cj8 {A0 A1 A2 A3 A4 A5 A6 A7:Prop} (a0:A0) (a1:A1) (a2:A2) (a3:A3) (a4:A4) (a5:A5) (a6:A6) (a7:A7):A0∧A1∧A2∧A3∧A4∧A5∧A6∧A7:=⟨a0,a1,a2,a3,a4,a5,a6,a7⟩
theorem cj9 {A0 A1 A2 A3 A4 A5 A6 A7 A8:Prop} (a0:A0) (a1:A1) (a2:A2) (a3:A3) (a4:A4) (a5:A5) (a6:A6) (a7:A7) (a8:A8):A0∧A1∧A2∧A3∧A4∧A5∧A6∧A7∧A8:=⟨a0,a1,a2,a3,a4,a5,a6,a7,a8⟩
theorem mN {A0 A1 A2 A3 A4 A5 A6 A7 A8 A9:Prop} (a0:A0) (a1:A1) (a2:A2) (a3:A3) (a4:A4) (a5:A5) (a6:A6) (a7:A7) (a8:A8) (a9:A9):A0∧A1∧A2∧A3∧A4∧A5∧A6∧A7∧A8∧A9:=⟨a0,a1,a2,a3,a4,a5,a6,a7,a8,a9⟩
theorem sH {A0 A1 A2 A3 A4 A5 A6 A7 A8 A9 A10:Prop} (a0:A0) (a1:A1) (a2:A2) (a3:A3) (a4:A4) (a5:A5) (a6:A6) (a7:A7) (a8:A8) (a9:A9) (a10:A10):A0∧A1∧A2∧A3∧A4∧A5∧A6∧A7∧A8∧A9∧A10:=⟨a0,a1,a2,a3,a4,a5,a6,a7,a8,a9,a10⟩
theorem cT {A0 A1 A2 A3 A4 A5 A6 A7 A8 A9 A10 A11:Prop} (a0:A0) (a1:A1) (a2:A2) (a3:A3) (a4:A4) (a5:A5) (a6:A6) (a7:A7) (a8:A8) (a9:A9) (a10:A10) (a11:A11):A0∧A1∧A2∧A3∧A4∧A5∧A6∧A7∧A8∧A9∧A10∧A11:=⟨a0,a1,a2,a3,a4,a5,a6,a7,a8,a9,a10,a11⟩
theorem rn0 {F X Y:Prop} (f:F) (y:Y) (h:F→Hid Y→X:=by
 intro f y
 repeat (first
  |((first|apply Wp.zu|apply Wp.E7);(· simp only[go_sem,reduceIte,Nat.reduceEqDiff,Nat.reduceAdd,bx,ax,if_true,if_false,Nat.reduceMul,Nat.reduceLeDiff,f];exact rfl))
  |(refine ao.nil ⟨?_,?_⟩;(· first|trivial|simp[bw,aV,apart,aT]))
  |(apply Wp.bu;(· simp only[go_sem,reduceIte,Nat.reduceEqDiff,Nat.reduceAdd,bx,ax,if_true,if_false,Nat.reduceMul,Nat.reduceLeDiff,f];exact rfl);(· rfl))
  |refine Wp.skip ?_
  |refine Wp.label ?_
  |refine Wp.block ?_
  |refine Wp.exit ?_
  |refine Wp.seq ?_
  |exact y.1)):X:=h f ⟨y⟩
theorem an0 {F X Y:Prop} (f:F) (y:Y) (h:F→Hid Y→X:=by
 intro f y
 repeat (first
  |((first|apply Wp.seqItems|apply Wp.items);(· simp only[go_sem,reduceIte,Nat.reduceEqDiff,Nat.reduceAdd,bx,ax,if_true,if_false,Nat.reduceMul,Nat.reduceLeDiff,f];exact rfl))
  |(refine ao.nil ⟨?_,?_⟩;(· first|trivial|simp[bw,aV,apart,aT]))
  |(apply Wp.bu;(· simp only[go_sem,reduceIte,Nat.reduceEqDiff,Nat.reduceAdd,bx,ax,if_true,if_false,Nat.reduceMul,Nat.reduceLeDiff,f];exact rfl);(· rfl))
  |refine Wp.skip ?_
  |refine Wp.label ?_
  |refine Wp.block ?_
  |refine Wp.exit ?_
  |refine Wp.seq ?_
  |exact y.1)):X:=h f ⟨y⟩
theorem Gy {X Y:Prop} (y:Y) (h:Hid Y→X:=by
 intro y
 repeat (first
  |((first|apply Wp.seqItems|apply Wp.items);(· simp only[go_sem,reduceIte,Nat.reduceEqDiff,Nat.reduceAdd,bx,ax,if_true,if_false,Nat.reduceMul,Nat.reduceLeDiff];exact rfl))
  |(refine ao.nil ⟨?_,?_⟩;(· first|trivial|simp[bw,aV,apart,aT]))
  |(apply Wp.bu;(· simp only[go_sem,reduceIte,Nat.reduceEqDiff,Nat.reduceAdd,bx,ax,if_true,if_false,Nat.reduceMul,Nat.reduceLeDiff];exact rfl);(· rfl))
  |refine Wp.skip ?_
  |refine Wp.label ?_
  |refine Wp.block ?_
  |refine Wp.exit ?_
  |refine Wp.seq ?_
  |exact y.1)):X:=h ⟨y⟩
theorem an1 {F C0 X Y:Prop} (f:F) (c0:C0) (y:Y) (h:F→C0→Hid Y→X:=by
 intro f c0 y
 repeat (first
  |((first|apply Wp.seqItems|apply Wp.items|((first
   |(refine ao.cd ?_ ?_ c0 ?_;(· simp only[go_sem,reduceIte,Nat.reduceEqDiff,Nat.reduceAdd,bx]);(· simp only[go_sem,reduceIte,Nat.reduceEqDiff,Nat.reduceAdd,bx,List.map];first|exact au.refl _|assumption|(repeat (first|exact au.nil|refine au.cons (by first|exact ay.refl _|assumption|exact ay.cap|exact ay.any _) ?_)))));apply ao.eval));(· simp only[go_sem,reduceIte,Nat.reduceEqDiff,Nat.reduceAdd,bx,ax,if_true,if_false,Nat.reduceMul,Nat.reduceLeDiff,f];exact rfl))
  |(refine ao.nil ⟨?_,?_⟩;(· first|trivial|simp[bw,aV,apart,aT]))
  |(apply Wp.bu;(· simp only[go_sem,reduceIte,Nat.reduceEqDiff,Nat.reduceAdd,bx,ax,if_true,if_false,Nat.reduceMul,Nat.reduceLeDiff,f];exact rfl);(· rfl))
  |refine Wp.skip ?_
  |refine Wp.label ?_
  |refine Wp.block ?_
  |refine Wp.exit ?_
  |refine Wp.seq ?_
  |exact y.1)):X:=h f c0 ⟨y⟩
theorem an2 {F C0 C1 X Y:Prop} (f:F) (c0:C0) (c1:C1) (y:Y) (h:F→C0→C1→Hid Y→X:=by
 intro f c0 c1 y
 repeat (first
  |((first|apply Wp.seqItems|apply Wp.items|((first
   |(refine ao.cd ?_ ?_ c0 ?_;(· simp only[go_sem,reduceIte,Nat.reduceEqDiff,Nat.reduceAdd,bx]);(· simp only[go_sem,reduceIte,Nat.reduceEqDiff,Nat.reduceAdd,bx,List.map];first|exact au.refl _|assumption|(repeat (first|exact au.nil|refine au.cons (by first|exact ay.refl _|assumption|exact ay.cap|exact ay.any _) ?_))))
   |(refine ao.cd ?_ ?_ c1 ?_;(· simp only[go_sem,reduceIte,Nat.reduceEqDiff,Nat.reduceAdd,bx]);(· simp only[go_sem,reduceIte,Nat.reduceEqDiff,Nat.reduceAdd,bx,List.map];first|exact au.refl _|assumption|(repeat (first|exact au.nil|refine au.cons (by first|exact ay.refl _|assumption|exact ay.cap|exact ay.any _) ?_)))));apply ao.eval));(· simp only[go_sem,reduceIte,Nat.reduceEqDiff,Nat.reduceAdd,bx,ax,if_true,if_false,Nat.reduceMul,Nat.reduceLeDiff,f];exact rfl))
  |(refine ao.nil ⟨?_,?_⟩;(· first|trivial|simp[bw,aV,apart,aT]))
  |(apply Wp.bu;(· simp only[go_sem,reduceIte,Nat.reduceEqDiff,Nat.reduceAdd,bx,ax,if_true,if_false,Nat.reduceMul,Nat.reduceLeDiff,f];exact rfl);(· rfl))
  |refine Wp.skip ?_
  |refine Wp.label ?_
  |refine Wp.block ?_
  |refine Wp.exit ?_
  |refine Wp.seq ?_
  |exact y.1)):X:=h f c0 c1 ⟨y⟩
theorem an4 {F C0 C1 C2 C3 X Y:Prop} (f:F) (c0:C0) (c1:C1) (c2:C2) (c3:C3) (y:Y) (h:F→C0→C1→C2→C3→Hid Y→X:=by
 intro f c0 c1 c2 c3 y
 repeat (first
  |((first|apply Wp.seqItems|apply Wp.items|((first
   |(refine ao.cd ?_ ?_ c0 ?_;(· simp only[go_sem,reduceIte,Nat.reduceEqDiff,Nat.reduceAdd,bx]);(· simp only[go_sem,reduceIte,Nat.reduceEqDiff,Nat.reduceAdd,bx,List.map];first|exact au.refl _|assumption|(repeat (first|exact au.nil|refine au.cons (by first|exact ay.refl _|assumption|exact ay.cap|exact ay.any _) ?_))))
   |(refine ao.cd ?_ ?_ c1 ?_;(· simp only[go_sem,reduceIte,Nat.reduceEqDiff,Nat.reduceAdd,bx]);(· simp only[go_sem,reduceIte,Nat.reduceEqDiff,Nat.reduceAdd,bx,List.map];first|exact au.refl _|assumption|(repeat (first|exact au.nil|refine au.cons (by first|exact ay.refl _|assumption|exact ay.cap|exact ay.any _) ?_))))
   |(refine ao.cd ?_ ?_ c2 ?_;(· simp only[go_sem,reduceIte,Nat.reduceEqDiff,Nat.reduceAdd,bx]);(· simp only[go_sem,reduceIte,Nat.reduceEqDiff,Nat.reduceAdd,bx,List.map];first|exact au.refl _|assumption|(repeat (first|exact au.nil|refine au.cons (by first|exact ay.refl _|assumption|exact ay.cap|exact ay.any _) ?_))))
   |(refine ao.cd ?_ ?_ c3 ?_;(· simp only[go_sem,reduceIte,Nat.reduceEqDiff,Nat.reduceAdd,bx]);(· simp only[go_sem,reduceIte,Nat.reduceEqDiff,Nat.reduceAdd,bx,List.map];first|exact au.refl _|assumption|(repeat (first|exact au.nil|refine au.cons (by first|exact ay.refl _|assumption|exact ay.cap|exact ay.any _) ?_)))));apply ao.eval));(· simp only[go_sem,reduceIte,Nat.reduceEqDiff,Nat.reduceAdd,bx,ax,if_true,if_false,Nat.reduceMul,Nat.reduceLeDiff,f];exact rfl))
  |(refine ao.nil ⟨?_,?_⟩;(· first|trivial|simp[bw,aV,apart,aT]))
  |(apply Wp.bu;(· simp only[go_sem,reduceIte,Nat.reduceEqDiff,Nat.reduceAdd,bx,ax,if_true,if_false,Nat.reduceMul,Nat.reduceLeDiff,f];exact rfl);(· rfl))
  |refine Wp.skip ?_
  |refine Wp.label ?_
  |refine Wp.block ?_
  |refine Wp.exit ?_
  |refine Wp.seq ?_
  |exact y.1)):X:=h f c0 c1 c2 c3 ⟨y⟩
section
variable {P:Program}
end
section
variable {P:Program} {N:Nat}
end
theorem xOp {F Y X:Prop} (f:F) (y:Y) (h:F→Hid Y→X:=by
 intro f y
 refine bI.op (by simp only[go_sem,reduceIte,Nat.reduceEqDiff,Nat.reduceAdd,bx]) (by simp only[go_sem,reduceIte,Nat.reduceEqDiff,Nat.reduceAdd,bx,f];exact rfl) y.1):X:=h f ⟨y⟩
theorem sI {Y X:Prop} (y:Y) (h:Hid Y→X:=by
 intro y
 refine bI.op (by simp only[go_sem,reduceIte,Nat.reduceEqDiff,Nat.reduceAdd,bx]) (by simp only[go_sem,reduceIte,Nat.reduceEqDiff,Nat.reduceAdd,bx];exact rfl) y.1):X:=h ⟨y⟩
theorem cL {Y X:Prop} (y:Y) (h:Hid Y→X:=by
 intro y
 refine Wp.ret ⟨trivial,_,rfl,?_⟩
 simp only[go_sem,reduceIte,Nat.reduceEqDiff,Nat.reduceAdd,bx]
 exact y.1):X:=h ⟨y⟩
theorem xSu {X:Prop} (h:X:=by
 refine aK.tm (by simp only[ba,go_sem,reduceIte,Nat.reduceEqDiff,Nat.reduceAdd,bx];and_intros<;>first|exact trivial|exact ay.refl _|exact ay.any _|(refine ay.int ?_;omega))):X:=h
theorem xSb {X:Prop} (h:X:=by
 simp only[ba,go_sem,reduceIte,Nat.reduceEqDiff,Nat.reduceAdd,bx];and_intros<;>first|exact trivial|exact ay.refl _|exact ay.any _|(refine ay.int ?_;omega)):X:=h
theorem xA1 {X:Prop} (h:X:=by simp only[go_sem,reduceIte,Nat.reduceEqDiff,Nat.reduceAdd,bx];exact rfl):X:=h
theorem xA2 {X:Prop} (h:X:=by simp only[go_sem,reduceIte,Nat.reduceEqDiff,Nat.reduceAdd,bx]):X:=h
theorem xA4 {X:Prop} (h:X:=by simp only[go_sem,reduceIte,Nat.reduceEqDiff,List.map];exact au.refl _):X:=h
theorem xA5 {X:Prop} (h:X:=by first|exact ay.refl _|assumption|exact ay.cap|exact ay.any _):X:=h
theorem xA6 {X:Prop} (h:X:=by simp only[go_sem,reduceIte,Nat.reduceEqDiff,Nat.reduceAdd,bx,List.map];exact rfl):X:=h
theorem xA7 {X:Prop} (h:X:=by simp only[go_sem,reduceIte,Nat.reduceEqDiff,List.map];exact rfl):X:=h
theorem xAb {X:Prop} (h:X:=by simp only[go_sem,reduceIte,Nat.reduceEqDiff,Nat.reduceAdd,bx,List.map];exact au.refl _):X:=h
theorem xAc {X:Prop} (h:X:=by simp only[go_sem,reduceIte,Nat.reduceEqDiff,Nat.reduceAdd,bx,ax,if_true,if_false,Nat.reduceMul,Nat.reduceLeDiff];exact rfl):X:=h
theorem xAd {F X:Prop} (f:F) (h:F→X:=by intro f;simp only[go_sem,reduceIte,Nat.reduceEqDiff,Nat.reduceAdd,bx,ax,if_true,if_false,Nat.reduceMul,Nat.reduceLeDiff,f];exact rfl):X:=h f
theorem xAe {F X:Prop} (f:F) (h:F→X:=by intro f;simp only[go_sem,reduceIte,Nat.reduceEqDiff,Nat.reduceAdd,bx,f];exact rfl):X:=h f
theorem ixF {j n:Nat} (h:j<n) (hn:n≤9223372036854775806):decide ((j:Int)<(n:Int))=true∧(0:Int)≤(j:Int)∧(j:Int)<(n:Int)∧IntKind.i64.wrap ((j:Int)+1)=((j+1:Nat):Int):=
 ⟨decide_eq_true ab,ab,ab,by rw[IntWalk.i64_in _ ab];omega⟩
theorem ixE (n:Nat):decide ((n:Int)<(n:Int))=false:=decide_eq_false ab
section
variable {P:Program} {N:Nat} {Q:aQ→St→Prop}
end
section
variable {P:Program} {G:aL} {h:H} {w:World}
end
section
variable {P:Program} {N:Nat} {Q:aQ→St→Prop}
theorem Trans.Gz {G G':aL} {w w':World} {h h':H} (T:Trans G w h G' w' h') {f:Nat→Option Obj} (hf:∀j o,f j=some o→∃o',h'.objs j=some o'):Trans G w h G' w' {h' with objs:=f}:=
 {T with
  O_new:=fun B hB x=>T.O_new B hB (by obtain ⟨id,o,ho,e⟩:=x;obtain ⟨o',ho'⟩:=hf _ _ ho;exact ⟨id,o',ho',e⟩)
  T_new:=fun B hB x=>T.T_new B hB x
  objs_new:=fun j o hj=>by obtain ⟨o',ho'⟩:=hf _ _ hj;exact T.objs_new j o' ho'
  n_le:=T.n_le
  m_le:=T.m_le
  dom_new:=T.dom_new
  tdom_new:=T.tdom_new
  toks_new:=T.toks_new}
end
end Go.Av
end
section
namespace Go.Av
namespace TR
variable {α:Type}
end TR
end Go.Av
end
section
namespace Go.Av
section
variable {P:Program} {N:Nat} {ops:Array Oper}
def mO (P:Program) (ops:Array Oper) (i:Nat) (o:Oper) (t:Tm) (h:H) (x:AV) (h':H):Prop:=
 (h.n≤h'.n∧h.m≤h'.m)∧∀G w a,cK G w t a→aX G h w→cU G h h'→∀(K:Act→World→Prop) Q,
  (∀G' w' v,Trans G w h G' w' h'→aX G' h' w'→aw G' w' x v→K (a.put o.dst v) w')→∀ro,wpOpIn (rd ro) 0 P ops Q i K a w
theorem mO.of {i:Nat} {o:Oper} {t:Tm} {h h1 h1' h':H} {x:AV} {en:Ent} (tc:Touch h h1 h1' h' en) (run:gy P ops i o t h1 x h1'):mO P ops i o t h x h':=by
 have e3:h'.n=h1'.n:=by rw[tc.eq];rfl
 have e4:h'.m=h1'.m:=by rw[tc.eq];rfl
 have e1:=tc.n
 have e2:=tc.m
 have l1:=tc.le
 have l2:=tc.lem
 refine ⟨⟨ab,ab⟩,fun G w a ht R U K Q hK ro=>?_⟩
 have F:cU G h1 h1':=U.sub ab ab ab ab
 refine run G w a (fun k _=>ht k) (R.sub tc.sub) F _ Q (fun G' w' v T1 R1 V=>?_) ro
 obtain ⟨R2,T2⟩:=frame R tc.sub tc.n tc.m R1 T1 F
 rw[←tc.eq] at R2 T2
 exact hK G' w' v T2 R2 V
theorem mO.full {i:Nat} {o:Oper} {t:Tm} {h h':H} {x:AV} (hn:h.n≤h'.n∧h.m≤h'.m) (run:gy P ops i o t h x h'):mO P ops i o t h x h':=
 ⟨hn,fun G w a ht R U K Q hK ro=>run G w a (fun k _=>ht k) R U K Q hK ro⟩
inductive lU (P:Program) (ops:Array Oper):Nat→Tm→H→Tm→H→Prop where
 |nil {i:Nat} {t:Tm} {h:H} (hi:i=ops.size):lU P ops i t h t h
 |cons {i:Nat} {o:Oper} {t t':Tm} {h h2 h':H} {x:AV} (ho:ops[i]? =some o) (run:mO P ops i o t h x h2) (rest:lU P ops (i+1) (bY t o.dst x) h2 t' h'):lU P ops i t h t' h'
theorem lU.nm {i:Nat} {t t':Tm} {h h':H} (c:lU P ops i t h t' h'):h.n≤h'.n∧h.m≤h'.m:=by
 induction c with
 |nil _=>exact ⟨Nat.le_refl _,Nat.le_refl _⟩
 |cons ho run rest ih=>have:=run.1;omega
theorem wb (ro:Option Nat) {Q:Exit→Act→World→Prop} (hN:∀(i:Nat) o d,ops[i]? =some o→o.dst=some d→d<N):∀{i:Nat} {t t':Tm} {h h':H},lU P ops i t h t' h'→
  ∀(G:aL) (w:World) (a:Act),a.tmps.size=N→cK G w t a→aX G h w→cU G h h'→
   (∀G' w' a',Trans G w h G' w' h'→cK G' w' t' a'→aX G' h' w'→a'.tmps.size=N→a'.defers=a.defers→Q .normal a' w')→wpOpsIn (rd ro) 0 P ops Q (List.range' i (ops.size - i)) a w:=by
 intro i t t' h h' hc
 induction hc with
 |nil hi=>
  intro G w a hs ht R U hq
  subst hi
  simp only[Nat.sub_self,List.range'_zero,wpOpsIn]
  exact hq G w a (Trans.refl _ _ _) ht R hs rfl
 | @cons i o t t' h h2 h' x ho run rest ih=>
  intro G w a hs ht R U hq
  have hi:i<ops.size:=(Array.getElem?_eq_some_iff.1 ho).1
  have:ops.size - i=(ops.size - (i+1))+1:=by omega
  rw[this,List.range'_succ,wpOpsIn_cons]
  have nm:=rest.nm
  have nm2:=run.1
  refine run.2 G w a ht R (U.sub (Nat.le_refl _) nm.1 (Nat.le_refl _) nm.2) _ Q (fun G' w' v T2 R2 V=>?_) ro
  refine ih G' w' _ (by rw[gM];exact hs) (mB (ht.mono R T2) V fun k hk=>by rw[hs];exact hN i o k ho hk) R2 (U.step T2) fun G'' w'' a'' T3 h1 h2 h3 h4=>?_
  exact hq G'' w'' a'' (T2.trans R R2 T3) h1 h2 h3 (h4.trans (put_defers _ _ _))
def an (P:Program) (N:Nat) (items:List aO) (t:Tm) (h:H) (K:Tm→H→Prop):Prop:=
 ∀ops i,i≤ops.size→dv P N ops (ops.toList.drop i)=some items→∃t' h',lU P ops i t h t' h'∧K t' h'
theorem an.nil {t:Tm} {h:H} {K:Tm→H→Prop} (hk:K t h):an P N [] t h K:=by
 intro ops i hi hc
 have:i=ops.size:=by
  cases hd:ops.toList.drop i with
  |nil=>have:=List.drop_eq_nil_iff.1 hd;simp at this;omega
  |cons a l=>rw[hd] at hc;simp only[dv] at hc;split at hc<;>cases hc
 exact ⟨t,h,.nil this,hk⟩
theorem rA {it:aO} {o:Oper} (hit:bO P N ops o=some it):it.dst=o.dst:=by
 unfold bO at hit
 split at hit
 ·split at hit<;>cases hit;rfl
 ·cases hit
theorem an.step {it:aO} {its:List aO} {t:Tm} {h h':H} {x:AV} {K:Tm→H→Prop}
  (run:∀(ops:Array Oper) i o,ops[i]? =some o→bO P N ops o=some it→mO P ops i o t h x h') (rest:an P N its (bY t it.dst x) h' K):an P N (it::its) t h K:=by
 intro ops i hi hc
 obtain ⟨o,ho,hit,hi',hc'⟩:=cE hi hc
 obtain ⟨t',hh',ch,hk⟩:=rest ops (i+1) hi' hc'
 exact ⟨t',hh',.cons ho (run ops i o ho hit) (by rw[←rA hit];exact ch),hk⟩
theorem Wp.DL {items:List aO} {s:St} {Q:aQ→St→Prop} (h:an P N items s.t s.h fun t' h'=>Q .normal ⟨t',h'⟩):Wp P N (.reg items none) s Q:=by
 intro code hc
 obtain ⟨id,ops,draw,rfl,hi,hd⟩:=ko hc
 obtain ⟨t',h',ch,hq⟩:=h ops 0 (Nat.zero_le _) (by simpa using hi)
 have nm:=ch.nm
 obtain ⟨cl,ci⟩:=fT hi
 have hN:∀(i:Nat) o d,ops[i]? =some o→o.dst=some d→d<N:=by
  intro i o d ho hdd
  have hlt:i<ops.size:=(Array.getElem?_eq_some_iff.1 ho).1
  have hit:i<items.length:=by rw[cl];simpa using hlt
  have:=ci i o items[i] (by simpa using ho) (List.getElem?_eq_getElem hit)
  generalize items[i]=it at this
  unfold bO at this
  split at this
  ·split at this<;>cases this
   rename_i hcond
   simp only[Bool.and_eq_true] at hcond
   have:=hcond.1
   rw[hdd] at this
   simpa using this
  ·cases this
 refine ⟨.normal,⟨t',h'⟩,⟨nm,fun ro okc G w a r F=>?_⟩,hq⟩
 rcases hd with ⟨rfl,-⟩|⟨-,-,-,hn⟩
 ·refine wpIn_region ?_
  rw[List.range_eq_range']
  have:=wb ro (Q:=fun e' a' w'=>aQ.normal.fa e'∧lf w a.defers a'.defers∧∃G',Trans G w s.h G' w' h'∧Rel N ⟨t',h'⟩ G' w' a') hN ch G w a r.size r.t r.h F
   (fun G' w' a' T1 t1 R1 s1 d1=>⟨trivial,by rw[d1];exact .refl,G',T1,⟨s1,t1,R1,by rw[d1];exact r.df.mono T1⟩⟩)
  simpa using this
 ·cases hn
end
section
variable {P:Program} {T:FT}
def pR (full:Bool) (h h1 h1' h':H) (en:Ent):Prop:=Touch h h1 h1' h' en∨(full=true∧h1=h∧h1'=h'∧h.n≤h'.n∧h.m≤h'.m)
theorem pR.sJ {N:Nat} {ops:Array Oper} {full:Bool} {i:Nat} {o:Oper} {t:Tm} {h h1 h1' h':H} {x:AV} {en:Ent} (hn:pR full h h1 h1' h' en) (run:gy P ops i o t h1 x h1'):mO P ops i o t h x h':=by
 rcases hn with tc|⟨-,rfl,rfl,a,b⟩
 ·exact mO.of tc run
 ·exact mO.full ⟨a,b⟩ run
end
section
variable {P:Program} {N:Nat}
theorem an.evA:∀{items its:List aO} {t t':Tm} {h h':H} {log log':List Ent} {K:Tm→H→Prop},cQ items t h log=(its,t',h',log')→an P N its t' h' K→an P N items t h K
 |[],its,t,t',h,h',log,log',K,he,hw=>by simp only[cQ,Prod.mk.injEq] at he;obtain ⟨rfl,rfl,rfl,rfl⟩:=he;exact hw
 |it::items,its,t,t',h,h',log,log',K,he,hw=>by
  simp only[cQ] at he
  split at he
  ·rename_i hg
   split at he
   ·rename_i x h2 en hx
    refine an.step (fun ops i o ho hit=>?_) (an.evA he hw)
    obtain ⟨h1,h1',tc,run⟩:=gg ho hit hg hx
    exact (pR.sJ (N:=N) (full:=false) (.inl tc) run)
   ·simp only[Prod.mk.injEq] at he;obtain ⟨rfl,rfl,rfl,rfl⟩:=he;exact hw
  ·rename_i hg
   exact an.step (fun ops i o ho hit=>pR.sJ (N:=N) (full:=false) (.inl (bF h)) (fR ho hit hg)) (an.evA he hw)
  ·simp only[Prod.mk.injEq] at he;obtain ⟨rfl,rfl,rfl,rfl⟩:=he;exact hw
theorem an.evF {items its:List aO} {t t':Tm} {h h':H} {log:List Ent} {K:Tm→H→Prop} (he:jc items t h []=some (its,t',h',log)) (hw:an P N its t' h' K):an P N items t h K:=an.evA (dg he) hw
theorem Wp.cB {items its:List aO} {s:St} {Q:aQ→St→Prop} {t':Tm} {h':H} {log:List Ent} (he:jc items s.t s.h []=some (its,t',h',log)) (h:an P N its t' h' fun t h=>Q .normal ⟨t,h⟩):Wp P N (.reg items none) s Q:=Wp.DL (an.evF he h)
theorem Wp.aR {items its:List aO} {y:AC} {s:St} {Q:aQ→St→Prop} {t':Tm} {h':H} {log:List Ent} (he:jc items s.t s.h []=some (its,t',h',log)) (h:an P N its t' h' fun t h=>Wp P N y ⟨t,h⟩ Q):Wp P N (.seq (.reg items none) y) s Q:=Wp.seq (Wp.cB he h)
theorem an.cx {dst:Option Nat} {g:Option (Nat × Bool)} {f:FuncId} {l:List Opd} {its:List aO} {t:Tm} {h h':H} {K:Tm→H→Prop} {vals:List AV} {r:AV} (hg:guardOf t g=some true) (hs:au (l.map (ev t)) vals) (hn:h.n≤h'.n∧h.m≤h'.m) (hc:aI P f vals h r h')
  (rest:an P N its (bY t dst r) h' K):an P N (⟨dst,g,.call f l⟩::its) t h K:=
 an.step (fun ops i o ho hit=>mO.full hn (fS ho hit hg rfl hs hc)) rest
theorem an.cd {dst:Option Nat} {g:Option (Nat × Bool)} {f:FuncId} {l:List Opd} {its:List aO} {t:Tm} {h:H} {K:Tm→H→Prop} {vals:List AV} {r:AV} (hg:guardOf t g=some true) (hs:au (l.map (ev t)) vals) (hc:bc P f vals r)
  (rest:an P N its (bY t dst r) h K):an P N (⟨dst,g,.call f l⟩::its) t h K:=
 an.step (fun ops i o ho hit=>pR.sJ (N:=N) (full:=false) (.inl (bF h)) (fS ho hit hg rfl hs (hc h.n h.m))) rest
theorem aI.frame {f:FuncId} {args:List AV} {h h1 h1':H} {r:AV} (hs:h1.sub h) (hn:h1.n=h.n) (hm:h1.m=h.m) (ln:h1.n≤h1'.n) (lm:h1.m≤h1'.m) (hc:aI P f args h1 r h1'):aI P f args h r (h.patch h1 h1'):=by
 intro G w vs hv R F
 have F1:cU G h1 h1':=⟨fun id a b=>F.1 id ab b,fun t a b=>F.2 t ab b⟩
 refine (hc G w vs hv (R.sub hs) F1).mono ?_
 rintro e w' ⟨v,G',rfl,T,R',V⟩
 obtain ⟨R2,T2⟩:=Av.frame R hs hn hm R' T F1
 exact ⟨v,G',rfl,T2,R2,V⟩
theorem aW.bW {f:FuncId} {ac:AC} {args:List AV} {h h':H} {ds:List RV} {r:AV} (hF:aW P f N ac ds) (hl:args.length≤N) (hw:Wp P N ac ⟨fB args,h⟩ fun e s'=>jb e∧∃q,cJ ds s'.t s'.h=some q∧ay q r∧s'.h=h'):aI P f args h r h':=by
 obtain ⟨q,h2,hc,hs,rfl⟩:=hF.fC (Q:=fun q h2=>ay q r∧h2=h') hl hw
 intro G w vs hv R F
 refine (hc G w vs hv R F).mono ?_
 rintro e w' ⟨v,G',rfl,T,R',V⟩
 exact ⟨v,G',rfl,T,R',hs G' w' v V⟩
end
section
variable {P:Program} {N:Nat}
def sK (P:Program) (id:Nat) (args:List AV) (h:H) (Q:AV→H→Prop):Prop:=∃r h',vU P id args h r h'∧h.n≤h'.n∧h.m≤h'.m∧Q r h'
theorem an.yield {dst:Option Nat} {g:Option (Nat × Bool)} {id:Nat} {y:Opd} {l:List Opd} {its:List aO} {t:Tm} {h:H} {K:Tm→H→Prop} {vals:List AV} {Q:AV→H→Prop}
  (hg:guardOf t g=some true) (hy:ev t y= .yld id) (hs:au (l.map (ev t)) vals) (hc:sK P id vals h Q)
  (rest:∀r h',Q r h'→h.n≤h'.n→h.m≤h'.m→an P N its (bY t dst r) h' K):an P N (⟨dst,g,.callv y l⟩::its) t h K:=by
 obtain ⟨r,h',hc,hn,hm,hq⟩:=hc
 exact an.step (fun ops i o ho hit=>mO.full ⟨hn,hm⟩ (uq ho hit hg rfl hy hs hc)) (rest r h' hq hn hm)
def aM (P:Program) (f:FuncId) (args:List AV) (h:H) (Q:AV→H→Prop):Prop:=∃r h',aI P f args h r h'∧h.n≤h'.n∧h.m≤h'.m∧Q r h'
theorem aW.cq {f:FuncId} {ac:AC} {args:List AV} {ds:List RV} {h:H} {Q:AV→H→Prop} (hF:aW P f N ac ds) (hl:args.length≤N)
  (hw:Wp P N ac ⟨fB args,h⟩ fun e s'=>jb e∧∃q,cJ ds s'.t s'.h=some q∧Q q s'.h):aM P f args h Q:=by
 obtain ⟨q,h',hc,hq,hn,hm⟩:=hF.fC (Q:=fun q h'=>Q q h'∧h.n≤h'.n∧h.m≤h'.m) hl (hw.nm.mono fun e s' ⟨⟨h1,q,h2,h3⟩,h4,h5⟩=>⟨h1,q,h2,h3,h4,h5⟩)
 exact ⟨q,h',hc,hn,hm,hq⟩
theorem aM.mono {f:FuncId} {args:List AV} {h:H} {Q Q':AV→H→Prop} (hc:aM P f args h Q) (hq:∀r h',Q r h'→Q' r h'):aM P f args h Q':=by
 obtain ⟨r,h',a,b,c,d⟩:=hc
 exact ⟨r,h',a,b,c,hq _ _ d⟩
theorem an.aY {dst:Option Nat} {g:Option (Nat × Bool)} {f:FuncId} {l:List Opd} {its:List aO} {t:Tm} {h:H} {K:Tm→H→Prop} {vals:List AV} {Q:AV→H→Prop}
  (hg:guardOf t g=some true) (hs:au (l.map (ev t)) vals) (hc:aM P f vals h Q)
  (rest:∀r h',Q r h'→h.n≤h'.n→h.m≤h'.m→an P N its (bY t dst r) h' K):an P N (⟨dst,g,.call f l⟩::its) t h K:=by
 obtain ⟨r,h',hc,hn,hm,hq⟩:=hc
 exact an.cx hg hs ⟨hn,hm⟩ hc (rest r h' hq hn hm)
theorem Wp.GA {g:Opd} {ps:List Nat} {x y:AC} {t:Tm} {h:H} {Q:aQ→St→Prop} {fi:FuncId} {fn:Func} {first caps:List AV} (hg:ev t g= .clo (.func fi) first caps) (hf:P.funcs[fi]? =some fn) (hfb:fn.body.isSome=true) (hfn:fn.name≠ "runtime.NumGoroutine")
  (hfresh:h.objs h.n=none)
  (hw:∀asg body,cCode P N asg=some x→cCode P N body=some y→fQ asg=true→fQ body=true→
   aM P fi (first++[.yld h.n]++caps) ⟨upd h.objs h.n (some (.loop N t ps asg body .ready none)),h.n+1,h.toks,h.m⟩ fun r h'=>∃t2 st pend e,h'.objs h.n=some (.loop N t2 ps asg body st pend)∧st≠ .busy∧kM pend e∧
    Q e ⟨t,{h' with objs:=fun j=>if j=h.n then none else h'.objs j}⟩):Wp P N (.vL g ps x y) ⟨t,h⟩ Q:=by
 obtain ⟨f,n,T,m⟩:=h
 refine Wp.vL hg hf hfb hfn hfresh fun asg body h1 h2 h3 h4=>?_
 obtain ⟨r,⟨f2,n2,T2,m2⟩,k1,k2,k3,t2,st,pend,e,k4,k5,k6,k7⟩:=hw asg body h1 h2 h3 h4
 exact ⟨r,f2,n2,T2,m2,t2,st,pend,e,k1,k2,k3,k4,k5,k6,k7⟩
theorem we {id M:Nat} {h:H} {t:Tm} {ps:List Nat} {asg body:Code} {x y:AC} {args:List AV} {Q:AV→H→Prop} (ho:h.objs id=some (.loop M t ps asg body .ready none)) (ha:cCode P M asg=some x) (hb:cCode P M body=some y) (hna:fQ asg=true) (hnb:fQ body=true)
  (hl:args.length=ps.length) (hps:∀p∈ps,p<M)
  (hw:Wp P M x ⟨mK t ps args,h⟩ fun e s=>e= .normal∧∃t1,s.h.objs id=some (.loop M t1 ps asg body .ready none)∧
   Wp P M y ⟨s.t,{s.h with objs:=upd s.h.objs id (some (.loop M t1 ps asg body .busy none))}⟩ fun e2 s2=>∃t2 b st pend,s2.h.objs id=some (.loop M t2 ps asg body .busy none)∧jd e2 b st pend∧
    (h.n≤s2.h.n→h.m≤s2.h.m→Q (.bool b) {s2.h with objs:=upd s2.h.objs id (some (.loop M t2 ps asg body st pend))})):sK P id args h Q:=by
 obtain ⟨f,n,T,m⟩:=h
 obtain ⟨r,h',hy,hn,hm,hq⟩:=zw (P:=P) (Q:=fun r h'=>n≤h'.n∧m≤h'.m∧Q r h') ho ha hb hna hnb hl hps (by
  refine hw.nm.mono ?_
  rintro e s ⟨⟨rfl,t1,k1,k2⟩,k3,k4⟩
  refine ⟨rfl,t1,k1,k2.nm.mono ?_⟩
  rintro e2 s2 ⟨⟨t2,b,st,pend,q1,q2,q3⟩,q4,q5⟩
  have e4:n≤s2.h.n:=Nat.le_trans k3 q4
  have e5:m≤s2.h.m:=Nat.le_trans k4 q5
  exact ⟨t2,b,st,pend,q1,q2,e4,e5,q3 e4 e5⟩)
 exact ⟨r,h',hy,hn,hm,hq⟩
end
section
variable {P:Program} {N:Nat}
end
theorem bg {α:Type} (f:Nat→α) (i:Nat) (a b:α):upd (upd f i a) i b=upd f i b:=by
 funext j
 simp only[upd]
 split<;>rfl
theorem jg {α:Type} (f:Nat→α) {i k:Nat} (a b:α) (h:i≠k):upd (upd f i a) k b=upd (upd f k b) i a:=by
 funext j
 simp only[upd]
 split
 ·rename_i e
  rw[if_neg (fun q=>h (q.symm.trans e))]
 ·rfl
section
variable {P:Program} {N:Nat}
theorem an.opA {dst:Option Nat} {g:Option (Nat × Bool)} {op:AOp} {its:List aO} {t:Tm} {h h':H} {en:Ent} {K:Tm→H→Prop} {x:AV} (hg:guardOf t g=some true) (hx:fE (ev t) h op=some (x,h',en))
  (rest:an P N its (bY t dst x) h' K):an P N (⟨dst,g,op⟩::its) t h K:=
 an.step (it:=⟨dst,g,op⟩) (fun ops i o ho hit=>by
  obtain ⟨h1,h1',tc,run⟩:=ry ho hit hg hx
  exact pR.sJ (N:=N) (full:=false) (.inl tc) run) rest
theorem ao.opA {dst:Option Nat} {g:Option (Nat × Bool)} {op:AOp} {its:List aO} {t:Tm} {h h':H} {log:List Ent} {en:Ent} {K:Tm→H→List Ent→Prop} {x:AV} (hg:guardOf t g=some true) (hx:fE (ev t) h op=some (x,h',en))
  (rest:ao P N its (bY t dst x) h' (en::log) K):ao P N (⟨dst,g,op⟩::its) t h log K:=by
 intro ops i hi hc
 obtain ⟨o,ho,hit,hi',hc'⟩:=cE hi hc
 obtain ⟨h1,h1',tc,run⟩:=ry ho hit hg hx
 obtain ⟨recs,t',hh',ch,hk,hen⟩:=rest ops (i+1) hi' hc'
 have hdst:dst=o.dst:=by
  unfold bO at hit
  split at hit
  ·split at hit<;>cases hit;rfl
  ·cases hit
 have ht:=uu hx
 refine ⟨⟨t,h,h1,h1',h',x,en⟩::recs,t',hh',.cons ho rfl rfl tc (fun _=>run) (by rw[←hdst];exact ch),by simpa using hk,?_⟩
 intro k r it' hr hit' ht'
 cases k with
 |zero=>
  simp at hr hit';subst hr hit'
  rw[ht] at ht';cases ht'
 |succ k=>simp at hr hit';exact hen k r it' hr hit' ht'
def aq (h h':H):Prop:=∀j,(h'.objs j).isSome=true→(h.objs j).isSome=true∨(h.n≤j∧j<h'.n)
theorem ft {h h':H} (hb:∀j,(h.objs j).isSome=true→j<h.n) (hn:h.n≤h'.n) (hm:h.m≤h'.m) (no:aq h h'):Touch h h h' h' ⟨[],List.range h'.n,h.toks++h'.toks⟩ where
 sub:=⟨fun _ _ x=>x,fun _ x=>x⟩
 n:=rfl
 m:=rfl
 eq:=by
  refine H.ext (fun j=>?_) rfl ?_ rfl
  ·simp only[H.patch]
   by_cases hj:(h.objs j).isSome=true∨h.n≤j∧j<h'.n
   ·rw[if_pos hj]
   ·rw[if_neg hj]
    have h1:h.objs j=none:=by
     cases e:h.objs j with
     |none=>rfl
     |some o=>exact absurd (.inl (by rw[e];rfl)) hj
    rw[h1]
    cases e:h'.objs j with
    |none=>rfl
    |some o=>exact absurd (no j (by rw[e];rfl)) hj
  ·simp only[H.patch]
   rw[List.filter_eq_nil_iff.2 (fun x hx=>by simp[hx])]
   simp
 rd j hj:= .inr (List.mem_range.2 (Nat.lt_of_lt_of_le (hb j hj) hn))
 wr j _ b:=List.mem_range.2 b
 chg j hj hw:=absurd (List.mem_range.2 (Nat.lt_of_lt_of_le (hb j hj) hn)) hw
 tk t ht:=List.mem_append.2 (.inl ht)
 tn t ht:=List.mem_append.2 (.inr ht)
 le:=hn
 lem:=hm
theorem ao.aY {dst:Option Nat} {g:Option (Nat × Bool)} {f:FuncId} {l:List Opd} {its:List aO} {t:Tm} {h:H} {log:List Ent} {K:Tm→H→List Ent→Prop} {vals:List AV} {Q:AV→H→Prop}
  (hg:guardOf t g=some true) (hs:au (l.map (ev t)) vals) (hb:∀j,(h.objs j).isSome=true→j<h.n) (hc:aM P f vals h Q) (no:∀r h',Q r h'→aq h h')
  (rest:∀r h',Q r h'→h.n≤h'.n→h.m≤h'.m→ao P N its (bY t dst r) h' (⟨[],List.range h'.n,h.toks++h'.toks⟩::log) K):ao P N (⟨dst,g,.call f l⟩::its) t h log K:=by
 obtain ⟨r,h',hc,hn,hm,hq⟩:=hc
 exact ao.cx hg hs hc (ft hb hn hm (no r h' hq)) (rest r h' hq hn hm)
end
theorem rf0 {F X Y:Prop} (f:F) (y:Y) (h:F→Hid Y→X:=by
 intro f y
 repeat (first
  |refine an.nil ?_
  |((first|apply Wp.aR|apply Wp.cB);(· simp only[go_sem,reduceIte,Nat.reduceEqDiff,Nat.reduceAdd,bx,ax,if_true,if_false,Nat.reduceMul,Nat.reduceLeDiff,f];exact rfl))
  |(apply Wp.bu;(· simp only[go_sem,reduceIte,Nat.reduceEqDiff,Nat.reduceAdd,bx,ax,if_true,if_false,Nat.reduceMul,Nat.reduceLeDiff,f];exact rfl);(· rfl))
  |refine Wp.skip ?_
  |refine Wp.label ?_
  |refine Wp.block ?_
  |refine Wp.exit ?_
  |refine Wp.seq ?_
  |exact y.1)):X:=h f ⟨y⟩
theorem wg {X Y:Prop} (y:Y) (h:Hid Y→X:=by
 intro y
 repeat (first
  |refine an.nil ?_
  |((first|apply Wp.aR|apply Wp.cB);(· simp only[go_sem,reduceIte,Nat.reduceEqDiff,Nat.reduceAdd,bx,ax,if_true,if_false,Nat.reduceMul,Nat.reduceLeDiff];exact rfl))
  |(apply Wp.bu;(· simp only[go_sem,reduceIte,Nat.reduceEqDiff,Nat.reduceAdd,bx,ax,if_true,if_false,Nat.reduceMul,Nat.reduceLeDiff];exact rfl);(· rfl))
  |refine Wp.skip ?_
  |refine Wp.label ?_
  |refine Wp.block ?_
  |refine Wp.exit ?_
  |refine Wp.seq ?_
  |exact y.1)):X:=h ⟨y⟩
theorem rf1 {F C0 X Y:Prop} (f:F) (c0:C0) (y:Y) (h:F→C0→Hid Y→X:=by
 intro f c0 y
 repeat (first
  |refine an.nil ?_
  |((first|apply Wp.aR|apply Wp.cB|((first
   |(refine an.cd ?_ ?_ c0 ?_;(· simp only[go_sem,reduceIte,Nat.reduceEqDiff,Nat.reduceAdd,bx]);(· simp only[go_sem,reduceIte,Nat.reduceEqDiff,Nat.reduceAdd,bx,List.map,go_sem,reduceIte,Nat.reduceEqDiff,Nat.reduceAdd,bx,ax,if_true,if_false,Nat.reduceMul,Nat.reduceLeDiff,f];first|exact au.refl _|assumption|(repeat (first|exact au.nil|refine au.cons (by first|exact ay.refl _|assumption|exact ay.cap|exact ay.any _) ?_)))));apply an.evF));(· simp only[go_sem,reduceIte,Nat.reduceEqDiff,Nat.reduceAdd,bx,ax,if_true,if_false,Nat.reduceMul,Nat.reduceLeDiff,f];exact rfl))
  |(apply Wp.bu;(· simp only[go_sem,reduceIte,Nat.reduceEqDiff,Nat.reduceAdd,bx,ax,if_true,if_false,Nat.reduceMul,Nat.reduceLeDiff,f];exact rfl);(· rfl))
  |refine Wp.skip ?_
  |refine Wp.label ?_
  |refine Wp.block ?_
  |refine Wp.exit ?_
  |refine Wp.seq ?_
  |exact y.1)):X:=h f c0 ⟨y⟩
theorem rf2 {F C0 C1 X Y:Prop} (f:F) (c0:C0) (c1:C1) (y:Y) (h:F→C0→C1→Hid Y→X:=by
 intro f c0 c1 y
 repeat (first
  |refine an.nil ?_
  |((first|apply Wp.aR|apply Wp.cB|((first
   |(refine an.cd ?_ ?_ c0 ?_;(· simp only[go_sem,reduceIte,Nat.reduceEqDiff,Nat.reduceAdd,bx]);(· simp only[go_sem,reduceIte,Nat.reduceEqDiff,Nat.reduceAdd,bx,List.map,go_sem,reduceIte,Nat.reduceEqDiff,Nat.reduceAdd,bx,ax,if_true,if_false,Nat.reduceMul,Nat.reduceLeDiff,f];first|exact au.refl _|assumption|(repeat (first|exact au.nil|refine au.cons (by first|exact ay.refl _|assumption|exact ay.cap|exact ay.any _) ?_))))
   |(refine an.cd ?_ ?_ c1 ?_;(· simp only[go_sem,reduceIte,Nat.reduceEqDiff,Nat.reduceAdd,bx]);(· simp only[go_sem,reduceIte,Nat.reduceEqDiff,Nat.reduceAdd,bx,List.map,go_sem,reduceIte,Nat.reduceEqDiff,Nat.reduceAdd,bx,ax,if_true,if_false,Nat.reduceMul,Nat.reduceLeDiff,f];first|exact au.refl _|assumption|(repeat (first|exact au.nil|refine au.cons (by first|exact ay.refl _|assumption|exact ay.cap|exact ay.any _) ?_)))));apply an.evF));(· simp only[go_sem,reduceIte,Nat.reduceEqDiff,Nat.reduceAdd,bx,ax,if_true,if_false,Nat.reduceMul,Nat.reduceLeDiff,f];exact rfl))
  |(apply Wp.bu;(· simp only[go_sem,reduceIte,Nat.reduceEqDiff,Nat.reduceAdd,bx,ax,if_true,if_false,Nat.reduceMul,Nat.reduceLeDiff,f];exact rfl);(· rfl))
  |refine Wp.skip ?_
  |refine Wp.label ?_
  |refine Wp.block ?_
  |refine Wp.exit ?_
  |refine Wp.seq ?_
  |exact y.1)):X:=h f c0 c1 ⟨y⟩
theorem rg1 {F C0 X Y:Prop} (f:F) (c0:C0) (y:Y) (h:F→C0→Hid Y→X:=by
 intro f c0 y
 repeat (first
  |refine an.nil ?_
  |((first|apply Wp.aR|apply Wp.cB|((first
   |(refine an.cd ?_ ?_ c0 ?_;(· simp only[go_sem,reduceIte,Nat.reduceEqDiff,Nat.reduceAdd,bx]);(· simp only[go_sem,reduceIte,Nat.reduceEqDiff,Nat.reduceAdd,bx,List.map,go_sem,reduceIte,Nat.reduceEqDiff,Nat.reduceAdd,bx,ax,if_true,if_false,Nat.reduceMul,Nat.reduceLeDiff,f];first|exact au.refl _|assumption|(repeat (first|exact au.nil|refine au.cons (by first|exact ay.refl _|assumption|exact ay.cap|exact ay.any _) ?_))))
   |(refine an.cx ?_ ?_ (by constructor<;>first|exact Nat.le_refl _|assumption) c0 ?_;(· simp only[go_sem,reduceIte,Nat.reduceEqDiff,Nat.reduceAdd,bx]);(· simp only[go_sem,reduceIte,Nat.reduceEqDiff,Nat.reduceAdd,bx,List.map,go_sem,reduceIte,Nat.reduceEqDiff,Nat.reduceAdd,bx,ax,if_true,if_false,Nat.reduceMul,Nat.reduceLeDiff,f];first|exact au.refl _|assumption|(repeat (first|exact au.nil|refine au.cons (by first|exact ay.refl _|assumption|exact ay.cap|exact ay.any _) ?_)))));apply an.evF));(· simp only[go_sem,reduceIte,Nat.reduceEqDiff,Nat.reduceAdd,bx,ax,if_true,if_false,Nat.reduceMul,Nat.reduceLeDiff,f];exact rfl))
  |(apply Wp.bu;(· simp only[go_sem,reduceIte,Nat.reduceEqDiff,Nat.reduceAdd,bx,ax,if_true,if_false,Nat.reduceMul,Nat.reduceLeDiff,f];exact rfl);(· rfl))
  |refine Wp.skip ?_
  |refine Wp.label ?_
  |refine Wp.block ?_
  |refine Wp.exit ?_
  |refine Wp.seq ?_
  |exact y.1)):X:=h f c0 ⟨y⟩
theorem Hj {C0 X Y:Prop} (c0:C0) (y:Y) (h:C0→Hid Y→X:=by
 intro c0 y
 repeat (first
  |refine an.nil ?_
  |((first|apply Wp.aR|apply Wp.cB|((first
   |(refine an.cd ?_ ?_ c0 ?_;(· simp only[go_sem,reduceIte,Nat.reduceEqDiff,Nat.reduceAdd,bx]);(· simp only[go_sem,reduceIte,Nat.reduceEqDiff,Nat.reduceAdd,bx,List.map,go_sem,reduceIte,Nat.reduceEqDiff,Nat.reduceAdd,bx,ax,if_true,if_false,Nat.reduceMul,Nat.reduceLeDiff];first|exact au.refl _|assumption|(repeat (first|exact au.nil|refine au.cons (by first|exact ay.refl _|assumption|exact ay.cap|exact ay.any _) ?_))))
   |(refine an.cx ?_ ?_ (by constructor<;>first|exact Nat.le_refl _|assumption) c0 ?_;(· simp only[go_sem,reduceIte,Nat.reduceEqDiff,Nat.reduceAdd,bx]);(· simp only[go_sem,reduceIte,Nat.reduceEqDiff,Nat.reduceAdd,bx,List.map,go_sem,reduceIte,Nat.reduceEqDiff,Nat.reduceAdd,bx,ax,if_true,if_false,Nat.reduceMul,Nat.reduceLeDiff];first|exact au.refl _|assumption|(repeat (first|exact au.nil|refine au.cons (by first|exact ay.refl _|assumption|exact ay.cap|exact ay.any _) ?_)))));apply an.evF));(· simp only[go_sem,reduceIte,Nat.reduceEqDiff,Nat.reduceAdd,bx,ax,if_true,if_false,Nat.reduceMul,Nat.reduceLeDiff];exact rfl))
  |(apply Wp.bu;(· simp only[go_sem,reduceIte,Nat.reduceEqDiff,Nat.reduceAdd,bx,ax,if_true,if_false,Nat.reduceMul,Nat.reduceLeDiff];exact rfl);(· rfl))
  |refine Wp.skip ?_
  |refine Wp.label ?_
  |refine Wp.block ?_
  |refine Wp.exit ?_
  |refine Wp.seq ?_
  |exact y.1)):X:=h c0 ⟨y⟩
theorem rg2 {F C0 C1 X Y:Prop} (f:F) (c0:C0) (c1:C1) (y:Y) (h:F→C0→C1→Hid Y→X:=by
 intro f c0 c1 y
 repeat (first
  |refine an.nil ?_
  |((first|apply Wp.aR|apply Wp.cB|((first
   |(refine an.cd ?_ ?_ c0 ?_;(· simp only[go_sem,reduceIte,Nat.reduceEqDiff,Nat.reduceAdd,bx]);(· simp only[go_sem,reduceIte,Nat.reduceEqDiff,Nat.reduceAdd,bx,List.map,go_sem,reduceIte,Nat.reduceEqDiff,Nat.reduceAdd,bx,ax,if_true,if_false,Nat.reduceMul,Nat.reduceLeDiff,f];first|exact au.refl _|assumption|(repeat (first|exact au.nil|refine au.cons (by first|exact ay.refl _|assumption|exact ay.cap|exact ay.any _) ?_))))
   |(refine an.cx ?_ ?_ (by constructor<;>first|exact Nat.le_refl _|assumption) c0 ?_;(· simp only[go_sem,reduceIte,Nat.reduceEqDiff,Nat.reduceAdd,bx]);(· simp only[go_sem,reduceIte,Nat.reduceEqDiff,Nat.reduceAdd,bx,List.map,go_sem,reduceIte,Nat.reduceEqDiff,Nat.reduceAdd,bx,ax,if_true,if_false,Nat.reduceMul,Nat.reduceLeDiff,f];first|exact au.refl _|assumption|(repeat (first|exact au.nil|refine au.cons (by first|exact ay.refl _|assumption|exact ay.cap|exact ay.any _) ?_))))
   |(refine an.cd ?_ ?_ c1 ?_;(· simp only[go_sem,reduceIte,Nat.reduceEqDiff,Nat.reduceAdd,bx]);(· simp only[go_sem,reduceIte,Nat.reduceEqDiff,Nat.reduceAdd,bx,List.map,go_sem,reduceIte,Nat.reduceEqDiff,Nat.reduceAdd,bx,ax,if_true,if_false,Nat.reduceMul,Nat.reduceLeDiff,f];first|exact au.refl _|assumption|(repeat (first|exact au.nil|refine au.cons (by first|exact ay.refl _|assumption|exact ay.cap|exact ay.any _) ?_))))
   |(refine an.cx ?_ ?_ (by constructor<;>first|exact Nat.le_refl _|assumption) c1 ?_;(· simp only[go_sem,reduceIte,Nat.reduceEqDiff,Nat.reduceAdd,bx]);(· simp only[go_sem,reduceIte,Nat.reduceEqDiff,Nat.reduceAdd,bx,List.map,go_sem,reduceIte,Nat.reduceEqDiff,Nat.reduceAdd,bx,ax,if_true,if_false,Nat.reduceMul,Nat.reduceLeDiff,f];first|exact au.refl _|assumption|(repeat (first|exact au.nil|refine au.cons (by first|exact ay.refl _|assumption|exact ay.cap|exact ay.any _) ?_)))));apply an.evF));(· simp only[go_sem,reduceIte,Nat.reduceEqDiff,Nat.reduceAdd,bx,ax,if_true,if_false,Nat.reduceMul,Nat.reduceLeDiff,f];exact rfl))
  |(apply Wp.bu;(· simp only[go_sem,reduceIte,Nat.reduceEqDiff,Nat.reduceAdd,bx,ax,if_true,if_false,Nat.reduceMul,Nat.reduceLeDiff,f];exact rfl);(· rfl))
  |refine Wp.skip ?_
  |refine Wp.label ?_
  |refine Wp.block ?_
  |refine Wp.exit ?_
  |refine Wp.seq ?_
  |exact y.1)):X:=h f c0 c1 ⟨y⟩
theorem rg3 {F C0 C1 C2 X Y:Prop} (f:F) (c0:C0) (c1:C1) (c2:C2) (y:Y) (h:F→C0→C1→C2→Hid Y→X:=by
 intro f c0 c1 c2 y
 repeat (first
  |refine an.nil ?_
  |((first|apply Wp.aR|apply Wp.cB|((first
   |(refine an.cd ?_ ?_ c0 ?_;(· simp only[go_sem,reduceIte,Nat.reduceEqDiff,Nat.reduceAdd,bx]);(· simp only[go_sem,reduceIte,Nat.reduceEqDiff,Nat.reduceAdd,bx,List.map,go_sem,reduceIte,Nat.reduceEqDiff,Nat.reduceAdd,bx,ax,if_true,if_false,Nat.reduceMul,Nat.reduceLeDiff,f];first|exact au.refl _|assumption|(repeat (first|exact au.nil|refine au.cons (by first|exact ay.refl _|assumption|exact ay.cap|exact ay.any _) ?_))))
   |(refine an.cx ?_ ?_ (by constructor<;>first|exact Nat.le_refl _|assumption) c0 ?_;(· simp only[go_sem,reduceIte,Nat.reduceEqDiff,Nat.reduceAdd,bx]);(· simp only[go_sem,reduceIte,Nat.reduceEqDiff,Nat.reduceAdd,bx,List.map,go_sem,reduceIte,Nat.reduceEqDiff,Nat.reduceAdd,bx,ax,if_true,if_false,Nat.reduceMul,Nat.reduceLeDiff,f];first|exact au.refl _|assumption|(repeat (first|exact au.nil|refine au.cons (by first|exact ay.refl _|assumption|exact ay.cap|exact ay.any _) ?_))))
   |(refine an.cd ?_ ?_ c1 ?_;(· simp only[go_sem,reduceIte,Nat.reduceEqDiff,Nat.reduceAdd,bx]);(· simp only[go_sem,reduceIte,Nat.reduceEqDiff,Nat.reduceAdd,bx,List.map,go_sem,reduceIte,Nat.reduceEqDiff,Nat.reduceAdd,bx,ax,if_true,if_false,Nat.reduceMul,Nat.reduceLeDiff,f];first|exact au.refl _|assumption|(repeat (first|exact au.nil|refine au.cons (by first|exact ay.refl _|assumption|exact ay.cap|exact ay.any _) ?_))))
   |(refine an.cx ?_ ?_ (by constructor<;>first|exact Nat.le_refl _|assumption) c1 ?_;(· simp only[go_sem,reduceIte,Nat.reduceEqDiff,Nat.reduceAdd,bx]);(· simp only[go_sem,reduceIte,Nat.reduceEqDiff,Nat.reduceAdd,bx,List.map,go_sem,reduceIte,Nat.reduceEqDiff,Nat.reduceAdd,bx,ax,if_true,if_false,Nat.reduceMul,Nat.reduceLeDiff,f];first|exact au.refl _|assumption|(repeat (first|exact au.nil|refine au.cons (by first|exact ay.refl _|assumption|exact ay.cap|exact ay.any _) ?_))))
   |(refine an.cd ?_ ?_ c2 ?_;(· simp only[go_sem,reduceIte,Nat.reduceEqDiff,Nat.reduceAdd,bx]);(· simp only[go_sem,reduceIte,Nat.reduceEqDiff,Nat.reduceAdd,bx,List.map,go_sem,reduceIte,Nat.reduceEqDiff,Nat.reduceAdd,bx,ax,if_true,if_false,Nat.reduceMul,Nat.reduceLeDiff,f];first|exact au.refl _|assumption|(repeat (first|exact au.nil|refine au.cons (by first|exact ay.refl _|assumption|exact ay.cap|exact ay.any _) ?_))))
   |(refine an.cx ?_ ?_ (by constructor<;>first|exact Nat.le_refl _|assumption) c2 ?_;(· simp only[go_sem,reduceIte,Nat.reduceEqDiff,Nat.reduceAdd,bx]);(· simp only[go_sem,reduceIte,Nat.reduceEqDiff,Nat.reduceAdd,bx,List.map,go_sem,reduceIte,Nat.reduceEqDiff,Nat.reduceAdd,bx,ax,if_true,if_false,Nat.reduceMul,Nat.reduceLeDiff,f];first|exact au.refl _|assumption|(repeat (first|exact au.nil|refine au.cons (by first|exact ay.refl _|assumption|exact ay.cap|exact ay.any _) ?_)))));apply an.evF));(· simp only[go_sem,reduceIte,Nat.reduceEqDiff,Nat.reduceAdd,bx,ax,if_true,if_false,Nat.reduceMul,Nat.reduceLeDiff,f];exact rfl))
  |(apply Wp.bu;(· simp only[go_sem,reduceIte,Nat.reduceEqDiff,Nat.reduceAdd,bx,ax,if_true,if_false,Nat.reduceMul,Nat.reduceLeDiff,f];exact rfl);(· rfl))
  |refine Wp.skip ?_
  |refine Wp.label ?_
  |refine Wp.block ?_
  |refine Wp.exit ?_
  |refine Wp.seq ?_
  |exact y.1)):X:=h f c0 c1 c2 ⟨y⟩
section
variable {P:Program} {N:Nat} {ops:Array Oper}
def BM (P:Program) (ops:Array Oper) (i:Nat) (o:Oper) (t:Tm) (h:H) (v:Value) (h':H):Prop:=
 (h.n≤h'.n∧h.m≤h'.m)∧∀G w a,cK G w t a→aX G h w→cU G h h'→∀(K:Act→World→Prop) Q,
  (∀G' w',Trans G w h G' w' h'→aX G' h' w'→Q (.panic [{v:=v,recovered:=false}]) a w')→∀ro,wpOpIn (rd ro) 0 P ops Q i K a w
theorem BM.full {i:Nat} {o:Oper} {t:Tm} {h h':H} {v:Value} (hn:h.n≤h'.n∧h.m≤h'.m) (run:ke P ops i o t h v h'):BM P ops i o t h v h':=
 ⟨hn,fun G w a ht R U K Q hK ro=>run G w a (fun k _=>ht k) R U K Q hK ro⟩
inductive lV (P:Program) (ops:Array Oper):Nat→Tm→H→Value→H→Prop where
 |here {i:Nat} {o:Oper} {t:Tm} {h h':H} {v:Value} (ho:ops[i]? =some o) (run:BM P ops i o t h v h'):lV P ops i t h v h'
 |cons {i:Nat} {o:Oper} {t:Tm} {h h2 h':H} {x:AV} {v:Value} (ho:ops[i]? =some o) (run:mO P ops i o t h x h2) (rest:lV P ops (i+1) (bY t o.dst x) h2 v h'):lV P ops i t h v h'
theorem lV.nm {i:Nat} {t:Tm} {h h':H} {v:Value} (c:lV P ops i t h v h'):h.n≤h'.n∧h.m≤h'.m:=by
 induction c with
 |here ho run=>exact run.1
 |cons ho run rest ih=>have:=run.1;omega
theorem wj (ro:Option Nat) {Q:Exit→Act→World→Prop} (hN:∀(i:Nat) o d,ops[i]? =some o→o.dst=some d→d<N):∀{i:Nat} {t:Tm} {h h':H} {v:Value},lV P ops i t h v h'→
  ∀(G:aL) (w:World) (a:Act),a.tmps.size=N→cK G w t a→aX G h w→cU G h h'→
   (∀G' w' a',Trans G w h G' w' h'→aX G' h' w'→a'.tmps.size=N→a'.defers=a.defers→Q (.panic [{v:=v,recovered:=false}]) a' w')→wpOpsIn (rd ro) 0 P ops Q (List.range' i (ops.size - i)) a w:=by
 intro i t h h' v hc
 induction hc with
 | @here i o t h h' v ho run=>
  intro G w a hs ht R U hq
  have hi:i<ops.size:=(Array.getElem?_eq_some_iff.1 ho).1
  have:ops.size - i=(ops.size - (i+1))+1:=by omega
  rw[this,List.range'_succ,wpOpsIn_cons]
  exact run.2 G w a ht R U _ Q (fun G' w' T R'=>hq G' w' a T R' hs rfl) ro
 | @cons i o t h h2 h' x v ho run rest ih=>
  intro G w a hs ht R U hq
  have hi:i<ops.size:=(Array.getElem?_eq_some_iff.1 ho).1
  have:ops.size - i=(ops.size - (i+1))+1:=by omega
  rw[this,List.range'_succ,wpOpsIn_cons]
  have nm:=rest.nm
  have nm2:=run.1
  refine run.2 G w a ht R (U.sub (Nat.le_refl _) nm.1 (Nat.le_refl _) nm.2) _ Q (fun G' w' y T2 R2 V=>?_) ro
  refine ih G' w' _ (by rw[gM];exact hs) (mB (ht.mono R T2) V fun k hk=>by rw[hs];exact hN i o k ho hk) R2 (U.step T2) fun G'' w'' a'' T3 h2 h3 h4=>?_
  exact hq G'' w'' a'' (T2.trans R R2 T3) h2 h3 (h4.trans (put_defers _ _ _))
def dw (P:Program) (N:Nat) (items:List aO) (t:Tm) (h:H) (v:Value) (h':H):Prop:=
 ∀ops i,i≤ops.size→dv P N ops (ops.toList.drop i)=some items→lV P ops i t h v h'
theorem dw.step {it:aO} {its:List aO} {t:Tm} {h h2 h':H} {x:AV} {v:Value}
  (run:∀(ops:Array Oper) i o,ops[i]? =some o→bO P N ops o=some it→mO P ops i o t h x h2) (rest:dw P N its (bY t it.dst x) h2 v h'):dw P N (it::its) t h v h':=by
 intro ops i hi hc
 obtain ⟨o,ho,hit,hi',hc'⟩:=cE hi hc
 have ch:=rest ops (i+1) hi' hc'
 exact .cons ho (run ops i o ho hit) (by rw[←rA hit];exact ch)
theorem dw.here {it:aO} {its:List aO} {t:Tm} {h h':H} {v:Value}
  (run:∀(ops:Array Oper) i o,ops[i]? =some o→bO P N ops o=some it→BM P ops i o t h v h'):dw P N (it::its) t h v h':=by
 intro ops i hi hc
 obtain ⟨o,ho,hit,hi',hc'⟩:=cE hi hc
 exact .here ho (run ops i o ho hit)
theorem Wp.Hk {items:List aO} {s:St} {Q:aQ→St→Prop} {v:Value} {h':H} (h:dw P N items s.t s.h v h') (hq:Q (.panic v) ⟨fun _=> .any,h'⟩):Wp P N (.reg items none) s Q:=by
 intro code hc
 obtain ⟨id,ops,draw,rfl,hi,hd⟩:=ko hc
 have ch:=h ops 0 (Nat.zero_le _) (by simpa using hi)
 have nm:=ch.nm
 obtain ⟨cl,ci⟩:=fT hi
 have hN:∀(i:Nat) o d,ops[i]? =some o→o.dst=some d→d<N:=by
  intro i o d ho hdd
  have hlt:i<ops.size:=(Array.getElem?_eq_some_iff.1 ho).1
  have hit:i<items.length:=by rw[cl];simpa using hlt
  have:=ci i o items[i] (by simpa using ho) (List.getElem?_eq_getElem hit)
  generalize items[i]=it at this
  unfold bO at this
  split at this
  ·split at this<;>cases this
   rename_i hcond
   simp only[Bool.and_eq_true] at hcond
   have:=hcond.1
   rw[hdd] at this
   simpa using this
  ·cases this
 refine ⟨.panic v,⟨fun _=> .any,h'⟩,⟨nm,fun ro okc G w a r F=>?_⟩,hq⟩
 rcases hd with ⟨rfl,-⟩|⟨-,-,-,hn⟩
 ·refine wpIn_region ?_
  rw[List.range_eq_range']
  have:=wj ro (Q:=fun e' a' w'=>(aQ.panic v).fa e'∧lf w a.defers a'.defers∧∃G',Trans G w s.h G' w' h'∧Rel N ⟨fun _=> .any,h'⟩ G' w' a') hN ch G w a r.size r.t r.h F
   (fun G' w' a' T1 R1 s1 d1=>⟨rfl,by rw[d1];exact .refl,G',T1,⟨s1,fun _=>by simp[aw],R1,by rw[d1];exact r.df.mono T1⟩⟩)
  simpa using this
 ·cases hn
end
section
variable {P:Program} {T:FT}
end
section
variable {P:Program} {N:Nat}
theorem aZ.eval {p:Option (List (Nat × Nat))}:∀{items its:List aO} {t t':Tm} {h h':H} {log log':List Ent} {R:Value→H→Prop},cQ items t h log=(its,t',h',log')→aZ P N p its t' h' log' R→aZ P N p items t h log R
 |[],its,t,t',h,h',log,log',R,he,hw=>by simp only[cQ,Prod.mk.injEq] at he;obtain ⟨rfl,rfl,rfl,rfl⟩:=he;exact hw
 |it::items,its,t,t',h,h',log,log',R,he,hw=>by
  simp only[cQ] at he
  split at he
  ·rename_i hg
   split at he
   ·rename_i x h2 en hx
    have rest:=aZ.eval he hw
    intro ops i hi hl hc
    obtain ⟨o,ho,hit,hi',hc'⟩:=cE hi hc
    obtain ⟨h1,h1',tc,run⟩:=gg ho hit hg hx
    obtain ⟨D,recs,t',hh',j,rj,oj,itj,v,A,hR⟩:=rest ops (i+1) hi' (by simp[hl]) hc'
    have hdst:it.dst=o.dst:=by
     unfold bO at hit
     split at hit
     ·split at hit<;>cases hit;rfl
     ·cases hit
    have hij:=A.ij
    refine ⟨D,⟨t,h,h1,h1',h2,x,en⟩::recs,t',hh',j,rj,oj,itj,v,⟨.cons ho rfl rfl tc (fun _=>run) (by rw[←hdst];exact A.ch),?_,ab,A.hoj,A.it,A.tj,A.run,A.Dj,A.Dk,?_,?_⟩,hR⟩
    ·have e:=A.hrj
     rw[show j - i=(j - (i+1))+1 by omega]
     simpa using e
    ·intro k r it' hr hit' ht
     cases k with
     |zero=>
      simp at hr hit';subst hr hit'
      rcases sw ht hx with h|⟨n,y,h⟩
      ·exact h
      ·rw[h] at ht;simp[bT] at ht
     |succ k=>simp at hr hit';exact A.e0 k r it' hr hit' ht
    ·intro l hl'
     have:=A.aN l hl'
     simpa using this
   ·simp only[Prod.mk.injEq] at he;obtain ⟨rfl,rfl,rfl,rfl⟩:=he;exact hw
  ·rename_i hg
   exact aZ.step (bF h) (fun ops i o ho hit=>fR ho hit hg) (fun _=>rfl) (aZ.eval he hw)
  ·simp only[Prod.mk.injEq] at he;obtain ⟨rfl,rfl,rfl,rfl⟩:=he;exact hw
theorem dw.eval:∀{items its:List aO} {t t':Tm} {h h2 h':H} {log log':List Ent} {v:Value},cQ items t h log=(its,t',h2,log')→dw P N its t' h2 v h'→dw P N items t h v h'
 |[],its,t,t',h,h2,h',log,log',v,he,hw=>by simp only[cQ,Prod.mk.injEq] at he;obtain ⟨rfl,rfl,rfl,rfl⟩:=he;exact hw
 |it::items,its,t,t',h,h2,h',log,log',v,he,hw=>by
  simp only[cQ] at he
  split at he
  ·rename_i hg
   split at he
   ·rename_i x h3 en hx
    have rest:=dw.eval he hw
    refine dw.step (fun ops i o ho hit=>?_) rest
    obtain ⟨h1,h1',tc,run⟩:=gg ho hit hg hx
    exact pR.sJ (N:=N) (full:=false) (.inl tc) run
   ·simp only[Prod.mk.injEq] at he;obtain ⟨rfl,rfl,rfl,rfl⟩:=he;exact hw
  ·rename_i hg
   exact dw.step (fun ops i o ho hit=>pR.sJ (N:=N) (full:=false) (.inl (bF h)) (fR ho hit hg)) (dw.eval he hw)
  ·simp only[Prod.mk.injEq] at he;obtain ⟨rfl,rfl,rfl,rfl⟩:=he;exact hw
theorem Wp.dQ {items its:List aO} {s:St} {Q:aQ→St→Prop} {t':Tm} {h2 h':H} {log:List Ent} {dst:Option Nat} {f:FuncId} {l:List Opd} {vals:List AV} {v:Value}
  (he:jc items s.t s.h []=some (⟨dst,none,.call f l⟩::its,t',h2,log)) (hs:au (l.map (ev t')) vals) (hn:h2.n≤h'.n∧h2.m≤h'.m) (hc:cV P f vals h2 v h') (hq:Q (.panic v) ⟨fun _=> .any,h'⟩):Wp P N (.reg items none) s Q:=
 Wp.Hk (dw.eval (dg he) (dw.here fun ops i o ho hit=>BM.full hn (iD ho hit rfl rfl hs hc))) hq
theorem Wp.uv {items its:List aO} {y:AC} {s:St} {Q:aQ→St→Prop} {t':Tm} {h2 h':H} {log:List Ent} {dst:Option Nat} {f:FuncId} {l:List Opd} {vals:List AV} {v:Value}
  (he:jc items s.t s.h []=some (⟨dst,none,.call f l⟩::its,t',h2,log)) (hs:au (l.map (ev t')) vals) (hn:h2.n≤h'.n∧h2.m≤h'.m) (hc:cV P f vals h2 v h') (hq:Q (.panic v) ⟨fun _=> .any,h'⟩):Wp P N (.seq (.reg items none) y) s Q:=
 Wp.seq (Wp.dQ he hs hn hc (by simpa [aQ.andThen] using hq))
theorem Wp.nmQ {c:AC} {s:St} {Q:aQ→St→Prop} (h:Wp P N c s Q):Wp P N c s (fun e s'=>(s.h.n≤s'.h.n∧s.h.m≤s'.h.m)∧Q e s'):=
 fun code hc=>let ⟨e,s',r,q⟩:=h code hc;⟨e,s',r,r.1,q⟩
theorem aW.mP {f:FuncId} {ac:AC} {args:List AV} {h:H} {ds:List RV} {Q:Value→H→Prop} (hF:aW P f N ac ds) (hl:args.length≤N) (hw:Wp P N ac ⟨fB args,h⟩ fun e s'=>∃v,e= .panic v∧Q v s'.h):∃v h',cV P f args h v h'∧(h.n≤h'.n∧h.m≤h'.m)∧Q v h':=
 hF.FZ (Q:=fun v h'=>(h.n≤h'.n∧h.m≤h'.m)∧Q v h') hl (hw.nmQ.mono fun e s' ⟨a,v,b,c⟩=>⟨v,b,a,c⟩)
end
section
variable {P:Program} {N:Nat} {o:Oper} {t:Tm} {h:H} {G:aL} {w:World}
theorem an.op1 {it:aO} {its:List aO} {t:Tm} {h h':H} {en:Ent} {K:Tm→H→Prop} {x:AV} (hg:guardOf t it.guard=some true) (hx:aop (ev t) h it.op=some (x,h',en))
  (rest:an P N its (bY t it.dst x) h' K):an P N (it::its) t h K:=
 an.step (it:=it) (fun ops i o ho hit=>by
  obtain ⟨h1,h1',tc,run⟩:=gg ho hit hg hx
  exact pR.sJ (N:=N) (full:=false) (.inl tc) run) rest
variable {dst:Option Nat} {g:Option (Nat × Bool)} {its:List aO} {K:Tm→H→Prop} {y x:Opd} {l:List UInt8} {id off:Nat}
end
section
variable {P:Program} {N:Nat}
theorem an.opT {dst:Option Nat} {g:Option (Nat × Bool)} {op:AOp} {its:List aO} {t:Tm} {h h':H} {en:Ent} {K:Tm→H→Prop} {x:AV} (hg:guardOf t g=some true) (hx:gC (ev t) h op=some (x,h',en))
  (rest:an P N its (bY t dst x) h' K):an P N (⟨dst,g,op⟩::its) t h K:=
 an.step (it:=⟨dst,g,op⟩) (fun ops i o ho hit=>by
  obtain ⟨h1,h1',tc,run⟩:=nM ho hit hg hx
  exact pR.sJ (N:=N) (full:=false) (.inl tc) run) rest
end
section
variable {P:Program} {N:Nat}
theorem mQ (h:H) {id:Nat} {ob ob':Obj} {m':Nat} (ho:h.objs id=some ob) (hm:h.m≤m'):Touch h (.only (upd aB id (some ob)) [] h.n h.m) (.only (upd aB id (some ob')) [] h.n m') {h with objs:=upd h.objs id (some ob'),m:=m'} ⟨[],[id],[]⟩ where
 sub:=(eG h ho).sub
 n:=rfl
 m:=rfl
 eq:=H.ext (fun j=>by
  simp only[H.patch,H.only,upd,aB]
  by_cases e:j=id
  ·subst e;simp
  ·simp[e];omega) rfl (by simp[H.patch,H.only,eM]) rfl
 rd j x:=by
  simp only[H.only,upd,aB] at x
  split at x
  ·rename_i e;subst e;simp
  ·cases x
 wr id a b:=by simp only[H.only] at a b;omega
 chg j x hj:=by
  simp only[H.only,upd,aB] at x
  split at x
  ·rename_i e;subst e;simp at hj
  ·cases x
 tk t x:=by simp[H.only] at x
 tn t x:=by simp[H.only] at x
 le:=Nat.le_refl _
 lem:=hm
def sL (P:Program) (f:FuncId) (args:List AV) (id:Nat) (ob:Obj) (r:AV) (ob':Obj):Prop:=
 ∀n m,∃m',m≤m'∧aI P f args (.only (upd aB id (some ob)) [] n m) r (.only (upd aB id (some ob')) [] n m')
theorem ao.uw {dst:Option Nat} {g:Option (Nat × Bool)} {f:FuncId} {l:List Opd} {its:List aO} {t:Tm} {h:H} {log:List Ent} {K:Tm→H→List Ent→Prop} {vals:List AV} {r:AV} {id:Nat} {ob ob':Obj} (hg:guardOf t g=some true) (hs:au (l.map (ev t)) vals)
  (ho:h.objs id=some ob) (hc:sL P f vals id ob r ob') (rest:∀m',h.m≤m'→ao P N its (bY t dst r) {h with objs:=upd h.objs id (some ob'),m:=m'} (⟨[],[id],[]⟩::log) K):ao P N (⟨dst,g,.call f l⟩::its) t h log K:=by
 obtain ⟨m',hm,hc⟩:=hc h.n h.m
 exact ao.cx hg hs hc (mQ h ho hm) (rest m' hm)
theorem an.uw {dst:Option Nat} {g:Option (Nat × Bool)} {f:FuncId} {l:List Opd} {its:List aO} {t:Tm} {h:H} {K:Tm→H→Prop} {vals:List AV} {r:AV} {id:Nat} {ob ob':Obj} (hg:guardOf t g=some true) (hs:au (l.map (ev t)) vals)
  (ho:h.objs id=some ob) (hc:sL P f vals id ob r ob') (rest:∀m',h.m≤m'→an P N its (bY t dst r) {h with objs:=upd h.objs id (some ob'),m:=m'} K):an P N (⟨dst,g,.call f l⟩::its) t h K:=by
 obtain ⟨m',hm,hc⟩:=hc h.n h.m
 exact an.step (fun ops i o ho' hit=>pR.sJ (N:=N) (full:=false) (.inl (mQ h ho hm)) (fS ho' hit hg rfl hs hc)) (rest m' hm)
def GB (l:List (Nat × Nat)) (j:Nat) (log:List Ent):Bool:=l.all fun (a,b)=>(!Nat.beq a j||(Nat.blt a b&&(log.getD b aT).tk.isEmpty))&&(!Nat.beq b j||kr (log.getD a aT))
theorem DM {l:List (Nat × Nat)} {j:Nat} {log:List Ent} {h':H} (h1:GB l j log=true) (h2:∀e∈log.drop (j+1),∀id∈e.wr,h'.objs id=none):Bw l j log h':=by
 intro a b hab
 unfold GB at h1
 rw[List.all_eq_true] at h1
 have:=h1 _ hab
 simp only[Bool.and_eq_true,Bool.or_eq_true,Bool.not_eq_true',kr,List.isEmpty_iff] at this
 refine ⟨fun e=>?_,fun e=>?_⟩
 ·subst e
  obtain ⟨q1,q2⟩:=this.1.resolve_left af
  have hlt:a<b:=by rw[Nat.blt_eq] at q1;exact q1
  refine ⟨q2,fun id hid=>?_⟩
  by_cases hb:b<log.length
  ·have e1:log.getD b aT=log[b]:=by simp[List.getD,List.getElem?_eq_getElem hb]
   rw[e1] at hid
   refine h2 _ (List.mem_drop_iff_getElem.2 ⟨b - (a+1),ab,?_⟩) id hid
   congr 1;omega
  ·have e1:log.getD b aT=aT:=by simp[List.getD,List.getElem?_eq_none (by omega:log.length≤b)]
   rw[e1] at hid;cases hid
 ·subst e
  obtain ⟨q1,q2⟩:=this.2.resolve_left af
  exact ⟨q2,q1⟩
end
section
variable {P:Program} {N:Nat}
theorem mR {h h':H} {b:Nat} (hb:∀j,(h.objs j).isSome=true→j<h.n) (hn:h.n≤h'.n) (hm:h.m≤h'.m) (no:aq h h') (hB:b<h.n) (sm:h'.objs b=h.objs b):Touch h h h' h' ⟨[b],(List.range h'.n).filter (fun j=> !(j == b)),h.toks++h'.toks⟩ where
 sub:=(ft hb hn hm no).sub
 n:=rfl
 m:=rfl
 eq:=(ft hb hn hm no).eq
 rd j hj:=by
  by_cases e:j=b
  ·left;simp[e]
  ·right
   exact List.mem_filter.2 ⟨List.mem_range.2 (Nat.lt_of_lt_of_le (hb j hj) hn),by simpa using e⟩
 wr j a c:=List.mem_filter.2 ⟨List.mem_range.2 c,by
  have:j≠b:=by omega
  simpa using this⟩
 chg j hj hw:=by
  by_cases e:j=b
  ·rw[e];exact sm
  ·exact absurd (List.mem_filter.2 ⟨List.mem_range.2 (Nat.lt_of_lt_of_le (hb j hj) hn),by simpa using e⟩) hw
 tk t ht:=List.mem_append.2 (.inl ht)
 tn t ht:=List.mem_append.2 (.inr ht)
 le:=hn
 lem:=hm
theorem ao.Fc {dst:Option Nat} {g:Option (Nat × Bool)} {f:FuncId} {l:List Opd} {its:List aO} {t:Tm} {h:H} {log:List Ent} {K:Tm→H→List Ent→Prop} {vals:List AV} {Q:AV→H→Prop} {b:Nat}
  (hg:guardOf t g=some true) (hs:au (l.map (ev t)) vals) (hb:∀j,(h.objs j).isSome=true→j<h.n) (hB:b<h.n) (hc:aM P f vals h Q) (no:∀r h',Q r h'→aq h h'∧h'.objs b=h.objs b)
  (rest:∀r h',Q r h'→h.n≤h'.n→h.m≤h'.m→ao P N its (bY t dst r) h' (⟨[b],(List.range h'.n).filter (fun j=> !(j == b)),h.toks++h'.toks⟩::log) K):ao P N (⟨dst,g,.call f l⟩::its) t h log K:=by
 obtain ⟨r,h',hc,hn,hm,hq⟩:=hc
 exact ao.cx hg hs hc (mR hb hn hm (no r h' hq).1 hB (no r h' hq).2) (rest r h' hq hn hm)
theorem aZ.Dz {l:List (Nat × Nat)} {dst:Option Nat} {f:FuncId} {aa:List Opd} {its:List aO} {t:Tm} {h h':H} {log ents:List Ent} {R:Value→H→Prop} {vals:List AV} {v:Value} (hs:au (aa.map (ev t)) vals) (hb:∀j,(h.objs j).isSome=true→j<h.n) (hn:h.n≤h'.n∧h.m≤h'.m) (hc:cV P f vals h v h') (no:aq h h')
  (hr:jV l log.length its (log.length+1) dst.toList (bY t dst .any) h'=some ents) (hp:aV l (log.reverse++⟨[],List.range h'.n,h.toks++h'.toks⟩::ents)) (hP:uj l log.length (log.reverse++⟨[],List.range h'.n,h.toks++h'.toks⟩::ents)=true) (hq:R v h'):aZ P N (some l) (⟨dst,none,.call f aa⟩::its) t h log R:=
 aZ.here rfl (ft hb hn.1 hn.2 no) (fun ops i o ho hit=>iD ho hit rfl rfl hs hc) (fun l' hl=>by cases hl;exact ⟨ents,hr,hp,hP⟩) hq
end
section
variable {P:Program} {N:Nat}
theorem wk {f:FuncId} {fn:Func} {code:Code} {ac:AC} {args:List AV} {h:H} {ds:List RV} {Q:AV→H→Prop} (hf:P.funcs[f]? =some fn) (hb:fn.body=some code) (hc:cCode P fn.ntmps code=some ac) (hr:oz P fn.results.toList=some ds) (hl:args.length≤fn.ntmps)
  {e:aQ} {s':St} (run:Run P fn.ntmps code ⟨fB args,h⟩ e s') (hw:jb e∧∃r,cJ ds s'.t s'.h=some r∧Q r s'.h):∃r h',aI P f args h r h'∧Q r h':=by
 obtain ⟨he,r,hres,hq⟩:=hw
 refine ⟨r,s'.h,?_,hq⟩
 intro G w vs hv R F
 have hlen:=hv.length
 refine callsIn_wide.1 (callsIn_of_wp_marks (F:=rd none) (n:=0) hf hb trivial (wpIn_mono (run.2 none (.inl rfl) G w _ ⟨?_,mC hv,R,⟨by simp,by simp⟩⟩ F) ?_) rfl)
 ·simp;omega
 ·rintro e' a' w' ⟨h1,h2,G',T,r'⟩
  have key:LeavesInM (rd none) 0 P fn a'.tmps (fun e w'=>∃v G',e= .returned v∧Trans G w h G' w' s'.h∧aX G' s'.h w'∧aw G' w' r v) a'.defers .returning w':=by
   refine mD (fun D=>w.heap.size≤D∧¬s'.h.O G' D∧¬s'.h.T G' D) (fun w2=>Trans G w h G' w2 s'.h∧aX G' s'.h w2∧cK G' w2 s'.t a') ?_ ?_ _ _ r'.df.1 ?_ ⟨T,r'.h,r'.t⟩
   ·rintro w2 D ⟨d1,d2,d3⟩ ⟨T2,R2,t2⟩ hD
    have tu:=dI.results hD
    exact ⟨T2.dt tu d1,R2.dt tu d2,fun i=>aw.dt tu _ _ (t2 i)⟩
   ·rintro w2 ⟨T2,R2,t2⟩
    obtain ⟨v,q1,q2⟩:=oB (P:=P) hr t2 R2 hres
    exact ⟨v,q1,v,G',rfl,T2,R2,q2⟩
   ·intro d hd
    obtain ⟨D,e,k1,k2,k3⟩:=r'.df.2 d hd
    rcases h2 d hd with h|⟨D',k4,e'⟩
    ·simp at h
    ·rw[e] at e'
     simp only[Deferred.mk.injEq,Target.collected.injEq,and_true] at e'
     subst e'
     exact ⟨D,⟨k4,k2,k3⟩,e,k1⟩
  cases e<;>cases e'<;>simp only[aQ.fa,jb] at h1 he<;>exact key
theorem BN {f:FuncId} {fn:Func} {code:Code} {ac:AC} {args:List AV} {h:H} {Q:Value→H→Prop} (hf:P.funcs[f]? =some fn) (hb:fn.body=some code) (hc:cCode P fn.ntmps code=some ac) (hl:args.length≤fn.ntmps)
  {e:aQ} {s':St} (run:Run P fn.ntmps code ⟨fB args,h⟩ e s') (hw:∃v,e= .panic v∧Q v s'.h):∃v h',cV P f args h v h'∧Q v h':=by
 obtain ⟨v,rfl,hq⟩:=hw
 refine ⟨v,s'.h,?_,hq⟩
 intro G w vs hv R F
 have hlen:=hv.length
 refine callsIn_wide.1 (callsIn_of_wp_marks (F:=rd none) (n:=0) hf hb trivial (wpIn_mono (run.2 none (.inl rfl) G w _ ⟨?_,mC hv,R,⟨by simp,by simp⟩⟩ F) ?_) rfl)
 ·simp;omega
 ·rintro e' a' w' ⟨h1,h2,G',T,r'⟩
  have key:LeavesInM (rd none) 0 P fn a'.tmps (fun e w'=>∃G',e= .panicked [{v:=v,recovered:=false}]∧Trans G w h G' w' s'.h∧aX G' s'.h w') a'.defers (.panicking [{v:=v,recovered:=false}]) w':=by
   refine lr (fun D=>w.heap.size≤D∧¬s'.h.O G' D∧¬s'.h.T G' D) (fun w2=>Trans G w h G' w2 s'.h∧aX G' s'.h w2) ?_ ?_ _ _ r'.df.1 ?_ ⟨T,r'.h⟩
   ·rintro w2 D ⟨d1,d2,d3⟩ ⟨T2,R2⟩ hD
    have tu:=dI.results hD
    exact ⟨T2.dt tu d1,R2.dt tu d2⟩
   ·rintro w2 ⟨T2,R2⟩
    exact ⟨G',rfl,T2,R2⟩
   ·intro d hd
    obtain ⟨D,e,k1,k2,k3⟩:=r'.df.2 d hd
    rcases h2 d hd with h|⟨D',k4,e'⟩
    ·simp at h
    ·rw[e] at e'
     simp only[Deferred.mk.injEq,Target.collected.injEq,and_true] at e'
     subst e'
     exact ⟨D,⟨k4,k2,k3⟩,e,k1⟩
  cases e'<;>simp only[aQ.fa] at h1
  subst h1
  exact key
def cG (P:Program) (f:FuncId) (args:List AV) (h:H) (Q:AV→H→Prop) (E:Value→H→Prop):Prop:=aM P f args h Q∨∃v h',cV P f args h v h'∧(h.n≤h'.n∧h.m≤h'.m)∧E v h'
theorem cG.mono {f:FuncId} {args:List AV} {h:H} {Q Q':AV→H→Prop} {E E':Value→H→Prop} (hc:cG P f args h Q E) (hq:∀r h',Q r h'→Q' r h') (he:∀v h',E v h'→E' v h'):cG P f args h Q' E':=by
 rcases hc with c|⟨v,h',a,b,c⟩
 ·exact .inl (c.mono hq)
 ·exact .inr ⟨v,h',a,b,he _ _ c⟩
def Hl (ds:List RV) (Q:AV→H→Prop) (E:Value→H→Prop) (e:aQ) (s':St):Prop:=(jb e∧∃r,cJ ds s'.t s'.h=some r∧Q r s'.h)∨∃v,e= .panic v∧E v s'.h
theorem aW.gD {f:FuncId} {ac:AC} {args:List AV} {h:H} {ds:List RV} {Q:AV→H→Prop} {E:Value→H→Prop} (hF:aW P f N ac ds) (hl:args.length≤N) (hw:Wp P N ac ⟨fB args,h⟩ (Hl ds Q E)):cG P f args h Q E:=by
 obtain ⟨fn,h1,h2,h3,h4⟩:=hF
 subst h2
 obtain ⟨code,hb,hc⟩:=Option.bind_eq_some_iff.1 h3
 obtain ⟨e,s',run,q|q⟩:=hw code hc
 ·obtain ⟨a,r,b,c⟩:=q
  obtain ⟨r',h',d,e1⟩:=wk (Q:=fun q h'=>Q q h'∧h.n≤h'.n∧h.m≤h'.m) h1 hb hc h4 hl run ⟨a,r,b,c,run.1.1,run.1.2⟩
  exact .inl ⟨r',h',d,e1.2.1,e1.2.2,e1.1⟩
 ·obtain ⟨v,a,b⟩:=q
  obtain ⟨v',h',d,e1⟩:=BN (Q:=fun v h'=>E v h'∧h.n≤h'.n∧h.m≤h'.m) h1 hb hc hl run ⟨v,a,b,run.1.1,run.1.2⟩
  exact .inr ⟨v',h',d,e1.2,e1.1⟩
theorem aZ.GC {l:List (Nat × Nat)} {dst:Option Nat} {f:FuncId} {aa:List Opd} {its:List aO} {t:Tm} {h h':H} {log ents:List Ent} {R:Value→H→Prop} {vals:List AV} {v:Value} (hs:au (aa.map (ev t)) vals) (hb:∀j,(h.objs j).isSome=true→j<h.n) (hn:h.n≤h'.n∧h.m≤h'.m) (hc:cV P f vals h v h') (no:aq h h')
  (hr:mG l log.length its (log.length+1) dst.toList (bY t dst .any) h'=some ents) (hp:aV l (log.reverse++⟨[],List.range h'.n,h.toks++h'.toks⟩::ents)) (hP:Bw l log.length (log.reverse++⟨[],List.range h'.n,h.toks++h'.toks⟩::ents) h') (hq:∀n m,h'.n≤n→h'.m≤m→R v {h' with n:=n,m:=m}):aZ P N (some l) (⟨dst,none,.call f aa⟩::its) t h log R:=
 aZ.FY rfl (ft hb hn.1 hn.2 no) (fun ops i o ho hit=>iD ho hit rfl rfl hs hc) ⟨ents,hr,hp,hP⟩ hq
theorem aZ.GD {l:List (Nat × Nat)} {dst:Option Nat} {f:FuncId} {aa:List Opd} {its:List aO} {t:Tm} {h h':H} {log ents:List Ent} {R:Value→H→Prop} {vals:List AV} {v:Value} {b:Nat} (hs:au (aa.map (ev t)) vals) (hb:∀j,(h.objs j).isSome=true→j<h.n) (hn:h.n≤h'.n∧h.m≤h'.m) (hc:cV P f vals h v h') (no:aq h h') (hB:b<h.n) (sm:h'.objs b=h.objs b)
  (hr:jV l log.length its (log.length+1) dst.toList (bY t dst .any) h'=some ents) (hp:aV l (log.reverse++⟨[b],(List.range h'.n).filter (fun j=> !(j == b)),h.toks++h'.toks⟩::ents)) (hP:uj l log.length (log.reverse++⟨[b],(List.range h'.n).filter (fun j=> !(j == b)),h.toks++h'.toks⟩::ents)=true) (hq:R v h'):aZ P N (some l) (⟨dst,none,.call f aa⟩::its) t h log R:=
 aZ.here rfl (mR hb hn.1 hn.2 no hB sm) (fun ops i o ho hit=>iD ho hit rfl rfl hs hc) (fun l' hl=>by cases hl;exact ⟨ents,hr,hp,hP⟩) hq
end
end Go.Av
end
section
set_option maxRecDepth 10000
namespace Go.Proofs.YtbgmofhgfnmaiaaGreat.Page
open Go Go.Av Go.Proofs Go.Proofs.YtbgmofhgfnmaiaaGreat.C
structure Node where
 leaf:Bool
 keys:List (List UInt8)
 vals:List (List UInt8)
 kids:List Int
def aC (n:Node):AV:= .agg [.bool n.leaf,.sl 1 (strs n.keys) .any,.sl 1 (strs n.vals) .any,.sl 1 (ints n.kids) .any]
theorem cW (n:Node):bq (aC n)=true:=by simp[aC,bq,aU,cR,gG,q9]
theorem kP (n:Node):aU [aC n]=true:=by simp[aU,cW]
def tot (l:List (List UInt8)):Nat:=(l.map List.length).sum
theorem gl (l:List (List UInt8)) (k:Nat) (h:k<l.length):tot (l.take (k+1))=tot (l.take k)+(l.getD k []).length:=by
 rw[List.take_succ_eq_append_getElem h,List.getD_eq_getElem?_getD,List.getElem?_eq_getElem h]
 simp only[tot,List.map_append,List.sum_append,List.map_cons,List.map_nil,List.sum_cons,List.sum_nil,Option.getD_some,Nat.add_zero]
theorem gR (l:List (List UInt8)) (k:Nat):tot (l.take k)≤tot l:=by
 have:l=l.take k++l.drop k:=by simp
 conv=>rhs;rw[this]
 simp only[tot,List.map_append,List.sum_append];omega
def size (n:Node):Nat:=if n.leaf then 3+3*n.keys.length+tot n.keys+tot n.vals else 7+5*n.keys.length+tot n.keys
structure Nb (n:Node):Prop where
 k:n.keys.length≤17592186044416
 v:n.vals.length≤17592186044416
 i:n.kids.length≤17592186044416
 tk:tot n.keys≤1152921504606846976
 tv:tot n.vals≤1152921504606846976
theorem lW (n:Node) (hn:Nb n):bc Tryz.prog 118 [aC n] (.int .i64 (size n)):=by
 refine f118.fD af (bN _ (kP n)) (cD _ rfl) fun k m=>?_
 obtain ⟨hk,hv,hi,htk,htv⟩:=hn
 unfold Gh zz
 refine Wp.aG (by simp only[go_sem,aC];exact rfl) ag ?_
 refine Wp.aG (by simp only[go_sem];exact rfl) ag ?_
 refine Wp.pJ [(1,.ptr k 0),(3,.int .i64 (if n.leaf then 3 else 7:Nat)),(4,.int .i64 (if n.leaf then 3 else 5:Nat))] ?_ ?_
 ·refine Wp.aG al ag ?_
  refine Wp.bU (b:= !n.leaf) (by simp only[go_sem,reduceIte]) (fun h=>?_) (fun h=>?_)
  ·refine Wp.lg al ag (aK.tm ?_)
   have hl:n.leaf=false:=by simpa using h
   simp only[ba,go_sem,reduceIte,Nat.reduceEqDiff,hl]
   exact ⟨ay.refl _,ay.refl _,ay.refl _,trivial⟩
  ·refine Wp.skip (aK.tm ?_)
   have hl:n.leaf=true:=by simpa using h
   simp only[ba,go_sem,reduceIte,Nat.reduceEqDiff,hl]
   exact ⟨ay.refl _,ay.refl _,ay.refl _,trivial⟩
 ·generalize hB:(if n.leaf then 3 else 7:Nat)=B
  generalize hE:(if n.leaf then 3 else 5:Nat)=E
  have hEb:E≤5∧B≤7:=by split at hE<;>split at hB<;>omega
  refine Wp.pJ [(1,.ptr k 0),(3,.int .i64 (B+E*n.keys.length+tot n.keys:Nat))] ?_ ?_
  ·refine Wp.aG al ag ?_
   refine Wp.block (Wp.Br (fun j:Nat=>[(1,.ptr k 0),(4,.int .i64 E),(13,.sl 1 (strs n.keys) .any),(14,.int .i64 n.keys.length),(15,.int .i64 j),(3,.int .i64 (B+E*j+tot (n.keys.take j):Nat))]) (fun j=>j≤n.keys.length) (fun j=>n.keys.length - j) 0 (Nat.zero_le _) ?_ ?_)
   ·simp only[ba,go_sem,reduceIte,Nat.reduceEqDiff]
    exact ⟨ay.refl _,ay.refl _,ay.refl _,ay.refl _,ay.refl _,ay.int (by simp[tot]),trivial⟩
   ·intro j hj
    refine Wp.aG al ag ?_
    refine Wp.seq (Wp.bU (b:=decide ((j:Int)<n.keys.length)) (by simp only[go_sem,reduceIte]) (fun h=>?_) (fun h=>?_))
    ·have hlt:j<n.keys.length:=by simpa using h
     have h1:(0:Int)≤(j:Int):=by omega
     have h2:(j:Int)<(n.keys.length:Int):=by omega
     have hts:=gl n.keys j hlt
     have htt:=gR n.keys (j+1)
     have hEj:E*(j+1)=E*j+E:=by rw[Nat.mul_add];omega
     have hEj2:E*j≤5*j:=Nat.mul_le_mul_right j hEb.1
     generalize E*j=F at*
     refine Wp.skip (Wp.seq (Wp.block ?_))
     refine Wp.aG (by simp only[go_sem,reduceIte,Nat.reduceEqDiff,Int.toNat_natCast,dH _ _ _ hlt,h1,h2,and_self,if_true];exact rfl) ag ?_
     refine Wp.lg (by simp only[go_sem,reduceIte,Nat.reduceEqDiff];simp (disch:=omega) only[IntWalk.i64_in];exact rfl) ag ?_
     refine Wp.lg (by simp only[go_sem,reduceIte,Nat.reduceEqDiff];simp (disch:=omega) only[IntWalk.i64_in];exact rfl) ag ?_
     refine ⟨j+1,hlt,ab,aK.tm ?_⟩
     simp only[ba,go_sem,reduceIte,Nat.reduceEqDiff]
     exact ⟨ay.refl _,ay.refl _,ay.refl _,ay.refl _,ay.refl _,ay.int (by rw[hts,hEj];omega),trivial⟩
    ·have he:j=n.keys.length:=by
      have:¬((j:Int)<n.keys.length):=by simpa using h
      omega
     subst he
     refine Wp.exit (aK.tm ?_)
     simp only[ba,go_sem,reduceIte,Nat.reduceEqDiff]
     exact ⟨ay.refl _,ay.int af,trivial⟩
  ·
   refine Wp.pJ [(3,.int .i64 (size n))] ?_ ?_
   ·refine Wp.aG al ag ?_
    refine Wp.bU (b:=n.leaf) (by simp only[go_sem,reduceIte]) (fun hl=>?_) (fun hl=>?_)
    ·rw[hl] at hB hE
     simp only[if_true] at hB hE
     subst hB hE
     refine Wp.aG al ag ?_
     refine Wp.block (Wp.Br (fun j:Nat=>[(29,.sl 1 (strs n.vals) .any),(30,.int .i64 n.vals.length),(31,.int .i64 j),(3,.int .i64 (3+3*n.keys.length+tot n.keys+tot (n.vals.take j):Nat))]) (fun j=>j≤n.vals.length) (fun j=>n.vals.length - j) 0 (Nat.zero_le _) ?_ ?_)
     ·simp only[ba,go_sem,reduceIte,Nat.reduceEqDiff]
      exact ⟨ay.refl _,ay.refl _,ay.refl _,ay.int (by simp[tot]),trivial⟩
     ·intro j hj
      refine Wp.aG al ag ?_
      refine Wp.seq (Wp.bU (b:=decide ((j:Int)<n.vals.length)) (by simp only[go_sem,reduceIte]) (fun h=>?_) (fun h=>?_))
      ·have hlt:j<n.vals.length:=by simpa using h
       have h1:(0:Int)≤(j:Int):=by omega
       have h2:(j:Int)<(n.vals.length:Int):=by omega
       have hts:=gl n.vals j hlt
       have htt:=gR n.vals (j+1)
       refine Wp.skip (Wp.seq (Wp.block ?_))
       refine Wp.aG (by simp only[go_sem,reduceIte,Nat.reduceEqDiff,Int.toNat_natCast,dH _ _ _ hlt,h1,h2,and_self,if_true];exact rfl) ag ?_
       refine Wp.lg (by simp only[go_sem,reduceIte,Nat.reduceEqDiff];simp (disch:=omega) only[IntWalk.i64_in];exact rfl) ag ?_
       refine Wp.lg (by simp only[go_sem,reduceIte,Nat.reduceEqDiff];simp (disch:=omega) only[IntWalk.i64_in];exact rfl) ag ?_
       refine ⟨j+1,hlt,ab,aK.tm ?_⟩
       simp only[ba,go_sem,reduceIte,Nat.reduceEqDiff]
       exact ⟨ay.refl _,ay.refl _,ay.refl _,ay.int (by rw[hts];omega),trivial⟩
      ·have he:j=n.vals.length:=by
        have:¬((j:Int)<n.vals.length):=by simpa using h
        omega
       subst he
       refine Wp.exit (aK.tm ?_)
       simp only[ba,go_sem,reduceIte,Nat.reduceEqDiff]
       exact ⟨ay.int (by simp[size,hl]),trivial⟩
    ·rw[hl] at hB hE
     simp only[if_false,Bool.false_eq_true] at hB hE
     subst hB hE
     refine Wp.skip (aK.tm ?_)
     simp only[ba,go_sem,reduceIte,Nat.reduceEqDiff]
     exact ⟨ay.int (by simp[size,hl]),trivial⟩
   ·refine Wp.aG al ag ?_
    refine Wp.ret ⟨trivial,_,rfl,?_⟩
    simp only[go_sem,reduceIte,Nat.reduceEqDiff]
    exact ay.refl _
theorem lX (b:List UInt8):Op.bytesLess [] b=decide (0<b.length):=by cases b<;>simp[Op.bytesLess]
theorem dc (a:List UInt8):Op.bytesLess a []=false:=by cases a<;>simp[Op.bytesLess]
theorem sM {a b:List UInt8} {j:Nat} (ha:j<a.length) (hb:j<b.length):Op.bytesLess (a.drop j) (b.drop j)=(decide (a.getD j 0<b.getD j 0)||(a.getD j 0 == b.getD j 0&&Op.bytesLess (a.drop (j+1)) (b.drop (j+1)))):=by
 rw[List.drop_eq_getElem_cons ha,List.drop_eq_getElem_cons hb]
 simp[Op.bytesLess,List.getD,List.getElem?_eq_getElem ha,List.getElem?_eq_getElem hb]
theorem ku {a b:List UInt8} {j:Nat} (ha:j≤a.length) (hb:j≤b.length) (h:¬(j<a.length∧j<b.length)):Op.bytesLess (a.drop j) (b.drop j)=decide ((a.length:Int)<(b.length:Int)):=by
 by_cases h1:j<a.length
 ·have:b.drop j=[]:=List.drop_eq_nil_of_le ab
  rw[this,dc];symm;simp;omega
 ·have:a.drop j=[]:=List.drop_eq_nil_of_le ab
  rw[this,lX];simp;omega
def Ls (l:List UInt8):Prop:=l.length≤9223372036854775806
theorem xL (a b:List UInt8) (la:Ls a) (lb:Ls b):bc Tryz.prog 43 [.str a,.str b] (.bool (Op.bytesLess a b)):=by
 refine f43.fD af (bN _ rfl) (cD _ rfl) fun k m=>?_
 unfold Ls at la lb
 unfold c43 zz
 refine Wp.aG xA1 ag ?_
 refine Wp.seq ?_
 refine Wp.aG xA1 ag ?_
 refine Wp.block ?_
 refine Wp.mE [0,1] xA6 (fun j:Nat=>[(5,.int .i64 j)]) (fun j=>j≤a.length∧j≤b.length∧Op.bytesLess (a.drop j) (b.drop j)=Op.bytesLess a b) (fun j=>a.length - j) 0 ⟨Nat.zero_le _,Nat.zero_le _,rfl⟩ ?_ ?_
 ·exact xSb
 ·intro j hj
  obtain ⟨h1,h2,h3⟩:=hj
  refine Wp.seq ?_
  by_cases hc:j<a.length∧j<b.length
  ·have ha:decide ((j:Int)<(a.length:Int))=true:=by simp;omega
   have hb:decide ((j:Int)<(b.length:Int))=true:=by simp;omega
   have h4:(0:Int)≤(j:Int):=by omega
   have h5:(j:Int)<(a.length:Int):=by omega
   have h6:(j:Int)<(b.length:Int):=by omega
   refine Wp.aG (xAe (cj2 ha hb)) ag ?_
   refine Wp.cond_true (by simp only[go_sem,reduceIte,Nat.reduceEqDiff,Bool.false_eq_true]) ?_
   refine Wp.skip ?_
   refine Wp.seq ?_
   refine Wp.block ?_
   refine Wp.aG (xAd (cj6 h4 h5 h6 @and_self @Int.toNat_natCast @byte.eq_1)) ag ?_
   have hs:=sM hc.1 hc.2
   refine Wp.bU (b:= !decide (((a.getD j 0).toNat:Int)=((b.getD j 0).toNat:Int))) xA2 (fun hd=>?_) (fun hd=>?_)
   ·refine Wp.aG (xAd (cj6 h4 h5 h6 @and_self @Int.toNat_natCast @byte.eq_1)) ag ?_
    refine cL ?_
    refine ay.of_eq ?_
    congr 1
    rw[←h3,hs]
    have hne:¬(a.getD j 0=b.getD j 0):=fun he=>by rw[he] at hd;simp at hd
    have:(a.getD j 0 == b.getD j 0)=false:=by simpa using hne
    rw[this,Bool.false_and,Bool.or_false]
    congr 1
    rw[UInt8.lt_iff_toNat_lt]
    simp
   ·refine Wp.skip ?_
    refine Wp.lg (by simp only[go_sem,reduceIte,Nat.reduceEqDiff,Nat.reduceAdd,bx];simp (disch:=omega) only[IntWalk.i64_in];exact rfl) ag ?_
    have he:a.getD j 0=b.getD j 0:=by
     apply UInt8.toNat_inj.1
     have:((a.getD j 0).toNat:Int)=((b.getD j 0).toNat:Int):=by simpa using hd
     omega
    refine ⟨j+1,⟨ab,ab,?_⟩,ab,?_⟩
    ·rw[←h3,hs,he];simp[UInt8.lt_irrefl]
    ·exact xSu
  ·have hx:(decide ((j:Int)<(a.length:Int))&&decide ((j:Int)<(b.length:Int)))=false:=by
    by_cases h:j<a.length
    ·have:¬j<b.length:=fun h'=>hc ⟨h,h'⟩
     simp;omega
    ·simp;omega
   by_cases ha:j<a.length
   ·have h7:decide ((j:Int)<(a.length:Int))=true:=by simp;omega
    have h8:decide ((j:Int)<(b.length:Int))=false:=by rw[h7,Bool.true_and] at hx;exact hx
    refine Wp.aG (xAe (cj2 h7 h8)) ag ?_
    refine Wp.cond_false (by simp only[go_sem,reduceIte,Nat.reduceEqDiff,Bool.false_eq_true]) ?_
    refine Wp.exit ?_
    refine Wp.aG xA1 ag ?_
    refine cL ?_
    rw[←h3,ku h1 h2 hc]
    exact ay.refl _
   ·have h7:decide ((j:Int)<(a.length:Int))=false:=by simp;omega
    refine Wp.aG (xAe h7) ag ?_
    refine Wp.cond_false (by simp only[go_sem,reduceIte,Nat.reduceEqDiff,Bool.false_eq_true]) ?_
    refine Wp.exit ?_
    refine Wp.aG xA1 ag ?_
    refine cL ?_
    rw[←h3,ku h1 h2 hc]
    exact ay.refl _
def ix {α:Type} (p:α→Bool) (l:List α):Int:=if l.any p then (l.findIdx p:Nat) else -1
theorem BO {α:Type} {p:α→Bool} {l:List α} {j:Nat} (hj:j<l.length) (h:p l[j]=true) (hs:∀i (hi:i<l.length),i<j→p l[i]=false):ix p l=j:=by
 have h1:l.any p=true:=List.any_eq_true.2 ⟨l[j],List.getElem_mem hj,h⟩
 have h2:l.findIdx p=j:=(List.findIdx_eq hj).2 ⟨h,fun i hi=>hs i ab hi⟩
 simp[ix,h1,h2]
theorem DN {α:Type} {p:α→Bool} {l:List α} (hs:∀i (hi:i<l.length),p l[i]=false):ix p l= -1:=by
 have h1:l.any p=false:=by
  rw[List.any_eq_false]
  intro x hx
  obtain ⟨i,hi,rfl⟩:=List.mem_iff_getElem.1 hx
  simp[hs i hi]
 simp[ix,h1]
theorem zE {α:Type} {p:α→Bool} {l:List α}:decide (0≤ix p l)=l.any p:=by
 unfold ix
 cases l.any p<;>simp
theorem qI {x:AV} (h:aP x=true):cellsOf x=[x]:=by cases x<;>simp_all [aP,cellsOf]
theorem nN {f:FuncId} (hF:aW Tryz.prog f 19 E5 [.tmp 4]) {α:Type} (enc:α→AV) (hpure:∀x,bq (enc x)=true) (hcell:∀x,aP (enc x)=true) (l:List α) (hl:l.length≤4611686018427387904)
  (p:α→Bool) {g:FuncId} {fn:Func} (hf:Tryz.prog.funcs[g]? =some fn) (hb:fn.body.isSome=true) (hn:fn.name≠ "runtime.NumGoroutine") (hp:∀x∈l,bc Tryz.prog g [enc x] (.bool (p x))):
  bc Tryz.prog f [.sl 1 (l.map enc) .any,.clo (.func g) [] []] (.int .i64 (ix p l)):=by
 refine hF.fD af (bN _ (by simp[aU,bq,cR,dr hpure])) (cD _ rfl) fun k m=>?_
 unfold E5 zz
 refine Wp.aG xA1 ag ?_
 refine Wp.seq ?_
 refine Wp.aG (xAe @List.length_map.{0,0}) ag ?_
 refine Wp.block ?_
 refine Wp.mE [0,1,7] xA6 (fun j:Nat=>[(8,.int .i64 j)]) (fun j=>j≤l.length∧∀i (hi:i<l.length),i<j→p l[i]=false) (fun j=>l.length - j) 0 ⟨Nat.zero_le _,fun i hi h=>absurd h ab⟩ ?_ ?_
 ·exact xSb
 ·intro j hj
  obtain ⟨hj,hs⟩:=hj
  refine Wp.aG xA1 ag ?_
  refine Wp.seq ?_
  refine Wp.bU (b:=decide ((j:Int)<(l.length:Int))) xA2 (fun hc=>?_) (fun hc=>?_)
  ·have h1:(0:Int)≤(j:Int):=by omega
   have h2:(j:Int)<(l.length:Int):=by simpa using hc
   have h3:j<l.length:=by omega
   have h4:(l.map enc).getD j .any=enc l[j]:=by simp[List.getD,h3]
   have hI:=hcell l[j]
   have hC:=qI hI
   simp only[aP] at hI
   simp only[cellsOf] at hC
   refine Wp.skip ?_
   refine Wp.seq ?_
   refine Wp.block ?_
   refine Wp.aG xA1 ag ?_
   refine Wp.seqItems (xAd (cj8 @List.length_map.{0,0} h1 h2 @and_self @Int.toNat_natCast h4 hI hC)) ?_
   refine ao.EY (r:= .bool (p l[j])) ae al hf hb hn xA4 (hp _ (List.getElem_mem h3)) ?_
   refine ao.eval xA1 ?_
   refine ao.nil ⟨by trivial,?_⟩
   refine Wp.bU (b:=p l[j]) xA2 (fun hd=>?_) (fun hd=>?_)
   ·refine Wp.aG xA1 ag ?_
    refine cL ?_
    rw[BO h3 hd hs]
    exact ay.refl _
   ·refine Wp.skip ?_
    refine Wp.lg (by simp only[go_sem,reduceIte,Nat.reduceEqDiff,Nat.reduceAdd,bx];simp (disch:=omega) only[IntWalk.i64_in];exact rfl) ag ?_
    refine ⟨j+1,⟨ab,fun i hi h=>?_⟩,ab,?_⟩
    ·by_cases he:i=j
     ·subst he;exact hd
     ·exact hs i hi ab
    ·exact xSu
  ·have:¬(j:Int)<(l.length:Int):=by simpa using hc
   refine Wp.exit ?_
   refine Wp.aG xA1 ag ?_
   refine cL ?_
   rw[DN fun i hi=>hs i hi ab]
   exact ay.refl _
theorem jP {f f':FuncId} (hF:aW Tryz.prog f 9 (.seq (.reg [⟨some 4,none,.mov (.c (.bool false))⟩] none) (.seq (.reg [⟨some 5,none,.mov (.t 0)⟩,⟨some 6,none,.mov (.t 1)⟩,⟨some 7,none,.call f' [(.t 5),(.t 6)]⟩,⟨some 8,none,.bin .geq (.t 7) (.c (.int .i64 0))⟩,⟨some 4,none,.mov (.t 8)⟩] none) .ret)) [.tmp 4])
  {α:Type} (enc:α→AV) (hpure:∀x,bq (enc x)=true) (l:List α) (p:α→Bool) {g:FuncId} (hi:bc Tryz.prog f' [.sl 1 (l.map enc) .any,.clo (.func g) [] []] (.int .i64 (ix p l))):
  bc Tryz.prog f [.sl 1 (l.map enc) .any,.clo (.func g) [] []] (.bool (l.any p)):=by
 refine hF.fD af (bN _ (by simp[aU,bq,cR,dr hpure])) (cD _ rfl) fun k m=>?_
 refine Wp.aG xA1 ag ?_
 refine Wp.seqItems xA1 ?_
 refine ao.cd xA2 xAb (hi) ?_
 refine ao.eval xA1 ?_
 refine ao.nil ⟨by trivial,?_⟩
 refine cL ?_
 rw[←zE]
 exact ay.refl _
def gS (l:List (List UInt8)) (i:Nat):Bool:=decide ((l.getD i []).length≤128)&&(decide (i=0)||Op.bytesLess (l.getD (i - 1) []) (l.getD i []))
def gx (l:List (List UInt8)):Bool:=(List.range l.length).all (gS l)
theorem oF {l:List (List UInt8)} (h:∀i,i<l.length→gS l i=true):gx l=true:=by
 simp only[gx,List.all_eq_true,List.mem_range];exact h
theorem mS {l:List (List UInt8)} {i:Nat} (hi:i<l.length) (h:gS l i=false):gx l=false:=by
 rw[gx,List.all_eq_false]
 exact ⟨i,List.mem_range.2 hi,by simp[h]⟩
theorem nP {l:List (List UInt8)} (h:gx l=true) {i:Nat} (hi:i<l.length):gS l i=true:=by
 simp only[gx,List.all_eq_true,List.mem_range] at h;exact h i hi
def sN (v:List UInt8):Bool:=decide (200<v.length)
def ly (k:Int):Bool:=decide (k<0)||decide (16384≤k)
def right (n:Node):Bool:=gx n.keys&&(if n.leaf then decide (n.vals.length=n.keys.length)&&decide (n.kids.length=0)&& !n.vals.any sN
 else decide (n.vals.length=0)&&decide (n.kids.length=n.keys.length+1)&& !n.kids.any ly)
theorem Fe (v:List UInt8):bc Tryz.prog 105 [.str v] (.bool (sN v)):=by
 refine f105.fD af (bN _ rfl) (cD _ rfl) fun k m=>?_
 unfold F8 zz
 refine Wp.aG xA1 ag ?_
 refine Wp.aG xA1 ag ?_
 refine cL ?_
 refine ay.of_eq ?_
 unfold sN
 congr 1
 exact decide_eq_decide.2 ab
theorem DP (x:Int):bc Tryz.prog 107 [.int .i64 x] (.bool (ly x)):=by
 refine f107.fD af (bN _ rfl) (cD _ rfl) fun k m=>?_
 unfold F9 zz
 unfold ly
 by_cases h:x<0
 ·have h':decide (x<0)=true:=by simpa using h
  refine Wp.aG xA1 ag ?_
  refine Wp.aG (xAe h') ag ?_
  refine cL ?_
  rw[h']
  exact ay.refl _
 ·have h':decide (x<0)=false:=by simpa using h
  refine Wp.aG xA1 ag ?_
  refine Wp.aG (xAe h') ag ?_
  refine cL ?_
  rw[h']
  exact ay.refl _
theorem zF (l:List (List UInt8)) (hl:l.length≤4611686018427387904):bc Tryz.prog 106 [.sl 1 (strs l) .any,.clo (.func 105) [] []] (.bool (l.any sN)):=
 jP f106 .str (fun _=>rfl) l sN (nN f141 .str (fun _=>rfl) (fun _=>rfl) l hl sN Tryz.func105 rfl (of_decide_eq_true (by kernel_rfl)) fun x _=>Fe x)
theorem wq (l:List Int) (hl:l.length≤4611686018427387904):bc Tryz.prog 90 [.sl 1 (ints l) .any,.clo (.func 107) [] []] (.bool (l.any ly)):=
 jP f90 (.int .i64) (fun _=>rfl) l ly (nN f124 (.int .i64) (fun _=>rfl) (fun _=>rfl) l hl ly Tryz.func107 rfl (of_decide_eq_true (by kernel_rfl)) fun x _=>DP x)
theorem fg (n:Node) (hn:Nb n):bc Tryz.prog 73 [aC n] (.bool (right n)):=by
 refine f73.fD af (bN _ (kP n)) (cD _ rfl) fun k m=>?_
 obtain ⟨hk,hv,hi,htk,htv⟩:=hn
 unfold c73 zz
 refine Wp.aG (xAe @aC.eq_1) ag ?_
 refine Wp.seq ?_
 refine Wp.aG xA1 ag ?_
 refine Wp.block ?_
 refine Wp.mE [1,8,9] xA6 (fun j:Nat=>[(10,.int .i64 j)]) (fun j=>j≤n.keys.length∧∀i,i<j→gS n.keys i=true) (fun j=>n.keys.length - j) 0 ⟨Nat.zero_le _,fun i h=>absurd h ab⟩ ?_ ?_
 ·exact xSb
 ·intro j hj
  obtain ⟨hj,hs⟩:=hj
  refine Wp.aG xA1 ag ?_
  refine Wp.seq ?_
  refine Wp.bU (b:=decide ((j:Int)<(n.keys.length:Int))) xA2 (fun hc=>?_) (fun hc=>?_)
  ·have h1:(0:Int)≤(j:Int):=by omega
   have h2:(j:Int)<(n.keys.length:Int):=by simpa using hc
   have h3:j<n.keys.length:=by omega
   refine Wp.skip ?_
   refine Wp.seq ?_
   refine Wp.block ?_
   refine Wp.aG (xAd (cj5 @Int.toNat_natCast (fun d=>dH _ _ d h3) h1 h2 @and_self)) ag ?_
   by_cases hl:(n.keys.getD j []).length≤128
   ·have hl':decide ((128:Int)<((n.keys.getD j []).length:Int))=false:=decide_eq_false ab
    by_cases h0:j=0
    ·subst h0
     refine Wp.aG (by simp only[go_sem,reduceIte,Nat.reduceEqDiff,Nat.reduceAdd,bx,hl',Int.lt_irrefl,decide_false,Int.natCast_zero];exact rfl) ag ?_
     refine Wp.cond_false (by simp only[go_sem,reduceIte,Nat.reduceEqDiff,Bool.false_eq_true,Bool.and_false]) ?_
     refine Wp.skip ?_
     refine Wp.lg (by simp only[go_sem,reduceIte,Nat.reduceEqDiff,Nat.reduceAdd,bx];simp (disch:=omega) only[IntWalk.i64_in];exact rfl) ag ?_
     refine ⟨1,⟨ab,fun i h=>?_⟩,ab,?_⟩
     ·obtain rfl:i=0:=by omega
      simp only[gS,decide_true,Bool.true_or,Bool.and_true,decide_eq_true_eq];exact hl
     ·exact xSu
    ·have h0':decide ((0:Int)<(j:Int))=true:=decide_eq_true ab
     have hw:IntKind.i64.wrap ((j:Int) - 1)=((j - 1:Nat):Int):=by rw[IntWalk.i64_in _ ab];omega
     have h5:(0:Int)≤((j - 1:Nat):Int):=by omega
     have h6:((j - 1:Nat):Int)<(n.keys.length:Int):=by omega
     have h7:j - 1<n.keys.length:=by omega
     refine Wp.aG (xAd (cj8 hl' h0' hw @Int.toNat_natCast (fun d=>dH _ _ d h7) h5 h6 @and_self)) ag ?_
     refine Wp.bU (b:= !Op.bytesLess (n.keys.getD (j - 1) []) (n.keys.getD j [])) xA2 (fun hd=>?_) (fun hd=>?_)
     ·have hko:gS n.keys j=false:=by simp only[gS];simp at hd;simp[h0];intro;exact hd
      refine Wp.aG xA1 ag ?_
      refine cL ?_
      rw[right,mS h3 hko,Bool.false_and]
      exact ay.refl _
     ·refine Wp.skip ?_
      refine Wp.lg (by simp only[go_sem,reduceIte,Nat.reduceEqDiff,Nat.reduceAdd,bx];simp (disch:=omega) only[IntWalk.i64_in];exact rfl) ag ?_
      refine ⟨j+1,⟨ab,fun i h=>?_⟩,ab,?_⟩
      ·by_cases he:i=j
       ·subst he
        simp at hd
        simp only[gS,Bool.and_eq_true,decide_eq_true_eq,Bool.or_eq_true]
        exact ⟨hl,.inr hd⟩
       ·exact hs i ab
      ·exact xSu
   ·have hl':decide ((128:Int)<((n.keys.getD j []).length:Int))=true:=decide_eq_true ab
    refine Wp.aG (xAe hl') ag ?_
    refine Wp.cond_true (by simp only[go_sem,reduceIte,Nat.reduceEqDiff,Bool.false_eq_true]) ?_
    refine Wp.aG xA1 ag ?_
    refine cL ?_
    have hko:gS n.keys j=false:=by simp only[gS];rw[decide_eq_false ab,Bool.false_and]
    rw[right,mS h3 hko,Bool.false_and]
    exact ay.refl _
  ·have hc':¬(j:Int)<(n.keys.length:Int):=by simpa using hc
   have hko:=oF fun i h=>hs i ab
   refine Wp.exit ?_
   refine Wp.seq ?_
   refine Wp.aG xA1 ag ?_
   refine Wp.bU (b:=n.leaf) xA2 (fun hf=>?_) (fun hf=>?_)
   ·refine Wp.aG xA1 ag ?_
    rw[right,hko,hf]
    simp only[Bool.true_and,if_true]
    by_cases e1:n.vals.length=n.keys.length
    ·have e1':decide ((n.vals.length:Int)=(n.keys.length:Int))=true:=decide_eq_true ab
     by_cases e2:n.kids.length=0
     ·have e2':decide ((n.kids.length:Int)=0)=true:=decide_eq_true ab
      refine Wp.seqItems (xAe (cj2 e1' e2')) ?_
      refine ao.cd xA2 xAb (zF n.vals ab) ?_
      refine ao.eval xA1 ?_
      refine ao.nil ⟨by trivial,?_⟩
      refine cL ?_
      refine ay.of_eq ?_
      simp[e1,e2]
     ·have e2':decide ((n.kids.length:Int)=0)=false:=decide_eq_false ab
      refine Wp.aG (xAe (cj2 e1' e2')) ag ?_
      refine cL ?_
      refine ay.of_eq ?_
      simp[e1,e2]
    ·have e1':decide ((n.vals.length:Int)=(n.keys.length:Int))=false:=decide_eq_false ab
     refine Wp.aG (xAe e1') ag ?_
     refine cL ?_
     refine ay.of_eq ?_
     simp[e1]
   ·refine Wp.skip ?_
    refine Wp.aG xA1 ag ?_
    rw[right,hko,hf]
    simp only[Bool.true_and,Bool.false_eq_true,if_false]
    have hw:IntKind.i64.wrap ((n.keys.length:Int)+1)=((n.keys.length+1:Nat):Int):=by rw[IntWalk.i64_in _ ab];omega
    by_cases e1:n.vals.length=0
    ·have e1':decide ((n.vals.length:Int)=0)=true:=decide_eq_true ab
     by_cases e2:n.kids.length=n.keys.length+1
     ·have e2':decide ((n.kids.length:Int)=((n.keys.length+1:Nat):Int))=true:=decide_eq_true ab
      refine Wp.seqItems (xAe (cj3 e1' hw e2')) ?_
      refine ao.cd xA2 xAb (wq n.kids ab) ?_
      refine ao.eval xA1 ?_
      refine ao.nil ⟨by trivial,?_⟩
      refine cL ?_
      refine ay.of_eq ?_
      simp[e1,e2]
     ·have e2':decide ((n.kids.length:Int)=((n.keys.length+1:Nat):Int))=false:=decide_eq_false ab
      refine Wp.aG (xAe (cj3 e1' hw e2')) ag ?_
      refine cL ?_
      refine ay.of_eq ?_
      simp[e1,e2]
    ·have e1':decide ((n.vals.length:Int)=0)=false:=decide_eq_false ab
     refine Wp.aG (xAe e1') ag ?_
     refine cL ?_
     refine ay.of_eq ?_
     simp[e1]
def check (n:Node):Nat:=if right n then (if size n≤1024 then 0 else 5) else 2
theorem mT (n:Node) (hn:Nb n):bc Tryz.prog 103 [aC n] (.int .i64 (check n)):=by
 refine f103.fD af (bN _ (kP n)) (cD _ rfl) fun k m=>?_
 unfold F7 zz
 refine Wp.aG (xAe @aC.eq_1) ag ?_
 refine Wp.seq ?_
 refine Wp.block ?_
 refine Wp.seqItems xA1 ?_
 refine ao.cd xA2 xAb (fg n hn) ?_
 refine ao.eval xA1 ?_
 refine ao.nil ⟨by trivial,?_⟩
 refine Wp.bU (b:= !right n) xA2 (fun hd=>?_) (fun hd=>?_)
 ·refine Wp.aG xA1 ag ?_
  refine cL ?_
  refine ay.int ?_
  have:right n=false:=by simpa using hd
  simp[check,this]
 ·have hr:right n=true:=by simpa using hd
  refine Wp.seqItems xA1 ?_
  refine ao.cd xA2 xAb (lW n hn) ?_
  refine ao.eval xA1 ?_
  refine ao.nil ⟨by trivial,?_⟩
  refine Wp.bU (b:=decide ((1024:Int)<(size n:Int))) xA2 (fun he=>?_) (fun he=>?_)
  ·have he':(1024:Int)<(size n:Int):=by simpa using he
   refine Wp.aG xA1 ag ?_
   refine cL ?_
   refine ay.int ?_
   rw[check,if_pos hr,if_neg ab]
   rfl
  ·have he':¬(1024:Int)<(size n:Int):=by simpa using he
   refine Wp.skip ?_
   refine Wp.aG xA1 ag ?_
   refine cL ?_
   refine ay.int ?_
   rw[check,if_pos hr,if_pos ab]
   rfl
def be:Nat→Nat→List UInt8
 |0,_=>[]
 |b+1,v=>UInt8.ofNat (v/256^b)::be b v
theorem cm:∀b v,(be b v).length=b
 |0,_=>rfl
 |b+1,v=>by simp[be,cm b v]
theorem BP (v i:Nat) (hi:i≤7):AV.int .u8 (IntKind.u8.wrap ((v:Int).fdiv (2^(min ((8*i:Nat):Int).toNat 64))))=byte (UInt8.ofNat (v/256^i)):=by
 have h1:min ((8*i:Nat):Int).toNat 64=8*i:=by rw[Int.toNat_natCast];omega
 have h2:(2:Int)^(8*i)=((256^i:Nat):Int):=by
  rw[Int.pow_mul];norm_cast
 rw[h1,h2,byte,Int.fdiv_eq_ediv_of_nonneg _ (Int.natCast_nonneg _),←Int.natCast_ediv,IntKind.wrap_u8]
 congr 1
theorem mU (l m:List UInt8):ar (l++m)=ar l++ar m:=by simp[ar]
theorem sO {f:FuncId} (hF:aW Tryz.prog f 24 E6 [.tmp 6]) (K:IntKind) (v:Nat) (hv:v<18446744073709551616) (b:Nat) (hb:b≤8) (xs:List UInt8) (hx:xs.length≤1099511627776):
  pL Tryz.prog f (fun t=>[.sl 1 (ar xs) (.own t),.int K v,.int .i64 b]) (fun t=> .sl 1 (ar (xs++be b v)) (.own t)):=by
 intro t n m
 suffices h:∃r h',aI Tryz.prog f [.sl 1 (ar xs) (.own t),.int K v,.int .i64 b] (.only aB [t] n m) r h'∧∃t' m',m≤m'∧r= .sl 1 (ar (xs++be b v)) (.own t')∧h'= .only aB [t'] n m' by
  obtain ⟨r,h',ha,t',m',hm,rfl,rfl⟩:=h
  exact ⟨t',m',hm,ha⟩
 refine hF.fC af ?_
 unfold E6 zz
 refine Wp.aG xA1 ag ?_
 refine Wp.seq ?_
 refine Wp.aG (by simp only[go_sem,reduceIte,Nat.reduceEqDiff,Nat.reduceAdd,bx];simp (disch:=omega) only[IntWalk.i64_in];exact rfl) ag ?_
 refine Wp.block ?_
 refine Wp.eV [1] xA7 (fun j:Nat × List UInt8 × Nat × Nat=>[(0,.sl 1 (ar (xs++j.2.1)) (.own j.2.2.1)),(7,.int .i64 ((j.1:Int) - 1))]) (fun j=> .only aB [j.2.2.1] n j.2.2.2)
  (fun j=>j.1≤b∧m≤j.2.2.2∧j.2.1++be j.1 v=be b v) (fun j=>j.1) (b,[],t,m) ⟨Nat.le_refl _,Nat.le_refl _,rfl⟩ rfl ?_ ?_
 ·simp only[ba,go_sem,reduceIte,Nat.reduceEqDiff,Nat.reduceAdd,bx,List.append_nil];and_intros<;>first|exact trivial|exact ay.refl _|exact ay.any _|(refine ay.int ?_;omega)
 ·intro j hj
  obtain ⟨r,dn,tk,m'⟩:=j
  obtain ⟨h1,h2,h3⟩:=hj
  simp only at h1 h2 h3
  have hdl:dn.length+r=b:=by have:=congrArg List.length h3;simp only[List.length_append,cm] at this;exact this
  refine Wp.seq ?_
  refine Wp.aG xA1 ag ?_
  refine Wp.bU (b:=decide ((0:Int)≤(r:Int) - 1)) xA2 (fun hc=>?_) (fun hc=>?_)
  ·have hc':(0:Int)≤(r:Int) - 1:=by simpa using hc
   obtain ⟨i,rfl⟩:∃i,r=i+1:=⟨r - 1,ab⟩
   have e1:((i+1:Nat):Int) - 1=(i:Int):=by omega
   have e2:IntKind.i64.wrap (8*(i:Int))=((8*i:Nat):Int):=by rw[IntWalk.i64_in _ ab];omega
   have e3:IntKind.u64.wrap (v:Int)=(v:Int):=IntWalk.u64_in _ ab
   have e4:¬((8*i:Nat):Int)<0:=by omega
   have e5:=BP v i ab
   have e6:(ar (xs++dn)).length+1≤140737488355328:=by rw[jJ,List.length_append];omega
   have e7:(ar (xs++dn)).length+1<4611686018427387904:=by omega
   rw[jJ] at e6 e7
   refine Wp.skip ?_
   refine Wp.seq ?_
   refine Wp.block ?_
   rw[e1]
   refine Wp.lg (by simp only[go_sem,reduceIte,Nat.reduceEqDiff,Nat.reduceAdd,bx,e2,e3,e4,e5,Nat.mul_one,Nat.one_mul,IntKind.bits,e6,e7,true_and,and_self,if_true,ne_eq,byte,decide_true,Nat.reduceMul,Nat.reduceLeDiff];exact rfl) ag ?_
   refine Wp.lg (by simp only[go_sem,reduceIte,Nat.reduceEqDiff,Nat.reduceAdd,bx];simp (disch:=omega) only[IntWalk.i64_in];exact rfl) ag ?_
   refine ⟨(i,dn++[UInt8.ofNat (v/256^i)],m',m'+1),⟨by simp only;omega,by simp only;omega,by rw[←h3];simp[be]⟩,by simp,?_⟩
   refine aK.tm (by simp only[ba,go_sem,reduceIte,Nat.reduceEqDiff,Nat.reduceAdd,bx];and_intros<;>first|exact trivial|exact ay.refl _|exact ay.any _|exact ay.of_eq (by simp[ar,byte])|(refine ay.int ?_;omega))
  ·skip
   refine Wp.exit ?_
   refine Wp.aG xA1 ag ?_
   have hr:r=0:=by
    have:¬(0:Int)≤(r:Int) - 1:=by simpa using hc
    omega
   subst hr
   have h4:dn=be b v:=by simpa [be] using h3
   subst h4
   refine Wp.ret ⟨trivial,_,rfl,tk,m',h2,?_,rfl⟩
   simp only[go_sem,reduceIte,Nat.reduceEqDiff]
theorem sP (v:Nat) (hv:v<65536) (xs:List UInt8) (hx:xs.length≤1099511627776):pL Tryz.prog 111 (fun t=>[.sl 1 (ar xs) (.own t),.int .i64 v]) (fun t=> .sl 1 (ar (xs++be 2 v)) (.own t)):=by
 intro t n m
 suffices h:∃r h',aI Tryz.prog 111 [.sl 1 (ar xs) (.own t),.int .i64 v] (.only aB [t] n m) r h'∧∃t' m',m≤m'∧r= .sl 1 (ar (xs++be 2 v)) (.own t')∧h'= .only aB [t'] n m' by
  obtain ⟨r,h',ha,t',m',hm,rfl,rfl⟩:=h
  exact ⟨t',m',hm,ha⟩
 refine f111.fC af ?_
 unfold Gc zz
 have e1:IntKind.u16.wrap (v:Int)=(v:Int):=IntWalk.u16_in _ ab
 refine Wp.aG xA1 ag ?_
 refine Wp.seqItems (xAe e1) ?_
 refine ao.mF t ae xA4 ae (sO f142 .u16 v ab 2 ab xs hx) fun t' m' hm=>?_
 refine ao.eval xA1 ?_
 refine ao.nil ⟨by trivial,?_⟩
 refine Wp.ret ⟨trivial,_,rfl,t',m',hm,?_,rfl⟩
 simp only[go_sem,reduceIte,Nat.reduceEqDiff]
theorem xM (v:Nat) (hv:v<4294967296) (xs:List UInt8) (hx:xs.length≤1099511627776):pL Tryz.prog 112 (fun t=>[.sl 1 (ar xs) (.own t),.int .i64 v]) (fun t=> .sl 1 (ar (xs++be 4 v)) (.own t)):=by
 intro t n m
 suffices h:∃r h',aI Tryz.prog 112 [.sl 1 (ar xs) (.own t),.int .i64 v] (.only aB [t] n m) r h'∧∃t' m',m≤m'∧r= .sl 1 (ar (xs++be 4 v)) (.own t')∧h'= .only aB [t'] n m' by
  obtain ⟨r,h',ha,t',m',hm,rfl,rfl⟩:=h
  exact ⟨t',m',hm,ha⟩
 refine f112.fC af ?_
 unfold Gd zz
 have e1:IntKind.u32.wrap (v:Int)=(v:Int):=IntWalk.u32_in _ ab
 refine Wp.aG xA1 ag ?_
 refine Wp.seqItems (xAe e1) ?_
 refine ao.mF t ae xA4 ae (sO f143 .u32 v ab 4 ab xs hx) fun t' m' hm=>?_
 refine ao.eval xA1 ?_
 refine ao.nil ⟨by trivial,?_⟩
 refine Wp.ret ⟨trivial,_,rfl,t',m',hm,?_,rfl⟩
 simp only[go_sem,reduceIte,Nat.reduceEqDiff]
theorem Ff (v:Nat) (hv:v<256) (xs:List UInt8) (hx:xs.length≤1099511627776):pL Tryz.prog 113 (fun t=>[.sl 1 (ar xs) (.own t),.int .i64 v]) (fun t=> .sl 1 (ar (xs++be 1 v)) (.own t)):=by
 intro t n m
 suffices h:∃r h',aI Tryz.prog 113 [.sl 1 (ar xs) (.own t),.int .i64 v] (.only aB [t] n m) r h'∧∃t' m',m≤m'∧r= .sl 1 (ar (xs++be 1 v)) (.own t')∧h'= .only aB [t'] n m' by
  obtain ⟨r,h',ha,t',m',hm,rfl,rfl⟩:=h
  exact ⟨t',m',hm,ha⟩
 refine f113.fC af ?_
 unfold Ge zz
 have e1:IntKind.u8.wrap (v:Int)=(v:Int):=IntWalk.u8_in _ ab
 refine Wp.aG xA1 ag ?_
 refine Wp.seqItems (xAe e1) ?_
 refine ao.mF t ae xA4 ae (sO f144 .u8 v ab 1 ab xs hx) fun t' m' hm=>?_
 refine ao.eval xA1 ?_
 refine ao.nil ⟨by trivial,?_⟩
 refine Wp.ret ⟨trivial,_,rfl,t',m',hm,?_,rfl⟩
 simp only[go_sem,reduceIte,Nat.reduceEqDiff]
def row (n:Node) (i:Nat):List UInt8:=
 be 1 (n.keys.getD i []).length++n.keys.getD i []++(if n.leaf then be 2 (n.vals.getD i []).length++n.vals.getD i [] else be 4 (n.kids.getD (i+1) 0).toNat)
def rows (n:Node):Nat→List UInt8
 |0=>[]
 |j+1=>rows n j++row n j
def head (n:Node):List UInt8:=(if n.leaf then [76] else [73])++be 2 n.keys.length++(if n.leaf then [] else be 4 (n.kids.getD 0 0).toNat)
def text (n:Node):List UInt8:=head n++rows n n.keys.length
def bytesOf (n:Node):List UInt8:=text n++List.replicate (1024 - size n) 0
theorem wv (n:Node) (i:Nat):(row n i).length=(if n.leaf then 3 else 5)+(n.keys.getD i []).length+(if n.leaf then (n.vals.getD i []).length else 0):=by
 unfold row
 cases n.leaf<;>simp[cm] <;>omega
theorem kv (n:Node) (hv:n.leaf=true→n.vals.length=n.keys.length):∀j,j≤n.keys.length→(rows n j).length=(if n.leaf then 3 else 5)*j+tot (n.keys.take j)+(if n.leaf then tot (n.vals.take j) else 0)
 |0,_=>by simp[rows,tot]
 |j+1,h=>by
  rw[rows,List.length_append,kv n hv j ab,wv,gl n.keys j h]
  cases hl:n.leaf
  ·simp only[Bool.false_eq_true,if_false];omega
  ·simp only[if_true]
   rw[gl n.vals j (by rw[hv hl];omega)]
   omega
theorem iG (n:Node):(head n).length=if n.leaf then 3 else 7:=by
 unfold head
 cases n.leaf<;>simp[cm]
theorem kx (n:Node) (hv:n.leaf=true→n.vals.length=n.keys.length):(text n).length=size n:=by
 rw[text,List.length_append,iG,kv n hv _ (Nat.le_refl _),List.take_length]
 unfold size
 cases hl:n.leaf
 ·simp only[Bool.false_eq_true,if_false];omega
 ·simp only[if_true]
  rw[←hv hl,List.take_length];omega
structure EH (n:Node):Prop where
 keys:∀i,i<n.keys.length→(n.keys.getD i []).length≤128
 vals:n.leaf=true→n.vals.length=n.keys.length
 kids:n.leaf=false→n.kids.length=n.keys.length+1
 val:n.leaf=true→∀i,i<n.keys.length→(n.vals.getD i []).length≤200
 kid:n.leaf=false→∀i,i<n.keys.length+1→0≤n.kids.getD i 0∧n.kids.getD i 0<16384
theorem BQ {α:Type} {p:α→Bool} {l:List α} {d:α} (h:l.any p=false) {i:Nat} (hi:i<l.length):p (l.getD i d)=false:=by
 rw[List.getD_eq_getElem?_getD,List.getElem?_eq_getElem hi]
 rw[List.any_eq_false] at h
 simpa using h _ (List.getElem_mem hi)
theorem fu {n:Node} (h:right n=true):EH n:=by
 rw[right,Bool.and_eq_true] at h
 obtain ⟨hk,h⟩:=h
 refine ⟨fun i hi=>?_,fun hl=>?_,fun hl=>?_,fun hl i hi=>?_,fun hl i hi=>?_⟩
 ·have:=nP hk hi
  rw[gS,Bool.and_eq_true] at this
  exact of_decide_eq_true this.1
 all_goals rw[hl] at h;simp only[if_true,if_false,Bool.false_eq_true,Bool.and_eq_true,decide_eq_true_eq,Bool.not_eq_true'] at h
 ·exact h.1.1
 ·exact h.1.2
 ·have:=BQ (d:=[]) h.2 (i:=i) ab
  have:=of_decide_eq_false this
  omega
 ·have:=BQ (d:=0) h.2 (i:=i) ab
  rw[ly,Bool.or_eq_false_iff] at this
  have h1:=of_decide_eq_false this.1
  have h2:=of_decide_eq_false this.2
  omega
theorem zH (n:Node) (hr:EH n) (j:Nat) (hj:j≤n.keys.length):(head n++rows n j).length≤size n:=by
 rw[List.length_append,iG,kv n hr.vals j hj]
 have h1:=gR n.keys j
 have h2:=gR n.vals j
 unfold size
 have h3:(if n.leaf then 3 else 5)*j≤(if n.leaf then 3 else 5)*n.keys.length:=Nat.mul_le_mul_left _ hj
 cases hl:n.leaf<;>rw[hl] at h3<;>simp only[if_true,if_false,Bool.false_eq_true] at h3 ⊢ <;>omega
def bj (n:Node):List UInt8:=if check n=0 then bytesOf n else []
theorem gT {n:Node} (h:check n=0):right n=true∧size n≤1024:=by
 unfold check at h
 split at h
 ·rename_i hr
  refine ⟨hr,?_⟩
  split at h
  ·assumption
  ·omega
 ·omega
theorem mV (n:Node) (hn:Nb n):bc Tryz.prog 83 [aC n] (.tup [.sl 1 (ar (bj n)) .any,.int .i64 (check n)]):=by
 refine f83.fD af (bN _ (kP n)) (cD _ (by simp[bq,aU,cR,pK])) fun k m=>?_
 unfold c83 zz
 refine Wp.aG (by simp only[go_sem,reduceIte,Nat.reduceEqDiff,Nat.reduceAdd,bx,aC];exact rfl) ag ?_
 refine Wp.seq ?_
 refine Wp.seqItems xA1 ?_
 refine ao.cd xA2 xAb (mT n hn) ?_
 refine ao.eval xA1 ?_
 refine ao.nil ⟨by trivial,?_⟩
 refine Wp.aG xA1 ag ?_
 refine Wp.bU (b:= !decide ((check n:Int)=0)) xA2 (fun hd=>?_) (fun hd=>?_)
 ·have h0:¬check n=0:=by intro h;rw[h] at hd;simp at hd
  refine Wp.aG xA1 ag ?_
  refine Wp.ret ⟨trivial,_,rfl,?_⟩
  simp only[go_sem,reduceIte,Nat.reduceEqDiff,Nat.reduceAdd,bx]
  rw[bj,if_neg h0]
  exact ay.tup (au.cons ay.nil (au.refl _))
 ·have h0:check n=0:=by simpa using hd
  obtain ⟨h1,h2⟩:=gT h0
  have hr:=fu h1
  obtain ⟨hk,hv,hi,htk,htv⟩:=hn
  have hks:n.keys.length≤1024:=by unfold size at h2;split at h2<;>omega
  refine Wp.skip ?_
  refine Wp.aG xA1 ag ?_
  refine Wp.pM [1] xA7 (fun tk=>[(5,.sl 1 (ar (head n)) (.own tk))]) ?_ fun tk m1=>?_
  ·refine Wp.aG xA1 ag ?_
   refine Wp.bU (b:=n.leaf) xA2 (fun hl=>?_) (fun hl=>?_)
   ·rw[hl]
    refine Wp.items (by simp only[go_sem,reduceIte,Nat.reduceEqDiff,Nat.reduceAdd,bx,Nat.mul_one,Nat.reduceLeDiff,Nat.reduceLT,true_and,and_self,if_true,decide_true];exact rfl) ?_
    refine ao.mF m ae xA4 ae (sP n.keys.length ab [76] af) fun t1 m1 _=>?_
    refine ao.eval xA1 ?_
    refine ao.nil ⟨by simp[bw,aV,apart,aT],?_⟩
    refine ⟨t1,m1,?_⟩
    refine aK.tm (by simp only[ba,go_sem,reduceIte,Nat.reduceEqDiff,Nat.reduceAdd,bx];and_intros<;>first|exact trivial|exact ay.refl _|exact ay.any _|exact ay.of_eq (by simp[head,hl])|(refine ay.int ?_;omega))
   ·rw[hl]
    have g0:=hr.kid hl 0 ab
    have g1:=hr.kids hl
    have g2:(0:Int)<(n.kids.length:Int):=by omega
    have g3:0<n.kids.length:=by omega
    refine Wp.items (by simp only[go_sem,reduceIte,Nat.reduceEqDiff,Nat.reduceAdd,bx,Nat.mul_one,Nat.reduceLeDiff,Nat.reduceLT,true_and,and_self,if_true,decide_true];exact rfl) ?_
    refine ao.mF m ae xA4 ae (sP n.keys.length ab [73] af) fun t1 m1 _=>?_
    refine ao.eval (by simp only[go_sem,reduceIte,Nat.reduceEqDiff,Nat.reduceAdd,bx,Int.toNat_zero,ra _ _ _ g3,g2,and_self,if_true,Int.le_refl];exact rfl) ?_
    refine ao.mF t1 ae (by simp only[go_sem,reduceIte,Nat.reduceEqDiff,List.map];exact au.cons (ay.refl _) (au.cons (ay.int ab) au.nil)) ae (xM (n.kids.getD 0 0).toNat ab ([73]++be 2 n.keys.length) (by simp[cm])) fun t2 m2 _=>?_
    refine ao.eval xA1 ?_
    refine ao.nil ⟨by simp[bw,aV,apart,aT],?_⟩
    refine ⟨t2,m2,?_⟩
    refine aK.tm (by simp only[ba,go_sem,reduceIte,Nat.reduceEqDiff,Nat.reduceAdd,bx];and_intros<;>first|exact trivial|exact ay.refl _|exact ay.any _|exact ay.of_eq (by simp[head,hl])|(refine ay.int ?_;omega))
  ·refine Wp.seq ?_
   refine Wp.aG xA1 ag ?_
   refine Wp.block ?_
   refine Wp.sB [1,35,36] xA7 (fun (j:Nat) tk=>[(5,.sl 1 (ar (head n++rows n j)) (.own tk)),(37,.int .i64 j)]) (fun j=>j≤n.keys.length) (fun j=>n.keys.length - j) 0 tk (Nat.zero_le _) rfl ?_ ?_
   ·simp only[ba,go_sem,reduceIte,Nat.reduceEqDiff,Nat.reduceAdd,bx,rows,List.append_nil];and_intros<;>first|exact trivial|exact ay.refl _|exact ay.any _|(refine ay.int ?_;omega)
   ·intro j tk m1 hj
    refine Wp.aG xA1 ag ?_
    refine Wp.seq ?_
    refine Wp.bU (b:=decide ((j:Int)<(n.keys.length:Int))) xA2 (fun hc=>?_) (fun hc=>?_)
    ·have h1:(0:Int)≤(j:Int):=by omega
     have h2':(j:Int)<(n.keys.length:Int):=by simpa using hc
     have h3:j<n.keys.length:=by omega
     have hz:=zH n hr j hj
     have hkl:=hr.keys j h3
     refine Wp.skip ?_
     refine Wp.pM [1,35,36,37] xA7 (fun tk=>[(5,.sl 1 (ar (head n++rows n (j+1))) (.own tk))]) ?_ fun tk m1=>?_
     ·refine Wp.block ?_
      refine Wp.aG (by simp only[go_sem,reduceIte,Nat.reduceEqDiff,Nat.reduceAdd,bx,Int.toNat_natCast,dH _ _ _ h3,h1,h2',and_self,if_true];exact rfl) ag ?_
      refine Wp.seqItems xA1 ?_
      refine ao.mF tk ae xA4 ae (Ff (n.keys.getD j []).length ab (head n++rows n j) ab) fun t1 m2 _=>?_
      have e1:(head n++rows n j++be 1 (n.keys.getD j []).length).length+(n.keys.getD j []).length≤140737488355328:=by rw[List.length_append,cm];omega
      have e2:(head n++rows n j++be 1 (n.keys.getD j []).length).length+(n.keys.getD j []).length<4611686018427387904:=by omega
      refine ao.eval (by simp only[go_sem,reduceIte,Nat.reduceEqDiff,Nat.reduceAdd,bx,Nat.mul_one,e1,e2,true_and,and_self,if_true,decide_true,true_or];exact rfl) ?_
      refine ao.nil ⟨by trivial,?_⟩
      refine Wp.aG xA1 ag ?_
      rw[←mU]
      refine Wp.bU (b:=n.leaf) xA2 (fun hl=>?_) (fun hl=>?_)
      ·have hvl:=hr.vals hl
       have h4:(j:Int)<(n.vals.length:Int):=by omega
       have h5:j<n.vals.length:=by omega
       have hvv:=hr.val hl j h3
       refine Wp.items (by simp only[go_sem,reduceIte,Nat.reduceEqDiff,Nat.reduceAdd,bx,Int.toNat_natCast,dH _ _ _ h5,h1,h4,and_self,if_true];exact rfl) ?_
       refine ao.mF m2 ae xA4 ae (sP (n.vals.getD j []).length ab (head n++rows n j++be 1 (n.keys.getD j []).length++n.keys.getD j []) (by rw[List.length_append,List.length_append,cm];omega)) fun t3 m3 _=>?_
       have e3:(head n++rows n j++be 1 (n.keys.getD j []).length++n.keys.getD j []++be 2 (n.vals.getD j []).length).length+(n.vals.getD j []).length≤140737488355328:=by rw[List.length_append,List.length_append,List.length_append,cm,cm];omega
       have e4:(head n++rows n j++be 1 (n.keys.getD j []).length++n.keys.getD j []++be 2 (n.vals.getD j []).length).length+(n.vals.getD j []).length<4611686018427387904:=by omega
       refine ao.eval (by simp only[go_sem,reduceIte,Nat.reduceEqDiff,Nat.reduceAdd,bx,Int.toNat_natCast,dH _ _ _ h5,h1,h4,Nat.mul_one,e3,e4,true_and,and_self,if_true,decide_true,true_or];exact rfl) ?_
       refine ao.nil ⟨by simp[bw,aV,apart,aT],?_⟩
       refine ⟨m3,m3+1,?_⟩
       refine aK.tm (by simp only[ba,go_sem,reduceIte,Nat.reduceEqDiff,Nat.reduceAdd,bx];and_intros<;>first|exact trivial|exact ay.refl _|exact ay.any _|exact ay.of_eq (by simp[rows,row,hl,ar])|(refine ay.int ?_;omega))
      ·have hkl':=hr.kids hl
       have hkk:=hr.kid hl (j+1) ab
       have hw:IntKind.i64.wrap ((j:Int)+1)=((j+1:Nat):Int):=by rw[IntWalk.i64_in _ ab];omega
       have h4:((j+1:Nat):Int)<(n.kids.length:Int):=by omega
       have h4a:(0:Int)≤((j+1:Nat):Int):=by omega
       have h5:j+1<n.kids.length:=by omega
       refine Wp.items (by simp only[go_sem,reduceIte,Nat.reduceEqDiff,Nat.reduceAdd,bx,hw,Int.toNat_natCast,ra _ _ _ h5,h4a,h4,and_self,if_true];exact rfl) ?_
       refine ao.mF m2 ae (by simp only[go_sem,reduceIte,Nat.reduceEqDiff,List.map];exact au.cons (ay.refl _) (au.cons (ay.int ab) au.nil)) ae (xM (n.kids.getD (j+1) 0).toNat ab (head n++rows n j++be 1 (n.keys.getD j []).length++n.keys.getD j []) (by rw[List.length_append,List.length_append,cm];omega)) fun t3 m3 _=>?_
       refine ao.eval xA1 ?_
       refine ao.nil ⟨by trivial,?_⟩
       refine ⟨t3,m3,?_⟩
       refine aK.tm (by simp only[ba,go_sem,reduceIte,Nat.reduceEqDiff,Nat.reduceAdd,bx];and_intros<;>first|exact trivial|exact ay.refl _|exact ay.any _|exact ay.of_eq (by simp[rows,row,hl])|(refine ay.int ?_;omega))
     ·refine Wp.lg (by simp only[go_sem,reduceIte,Nat.reduceEqDiff,Nat.reduceAdd,bx];simp (disch:=omega) only[IntWalk.i64_in];exact rfl) ag ?_
      refine ⟨j+1,tk,m1,ab,ab,?_⟩
      refine aK.tm (by simp only[ba,go_sem,reduceIte,Nat.reduceEqDiff,Nat.reduceAdd,bx];and_intros<;>first|exact trivial|exact ay.refl _|exact ay.any _|(refine ay.int ?_;omega))
    ·have hc':¬(j:Int)<(n.keys.length:Int):=by simpa using hc
     obtain rfl:j=n.keys.length:=by omega
     have htl:=kx n hr.vals
     have ht:head n++rows n n.keys.length=text n:=rfl
     rw[ht]
     refine Wp.exit ?_
     have hw:IntKind.i64.wrap (1024 - ((text n).length:Int))=((1024 - size n:Nat):Int):=by rw[IntWalk.i64_in _ ab];omega
     have g1:(0:Int)≤((1024 - size n:Nat):Int):=by omega
     have hrep:List.replicate (1024 - size n) (AV.int .u8 0)=ar (List.replicate (1024 - size n) 0):=by simp[ar,byte]
     have e1:(text n).length+(1024 - size n)≤140737488355328:=by omega
     have e2:(text n).length+(1024 - size n)<4611686018427387904:=by omega
     refine Wp.aG (by simp only[go_sem,reduceIte,Nat.reduceEqDiff,Nat.reduceAdd,bx,hw,g1,Int.toNat_natCast,Nat.mul_one,e1,e2,and_self,true_and,if_true,hrep,true_or,Nat.reduceLT,Nat.lt_add_one,Nat.zero_lt_one];exact rfl) ag ?_
     refine Wp.ret ⟨trivial,_,rfl,?_⟩
     simp only[go_sem,reduceIte,Nat.reduceEqDiff,Nat.reduceAdd,bx]
     rw[bj,if_pos h0,h0,←mU]
     exact ay.tup (au.cons ay.cap (au.refl _))
theorem pS (len:Nat) (hlen:len≤1152921504606846976) {g:FuncId} {fn:Func} (hf:Tryz.prog.funcs[g]? =some fn) (hb:fn.body.isSome=true) (hn:fn.name≠ "runtime.NumGoroutine") (caps:List AV) (objs:Nat→Option Av.Obj) (ids:List Nat) (hi:∀id,(objs id).isSome→id∈ids)
  (r:Nat) (hr:r≤len) (h0:∀i,i<r→jL Tryz.prog g (.int .i64 (i:Nat)::caps) objs (.bool false)) (h1:∀i,r≤i→i<len→jL Tryz.prog g (.int .i64 (i:Nat)::caps) objs (.bool true)):
  jL Tryz.prog 74 [.int .i64 len,.clo (.func g) [] caps] objs (.int .i64 r):=by
 refine f74.sC af fun n m=>?_
 unfold c74 zz
 refine Wp.aG xA1 ag ?_
 refine Wp.aG xA1 ag ?_
 refine Wp.seq ?_
 refine Wp.block ?_
 refine Wp.mE [1] xA6 (fun j:Nat × Nat=>[(5,.int .i64 j.1),(6,.int .i64 j.2)]) (fun j=>j.1≤r∧r≤j.2∧j.2≤len) (fun j=>j.2 - j.1) (0,len) ⟨Nat.zero_le _,hr,Nat.le_refl _⟩ ?_ ?_
 ·exact xSb
 ·rintro ⟨i,j⟩ ⟨a1,a2,a3⟩
  simp only at a1 a2 a3
  refine Wp.seq ?_
  refine Wp.aG xA1 ag ?_
  refine Wp.bU (b:=decide ((i:Int)<(j:Int))) xA2 (fun hc=>?_) (fun hc=>?_)
  ·have hc':(i:Int)<(j:Int):=by simpa using hc
   have e1:IntKind.i64.wrap ((i:Int)+(j:Int))=((i+j:Nat):Int):=by rw[IntWalk.i64_in _ ab];omega
   have e2:IntKind.u64.wrap ((i+j:Nat):Int)=((i+j:Nat):Int):=IntWalk.u64_in _ ab
   have e3:((i+j:Nat):Int).fdiv (2^(min (Int.toNat 1) 64))=(((i+j)/2:Nat):Int):=by
    rw[show min (Int.toNat 1) 64=1 from rfl,Int.fdiv_eq_ediv_of_nonneg _ ab]
    omega
   have e4:IntKind.i64.wrap (((i+j)/2:Nat):Int)=(((i+j)/2:Nat):Int):=IntWalk.i64_in _ ab
   have e5:¬(1:Int)<0:=by omega
   refine Wp.skip ?_
   refine Wp.block ?_
   refine Wp.aG (by simp only[go_sem,reduceIte,Nat.reduceEqDiff,Nat.reduceAdd,bx,e1,e2,IntKind.bits,e3,e4,e5];exact rfl) ag ?_
   refine Wp.seqItems xA1 ?_
   by_cases hh:(i+j)/2<r
   ·refine ao.Bu ids ae al hf hb hn xA4 (fun id o h=>h) hi (h0 _ hh) ?_
    refine ao.eval xA1 ?_
    refine ao.nil ⟨by trivial,?_⟩
    refine Wp.cond_true xA2 ?_
    refine Wp.lg (by simp only[go_sem,reduceIte,Nat.reduceEqDiff,Nat.reduceAdd,bx];simp (disch:=omega) only[IntWalk.i64_in];exact rfl) ag ?_
    refine ⟨((i+j)/2+1,j),⟨by simp only;omega,by simp only;omega,by simp only;omega⟩,by simp only;omega,?_⟩
    exact xSu
   ·refine ao.Bu ids ae al hf hb hn xA4 (fun id o h=>h) hi (h1 _ ab ab) ?_
    refine ao.eval xA1 ?_
    refine ao.nil ⟨by trivial,?_⟩
    refine Wp.cond_false xA2 ?_
    refine Wp.lg xA1 ag ?_
    refine ⟨(i,(i+j)/2),⟨by simp only;omega,by simp only;omega,by simp only;omega⟩,by simp only;omega,?_⟩
    exact xSu
  ·have hc':¬(i:Int)<(j:Int):=by simpa using hc
   obtain rfl:i=r:=by omega
   refine Wp.exit ?_
   refine Wp.aG xA1 ag ?_
   refine Wp.ret ⟨trivial,_,rfl,?_,rfl⟩
   simp only[go_sem,reduceIte,Nat.reduceEqDiff]
def dp (n:Node):List AV:=[.bool n.leaf,.sl 1 (strs n.keys) .any,.sl 1 (strs n.vals) .any,.sl 1 (ints n.kids) .any]
theorem xN (n:Node) (key:List UInt8) (i:Nat) (hi:i<n.keys.length) (objs:Nat→Option Av.Obj) (a b:Nat) (ha:objs a=some (.cells (dp n))) (hb:objs b=some (.cells [.str key])):
  jL Tryz.prog 75 [.int .i64 i,.ptr a 0,.ptr b 0] objs (.bool (!(Op.bytesLess (n.keys.getD i []) key||decide (n.keys.getD i []=key)))):=by
 refine f75.sC af fun k m=>?_
 unfold c75 zz
 unfold dp at ha
 have h1:(0:Int)≤(i:Int):=by omega
 have h2:(i:Int)<(n.keys.length:Int):=by omega
 refine Wp.aG xA1 ag ?_
 refine Wp.aG (xAd (cj7 ha hb @Int.toNat_natCast (fun d=>dH _ _ d hi) h1 h2 @and_self)) (by simp[bw,aV,apart,aT]) ?_
 refine Wp.ret ⟨trivial,_,rfl,?_,rfl⟩
 simp only[go_sem,reduceIte,Nat.reduceEqDiff]
theorem xO (n:Node) (key:List UInt8) (i:Nat) (hi:i<n.keys.length) (objs:Nat→Option Av.Obj) (a b:Nat) (ha:objs a=some (.cells (dp n))) (hb:objs b=some (.cells [.str key])):
  jL Tryz.prog 76 [.int .i64 i,.ptr a 0,.ptr b 0] objs (.bool (!Op.bytesLess (n.keys.getD i []) key)):=by
 refine f76.sC af fun k m=>?_
 unfold c76 zz
 unfold dp at ha
 have h1:(0:Int)≤(i:Int):=by omega
 have h2:(i:Int)<(n.keys.length:Int):=by omega
 refine Wp.aG xA1 ag ?_
 refine Wp.aG (xAd (cj7 ha hb @Int.toNat_natCast (fun d=>dH _ _ d hi) h1 h2 @and_self)) (by simp[bw,aV,apart,aT]) ?_
 refine Wp.ret ⟨trivial,_,rfl,?_,rfl⟩
 simp only[go_sem,reduceIte,Nat.reduceEqDiff]
theorem cN:∀a,Op.bytesLess a a=false
 |[]=>rfl
 |x::a=>by simp[Op.bytesLess,cN a,UInt8.lt_irrefl]
theorem dx:∀{a b c},Op.bytesLess a b=true→Op.bytesLess b c=true→Op.bytesLess a c=true
 |a,b,[],_,h=>by rw[dc] at h;cases h
 |a,[],c::cs,h,_=>by rw[dc] at h;cases h
 |[],b::bs,c::cs,_,_=>rfl
 |a::x,b::y,c::z,h1,h2=>by
  simp only[Op.bytesLess,Bool.or_eq_true,decide_eq_true_eq,Bool.and_eq_true,beq_iff_eq] at h1 h2 ⊢
  rcases h1 with h1|⟨rfl,h1⟩
  ·rcases h2 with h2|⟨rfl,h2⟩
   ·exact .inl (UInt8.lt_trans h1 h2)
   ·exact .inl h1
  ·rcases h2 with h2|⟨rfl,h2⟩
   ·exact .inl h2
   ·exact .inr ⟨rfl,dx h1 h2⟩
theorem dy:∀a b,Op.bytesLess a b=true∨a=b∨Op.bytesLess b a=true
 |[],[]=> .inr (.inl rfl)
 |[],_::_=> .inl rfl
 |_::_,[]=> .inr (.inr rfl)
 |x::a,y::b=>by
  simp only[Op.bytesLess,Bool.or_eq_true,decide_eq_true_eq,Bool.and_eq_true,beq_iff_eq,List.cons.injEq]
  rcases Nat.lt_trichotomy x.toNat y.toNat with h|h|h
  ·exact .inl (.inl (UInt8.lt_iff_toNat_lt.2 h))
  ·have:=UInt8.toNat_inj.1 h
   subst this
   rcases dy a b with h|h|h
   ·exact .inl (.inr ⟨rfl,h⟩)
   ·exact .inr (.inl ⟨rfl,h⟩)
   ·exact .inr (.inr (.inr ⟨rfl,h⟩))
  ·exact .inr (.inr (.inl (UInt8.lt_iff_toNat_lt.2 h)))
theorem gU {a b} (h:Op.bytesLess a b=true):Op.bytesLess b a=false:=by
 cases h':Op.bytesLess b a
 ·rfl
 ·have:=dx h h'
  rw[cN] at this;cases this
theorem rising {l:List (List UInt8)} (h:gx l=true) {i:Nat}:∀{j},i<j→j<l.length→Op.bytesLess (l.getD i []) (l.getD j [])=true
 |j+1,hij,hj=>by
  have h1:=nP h hj
  simp only[gS,Nat.add_sub_cancel,Bool.and_eq_true,Bool.or_eq_true,decide_eq_true_eq] at h1
  have h2:Op.bytesLess (l.getD j []) (l.getD (j+1) [])=true:=by
   rcases h1.2 with h|h
   ·omega
   ·exact h
  by_cases he:i=j
  ·subst he;exact h2
  ·exact dx (rising h (j:=j) ab ab) h2
def least (key k:List UInt8):Bool:= !Op.bytesLess k key
def iH (key k:List UInt8):Bool:= !(Op.bytesLess k key||decide (k=key))
def place (n:Node) (key:List UInt8):Nat:=if n.leaf then n.keys.findIdx (least key) else n.keys.findIdx (iH key)
def found (n:Node) (key:List UInt8):Bool:=n.leaf&&decide (place n key<n.keys.length)&&decide (n.keys.getD (place n key) []=key)
theorem findIdx_le (p:List UInt8→Bool) (l:List (List UInt8)):l.findIdx p≤l.length:=List.findIdx_le_length
theorem jQ {p:List UInt8→Bool} {l:List (List UInt8)} {i:Nat} (h:i<l.findIdx p):p (l.getD i [])=false:=by
 have hl:i<l.length:=Nat.lt_of_lt_of_le h (findIdx_le p l)
 have:=List.not_of_lt_findIdx h
 rw[List.getD_eq_getElem?_getD,List.getElem?_eq_getElem hl]
 simpa using this
theorem pT {p:List UInt8→Bool} {l:List (List UInt8)} (mono:∀i j,i<j→j<l.length→p (l.getD i [])=true→p (l.getD j [])=true) {i:Nat} (h:l.findIdx p≤i) (hi:i<l.length):p (l.getD i [])=true:=by
 have hl:l.findIdx p<l.length:=by omega
 have h0:p (l.getD (l.findIdx p) [])=true:=by
  rw[List.getD_eq_getElem?_getD,List.getElem?_eq_getElem hl]
  simpa using List.findIdx_getElem (w:=hl)
 by_cases he:i=l.findIdx p
 ·rw[he];exact h0
 ·exact mono _ _ ab hi h0
theorem wy {l:List (List UInt8)} (h:gx l=true) (key:List UInt8) (i j:Nat) (hij:i<j) (hj:j<l.length) (hp:least key (l.getD i [])=true):least key (l.getD j [])=true:=by
 have hr:=rising h hij hj
 unfold least at hp ⊢
 cases hx:Op.bytesLess (l.getD j []) key
 ·rfl
 ·rw[dx hr hx] at hp;cases hp
theorem pU {l:List (List UInt8)} (h:gx l=true) (key:List UInt8) (i j:Nat) (hij:i<j) (hj:j<l.length) (hp:iH key (l.getD i [])=true):iH key (l.getD j [])=true:=by
 have hr:=rising h hij hj
 unfold iH at hp ⊢
 cases hx:Op.bytesLess (l.getD j []) key
 ·by_cases he:l.getD j []=key
  ·rw[he] at hr;rw[hr] at hp;cases hp
  ·rw[decide_eq_false he];rfl
 ·rw[dx hr hx] at hp;cases hp
theorem o8 {k:Nat} {x y:Av.Obj}:∀id,(upd (upd aB k (some x)) (k+1) (some y) id).isSome→id∈[k,k+1]:=by
 intro id h
 simp only[upd] at h
 split at h
 ·simp;omega
 ·split at h
  ·simp;omega
  ·simp[aB] at h
def dR (n:Node) (key:List UInt8):Nat:=if right n then place n key else 0
def bE (n:Node) (key:List UInt8):Bool:=right n&&found n key
theorem nQ (n:Node) (hn:Nb n) (key:List UInt8):bc Tryz.prog 42 [aC n,.str key] (.tup [.int .i64 (dR n key),.bool (bE n key)]):=by
 refine f42.fD af (bN _ (by simp[aU,cW,bq])) (cD _ rfl) fun k m=>?_
 unfold c42 zz
 refine Wp.aG (xAe @aC.eq_1) ag ?_
 refine Wp.seq ?_
 refine Wp.seqItems xA1 ?_
 refine ao.cd xA2 xAb (fg n hn) ?_
 refine ao.eval xA1 ?_
 refine ao.nil ⟨by trivial,?_⟩
 refine Wp.bU (b:= !right n) xA2 (fun hd=>?_) (fun hd=>?_)
 ·have hr:right n=false:=by simpa using hd
  refine Wp.aG xA1 ag ?_
  refine cL ?_
  simp only[dR,bE,hr,Bool.false_eq_true,if_false,Bool.false_and]
  exact ay.refl _
 ·have hr:right n=true:=by simpa using hd
  have hk:gx n.keys=true:=by rw[right,Bool.and_eq_true] at hr;exact hr.1
  simp only[dR,bE,hr,if_true,Bool.true_and]
  refine Wp.skip ?_
  refine Wp.seq ?_
  refine Wp.aG xA1 ag ?_
  refine Wp.bU (b:= !n.leaf) xA2 (fun hl=>?_) (fun hl=>?_)
  ·have hl':n.leaf=false:=by simpa using hl
   refine Wp.seqItems xA1 ?_
   refine ao.Bt [k,k+1] ae xA4 (fun id o h=>h) o8 (pS n.keys.length (by have:=hn.k;omega) Tryz.func75 rfl (of_decide_eq_true (by kernel_rfl)) [.ptr k 0,.ptr (k+1) 0] _ [k,k+1] o8 (n.keys.findIdx (iH key)) (findIdx_le _ _)
    (fun i hi=>by have:=xN n key i (Nat.lt_of_lt_of_le hi (findIdx_le _ _)) (upd (upd aB k (some (.cells (dp n)))) (k+1) (some (.cells [.str key]))) k (k+1) (by simp[upd]) (by simp[upd]);have h2:=jQ hi;unfold iH at h2;rw[h2] at this;exact this)
    (fun i h1 hi=>by have:=xN n key i hi (upd (upd aB k (some (.cells (dp n)))) (k+1) (some (.cells [.str key]))) k (k+1) (by simp[upd]) (by simp[upd]);have h2:=pT (pU hk key) h1 hi;unfold iH at h2;rw[h2] at this;exact this)) ?_
   refine ao.eval xA1 ?_
   refine ao.nil ⟨by trivial,?_⟩
   refine cL ?_
   simp only[place,found,hl',Bool.false_eq_true,if_false,Bool.false_and]
   exact ay.refl _
  ·have hl':n.leaf=true:=by simpa using hl
   have hfl:=findIdx_le (least key) n.keys
   refine Wp.skip ?_
   refine Wp.seqItems xA1 ?_
   refine ao.Bt [k,k+1] ae xA4 (fun id o h=>h) o8 (pS n.keys.length (by have:=hn.k;omega) Tryz.func76 rfl (of_decide_eq_true (by kernel_rfl)) [.ptr k 0,.ptr (k+1) 0] _ [k,k+1] o8 (n.keys.findIdx (least key)) hfl
    (fun i hi=>by have:=xO n key i (Nat.lt_of_lt_of_le hi (findIdx_le _ _)) (upd (upd aB k (some (.cells (dp n)))) (k+1) (some (.cells [.str key]))) k (k+1) (by simp[upd]) (by simp[upd]);have h2:=jQ hi;unfold least at h2;rw[h2] at this;exact this)
    (fun i h1 hi=>by have:=xO n key i hi (upd (upd aB k (some (.cells (dp n)))) (k+1) (some (.cells [.str key]))) k (k+1) (by simp[upd]) (by simp[upd]);have h2:=pT (wy hk key) h1 hi;unfold least at h2;rw[h2] at this;exact this)) ?_
   refine ao.eval xA1 ?_
   refine ao.nil ⟨by trivial,?_⟩
   have hp:place n key=n.keys.findIdx (least key):=by simp only[place,hl',if_true]
   rw[←hp] at hfl ⊢
   by_cases hlt:place n key<n.keys.length
   ·have h1:decide ((place n key:Int)<(n.keys.length:Int))=true:=decide_eq_true ab
    have h2:(0:Int)≤(place n key:Int):=by omega
    have h3:(place n key:Int)<(n.keys.length:Int):=by omega
    refine Wp.aG (xAd (cj6 h1 @Int.toNat_natCast (fun d=>dH _ _ d hlt) h2 h3 @and_self)) (by simp[bw,aV,apart,aT]) ?_
    refine cL ?_
    refine ay.of_eq ?_
    simp[found,hl',hlt]
   ·have h1:decide ((place n key:Int)<(n.keys.length:Int))=false:=decide_eq_false ab
    refine Wp.aG (xAe h1) (by simp[bw,aV,apart,aT]) ?_
    refine cL ?_
    refine ay.of_eq ?_
    simp[found,hl',hlt]
theorem rC (l:List (List UInt8)) (k:Nat):(strs l).take k=strs (l.take k):=by simp[strs]
theorem rD (l:List (List UInt8)) (k:Nat):(strs l).drop k=strs (l.drop k):=by simp[strs]
theorem zJ (l:List Int) (k:Nat):(ints l).take k=ints (l.take k):=by simp[ints]
theorem zK (l:List Int) (k:Nat):(ints l).drop k=ints (l.drop k):=by simp[ints]
theorem pV (l:List (List UInt8)) (hl:l.length≤4398046511104):bc Tryz.prog 116 [.sl 1 (strs l) .any] (.sl 1 (strs l) .any):=
 rh f116 _ (gG l) (by rw[da];omega) (by rw[da];omega)
theorem BR (l:List Int) (hl:l.length≤4398046511104):bc Tryz.prog 160 [.sl 1 (ints l) .any] (.sl 1 (ints l) .any):=
 rh f160 _ (q9 l) (by rw[kq];omega) (by rw[kq];omega)
def part (n:Node) (a b:Nat):Node:=⟨n.leaf,(n.keys.take b).drop a,if n.leaf then (n.vals.take b).drop a else [],if n.leaf then [] else (n.kids.take (b+1)).drop a⟩
structure Ns (n:Node):Prop where
 k:n.keys.length≤1000
 v:n.vals.length≤1000
 i:n.kids.length≤1001
theorem wz (n:Node) (hs:Ns n) (a b:Nat) (hab:a≤b) (hb:b≤n.keys.length) (hl:n.leaf=true→b≤n.vals.length) (hi:n.leaf=false→b+1≤n.kids.length):bc Tryz.prog 148 [aC n,.int .i64 a,.int .i64 b] (aC (part n a b)):=by
 refine f148.dB af (by simp[aU,cW,bq]) (cW _) ?_
 obtain ⟨sk,sv,si⟩:=hs
 unfold Gs zz
 have h0:(0:Int)≤(a:Int):=by omega
 have h1:(0:Int)≤(b:Int):=by omega
 have h2:(a:Int)≤(b:Int):=by omega
 have h3:(b:Int)≤(n.keys.length:Int):=by omega
 refine Wp.aG (xAe @aC.eq_1) ag ?_
 refine Wp.seqItems (xAd (cj9 @Int.toNat_natCast h0 h1 h2 h3 @and_self @true_or @rC @rD)) ?_
 refine ao.cd xA2 (by simp only[go_sem,reduceIte,Nat.reduceEqDiff,Nat.reduceAdd,bx,List.map];exact au.cons ay.cap au.nil) (pV ((n.keys.take b).drop a) ak) ?_
 refine ao.eval xA1 ?_
 refine ao.nil ⟨by simp[bw,aV,apart,aT],?_⟩
 refine Wp.seq ?_
 cases hlf:n.leaf with
 |true=>
  have h4:(b:Int)≤(n.vals.length:Int):=by have:=hl hlf;omega
  refine Wp.aG xA1 ag ?_
  refine Wp.cond_true (by simp only[go_sem,reduceIte,Nat.reduceEqDiff,Nat.reduceAdd,bx,hlf]) ?_
  refine Wp.items (xAd (mN @Int.toNat_natCast h0 h1 h2 h3 h4 @and_self @true_or @rC @rD)) ?_
  refine ao.cd xA2 (by simp only[go_sem,reduceIte,Nat.reduceEqDiff,Nat.reduceAdd,bx,List.map];exact au.cons ay.cap au.nil) (pV ((n.vals.take b).drop a) ak) ?_
  refine ao.eval xA1 ?_
  refine ao.nil ⟨by simp[bw,aV,apart,aT],?_⟩
  refine Wp.aG xA1 ag ?_
  refine cL ?_
  simp only[part,aC,hlf,if_true]
  exact ay.agg (au.cons (ay.refl _) (au.cons (ay.refl _) (au.cons (ay.refl _) (au.cons ay.cap au.nil))))
 |false=>
  have h4:((b+1:Nat):Int)≤(n.kids.length:Int):=by have:=hi hlf;omega
  have h5:(0:Int)≤((b+1:Nat):Int):=by omega
  have h6:(a:Int)≤((b+1:Nat):Int):=by omega
  have e1:IntKind.i64.wrap ((b:Int)+1)=((b+1:Nat):Int):=by rw[IntWalk.i64_in _ ab];omega
  refine Wp.aG xA1 ag ?_
  refine Wp.cond_false (by simp only[go_sem,reduceIte,Nat.reduceEqDiff,Nat.reduceAdd,bx,hlf]) ?_
  refine Wp.items (xAd (cT e1 @Int.toNat_natCast h0 h1 h2 h3 h4 h5 h6 @and_self @true_or (cj2 @zJ @zK))) ?_
  refine ao.cd xA2 (by simp only[go_sem,reduceIte,Nat.reduceEqDiff,Nat.reduceAdd,bx,List.map];exact au.cons ay.cap au.nil) (BR ((n.kids.take (b+1)).drop a) ak) ?_
  refine ao.eval xA1 ?_
  refine ao.nil ⟨by simp[bw,aV,apart,aT],?_⟩
  refine Wp.aG xA1 ag ?_
  refine cL ?_
  simp only[part,aC,hlf,if_false,Bool.false_eq_true]
  exact ay.agg (au.cons (ay.refl _) (au.cons (ay.refl _) (au.cons ay.cap (au.cons (ay.refl _) au.nil))))
def bet (n:Node):Nat:=if n.leaf then 0 else 1
def most (n:Node):Nat:=n.keys.length - 1 - bet n
def fits (n:Node) (i:Nat):Bool:=decide (size n/2≤size (part n 0 (1+i)))
def cut (n:Node):Nat:=1+(List.range (most n - 1)).findIdx (fits n)
def splits (n:Node):Bool:=right n&&decide (1≤most n)
theorem BS (n:Node):bet n≤1:=by unfold bet;split<;>omega
theorem pW {n:Node} (h:1≤most n):1≤cut n∧cut n≤most n:=by
 have:(List.range (most n - 1)).findIdx (fits n)≤(List.range (most n - 1)).length:=List.findIdx_le_length
 rw[List.length_range] at this
 unfold cut;omega
theorem lY {n:Node} {i:Nat} (h:1+i<cut n):fits n i=false:=by
 unfold cut at h
 have h':i<(List.range (most n - 1)).findIdx (fits n):=by omega
 have hl:(List.range (most n - 1)).findIdx (fits n)≤(List.range (most n - 1)).length:=List.findIdx_le_length
 have:=List.not_of_lt_findIdx h'
 simpa using this
theorem wA {n:Node} (h:cut n<most n):fits n (cut n - 1)=true:=by
 unfold cut at h ⊢
 have hl:(List.range (most n - 1)).findIdx (fits n)<(List.range (most n - 1)).length:=by rw[List.length_range];omega
 have:=List.findIdx_getElem (w:=hl)
 simpa using this
theorem lz (l:List (List UInt8)) {a b:Nat} (h:a≤b):tot (l.take a)≤tot (l.take b):=by
 have:=gR (l.take b) a
 rw[List.take_take,Nat.min_eq_left h] at this
 exact this
theorem eH (n:Node) (k:Nat) (hk:k≤n.keys.length):size (part n 0 k)=if n.leaf then 3+3*k+tot (n.keys.take k)+tot (n.vals.take k) else 7+5*k+tot (n.keys.take k):=by
 unfold size part
 simp only[List.drop_zero]
 split<;>simp<;>omega
theorem zM {n:Node} {i j:Nat} (h:i≤j) (hj:1+j≤n.keys.length) (hf:fits n i=true):fits n j=true:=by
 simp only[fits,decide_eq_true_eq] at hf ⊢
 rw[eH n _ ab] at hf
 rw[eH n _ hj]
 have h1:=lz n.keys (show 1+i≤1+j by omega)
 have h2:=lz n.vals (show 1+i≤1+j by omega)
 split<;>rename_i hl<;>simp only[hl,if_true,if_false,Bool.false_eq_true] at hf<;>omega
theorem pX (l:List (List UInt8)) (k:Nat):tot (l.drop k)≤tot l:=by
 have:l=l.take k++l.drop k:=by simp
 conv=>rhs;rw[this]
 simp only[tot,List.map_append,List.sum_append];omega
theorem DQ {n:Node} (hn:Nb n) (a b:Nat):Nb (part n a b):=by
 have h1:=gR n.keys b
 have h2:=pX (n.keys.take b) a
 have h3:=gR n.vals b
 have h4:=pX (n.vals.take b) a
 have:=hn.k;have:=hn.v;have:=hn.i;have:=hn.tk;have:=hn.tv
 refine ⟨?_,?_,?_,?_,?_⟩
 ·simp[part];omega
 ·simp only[part];split<;>simp<;>omega
 ·simp only[part];split<;>simp<;>omega
 ·simp only[part];omega
 ·simp only[part];split
  ·omega
  ·simp[tot]
theorem size_le {n:Node} (hn:Nb n):size n≤4611686018427387904:=by
 have:=hn.k;have:=hn.tk;have:=hn.tv
 unfold size;split<;>omega
theorem ay.bn {b:Bool} {ks vs:List (List UInt8)} {is:List Int} {c1 c2 c3:Cap}:ay (.agg [.bool b,.sl 1 (strs ks) c1,.sl 1 (strs vs) c2,.sl 1 (ints is) c3]) (aC ⟨b,ks,vs,is⟩):=
 ay.agg (au.cons (ay.refl _) (au.cons ay.cap (au.cons ay.cap (au.cons ay.cap au.nil))))
theorem ay.lA:ay (.agg [.bool false,.sl 1 [] (.exact 0),.sl 1 [] (.exact 0),.sl 1 [] (.exact 0)]) (aC ⟨false,[],[],[]⟩):=ay.agg (au.cons (ay.refl _) (au.cons ay.cap (au.cons ay.cap (au.cons ay.cap au.nil))))
structure Split where
 l:Node
 k:List UInt8
 r:Node
 ok:Bool
def lA:Node:=⟨false,[],[],[]⟩
def split (n:Node):Split:=if splits n then ⟨part n 0 (cut n),n.keys.getD (cut n) [],part n (cut n+bet n) n.keys.length,true⟩ else ⟨lA,[],lA,false⟩
def ky (s:Split):AV:= .tup [aC s.l,.str s.k,aC s.r,.bool s.ok]
theorem qJ (s:Split):bq (ky s)=true:=by simp[ky,bq,aU,cW]
theorem BT (n:Node) (hn:Nb n) (hs:Ns n) (i:Nat) (hi:1+i≤n.keys.length) (hl:n.leaf=true→1+i≤n.vals.length) (hk:n.leaf=false→1+i+1≤n.kids.length) (objs:Nat→Option Av.Obj) (a b:Nat) (hab:a≠b) (ha:objs a=some (.cells (dp n))) (hb:objs b=some (.cells [.int .i64 (size n/2:Nat)])):
  jL Tryz.prog 147 [.int .i64 i,.ptr a 0,.ptr b 0] objs (.bool (fits n i)):=by
 refine f147.sC af fun k m=>?_
 have e1:IntKind.i64.wrap (1+(i:Int))=((1+i:Nat):Int):=by have:=hs.k;rw[IntWalk.i64_in _ ab];omega
 have e2:decide (((size n/2:Nat):Int)≤((size (part n 0 (1+i)):Nat):Int))=fits n i:=by
  unfold fits;exact decide_eq_decide.2 ab
 unfold Gr zz
 unfold dp at ha
 refine Wp.aG xA1 ag ?_
 refine Wp.seqItems (xAe (cj2 ha e1)) ?_
 refine ao.cd xA2 xAb (wz n hs 0 (1+i) (Nat.zero_le _) hi hl hk) ?_
 refine ao.eval xA1 ?_
 refine ao.cd xA2 xAb (lW _ (DQ hn 0 (1+i))) ?_
 refine ao.eval (xAe (cj2 hb e2)) ?_
 refine ao.nil ⟨by simp[bw,aV,apart,aT,hab],?_⟩
 refine Wp.ret ⟨trivial,_,rfl,?_,rfl⟩
 simp only[go_sem,reduceIte,Nat.reduceEqDiff]
theorem BU (n:Node) (hs:Ns n):IntKind.i64.wrap (IntKind.i64.wrap ((n.keys.length:Int) - 1) - (bet n:Int))=(n.keys.length:Int) - 1 - (bet n:Int):=by
 have:=hs.k;have:=BS n
 rw[IntWalk.i64_in ((n.keys.length:Int) - 1) ab,IntWalk.i64_in _ ab]
end Go.Proofs.YtbgmofhgfnmaiaaGreat.Page
end
section
set_option maxRecDepth 100000
namespace Go.Proofs.YtbgmofhgfnmaiaaGreat.Page
open Go Go.Av Go.Proofs Go.Proofs.YtbgmofhgfnmaiaaGreat.C
end Go.Proofs.YtbgmofhgfnmaiaaGreat.Page
end
