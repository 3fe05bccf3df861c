/- Parts of a proof: a layer of abstract values over the model, the functions' walks, plain laws. -/
import Derived.Deep.CondSized
import Derived.Defers
import Derived.IntWalk
import Derived.KernelRfl
import Derived.Laws.Append
import Derived.Laws.AppendOwn
import Derived.Laws.BytesArg
import Derived.Laws.ComplexArith
import Derived.Laws.Cover3
import Derived.Laws.Entries
import Derived.Laws.IdiomCopy
import Derived.Laws.IdiomStrings
import Derived.Laws.Pointers
import Derived.Laws.Small
import Derived.Laws.Strings
import Derived.Laws.StructEq
import Derived.MapKept
import Derived.OpenShut
import Derived.Orders
import Derived.OrdersIn
import Derived.ProofKit
import Derived.RangeFuncRecord
import Derived.RangeFuncSeq
import Derived.ReadAgain
import Derived.Recover
import Derived.Scope
import Derived.Shelf.Slices.Cells
import Derived.Shelf.Slices.Clone
import Derived.Shelf.Slices.Delete
import Derived.Shelf.Spec.SlicesInsertGrow
import Derived.SizedLaws
import Derived.Tactics
import Derived.Tactics2
import Derived.Test.YtbgmofhgfnmaiaaGreatProg
import Derived.Test.YtbgmofhgfnmaiaaGreatRows
import Derived.WalkSmall
import Derived.Test.YtbgmofhgfnmaiaaGreatZElC
set_option linter.unusedSimpArgs false
set_option linter.unusedVariables false
section
set_option maxRecDepth 10000
namespace Go.Proofs.YtbgmofhgfnmaiaaGreat.Page
open Go Go.Av Go.Proofs Go.Proofs.YtbgmofhgfnmaiaaGreat.C
def sv (l:List (List UInt8)):List Value:=l.map fun s=> .string ⟨s.toArray⟩
theorem gH (l:List (List UInt8)):(sv l).length=l.length:=by simp[sv]
theorem BW {G:aM} {w:World}:∀{l:List (List UInt8)} {vs:List Value},aA G w (strs l) vs→vs=sv l
 |[],vs,h=>by simpa [strs,aA,sv] using h
 |s::l,vs,h=>by
  simp only[strs,List.map_cons,aA,aw] at h
  obtain ⟨v,us,rfl,rfl,h⟩:=h
  rw[BW (l:=l) h]
  rfl
theorem mM (l:List (List UInt8)) (G:aM) (w:World):aH G w 1 (strs l) (sv l):=by
 induction l with
 |nil=>simp[strs,sv,aH]
 |cons s l ih=>
  simp only[strs,sv,List.map_cons,aH]
  exact ⟨.string ⟨s.toArray⟩,sv l,rfl,rfl,by simp[aw],ih⟩
theorem sU {l:List (List UInt8)} {v:Value} (h:v∈sv l):One v:=by
 obtain ⟨s,_,rfl⟩:=List.mem_map.1 h
 exact ⟨(fun _ e=>by cases e),(fun _ e=>by cases e)⟩
theorem xN {l:List (List UInt8)} {v:Value} (h:v∈sv l):v.oneCell'=true:=by
 obtain ⟨s,_,rfl⟩:=List.mem_map.1 h
 rfl
theorem cell_of {w:World} {B:Nat} {T:TypeId} {fr:Nat × Nat} {L R:List Value} (hg:w.heap[B]? =some (.cells (L++R).toArray T fr)) (j:Nat) (v:Value) (h:L[j]? =some v):w.cell? ⟨B,0+j,none⟩=some v:=by
 have hj:=(List.getElem?_eq_some_iff.1 h).1
 unfold World.cell?
 simp only[hg,Nat.zero_add]
 simpa [List.getElem?_append_left hj] using h
theorem kO (l:List (List UInt8)) (i:Nat) (x:List UInt8):sv (l.take i++x::l.drop i)=(sv l).take i++ .string ⟨x.toArray⟩::(sv l).drop i:=by simp[sv]
theorem xO {A R:List Value} {X:Value} {n:Nat} (hn:A.length=n):(A++R).take (0+n)++[X]++(A++R).drop (0+n+1)=A.take n++X::A.drop n++R.drop 1:=by
 subst hn
 rw[Nat.zero_add,List.take_left,List.take_length,List.drop_length,List.drop_append,List.drop_eq_nil_of_le ab]
 simp
theorem xP {A R:List Value} {X:Value} {n i:Nat} (hn:A.length=n) (hi:i<n):
  ((A++R).take (0+(i+1))++A.drop i++(A++R).drop (0+(i+1)+(A.drop i).length)).take (0+i)++[X]++((A++R).take (0+(i+1))++A.drop i++(A++R).drop (0+(i+1)+(A.drop i).length)).drop (0+i+1)=A.take i++X::A.drop i++(A++R).drop (n+1):=by
 subst hn
 have e2:((A++R).take (i+1)).length=i+1:=by simp;omega
 have e1:((A++R).take (i+1)).take i=A.take i:=by
  rw[List.take_take,Nat.min_eq_left ab,List.take_append_of_le_length ab]
 have e3:i+1+(A.drop i).length=A.length+1:=by simp;omega
 rw[Nat.zero_add,Nat.zero_add,e3]
 have c1:((A++R).take (i+1)++A.drop i++(A++R).drop (A.length+1)).take i=A.take i:=by
  rw[List.append_assoc,List.take_append_of_le_length ab,e1]
 have c2:((A++R).take (i+1)++A.drop i++(A++R).drop (A.length+1)).drop (i+1)=A.drop i++(A++R).drop (A.length+1):=by
  rw[List.append_assoc,List.drop_append,e2,List.drop_eq_nil_of_le ab,Nat.sub_self,List.drop_zero,List.nil_append]
 rw[c1,c2]
 simp
theorem uw {A Z:List Value} {X:Value} {n i:Nat} (hn:A.length=n) (hi:i<n):
  ((A.take i++Z).take i++[X]++(A.take i++Z).drop (i+1)).take (i+1)++A.drop i++((A.take i++Z).take i++[X]++(A.take i++Z).drop (i+1)).drop (i+1+(A.drop i).length)=A.take i++X::A.drop i++((A.take i++Z).take i++[X]++(A.take i++Z).drop (i+1)).drop (i+1+(A.drop i).length):=by
 subst hn
 have e2:(A.take i).length=i:=by simp;omega
 have e1:(A.take i++Z).take i=A.take i:=by
  rw[List.take_append_of_le_length ab,List.take_take,Nat.min_self]
 have e4:((A.take i++Z).take i++[X]++(A.take i++Z).drop (i+1)).take (i+1)=A.take i++[X]:=by
  rw[e1,List.take_append_of_le_length ak,List.take_of_length_le ak]
 rw[e4]
 simp
theorem ux (l:List (List UInt8)) (i:Nat) (x:List UInt8) (hi:i≤l.length) (hl:l.length<1099511627776) (h0:0<l.length) {id id2:Nat} (hne:id≠id2) {h:H} (ho:h.objs id=some (.cells (strs l))) (ho2:h.objs id2=some (.cells [.str x])) (htk:h.toks=[]):
  aJ Tryz.prog 88 [.tsl 1 id 0 l.length none,.int .i64 i,.tsl 1 id2 0 1 none] h (.sl 1 (strs (l.take i++x::l.drop i)) .any) (h.less id):=by
 intro G w vs hv R F
 simp only[aA,aw] at hv
 obtain ⟨v1,_,rfl,⟨hd1,hv1⟩,v2,_,rfl,rfl,v3,_,rfl,⟨hd2,hv3⟩,rfl⟩:=hv
 obtain ⟨C,c,T,fr,rfl,⟨hnC,hc63⟩,-,hg,hroom⟩|⟨hz,-⟩:=hv1
 rotate_left
 ·omega
 obtain ⟨C2,c2,T2,fr2,rfl,⟨hnC2,-⟩,-,hg2,hroom2⟩|⟨hz,-⟩:=hv3
 rotate_left
 ·omega
 obtain ⟨-,hown,hB,us,rest,T',fr',hg',hvs,hfr,-⟩:=R.obj id _ ho
 obtain ⟨-,hown2,hB2,us2,rest2,T2',fr2',hg2',hvs2,hfr2,-⟩:=R.obj id2 _ ho2
 have hus:=BW hvs
 subst hus
 have hus2:us2=[.string ⟨x.toArray⟩]:=by
  simp only[aA,aw] at hvs2
  obtain ⟨v,_,rfl,rfl,rfl⟩:=hvs2
  rfl
 subst hus2
 have hbb:G.ι id2≠G.ι id:=fun e=>hne (R.inj _ _ _ _ ho ho2 e.symm)
 rw[hg] at hg'
 obtain ⟨rfl,rfl,rfl⟩:c=(sv l++rest).toArray∧T=T'∧fr=fr':=by simpa using hg'
 rw[hg2] at hg2'
 obtain ⟨rfl,rfl,rfl⟩:c2=([Value.string ⟨x.toArray⟩]++rest2).toArray∧T2=T2'∧fr2=fr2':=by simpa using hg2'
 have hsl:=gH l
 have hrl:C≤l.length+rest.length:=by simpa [hsl] using hroom
 have hcs:∀(j:Nat) v,(sv l)[j]? =some v→w.cell? ⟨G.ι id,0+j,none⟩=some v:=fun j v=>cell_of hg j v
 have hvs':∀(j:Nat) v,([Value.string ⟨x.toArray⟩]:List Value)[j]? =some v→w.cell? ⟨G.ι id2,0+j,none⟩=some v:=fun j v=>cell_of hg2 j v
 have h1v:∀v∈([Value.string ⟨x.toArray⟩]:List Value),v.oneCell'=true:=by simp[Value.oneCell']
 have hsome:∀j,j<C→(w.cell? ⟨G.ι id,0+j,none⟩).isSome=true:=fun j hj=>by
  unfold World.cell?;simp only[hg];simp[hsl];omega
 have hfz:∀j,w.frozen? ⟨G.ι id,j,none⟩=false:=fun j=>by
  unfold World.frozen?;simp only[hg]
  have:=hfr
  simp;omega
 have hfz2:∀j,w.frozen? ⟨G.ι id2,j,none⟩=false:=fun j=>by
  unfold World.frozen?;simp only[hg2]
  have:=hfr2
  simp;omega
 have hout:(strs (l.take i++x::l.drop i)).length=l.length+1:=by simp[strs];omega
 have hso:(sv (l.take i++x::l.drop i)).length=l.length+1:=by rw[gH];simp;omega
 have newb:∀(w':World) (L2:List Value) (T0:TypeId) (C0:Nat),l.length+1≤C0→w'.heap[w.heap.size]? =some (.cells (sv (l.take i++x::l.drop i)++L2).toArray T0 (0,0))→w.heap.size≤w'.heap.size→w'.os=w.os→w'.output=w.output→(∀b,b<w.heap.size→w'.heap[b]? =w.heap[b]?)→
   ∃v G',Ending.returned (.slice (some ⟨w.heap.size,0,none⟩) (l.length+1) C0)= .returned v∧Trans G w h G' w' (h.less id)∧aX G' (h.less id) w'∧aw G' w' (.sl 1 (strs (l.take i++x::l.drop i)) .any) v:=by
  intro w' L2 T0 C0 q1 q2 q3 q4 q5 q6
  obtain ⟨G',T1,R1,V⟩:=jH (B:=w.heap.size) (off:=0) (C:=C0) (w':=w') R ho htk q3 q4 q5 (fun b hb _=>q6 b hb) (by rw[q6 _ hB];exact bQ.refl _) (.inr (Nat.le_refl _)) (by rw[hout];exact q1) (by rw[hso,hout]) (mM _) (fun v hv=>sU hv) (cell_of q2)
  exact ⟨_,G',rfl,T1,R1,by rw[hout] at V;exact V⟩
 have inpl:∀(w':World) (L2:List Value),w'.heap[G.ι id]? =some (.cells (sv (l.take i++x::l.drop i)++L2).toArray T fr)→(sv (l.take i++x::l.drop i)++L2).length=(sv l++rest).length→w'.heap.size=w.heap.size→w'.os=w.os→w'.output=w.output→(∀b,b≠G.ι id→w'.heap[b]? =w.heap[b]?)→l.length+1≤C→
   ∃v G',Ending.returned (.slice (some ⟨G.ι id,0,none⟩) (l.length+1) C)= .returned v∧Trans G w h G' w' (h.less id)∧aX G' (h.less id) w'∧aw G' w' (.sl 1 (strs (l.take i++x::l.drop i)) .any) v:=by
  intro w' L2 q1 q2 q3 q4 q5 q6 q7
  obtain ⟨G',T1,R1,V⟩:=jH (B:=G.ι id) (off:=0) (C:=C) (w':=w') R ho htk (Nat.le_of_eq q3.symm) q4 q5 (fun b _ hb=>q6 b hb) (by rw[hg,q1];exact ⟨_,_,rfl,by simpa using q2,fun _ _ h=>h⟩) (.inl rfl) (by rw[hout];exact q7) (by rw[hso,hout]) (mM _) (fun v hv=>sU hv) (cell_of q1)
  exact ⟨_,G',rfl,T1,R1,by rw[hout] at V;exact V⟩
 by_cases hfit:l.length+1≤C
 ·by_cases hie:i=l.length
  ·subst hie
   refine (Any2.slices_Insert_string_end_room pR (G.ι id) 0 l.length C (G.ι id2) 0 1 C2 [.string ⟨x.toArray⟩] w ab hfit hc63 rfl (fun j hj=>by have:=hsome (l.length+j) ab;rwa [←Nat.add_assoc] at this) (fun j hj=>hfz _) hvs' h1v).mono ?_
   rintro e w' ⟨rfl,rfl⟩
   obtain ⟨a1,a2,a3,a4,a5⟩:=bJ (G.ι id) T fr [.string ⟨x.toArray⟩] (0+l.length) (sv l++rest) w hg (by simp[hsl];omega)
   refine inpl _ (rest.drop 1) ?_ ?_ a3 a4 a5 a2 hfit
   ·rw[a1,kO,List.length_singleton,xO hsl]
   ·rw[List.length_append,List.length_append,hso,hsl,List.length_drop];omega
  ·have hlt:i<l.length:=by omega
   refine (Any2.slices_Insert_string_shift pR (G.ι id) 0 l.length C i (G.ι id2) 0 1 C2 (sv l) [.string ⟨x.toArray⟩] w hlt ab hfit hc63 hbb hsl rfl hcs (fun j hj=>hsome j ab) (fun j hj=>hfz _) hvs' (fun v hv=>xN hv) h1v T2 T ([Value.string ⟨x.toArray⟩]++rest2).toArray.size (sv l++rest).toArray.size (by unfold World.shape?;simp only[hg2]) (by unfold World.shape?;simp only[hg]) (by rw[List.size_toArray,List.length_append,hsl];omega) (hfz2 _) (hfz2 _)).mono ?_
   rintro e w' ⟨rfl,rfl⟩
   obtain ⟨a1,a2,a3,a4,a5⟩:=bJ (G.ι id) T fr ((sv l).drop i) (0+(i+1)) (sv l++rest) w.drew hg (by simp[hsl];omega)
   obtain ⟨b1,b2,b3,b4,b5⟩:=bJ (G.ι id) T fr [.string ⟨x.toArray⟩] (0+i) _ _ a1 (by simp[hsl];omega)
   refine inpl _ ((sv l++rest).drop (l.length+1)) ?_ ?_ (b3.trans a3) (b4.trans a4) (b5.trans a5) (fun b hb=>(b2 b hb).trans (a2 b hb)) hfit
   ·rw[b1,kO,List.length_singleton,xP hsl hlt]
   ·rw[List.length_append,hso,List.length_drop,List.length_append,hsl];omega
 ·have hCl:C=l.length:=by omega
  subst hCl
  have hbig:(l.length+1)*16≤140737488355328:=by omega
  have hgc:∀e,l.length+1≤grownCap w (l.length+1) l.length e:=fun e=>by simp[grownCap,Question.cut]
  by_cases hie:i=l.length
  ·subst hie
   refine (Any2.slices_Insert_string_end_grow pR (some ⟨G.ι id,0,none⟩) l.length l.length (G.ι id2) 0 1 C2 (sv l) [.string ⟨x.toArray⟩] w ab (Nat.le_refl _) ab hbig hsl rfl (fun e=>by cases e) (fun a ha j v hj=>by cases ha;rw[Addr.add_lit];exact hcs j v hj) hvs' h1v).mono ?_
   rintro e w' ⟨rfl,rfl⟩
   have hgc':=hgc (cU.t 9)
   generalize grownCap w (l.length+1) l.length (cU.t 9)=C0 at hgc' ⊢
   generalize Builtin.zeroCells (Value.string ⟨#[]⟩).cells (C0 - (l.length+1))=Zc
   refine newb _ Zc.toList (cU.t 9) _ hgc' ?_ ?_ rfl rfl ?_
   ·show (w.heap.push _)[w.heap.size]? =_
    rw[Array.getElem?_push_size]
    refine congrArg some (congrArg (fun c=>Go.Obj.cells c _ (0,0)) (Array.ext' ?_))
    simp only[Array.toList_append,kO,←hsl,List.take_length,List.drop_length]
   ·show _≤(w.heap.push _).size
    rw[Array.size_push];omega
   ·intro b hb
    show (w.heap.push _)[b]? =_
    rw[Array.getElem?_push,if_neg (Nat.ne_of_lt hb)]
  ·have hlt:i<l.length:=by omega
   refine (Any2.slices_Insert_string_grow pR (G.ι id) 0 l.length l.length i (G.ι id2) 0 1 C2 (sv l) [.string ⟨x.toArray⟩] w hlt ab (Nat.le_refl _) ab hbig hsl rfl hcs hvs' (fun v hv=>xN hv) h1v).mono ?_
   rintro e w' ⟨rfl,rfl⟩
   generalize hC0:grownCap w (l.length+1) l.length (cU.t 9)=C0
   have hC1:l.length+1≤C0:=hC0▸hgc _
   generalize hA:w.alloc (.cells (((sv l).take i).toArray++Builtin.zeroCells (Value.string ⟨#[]⟩).cells (l.length+1 - i)++Builtin.zeroCells (Value.string ⟨#[]⟩).cells (C0 - (l.length+1))) (cU.t 9))=A0
   obtain ⟨Z,hZl,g1⟩:∃Z:List Value,Z.length=C0 - i∧A0.drew.heap[w.heap.size]? =some (.cells ((sv l).take i++Z).toArray (cU.t 9) (0,0)):=by
    refine ⟨(Builtin.zeroCells (Value.string ⟨#[]⟩).cells (l.length+1 - i)++Builtin.zeroCells (Value.string ⟨#[]⟩).cells (C0 - (l.length+1))).toList,?_,?_⟩
    ·have hz:(Value.string ⟨#[]⟩).cells.size=1:=rfl
     generalize (Value.string ⟨#[]⟩).cells=zc at hz
     simp[Builtin.zeroCells,hz];omega
    ·subst hA
     show (w.heap.push _)[w.heap.size]? =_
     rw[Array.getElem?_push_size]
     refine congrArg some (congrArg (fun c=>Go.Obj.cells c _ (0,0)) (Array.ext' ?_))
     simp only[Array.toList_append,List.append_assoc]
   have k3:A0.heap.size=w.heap.size+1:=by
    rw[←hA]
    show (w.heap.push _).size=_
    rw[Array.size_push]
   have k4:A0.os=w.os:=by rw[←hA];rfl
   have k5:A0.output=w.output:=by rw[←hA];rfl
   have k2:∀b,b<w.heap.size→A0.heap[b]? =w.heap[b]? :=fun b hb=>by
    rw[←hA]
    show (w.heap.push _)[b]? =_
    rw[Array.getElem?_push,if_neg (Nat.ne_of_lt hb)]
   clear hA
   have hT':((sv l).take i).length=i:=by rw[List.length_take,hsl];omega
   have hD:((sv l).drop i).length=l.length - i:=by rw[List.length_drop,hsl]
   obtain ⟨a1,a2,a3,a4,a5⟩:=bJ w.heap.size _ (0,0) [.string ⟨x.toArray⟩] i _ A0.drew g1 (by rw[List.length_append,hT',hZl,List.length_singleton];omega)
   obtain ⟨b1,b2,b3,b4,b5⟩:=bJ w.heap.size _ (0,0) ((sv l).drop i) (i+1) _ (World.setCells A0.drew w.heap.size i [.string ⟨x.toArray⟩]).drew a1 (by simp only[List.length_append,List.length_take,List.length_drop,hsl,hZl,List.length_singleton];omega)
   rw[List.length_singleton,uw hsl hlt,←kO] at b1
   refine newb _ _ _ _ hC1 b1 ?_ ?_ ?_ ?_
   ·rw[b3];show _≤(World.setCells A0.drew _ _ _).heap.size;rw[a3];show _≤A0.heap.size;omega
   ·rw[b4];show (World.setCells A0.drew _ _ _).os=_;rw[a4];exact k4
   ·rw[b5];show (World.setCells A0.drew _ _ _).output=_;rw[a5];exact k5
   ·intro b hb
    rw[b2 b (Nat.ne_of_lt hb)];show (World.setCells A0.drew _ _ _).heap[b]? =_
    rw[a2 b (Nat.ne_of_lt hb)]
    exact k2 b hb
theorem uy (l:List (List UInt8)) (i:Nat) (hi:i<l.length) (hl:l.length<1099511627776) {id:Nat} {h:H} (ho:h.objs id=some (.cells (strs l))) (htk:h.toks=[]):
  aJ Tryz.prog 80 [.tsl 1 id 0 l.length none,.int .i64 i,.int .i64 ((i+1:Nat):Int)] h (.sl 1 (strs (l.take i++l.drop (i+1))) .any) (h.less id):=by
 intro G w vs hv R F
 simp only[aA,aw] at hv
 obtain ⟨v1,_,rfl,⟨hd1,hv1⟩,v2,_,rfl,rfl,v3,_,rfl,rfl,rfl⟩:=hv
 obtain ⟨C,c,T,fr,rfl,⟨hnC,hc63⟩,-,hg,hroom⟩|⟨hz,-⟩:=hv1
 rotate_left
 ·omega
 obtain ⟨-,hown,hB,us,rest,T',fr',hg',hvs,hfr,-⟩:=R.obj id _ ho
 have hus:=BW hvs
 subst hus
 rw[hg] at hg'
 obtain ⟨rfl,rfl,rfl⟩:c=(sv l++rest).toArray∧T=T'∧fr=fr':=by simpa using hg'
 have hsl:=gH l
 have hfz:∀j,w.frozen? ⟨G.ι id,j,none⟩=false:=fun j=>by
  unfold World.frozen?;simp only[hg]
  have:=hfr
  simp;omega
 have hout:(strs (l.take i++l.drop (i+1))).length=l.length - (i+1 - i):=by simp[strs];omega
 have hcell:∀j,j<l.length→w.cell? ⟨G.ι id,0+j,none⟩=some (.string (⟨(l.getD j []).toArray⟩:ByteArray)):=fun j hj=>cell_of hg j _ (by
  simp[sv,List.getElem?_map,List.getElem?_eq_getElem hj,List.getD_eq_getElem?_getD])
 have hS:Lib.strsOf (fun j=>(⟨(l.getD j []).toArray⟩:ByteArray)) l.length=l:=by
  refine List.ext_getElem (Lib.strsOf_length _ _) fun j h1 h2=>?_
  simp[Lib.strsOf,List.getD_eq_getElem?_getD,List.getElem?_eq_getElem h2]
 refine (Any.slices_Delete_string_cells Ff (G.ι id) 0 l.length C i (i+1) (fun j=>(⟨(l.getD j []).toArray⟩:ByteArray)) w hnC hc63 ab ab hcell (fun j hj=>hfz _)).mono ?_
 rintro e w' ⟨rfl,q,rfl⟩
 rw[hS]
 have hm:∀m:List (List UInt8),m.map encStr=sv m:=fun m=>rfl
 rw[hm]
 have hsv:sv (l.take i++l.drop (i+1)++List.replicate (i+1 - i) [])=sv (l.take i++l.drop (i+1))++[.string ⟨#[]⟩]:=by
  rw[show i+1 - i=1 by omega];simp[sv]
 have hlen:(sv (l.take i++l.drop (i+1)++List.replicate (i+1 - i) [])).length=l.length:=by rw[gH];simp;omega
 obtain ⟨a1,a2,a3,a4,a5⟩:=bJ (G.ι id) T fr (sv (l.take i++l.drop (i+1)++List.replicate (i+1 - i) [])) 0 (sv l++rest) (w.drewN q) hg (by rw[hlen,List.length_append,hsl];omega)
 have e1:(sv l++rest).take 0++sv (l.take i++l.drop (i+1)++List.replicate (i+1 - i) [])++(sv l++rest).drop (0+(sv (l.take i++l.drop (i+1)++List.replicate (i+1 - i) [])).length)=sv (l.take i++l.drop (i+1))++(Value.string ⟨#[]⟩::rest):=by
  rw[hlen,hsv,Nat.zero_add,←hsl,List.drop_left,List.take_zero];simp
 rw[e1] at a1
 obtain ⟨G',T1,R1,V⟩:=jH (B:=G.ι id) (off:=0) (C:=C) (xs:=strs (l.take i++l.drop (i+1))) (vs:=sv (l.take i++l.drop (i+1))) R ho htk (Nat.le_of_eq a3.symm) a4 a5 (fun b _ hb=>a2 b hb) (by
  rw[hg,a1]
  refine ⟨_,_,rfl,?_,fun _ _ h=>h⟩
  simp only[List.size_toArray,List.length_append,gH,List.length_cons,List.length_take,List.length_drop]
  omega) (.inl rfl) (by rw[hout];omega) (by rw[hout,gH];simp;omega) (mM _) (fun v hv=>sU hv) (cell_of a1)
 exact ⟨_,G',rfl,T1,R1,by rw[hout] at V;exact V⟩
theorem uz (x:List UInt8) {id2:Nat} {h:H} (ho2:h.objs id2=some (.cells [.str x])) (htk:h.toks=[]):
  aJ Tryz.prog 88 [.sl 1 [] (.exact 0),.int .i64 0,.tsl 1 id2 0 1 none] h (.sl 1 (strs [x]) .any) (h.less id2):=by
 intro G w vs hv R F
 simp only[aA] at hv
 obtain ⟨v1,_,rfl,hv1,v2,_,rfl,hv2,v3,_,rfl,hv3,rfl⟩:=hv
 have hbase:∃a0,v1= .slice a0 0 0:=by
  simp only[aw,dd] at hv1
  rcases hv1 with ⟨-,h,-⟩|⟨B,off,C,vs,q1,-,-,-,-,q6⟩
  ·exact h
  ·subst q6;exact ⟨_,by simpa using q1⟩
 obtain ⟨a0,rfl⟩:=hbase
 simp only[aw] at hv2 hv3
 subst hv2
 obtain ⟨hd2,hv3⟩:=hv3
 obtain ⟨C2,c2,T2,fr2,rfl,⟨hnC2,-⟩,-,hg2,hroom2⟩|⟨hz,-⟩:=hv3
 rotate_left
 ·omega
 obtain ⟨-,hown2,hB2,us2,rest2,T2',fr2',hg2',hvs2,hfr2,-⟩:=R.obj id2 _ ho2
 have hus2:us2=[.string ⟨x.toArray⟩]:=by
  simp only[aA,aw] at hvs2
  obtain ⟨v,_,rfl,rfl,rfl⟩:=hvs2
  rfl
 subst hus2
 rw[hg2] at hg2'
 obtain ⟨rfl,rfl,rfl⟩:c2=([Value.string ⟨x.toArray⟩]++rest2).toArray∧T2=T2'∧fr2=fr2':=by simpa using hg2'
 have hvs':∀(j:Nat) v,([Value.string ⟨x.toArray⟩]:List Value)[j]? =some v→w.cell? ⟨G.ι id2,0+j,none⟩=some v:=fun j v=>cell_of hg2 j v
 have h1v:∀v∈([Value.string ⟨x.toArray⟩]:List Value),v.oneCell'=true:=by simp[Value.oneCell']
 have key:=Any2.slices_Insert_string_end_grow pR a0 0 0 (G.ι id2) 0 1 C2 [] [.string ⟨x.toArray⟩] w ab (Nat.le_refl _) ab ab rfl rfl (fun _=>rfl) (fun a ha j v hj=>by simp at hj) hvs' h1v
 refine key.mono ?_
 rintro e w' ⟨rfl,rfl⟩
 have hgc':0+1≤grownCap w (0+1) 0 (cU.t 9):=by simp[grownCap,Question.cut]
 generalize grownCap w (0+1) 0 (cU.t 9)=C0 at hgc' ⊢
 generalize Builtin.zeroCells (Value.string ⟨#[]⟩).cells (C0 - (0+1))=Zc
 have hs:(w.drew.alloc (.cells (([]++[Value.string ⟨x.toArray⟩]).toArray++Zc) (cU.t 9))).heap.size=w.heap.size+1:=by
  show (w.heap.push _).size=_
  rw[Array.size_push]
 have hold:∀b,b<w.heap.size→(w.drew.alloc (.cells (([]++[Value.string ⟨x.toArray⟩]).toArray++Zc) (cU.t 9))).heap[b]? =w.heap[b]? :=fun b hb=>by
  show (w.heap.push _)[b]? =_
  rw[Array.getElem?_push,if_neg (Nat.ne_of_lt hb)]
 have hnew:(w.drew.alloc (.cells (([]++[Value.string ⟨x.toArray⟩]).toArray++Zc) (cU.t 9))).heap[w.heap.size]? =some (.cells (sv [x]++Zc.toList).toArray (cU.t 9) (0,0)):=by
  show (w.heap.push _)[w.heap.size]? =_
  rw[Array.getElem?_push_size]
  refine congrArg some (congrArg (fun c=>Go.Obj.cells c _ (0,0)) (Array.ext' ?_))
  simp only[Array.toList_append]
  rfl
 obtain ⟨G',T1,R1,V⟩:=jH (w':=w.drew.alloc (.cells (([]++[Value.string ⟨x.toArray⟩]).toArray++Zc) (cU.t 9))) (B:=w.heap.size) (off:=0) (C:=C0) (xs:=strs [x]) (vs:=sv [x]) R ho2 htk ab rfl rfl (fun b hb _=>hold b hb) (by rw[hold _ hB2];exact bQ.refl _) (.inr (Nat.le_refl _)) (by simpa [strs] using hgc') rfl (mM _) (fun v hv=>sU hv) (cell_of hnew)
 exact ⟨_,G',rfl,T1,R1,V⟩
theorem kq (l:List (List UInt8)):(strs l).all shaped=true:=by
 simp[strs,shaped,aO]
theorem lS (l:List (List UInt8)):(strs l).flatMap cellsOf=strs l:=by
 induction l with
 |nil=>rfl
 |cons s l ih=>simp only[strs,List.map_cons,List.flatMap_cons] at ih ⊢;rw[ih];rfl
theorem BX (l:List (List UInt8)) (i:Nat) (x:List UInt8) (hi:i≤l.length) (hl:l.length<1099511627776) (h0:0<l.length):
  aJ Tryz.prog 88 [.tsl 1 0 0 l.length none,.int .i64 i,.tsl 1 1 0 1 none] ⟨upd (upd az 0 (some (.cells ((strs l).flatMap cellsOf)))) 1 (some (.cells [.str x])),2,[],0⟩ (.sl 1 (strs (l.take i++x::l.drop i)) .any) (H.less ⟨upd (upd az 0 (some (.cells ((strs l).flatMap cellsOf)))) 1 (some (.cells [.str x])),2,[],0⟩ 0):=
 ux l i x hi hl h0 (id2:=1) ah (by simp[upd,lS]) (by simp[upd]) rfl
theorem BY (l:List (List UInt8)) (i:Nat) (x:List UInt8) (hi:i≤l.length) (hl:l.length<1099511627776):
  aZ Tryz.prog 117 [.sl 1 (strs l) .any,.int .i64 i,.str x] (.sl 1 (strs (l.take i++x::l.drop i)) .any):=by
 refine f117.dw af (by simp[aR,bf,cG,gG]) (by simp[bf,cG,gG]) ?_
 unfold F8 zz
 refine Wp.aF xA1 ag ?_
 refine Wp.seq (Wp.DD ?_)
 refine sF ?_
 cases l with
 |nil=>
  have hi0:i=0:=by simpa using hi
  subst hi0
  refine bH.bW ae (by simp only[go_sem,List.map];exact ay.refl _) (vN (sz:=1) (bytes:=16) f116) ?_
  refine sF ?_
  refine sF ?_
  refine bH.opT xA2 (by simp only[gE,go_sem,reduceIte,Nat.reduceEqDiff,Nat.reduceAdd,bx,List.all_cons,List.all_nil,List.length_cons,List.length_nil,Nat.reduceMul,Nat.reduceLeDiff,and_self,if_true,decide_true,Bool.and_self];exact rfl) ?_
  refine bH.cF ae (by simp only[go_sem,List.map];exact ay.refl _) (uz x (by simp[upd,cellsOf]) rfl) (nk _ _ _ (ids:=[0]) ?_ rfl rfl ?_ (Nat.le_refl _) (Nat.le_refl _)) ?_
  ·exact ⟨fun j o h=>h,fun t h=>h⟩
  ·intro id h;simp only[H0,H.only,upd,az] at h;split at h<;>simp_all
  refine sF ?_
  refine ao.toN (log:=[]) (ao.nil ?_)
  refine cI ?_
  exact av.refl _
 |cons s l=>
  simp only[List.length_cons] at hi hl
  refine bH.cF ae (by simp only[go_sem,List.map];exact ay.refl _) (lM (sz:=1) (bytes:=16) f116 (.str s) (strs l) (kq (s::l)) (by rw[cX];omega) (by rw[cX];omega) 0 0) (ew (H0 0 0) _) ?_
  refine sF ?_
  refine sF ?_
  refine bH.opT xA2 (by simp only[gE,go_sem,reduceIte,Nat.reduceEqDiff,Nat.reduceAdd,bx,List.all_cons,List.all_nil,List.length_cons,List.length_nil,Nat.reduceMul,Nat.reduceLeDiff,and_self,if_true,decide_true,Bool.and_self];exact rfl) ?_
  refine bH.cF ae (by simp only[go_sem,List.map];exact ay.refl _) (BX (s::l) i x hi (by simpa using hl) af) (nk _ _ _ (ids:=[0,1]) ?_ rfl rfl ?_ (Nat.le_refl _) (Nat.le_refl _)) ?_
  ·exact ⟨fun j o h=>h,fun t h=>h⟩
  ·intro id h;simp only[H0,H.only,upd,az] at h;split at h<;>simp_all
  refine sF ?_
  refine ao.toN (log:=[]) (ao.nil ?_)
  refine cI ?_
  exact av.refl _
theorem BZ (l:List (List UInt8)) (i:Nat) (hi:i<l.length) (hl:l.length<1099511627776):
  aJ Tryz.prog 80 [.tsl 1 0 0 l.length none,.int .i64 i,.int .i64 ((i+1:Nat):Int)] (.only (upd az 0 (some (.cells ((strs l).flatMap cellsOf)))) [] 1 0) (.sl 1 (strs (l.take i++l.drop (i+1))) .any) (H.less (.only (upd az 0 (some (.cells ((strs l).flatMap cellsOf)))) [] 1 0) 0):=
 uy l i hi hl (by simp[H.only,upd,lS]) rfl
theorem rp (l:List (List UInt8)) (i:Nat) (hi:i<l.length) (hl:l.length<1099511627776):
  aZ Tryz.prog 108 [.sl 1 (strs l) .any,.int .i64 i] (.sl 1 (strs (l.take i++l.drop (i+1))) .any):=by
 refine f108.dw af (by simp[aR,bf,cG,gG]) (by simp[bf,cG,gG]) ?_
 unfold FY zz
 have hw:IntKind.i64.wrap ((i:Int)+1)=((i+1:Nat):Int):=by rw[IntWalk.i64_in _ ab];rfl
 refine Wp.aF xA1 ag ?_
 refine Wp.seq (Wp.DD ?_)
 refine sF ?_
 cases l with
 |nil=>simp at hi
 |cons s l=>
  simp only[List.length_cons] at hi hl
  refine bH.cF ae (by simp only[go_sem,List.map];exact ay.refl _) (lM (sz:=1) (bytes:=16) f116 (.str s) (strs l) (kq (s::l)) (by rw[cX];omega) (by rw[cX];omega) 0 0) (ew (H0 0 0) _) ?_
  refine xOp hw ?_
  refine xOp hw ?_
  refine xOp hw ?_
  refine bH.cF ae (by simp only[go_sem,List.map];exact ay.refl _) (BZ (s::l) i hi (by simpa using hl)) (nk _ _ _ (ids:=[0]) ?_ rfl rfl ?_ (Nat.le_refl _) (Nat.le_refl _)) ?_
  ·exact ⟨fun j o h=>h,fun t h=>h⟩
  ·intro id h;simp only[H0,H.only,upd,az] at h;split at h<;>simp_all
  refine sF ?_
  refine ao.toN (log:=[]) (ao.nil ?_)
  refine cI ?_
  exact av.refl _
def hM:Node:=⟨false,[],[],[]⟩
def zU (n:Node) (i:Nat):Node:=⟨true,n.keys.take i++n.keys.drop (i+1),n.vals.take i++n.vals.drop (i+1),[]⟩
def og (n:Node) (key:List UInt8):Node:=if bC n key then zU n (place n key) else hM
theorem dV {n:Node} {key:List UInt8} (h:bC n key=true):right n=true∧n.leaf=true∧place n key<n.keys.length∧n.vals.length=n.keys.length∧n.keys.getD (place n key) []=key:=by
 simp only[bC,found,Bool.and_eq_true,decide_eq_true_eq] at h
 obtain ⟨h1,⟨h2,h3⟩,h4⟩:=h
 refine ⟨h1,h2,h3,?_,h4⟩
 simp[right,h2] at h1
 exact h1.2.1.1
theorem B0 (n:Node) (hn:Nb n) (hs:Ns n) (key:List UInt8):aZ Tryz.prog 77 [aD n,.str key] (.tup [aD (og n key),.bool (bC n key)]):=by
 refine f77.dw af (by simp[aR,cT,bf]) (by simp[bf,aR,cT]) ?_
 unfold c77 zz
 obtain ⟨sk,sv',si⟩:=hs
 refine Wp.aF (xAe @aD.eq_1) ag ?_
 refine Wp.seqItems xA1 ?_
 refine ao.bW xA2 xAb (nz n hn key) ?_
 refine ao.eval xA1 ?_
 refine ao.nil ⟨by trivial,?_⟩
 refine Wp.seq ?_
 refine Wp.aF xA1 ag ?_
 cases hf:bC n key with
 |false=>
  refine Wp.cond_true (by simp only[go_sem,reduceIte,Nat.reduceEqDiff,Nat.reduceAdd,bx,hf]) ?_
  refine Wp.aF xA1 ag ?_
  refine Wp.ret ⟨trivial,_,rfl,?_⟩
  simp only[go_sem,reduceIte,Nat.reduceEqDiff,Nat.reduceAdd,bx,hf]
  simp only[og,hf,if_false,Bool.false_eq_true,hM,aD]
  exact av.tup (ay.cons (av.agg (ay.cons (av.refl _) (ay.cons av.cap (ay.cons av.cap (ay.cons av.cap ay.nil))))) (ay.cons (av.refl _) ay.nil))
 |true=>
  obtain ⟨h1,h2,h3,h4,-⟩:=dV hf
  have hp:dP n key=place n key:=by simp[dP,h1]
  refine Wp.cond_false (by simp only[go_sem,reduceIte,Nat.reduceEqDiff,Nat.reduceAdd,bx,hf]) ?_
  refine Wp.skip ?_
  refine Wp.seqItems (xAe hp) ?_
  refine ao.bW xA2 xAb (rp n.keys (place n key) h3 ab) ?_
  refine ao.eval (xAe hp) ?_
  refine ao.bW xA2 xAb (rp n.vals (place n key) ab ab) ?_
  refine ao.eval xA1 ?_
  refine ao.nil ⟨by simp[bg,aS,apart,aV],?_⟩
  refine Wp.ret ⟨trivial,_,rfl,?_⟩
  simp only[go_sem,reduceIte,Nat.reduceEqDiff,Nat.reduceAdd,bx,hf]
  simp only[og,hf,if_true,zU,aD]
  exact av.tup (ay.cons (av.agg (ay.cons (av.refl _) (ay.cons (av.refl _) (ay.cons (av.refl _) (ay.cons av.cap ay.nil))))) (ay.cons (av.refl _) ay.nil))
def iv (l:List Int):List Value:=l.map fun s=> .int .i64 s
theorem gI (l:List Int):(iv l).length=l.length:=by simp[iv]
theorem B1 {G:aM} {w:World}:∀{l:List Int} {vs:List Value},aA G w (ints l) vs→vs=iv l
 |[],vs,h=>by simpa [ints,aA,iv] using h
 |s::l,vs,h=>by
  simp only[ints,List.map_cons,aA,aw] at h
  obtain ⟨v,us,rfl,rfl,h⟩:=h
  rw[B1 (l:=l) h]
  rfl
theorem pS (l:List Int) (G:aM) (w:World):aH G w 1 (ints l) (iv l):=by
 induction l with
 |nil=>simp[ints,iv,aH]
 |cons s l ih=>
  simp only[ints,iv,List.map_cons,aH]
  exact ⟨.int .i64 s,iv l,rfl,rfl,by simp[aw],ih⟩
theorem wx {l:List Int} {v:Value} (h:v∈iv l):One v:=by
 obtain ⟨s,_,rfl⟩:=List.mem_map.1 h
 exact ⟨(fun _ e=>by cases e),(fun _ e=>by cases e)⟩
theorem xQ {l:List Int} {v:Value} (h:v∈iv l):v.oneCell'=true:=by
 obtain ⟨s,_,rfl⟩:=List.mem_map.1 h
 rfl
theorem kP (l:List Int) (i:Nat) (x:Int):iv (l.take i++x::l.drop i)=(iv l).take i++ .int .i64 x::(iv l).drop i:=by simp[iv]
theorem zW (l:List Int) (i:Nat) (x:Int) (hi:i≤l.length) (hl:l.length<1099511627776) (h0:0<l.length) {id id2:Nat} (hne:id≠id2) {h:H} (ho:h.objs id=some (.cells (ints l))) (ho2:h.objs id2=some (.cells [.int .i64 x])) (htk:h.toks=[]):
  aJ Tryz.prog 89 [.tsl 1 id 0 l.length none,.int .i64 i,.tsl 1 id2 0 1 none] h (.sl 1 (ints (l.take i++x::l.drop i)) .any) (h.less id):=by
 intro G w vs hv R F
 simp only[aA,aw] at hv
 obtain ⟨v1,_,rfl,⟨hd1,hv1⟩,v2,_,rfl,rfl,v3,_,rfl,⟨hd2,hv3⟩,rfl⟩:=hv
 obtain ⟨C,c,T,fr,rfl,⟨hnC,hc63⟩,-,hg,hroom⟩|⟨hz,-⟩:=hv1
 rotate_left
 ·omega
 obtain ⟨C2,c2,T2,fr2,rfl,⟨hnC2,-⟩,-,hg2,hroom2⟩|⟨hz,-⟩:=hv3
 rotate_left
 ·omega
 obtain ⟨-,hown,hB,us,rest,T',fr',hg',hvs,hfr,-⟩:=R.obj id _ ho
 obtain ⟨-,hown2,hB2,us2,rest2,T2',fr2',hg2',hvs2,hfr2,-⟩:=R.obj id2 _ ho2
 have hus:=B1 hvs
 subst hus
 have hus2:us2=[.int .i64 x]:=by
  simp only[aA,aw] at hvs2
  obtain ⟨v,_,rfl,rfl,rfl⟩:=hvs2
  rfl
 subst hus2
 have hbb:G.ι id2≠G.ι id:=fun e=>hne (R.inj _ _ _ _ ho ho2 e.symm)
 rw[hg] at hg'
 obtain ⟨rfl,rfl,rfl⟩:c=(iv l++rest).toArray∧T=T'∧fr=fr':=by simpa using hg'
 rw[hg2] at hg2'
 obtain ⟨rfl,rfl,rfl⟩:c2=([Value.int .i64 x]++rest2).toArray∧T2=T2'∧fr2=fr2':=by simpa using hg2'
 have hsl:=gI l
 have hrl:C≤l.length+rest.length:=by simpa [hsl] using hroom
 have hcs:∀(j:Nat) v,(iv l)[j]? =some v→w.cell? ⟨G.ι id,0+j,none⟩=some v:=fun j v=>cell_of hg j v
 have hvs':∀(j:Nat) v,([Value.int .i64 x]:List Value)[j]? =some v→w.cell? ⟨G.ι id2,0+j,none⟩=some v:=fun j v=>cell_of hg2 j v
 have h1v:∀v∈([Value.int .i64 x]:List Value),v.oneCell'=true:=by simp[Value.oneCell']
 have hsome:∀j,j<C→(w.cell? ⟨G.ι id,0+j,none⟩).isSome=true:=fun j hj=>by
  unfold World.cell?;simp only[hg];simp[hsl];omega
 have hfz:∀j,w.frozen? ⟨G.ι id,j,none⟩=false:=fun j=>by
  unfold World.frozen?;simp only[hg]
  have:=hfr
  simp;omega
 have hfz2:∀j,w.frozen? ⟨G.ι id2,j,none⟩=false:=fun j=>by
  unfold World.frozen?;simp only[hg2]
  have:=hfr2
  simp;omega
 have hout:(ints (l.take i++x::l.drop i)).length=l.length+1:=by simp[ints];omega
 have hso:(iv (l.take i++x::l.drop i)).length=l.length+1:=by rw[gI];simp;omega
 have newb:∀(w':World) (L2:List Value) (T0:TypeId) (C0:Nat),l.length+1≤C0→w'.heap[w.heap.size]? =some (.cells (iv (l.take i++x::l.drop i)++L2).toArray T0 (0,0))→w.heap.size≤w'.heap.size→w'.os=w.os→w'.output=w.output→(∀b,b<w.heap.size→w'.heap[b]? =w.heap[b]?)→
   ∃v G',Ending.returned (.slice (some ⟨w.heap.size,0,none⟩) (l.length+1) C0)= .returned v∧Trans G w h G' w' (h.less id)∧aX G' (h.less id) w'∧aw G' w' (.sl 1 (ints (l.take i++x::l.drop i)) .any) v:=by
  intro w' L2 T0 C0 q1 q2 q3 q4 q5 q6
  obtain ⟨G',T1,R1,V⟩:=jH (B:=w.heap.size) (off:=0) (C:=C0) (w':=w') R ho htk q3 q4 q5 (fun b hb _=>q6 b hb) (by rw[q6 _ hB];exact bQ.refl _) (.inr (Nat.le_refl _)) (by rw[hout];exact q1) (by rw[hso,hout]) (pS _) (fun v hv=>wx hv) (cell_of q2)
  exact ⟨_,G',rfl,T1,R1,by rw[hout] at V;exact V⟩
 have inpl:∀(w':World) (L2:List Value),w'.heap[G.ι id]? =some (.cells (iv (l.take i++x::l.drop i)++L2).toArray T fr)→(iv (l.take i++x::l.drop i)++L2).length=(iv l++rest).length→w'.heap.size=w.heap.size→w'.os=w.os→w'.output=w.output→(∀b,b≠G.ι id→w'.heap[b]? =w.heap[b]?)→l.length+1≤C→
   ∃v G',Ending.returned (.slice (some ⟨G.ι id,0,none⟩) (l.length+1) C)= .returned v∧Trans G w h G' w' (h.less id)∧aX G' (h.less id) w'∧aw G' w' (.sl 1 (ints (l.take i++x::l.drop i)) .any) v:=by
  intro w' L2 q1 q2 q3 q4 q5 q6 q7
  obtain ⟨G',T1,R1,V⟩:=jH (B:=G.ι id) (off:=0) (C:=C) (w':=w') R ho htk (Nat.le_of_eq q3.symm) q4 q5 (fun b _ hb=>q6 b hb) (by rw[hg,q1];exact ⟨_,_,rfl,by simpa using q2,fun _ _ h=>h⟩) (.inl rfl) (by rw[hout];exact q7) (by rw[hso,hout]) (pS _) (fun v hv=>wx hv) (cell_of q1)
  exact ⟨_,G',rfl,T1,R1,by rw[hout] at V;exact V⟩
 by_cases hfit:l.length+1≤C
 ·by_cases hie:i=l.length
  ·subst hie
   refine (Any2.slices_Insert_int_end_room sT (G.ι id) 0 l.length C (G.ι id2) 0 1 C2 [.int .i64 x] w ab hfit hc63 rfl (fun j hj=>by have:=hsome (l.length+j) ab;rwa [←Nat.add_assoc] at this) (fun j hj=>hfz _) hvs' h1v).mono ?_
   rintro e w' ⟨rfl,rfl⟩
   obtain ⟨a1,a2,a3,a4,a5⟩:=bJ (G.ι id) T fr [.int .i64 x] (0+l.length) (iv l++rest) w hg (by simp[hsl];omega)
   refine inpl _ (rest.drop 1) ?_ ?_ a3 a4 a5 a2 hfit
   ·rw[a1,kP,List.length_singleton,xO hsl]
   ·rw[List.length_append,List.length_append,hso,hsl,List.length_drop];omega
  ·have hlt:i<l.length:=by omega
   refine (Any2.slices_Insert_int_shift sT (G.ι id) 0 l.length C i (G.ι id2) 0 1 C2 (iv l) [.int .i64 x] w hlt ab hfit hc63 hbb hsl rfl hcs (fun j hj=>hsome j ab) (fun j hj=>hfz _) hvs' (fun v hv=>xQ hv) h1v T2 T ([Value.int .i64 x]++rest2).toArray.size (iv l++rest).toArray.size (by unfold World.shape?;simp only[hg2]) (by unfold World.shape?;simp only[hg]) (by rw[List.size_toArray,List.length_append,hsl];omega) (hfz2 _) (hfz2 _)).mono ?_
   rintro e w' ⟨rfl,rfl⟩
   obtain ⟨a1,a2,a3,a4,a5⟩:=bJ (G.ι id) T fr ((iv l).drop i) (0+(i+1)) (iv l++rest) w.drew hg (by simp[hsl];omega)
   obtain ⟨b1,b2,b3,b4,b5⟩:=bJ (G.ι id) T fr [.int .i64 x] (0+i) _ _ a1 (by simp[hsl];omega)
   refine inpl _ ((iv l++rest).drop (l.length+1)) ?_ ?_ (b3.trans a3) (b4.trans a4) (b5.trans a5) (fun b hb=>(b2 b hb).trans (a2 b hb)) hfit
   ·rw[b1,kP,List.length_singleton,xP hsl hlt]
   ·rw[List.length_append,hso,List.length_drop,List.length_append,hsl];omega
 ·have hCl:C=l.length:=by omega
  subst hCl
  have hbig:(l.length+1)*8≤140737488355328:=by omega
  have hgc:∀e,l.length+1≤grownCap w (l.length+1) l.length e:=fun e=>by simp[grownCap,Question.cut]
  by_cases hie:i=l.length
  ·subst hie
   refine (Any2.slices_Insert_int_end_grow sT (some ⟨G.ι id,0,none⟩) l.length l.length (G.ι id2) 0 1 C2 (iv l) [.int .i64 x] w ab (Nat.le_refl _) ab hbig hsl rfl (fun e=>by cases e) (fun a ha j v hj=>by cases ha;rw[Addr.add_lit];exact hcs j v hj) hvs' h1v).mono ?_
   rintro e w' ⟨rfl,rfl⟩
   have hgc':=hgc (fp.t 3)
   generalize grownCap w (l.length+1) l.length (fp.t 3)=C0 at hgc' ⊢
   generalize Builtin.zeroCells (Value.int .i64 0).cells (C0 - (l.length+1))=Zc
   refine newb _ Zc.toList (fp.t 3) _ hgc' ?_ ?_ rfl rfl ?_
   ·show (w.heap.push _)[w.heap.size]? =_
    rw[Array.getElem?_push_size]
    refine congrArg some (congrArg (fun c=>Go.Obj.cells c _ (0,0)) (Array.ext' ?_))
    simp only[Array.toList_append,kP,←hsl,List.take_length,List.drop_length]
   ·show _≤(w.heap.push _).size
    rw[Array.size_push];omega
   ·intro b hb
    show (w.heap.push _)[b]? =_
    rw[Array.getElem?_push,if_neg (Nat.ne_of_lt hb)]
  ·have hlt:i<l.length:=by omega
   refine (Any2.slices_Insert_int_grow sT (G.ι id) 0 l.length l.length i (G.ι id2) 0 1 C2 (iv l) [.int .i64 x] w hlt ab (Nat.le_refl _) ab hbig hsl rfl hcs hvs' (fun v hv=>xQ hv) h1v).mono ?_
   rintro e w' ⟨rfl,rfl⟩
   generalize hC0:grownCap w (l.length+1) l.length (fp.t 3)=C0
   have hC1:l.length+1≤C0:=hC0▸hgc _
   generalize hA:w.alloc (.cells (((iv l).take i).toArray++Builtin.zeroCells (Value.int .i64 0).cells (l.length+1 - i)++Builtin.zeroCells (Value.int .i64 0).cells (C0 - (l.length+1))) (fp.t 3))=A0
   obtain ⟨Z,hZl,g1⟩:∃Z:List Value,Z.length=C0 - i∧A0.drew.heap[w.heap.size]? =some (.cells ((iv l).take i++Z).toArray (fp.t 3) (0,0)):=by
    refine ⟨(Builtin.zeroCells (Value.int .i64 0).cells (l.length+1 - i)++Builtin.zeroCells (Value.int .i64 0).cells (C0 - (l.length+1))).toList,?_,?_⟩
    ·have hz:(Value.int .i64 0).cells.size=1:=rfl
     generalize (Value.int .i64 0).cells=zc at hz
     simp[Builtin.zeroCells,hz];omega
    ·subst hA
     show (w.heap.push _)[w.heap.size]? =_
     rw[Array.getElem?_push_size]
     refine congrArg some (congrArg (fun c=>Go.Obj.cells c _ (0,0)) (Array.ext' ?_))
     simp only[Array.toList_append,List.append_assoc]
   have k3:A0.heap.size=w.heap.size+1:=by
    rw[←hA]
    show (w.heap.push _).size=_
    rw[Array.size_push]
   have k4:A0.os=w.os:=by rw[←hA];rfl
   have k5:A0.output=w.output:=by rw[←hA];rfl
   have k2:∀b,b<w.heap.size→A0.heap[b]? =w.heap[b]? :=fun b hb=>by
    rw[←hA]
    show (w.heap.push _)[b]? =_
    rw[Array.getElem?_push,if_neg (Nat.ne_of_lt hb)]
   clear hA
   have hT':((iv l).take i).length=i:=by rw[List.length_take,hsl];omega
   have hD:((iv l).drop i).length=l.length - i:=by rw[List.length_drop,hsl]
   obtain ⟨a1,a2,a3,a4,a5⟩:=bJ w.heap.size _ (0,0) [.int .i64 x] i _ A0.drew g1 (by rw[List.length_append,hT',hZl,List.length_singleton];omega)
   obtain ⟨b1,b2,b3,b4,b5⟩:=bJ w.heap.size _ (0,0) ((iv l).drop i) (i+1) _ (World.setCells A0.drew w.heap.size i [.int .i64 x]).drew a1 (by simp only[List.length_append,List.length_take,List.length_drop,hsl,hZl,List.length_singleton];omega)
   rw[List.length_singleton,uw hsl hlt,←kP] at b1
   refine newb _ _ _ _ hC1 b1 ?_ ?_ ?_ ?_
   ·rw[b3];show _≤(World.setCells A0.drew _ _ _).heap.size;rw[a3];show _≤A0.heap.size;omega
   ·rw[b4];show (World.setCells A0.drew _ _ _).os=_;rw[a4];exact k4
   ·rw[b5];show (World.setCells A0.drew _ _ _).output=_;rw[a5];exact k5
   ·intro b hb
    rw[b2 b (Nat.ne_of_lt hb)];show (World.setCells A0.drew _ _ _).heap[b]? =_
    rw[a2 b (Nat.ne_of_lt hb)]
    exact k2 b hb
theorem zY (l:List Int) (i:Nat) (hi:i<l.length) (hl:l.length<1099511627776) {id:Nat} {h:H} (ho:h.objs id=some (.cells (ints l))) (htk:h.toks=[]):
  aJ Tryz.prog 79 [.tsl 1 id 0 l.length none,.int .i64 i,.int .i64 ((i+1:Nat):Int)] h (.sl 1 (ints (l.take i++l.drop (i+1))) .any) (h.less id):=by
 intro G w vs hv R F
 simp only[aA,aw] at hv
 obtain ⟨v1,_,rfl,⟨hd1,hv1⟩,v2,_,rfl,rfl,v3,_,rfl,rfl,rfl⟩:=hv
 obtain ⟨C,c,T,fr,rfl,⟨hnC,hc63⟩,-,hg,hroom⟩|⟨hz,-⟩:=hv1
 rotate_left
 ·omega
 obtain ⟨-,hown,hB,us,rest,T',fr',hg',hvs,hfr,-⟩:=R.obj id _ ho
 have hus:=B1 hvs
 subst hus
 rw[hg] at hg'
 obtain ⟨rfl,rfl,rfl⟩:c=(iv l++rest).toArray∧T=T'∧fr=fr':=by simpa using hg'
 have hsl:=gI l
 have hfz:∀j,w.frozen? ⟨G.ι id,j,none⟩=false:=fun j=>by
  unfold World.frozen?;simp only[hg]
  have:=hfr
  simp;omega
 have hout:(ints (l.take i++l.drop (i+1))).length=l.length - (i+1 - i):=by simp[ints];omega
 have hcell:∀j,j<l.length→w.cell? ⟨G.ι id,0+j,none⟩=some (.int .i64 (l.getD j 0)):=fun j hj=>cell_of hg j _ (by
  simp[iv,List.getElem?_map,List.getElem?_eq_getElem hj,List.getD_eq_getElem?_getD])
 refine (Any.slices_Delete_int_cells Fg (G.ι id) 0 l.length C i (i+1) l w (Nat.le_refl _) hnC hc63 ab ab hcell (fun j hj=>hfz _)).mono ?_
 rintro e w' ⟨rfl,q,rfl⟩
 rw[List.take_length]
 have hm:∀m:List Int,m.map (Value.int .i64)=iv m:=fun m=>rfl
 rw[hm]
 have hsv:iv (l.take i++l.drop (i+1)++List.replicate (i+1 - i) 0)=iv (l.take i++l.drop (i+1))++[.int .i64 0]:=by
  rw[show i+1 - i=1 by omega];simp[iv]
 have hlen:(iv (l.take i++l.drop (i+1)++List.replicate (i+1 - i) 0)).length=l.length:=by rw[gI];simp;omega
 obtain ⟨a1,a2,a3,a4,a5⟩:=bJ (G.ι id) T fr (iv (l.take i++l.drop (i+1)++List.replicate (i+1 - i) 0)) 0 (iv l++rest) (w.drewN q) hg (by rw[hlen,List.length_append,hsl];omega)
 have e1:(iv l++rest).take 0++iv (l.take i++l.drop (i+1)++List.replicate (i+1 - i) 0)++(iv l++rest).drop (0+(iv (l.take i++l.drop (i+1)++List.replicate (i+1 - i) 0)).length)=iv (l.take i++l.drop (i+1))++(Value.int .i64 0::rest):=by
  rw[hlen,hsv,Nat.zero_add,←hsl,List.drop_left,List.take_zero];simp
 rw[e1] at a1
 obtain ⟨G',T1,R1,V⟩:=jH (B:=G.ι id) (off:=0) (C:=C) (xs:=ints (l.take i++l.drop (i+1))) (vs:=iv (l.take i++l.drop (i+1))) R ho htk (Nat.le_of_eq a3.symm) a4 a5 (fun b _ hb=>a2 b hb) (by
  rw[hg,a1]
  refine ⟨_,_,rfl,?_,fun _ _ h=>h⟩
  simp only[List.size_toArray,List.length_append,gI,List.length_cons,List.length_take,List.length_drop]
  omega) (.inl rfl) (by rw[hout];omega) (by rw[hout,gI];simp;omega) (pS _) (fun v hv=>wx hv) (cell_of a1)
 exact ⟨_,G',rfl,T1,R1,by rw[hout] at V;exact V⟩
def stop (leaf:Bool) (key k:List UInt8):Bool:= !(Op.bytesLess k key||(!leaf&&decide (k=key)))
theorem pT (n:Node) (key:List UInt8):place n key=n.keys.findIdx (stop n.leaf key):=by
 unfold place
 cases n.leaf with
 |true=>simp only[if_true];exact congrArg (fun p=>n.keys.findIdx p) (funext fun k=>by simp[least,stop])
 |false=>simp only[if_false,Bool.false_eq_true];exact congrArg (fun p=>n.keys.findIdx p) (funext fun k=>by simp[iG,stop])
theorem B2 {n:Node} {key:List UInt8} {j:Nat} (hj:j<n.keys.length) (h:∀i,i<j→stop n.leaf key (n.keys.getD i [])=false) (hs:stop n.leaf key (n.keys.getD j [])=true):place n key=j:=by
 rw[pT]
 refine (List.findIdx_eq hj).2 ⟨?_,fun i hi=>?_⟩
 ·rw[List.getD_eq_getElem?_getD,List.getElem?_eq_getElem hj] at hs;exact hs
 ·have:=h i hi
  rw[List.getD_eq_getElem?_getD,List.getElem?_eq_getElem ab] at this;exact this
def fG (n:Node) (key val:List UInt8):Bool:=right n&&n.leaf&&decide (key.length≤128)&&decide (val.length≤200)
def uA (n:Node) (i:Nat) (val:List UInt8):Node:=⟨true,n.keys,n.vals.take i++val::n.vals.drop (i+1),[]⟩
def uB (n:Node) (i:Nat) (key val:List UInt8):Node:=⟨true,n.keys.take i++key::n.keys.drop i,n.vals.take i++val::n.vals.drop i,[]⟩
def mN (n:Node) (key val:List UInt8):Node:=if fG n key val then (if bC n key then uA n (place n key) val else uB n (place n key) key val) else hM
def uC (n:Node) (key val:List UInt8):Nat:=if fG n key val then 0 else 2
theorem B3 (l:List (List UInt8)) (h0:0<l.length) (hl:l.length≤1099511627776) (n m:Nat):
  aJ Tryz.prog 116 [.sl 1 (strs l) .any] (H0 n m) (.tsl 1 n 0 l.length none) (.only (upd az n (some (.cells (strs l)))) [] (n+1) m):=by
 cases l with
 |nil=>simp at h0
 |cons s l=>
  simp only[List.length_cons] at hl
  have:=lM (sz:=1) (bytes:=16) f116 (.str s) (strs l) (kq (s::l)) (by rw[cX];omega) (by rw[cX];omega) n m
  rw[cX] at this
  have e:(AV.str s::strs l).flatMap cellsOf=strs (s::l):=lS (s::l)
  rw[e] at this
  exact this
theorem Gt (n:Node) (hn:Nb n) (hs:Ns n) (key val:List UInt8) (hkey:Ls key):aZ Tryz.prog 85 [aD n,.str key,.str val] (.tup [aD (mN n key val),.int .i64 (uC n key val)]):=by
 refine f85.DC af (by simp[aR,cT,bf]) (by simp[bf,aR,cT]) ?_
 unfold c85 zz
 obtain ⟨sk,sv',si⟩:=hs
 have bad:∀{h:H} {x:AV},fG n key val=false→av (unT h (fun _=>true) (.tup [.agg [.bool false,.sl 1 [] (.exact 0),.sl 1 [] (.exact 0),.sl 1 [] (.exact 0)],.int .i64 2])) (.tup [aD (mN n key val),.int .i64 (uC n key val)]):=by
  intro h x e
  simp only[mN,uC,e,if_false,Bool.false_eq_true,hM,aD,unT,gR]
  exact av.tup (ay.cons (av.agg (ay.cons (av.refl _) (ay.cons av.cap (ay.cons av.cap (ay.cons av.cap ay.nil))))) (ay.cons (av.refl _) ay.nil))
 cases hr:right n with
 |false=>
  refine an1 (cj2 @aD.eq_1 hr) (fe n hn) ?_
  refine cI ?_
  exact bad (x:= .any) (by simp[fG,hr])
 |true=>
  cases hl:n.leaf with
  |false=>
   have hE:av (.agg [.bool false,.sl 1 (strs n.keys) .any,.sl 1 (strs n.vals) .any,.sl 1 (ints n.kids) .any]) (aD n):=by rw[aD,hl];exact av.refl _
   refine an1 (cj3 @aD.eq_1 hr hl) (fe n hn) ?_
   refine cI ?_
   exact bad (x:= .any) (by simp[fG,hl])
  |true=>
   have hE:av (.agg [.bool true,.sl 1 (strs n.keys) .any,.sl 1 (strs n.vals) .any,.sl 1 (ints n.kids) .any]) (aD n):=by rw[aD,hl];exact av.refl _
   by_cases hk:key.length≤128
   ·have d1:decide ((128:Int)<(key.length:Int))=false:=decide_eq_false ab
    by_cases hv:val.length≤200
    ·have d2:decide ((200:Int)<(val.length:Int))=false:=decide_eq_false ab
     have hok:fG n key val=true:=by simp[fG,hr,hl,hk,hv]
     have hpl:dP n key=place n key:=by simp[dP,hr]
     have hvl:n.vals.length=n.keys.length:=by
      have:=hr
      simp[right,hl] at this
      exact this.2.1.1
     cases hf:bC n key with
     |false=>
      have hple:place n key≤n.keys.length:=by
       simp only[place];split<;>exact findIdx_le _ _
      refine an4 (cj7 @aD.eq_1 hr hl d1 d2 hpl hf) (fe n hn) (nz n hn key) (BY n.keys (place n key) key ab ab) (BY n.vals (place n key) val ab ab) ?_
      refine cI ?_
      simp only[mN,uC,hok,hf,if_true,if_false,Bool.false_eq_true,uB,aD,unT,gR]
      exact av.tup (ay.cons (av.agg (ay.cons (av.refl _) (ay.cons (av.refl _) (ay.cons (av.refl _) (ay.cons av.cap ay.nil))))) (ay.cons (av.refl _) ay.nil))
     |true=>
      obtain ⟨-,-,f3,f4,-⟩:=dV hf
      have g1:(0:Int)≤(place n key:Int):=by omega
      have g2:(place n key:Int)<(n.vals.length:Int):=by omega
      have g3:place n key+1≤n.vals.length:=by omega
      refine an2 (cj7 @aD.eq_1 hr hl d1 d2 hpl hf) (fe n hn) (nz n hn key) ?_
      refine ao.bW xA2 xAb (pJ n.keys ab) ?_
      refine ao.eval xA1 ?_
      refine ao.cF ae (by simp only[go_sem,List.map];exact ay.refl _) (B3 n.vals ab ab 2 0) (ew _ _) ?_
      refine ao.eval xA1 ?_
      refine ao.nil ⟨by simp[bg,aS,apart,aV],?_⟩
      refine Wp.aF (xAd (cj9 g1 g2 g3 @Int.toNat_natCast @Nat.zero_add @Nat.mul_one @cX @and_self @true_and)) ag ?_
      refine Wp.aF xA1 ag ?_
      refine cI ?_
      have hW:(strs n.vals).take (place n key)++[.str val]++(strs n.vals).drop (place n key+1)=strs (n.vals.take (place n key)++val::n.vals.drop (place n key+1)):=by simp[strs]
      have hL:(strs (n.vals.take (place n key)++val::n.vals.drop (place n key+1))).length=n.vals.length:=by rw[cX];simp;omega
      have hL':0+n.vals.length≤(strs (n.vals.take (place n key)++val::n.vals.drop (place n key+1))).length:=by rw[hL];omega
      have hT:((strs (n.vals.take (place n key)++val::n.vals.drop (place n key+1))).drop 0).take n.vals.length=strs (n.vals.take (place n key)++val::n.vals.drop (place n key+1)):=by rw[List.drop_zero];exact List.take_of_length_le (by rw[hL];omega)
      rw[hW]
      simp only[unT,gR,upd,and_self,if_true,Nat.reduceEqDiff,reduceIte,if_pos hL',hT,mN,uC,hok,hf,uA,aD]
      exact av.tup (ay.cons (av.agg (ay.cons (av.refl _) (ay.cons (av.refl _) (ay.cons (av.refl _) (ay.cons av.cap ay.nil))))) (ay.cons (av.refl _) ay.nil))
    ·have d2:decide ((200:Int)<(val.length:Int))=true:=decide_eq_true ab
     refine an1 (cj5 @aD.eq_1 hr hl d1 d2) (fe n hn) ?_
     refine cI ?_
     exact bad (x:= .any) (by simp[fG,hv])
   ·have d1:decide ((128:Int)<(key.length:Int))=true:=decide_eq_true ab
    refine an1 (cj4 @aD.eq_1 hr hl d1) (fe n hn) ?_
    refine cI ?_
    exact bad (x:= .any) (by simp[fG,hk])
theorem fE {α:Type} (l:List α) (i:Nat):(l.take i++l.drop (i+1)).Sublist l:=by
 rw[←List.eraseIdx_eq_take_drop_succ]
 exact List.eraseIdx_sublist _ _
theorem zZ {n:Node} (hl:n.leaf=true) (h:right n=true) {i:Nat} (hi:i<n.keys.length):right (zU n i)=true:=by
 obtain ⟨h1,h2,h3,h4⟩:=(bq hl).1 h
 refine (bq (n:=zU n i) rfl).2 ⟨h1.sub (fE _ _),?_,rfl,fun v hv=>h4 v ((fE _ _).subset hv)⟩
 simp[zU];omega
theorem sV {l m:List (List UInt8)} (h:m.Sublist l):tot m≤tot l:=by
 induction h with
 |slnil=>exact Nat.le_refl _
 |cons a _ ih=>simp only[tot,List.map_cons,List.sum_cons] at ih ⊢;omega
 |cons_cons a _ ih=>simp only[tot,List.map_cons,List.sum_cons] at ih ⊢;omega
theorem DT {l:List (List UInt8)} {c:Nat} (h:∀s∈l,s.length≤c):tot l≤c*l.length:=by
 induction l with
 |nil=>simp[tot]
 |cons s l ih=>
  have h1:=h s af
  have h2:=ih fun x hx=>h x (by simp[hx])
  simp only[tot,List.map_cons,List.sum_cons,List.length_cons,Nat.mul_add] at h2 ⊢
  omega
theorem pU {n:Node} {key val:List UInt8} (h:fG n key val=true):right n=true∧n.leaf=true∧key.length≤128∧val.length≤200:=by
 simp only[fG,Bool.and_eq_true,decide_eq_true_eq] at h
 exact ⟨h.1.1.1,h.1.1.2,h.1.2,h.2⟩
theorem lT {n:Node} (hl:n.leaf=true) (key:List UInt8):place n key≤n.keys.length∧(∀j,j<place n key→Op.bytesLess (n.keys.getD j []) key=true)∧(place n key<n.keys.length→Op.bytesLess (n.keys.getD (place n key) []) key=false):=by
 have hp:=pT n key
 rw[hl] at hp
 refine ⟨by rw[hp];exact findIdx_le _ _,fun j hj=>?_,fun h=>?_⟩
 ·rw[hp] at hj
  have:=jL hj
  simpa [stop] using this
 ·have hlt:n.keys.findIdx (stop true key)<n.keys.length:=by rw[←hp];exact h
  have:=List.findIdx_getElem (w:=hlt)
  rw[bA h]
  simp only[hp]
  simpa [stop] using this
theorem z6 {n:Node} {key val:List UInt8} (h:fG n key val=true) (hf:bC n key=false):right (uB n (place n key) key val)=true:=by
 obtain ⟨hr,hl,hk,hv⟩:=pU h
 obtain ⟨h1,h2,h3,h4⟩:=(bq hl).1 hr
 obtain ⟨p1,p2,p3⟩:=lT hl key
 refine (bq (n:=uB n (place n key) key val) rfl).2 ⟨?_,by simp[uB];omega,rfl,fun v hv'=>?_⟩
 ·refine BQ (i:=place n key) h1 hk (fun s hs=>?_) (fun s hs=>?_)
  ·obtain ⟨j,hj,_,rfl⟩:=km hs
   exact p2 j hj
  ·obtain ⟨j,hj,hjl,rfl⟩:=iH hs
   have hlt:place n key<n.keys.length:=by omega
   have hne:n.keys.getD (place n key) []≠key:=fun e=>by
    simp[bC,found,hr,hl,hlt,e] at hf
    exact hf (by rw[←bA hlt (d:=[])];exact e)
   have h0:Op.bytesLess key (n.keys.getD (place n key) [])=true:=by
    rcases du key (n.keys.getD (place n key) []) with g|g|g
    ·exact g
    ·exact absurd g.symm hne
    ·rw[p3 hlt] at g;cases g
   rcases Nat.eq_or_lt_of_le hj with e|e
   ·rw[←e];exact h0
   ·exact dt h0 (rising ((gX _).2 h1) e hjl)
 ·simp only[uB,List.mem_append,List.mem_cons] at hv'
  rcases hv' with hv'|rfl|hv'
  ·exact h4 v (List.mem_of_mem_take hv')
  ·exact hv
  ·exact h4 v (List.mem_of_mem_drop hv')
theorem Aa {n:Node} {key val:List UInt8} (h:fG n key val=true) (hf:bC n key=true):right (uA n (place n key) val)=true:=by
 obtain ⟨hr,hl,hk,hv⟩:=pU h
 obtain ⟨h1,h2,h3,h4⟩:=(bq hl).1 hr
 obtain ⟨-,-,f3,-,-⟩:=dV hf
 refine (bq (n:=uA n (place n key) val) rfl).2 ⟨h1,by simp[uA];omega,rfl,fun v hv'=>?_⟩
 simp only[uA,List.mem_append,List.mem_cons] at hv'
 rcases hv' with hv'|rfl|hv'
 ·exact h4 v (List.mem_of_mem_take hv')
 ·exact hv
 ·exact h4 v (List.mem_of_mem_drop hv')
theorem Ab {n:Node} {key val:List UInt8} (h:fG n key val=true):right (mN n key val)=true:=by
 unfold mN
 rw[if_pos h]
 cases hf:bC n key with
 |true=>rw[if_pos rfl];exact Aa h hf
 |false=>simp only[Bool.false_eq_true,if_false];exact z6 h hf
theorem pV {n:Node} {key val:List UInt8} (h:fG n key val=true):(mN n key val).leaf=true:=by
 unfold mN
 rw[if_pos h]
 split<;>rfl
theorem uD {n:Node} (hl:n.leaf=true) (hr:right n=true) {i:Nat} (hi:i<n.keys.length) {key:List UInt8} (hk:n.keys.getD i []=key):place n key=i∧bC n key=true:=by
 have h1:=((bq hl).1 hr).1
 have hp:place n key=i:=by
  refine B2 hi (fun j hj=>?_) ?_
  ·have:=rising ((gX _).2 h1) hj hi
   rw[hk] at this
   rw[hl]
   simp only[stop,this,Bool.true_or,Bool.not_true]
  ·rw[hl,hk]
   simp[stop,cL]
 refine ⟨hp,?_⟩
 simp only[bC,found,hr,hl,hp,hk,Bool.true_and,Bool.and_eq_true,decide_eq_true_eq]
 exact ⟨hi,trivial⟩
theorem size_leaf {n:Node} (hl:n.leaf=true):size n=3+3*n.keys.length+tot n.keys+tot n.vals:=by
 simp[size,hl]
theorem gN {n:Node} {key val:List UInt8} (h:fG n key val=true):size (mN n key val)≤size n+331:=by
 obtain ⟨hr,hl,hk,hv⟩:=pU h
 obtain ⟨h1,h2,h3,h4⟩:=(bq hl).1 hr
 obtain ⟨p1,-,-⟩:=lT hl key
 rw[size_leaf (pV h),size_leaf hl]
 unfold mN
 rw[if_pos h]
 split
 ·have e:=fw n.vals (place n key)
  have e2:=pL (n.vals.drop (place n key)) 1
  rw[List.drop_drop] at e2
  simp only[uA,fo,gr]
  omega
 ·have e:=fw n.vals (place n key)
  have e3:=fw n.keys (place n key)
  simp only[uB,fo,gr,List.length_append,List.length_cons,List.length_take,List.length_drop]
  omega
theorem uE {m:Node} (hl:m.leaf=true) (hr:right m=true) (hm:1≤most m) (hs:size m≤1355):size (part m 0 (cut m))≤1024∧size (part m (cut m+bet m) m.keys.length)≤1024:=by
 obtain ⟨c1,c2⟩:=pK hm
 have hbt:bet m=0:=by simp[bet,hl]
 obtain ⟨r1,r2,r3,r4⟩:=(bq hl).1 hr
 have hmost:most m+1=m.keys.length:=by unfold most at hm ⊢;omega
 have k128:∀j,j<m.keys.length→(m.keys.getD j []).length≤128:=fun j hj=>by rw[bA hj];exact r1.1 _ (List.getElem_mem hj)
 have v200:∀j,j<m.vals.length→(m.vals.getD j []).length≤200:=fun j hj=>by rw[bA hj];exact r4 _ (List.getElem_mem hj)
 have hsz:=size_leaf hl
 constructor
 ·rw[eI m _ ab,hl]
  simp only[if_true]
  have h1:=gq m.keys (cut m - 1) ab
  have h2:=k128 (cut m - 1) ab
  have h3:=gq m.vals (cut m - 1) ab
  have h4:=v200 (cut m - 1) ab
  rw[show cut m - 1+1=cut m by omega] at h1 h3
  by_cases hc:cut m=1
  ·rw[hc] at h1 h2 h3 h4 ⊢
   have z1:tot (m.keys.take 0)=0:=by simp[tot]
   have z2:tot (m.vals.take 0)=0:=by simp[tot]
   rw[show 1 - 1=0 by rfl] at h1 h2 h3 h4
   omega
  ·have hf:=lR (n:=m) (i:=cut m - 2) ab
   unfold fits at hf
   have hf:=of_decide_eq_false hf
   rw[show 1+(cut m - 2)=cut m - 1 by omega,eI m _ ab,hl] at hf
   simp only[if_true] at hf
   omega
 ·have hb:size (part m (cut m) m.keys.length)=3+3*(m.keys.length - cut m)+tot (m.keys.drop (cut m))+tot (m.vals.drop (cut m)):=by
   rw[size_leaf (n:=part m (cut m) m.keys.length) hl]
   simp only[part,hl,if_true,List.take_length,List.length_drop]
   rw[←r2,List.take_length]
  rw[hbt,Nat.add_zero,hb]
  have h1:=fw m.keys (cut m)
  have h2:=fw m.vals (cut m)
  by_cases hc:cut m<most m
  ·have hf:=wg hc
   unfold fits at hf
   have hf:=of_decide_eq_true hf
   rw[show 1+(cut m - 1)=cut m by omega,eI m _ ab,hl] at hf
   simp only[if_true] at hf
   omega
  ·have hd:m.keys.drop (cut m)=[m.keys.getD (cut m) []]:=by
    rw[List.drop_eq_getElem_cons (show cut m<m.keys.length by omega),List.drop_eq_nil_of_le ab,bA ab]
   have hd2:m.vals.drop (cut m)=[m.vals.getD (cut m) []]:=by
    rw[List.drop_eq_getElem_cons (show cut m<m.vals.length by omega),List.drop_eq_nil_of_le ab,bA ab]
   have:=k128 (cut m) ab
   have:=v200 (cut m) ab
   rw[hd,hd2,gr,gr]
   simp only[tot,List.map_nil,List.sum_nil]
   omega
theorem Ac {m:Node} (hl:m.leaf=true) (hr:right m=true) (hm:m.keys.length<2):size m≤1024:=by
 obtain ⟨r1,r2,r3,r4⟩:=(bq hl).1 hr
 rw[size_leaf hl]
 have h1:=fw m.keys 0
 match hk:m.keys,hv:m.vals with
 |[],[]=>simp[tot]
 |[a],[b]=>
  have:=r1.1 a (by rw[hk];simp)
  have:=r4 b (by rw[hv];simp)
  simp[tot];omega
 |[],_::_=>rw[hk,hv] at r2;simp at r2
 |[_],[]=>rw[hk,hv] at r2;simp at r2
 |[_],_::_::_=>rw[hk,hv] at r2;simp at r2
 |_::_::_,_=>rw[hk] at hm;simp only[List.length_cons] at hm;omega
end Go.Proofs.YtbgmofhgfnmaiaaGreat.Page
end
section
set_option maxRecDepth 10000
namespace Go.Proofs.YtbgmofhgfnmaiaaGreat.Batch
open Go Go.Av Go.Proofs Go.Proofs.YtbgmofhgfnmaiaaGreat.C
theorem lQ (b:List UInt8):Op.bytesLess [] b=decide (0<b.length):=by cases b<;>simp[Op.bytesLess]
theorem db (a:List UInt8):Op.bytesLess a []=false:=by cases a<;>simp[Op.bytesLess]
theorem sK {a b:List UInt8} {j:Nat} (ha:j<a.length) (hb:j<b.length):Op.bytesLess (a.drop j) (b.drop j)=(decide (a.getD j 0<b.getD j 0)||(a.getD j 0 == b.getD j 0&&Op.bytesLess (a.drop (j+1)) (b.drop (j+1)))):=by
 rw[List.drop_eq_getElem_cons ha,List.drop_eq_getElem_cons hb]
 simp[Op.bytesLess,List.getD,List.getElem?_eq_getElem ha,List.getElem?_eq_getElem hb]
theorem kg {a b:List UInt8} {j:Nat} (ha:j≤a.length) (hb:j≤b.length) (h:¬(j<a.length∧j<b.length)):Op.bytesLess (a.drop j) (b.drop j)=decide ((a.length:Int)<(b.length:Int)):=by
 by_cases h1:j<a.length
 ·have:b.drop j=[]:=List.drop_eq_nil_of_le ab
  rw[this,db];symm;simp;omega
 ·have:a.drop j=[]:=List.drop_eq_nil_of_le ab
  rw[this,lQ];simp;omega
def Ls (l:List UInt8):Prop:=l.length≤9223372036854775806
theorem xH (a b:List UInt8) (la:Ls a) (lb:Ls b):aZ Tryz.prog 43 [.str a,.str b] (.bool (Op.bytesLess a b)):=by
 refine f43.eY af (bE _ rfl) (ct _ rfl) fun k m=>?_
 unfold Ls at la lb
 unfold c43 zz
 refine Wp.aF xA1 ag ?_
 refine Wp.seq ?_
 refine Wp.aF xA1 ag ?_
 refine Wp.block ?_
 refine Wp.kZ [0,1] xA6 (fun j:Nat=>[(5,.int .i64 j)]) (fun j=>j≤a.length∧j≤b.length∧Op.bytesLess (a.drop j) (b.drop j)=Op.bytesLess a b) (fun j=>a.length - j) 0 ⟨Nat.zero_le _,Nat.zero_le _,rfl⟩ ?_ ?_
 ·exact xSb
 ·intro j hj
  obtain ⟨h1,h2,h3⟩:=hj
  refine Wp.seq ?_
  by_cases hc:j<a.length∧j<b.length
  ·have ha:decide ((j:Int)<(a.length:Int))=true:=by simp;omega
   have hb:decide ((j:Int)<(b.length:Int))=true:=by simp;omega
   have h4:(0:Int)≤(j:Int):=by omega
   have h5:(j:Int)<(a.length:Int):=by omega
   have h6:(j:Int)<(b.length:Int):=by omega
   refine Wp.aF (xAe (cj2 ha hb)) ag ?_
   refine Wp.cond_true (by simp only[go_sem,reduceIte,Nat.reduceEqDiff,Bool.false_eq_true]) ?_
   refine Wp.skip ?_
   refine Wp.seq ?_
   refine Wp.block ?_
   refine Wp.aF (xAd (cj6 h4 h5 h6 @and_self @Int.toNat_natCast @byte.eq_1)) ag ?_
   have hs:=sK hc.1 hc.2
   refine Wp.bG (b:= !decide (((a.getD j 0).toNat:Int)=((b.getD j 0).toNat:Int))) xA2 (fun hd=>?_) (fun hd=>?_)
   ·refine Wp.aF (xAd (cj6 h4 h5 h6 @and_self @Int.toNat_natCast @byte.eq_1)) ag ?_
    refine cI ?_
    refine av.of_eq ?_
    congr 1
    rw[←h3,hs]
    have hne:¬(a.getD j 0=b.getD j 0):=fun he=>by rw[he] at hd;simp at hd
    have:(a.getD j 0 == b.getD j 0)=false:=by simpa using hne
    rw[this,Bool.false_and,Bool.or_false]
    congr 1
    rw[UInt8.lt_iff_toNat_lt]
    simp
   ·refine Wp.skip ?_
    refine Wp.ke (by simp only[go_sem,reduceIte,Nat.reduceEqDiff,Nat.reduceAdd,bx];simp (disch:=omega) only[IntWalk.i64_in];exact rfl) ag ?_
    have he:a.getD j 0=b.getD j 0:=by
     apply UInt8.toNat_inj.1
     have:((a.getD j 0).toNat:Int)=((b.getD j 0).toNat:Int):=by simpa using hd
     omega
    refine ⟨j+1,⟨ab,ab,?_⟩,ab,?_⟩
    ·rw[←h3,hs,he];simp[UInt8.lt_irrefl]
    ·exact xSu
  ·have hx:(decide ((j:Int)<(a.length:Int))&&decide ((j:Int)<(b.length:Int)))=false:=by
    by_cases h:j<a.length
    ·have:¬j<b.length:=fun h'=>hc ⟨h,h'⟩
     simp;omega
    ·simp;omega
   by_cases ha:j<a.length
   ·have h7:decide ((j:Int)<(a.length:Int))=true:=by simp;omega
    have h8:decide ((j:Int)<(b.length:Int))=false:=by rw[h7,Bool.true_and] at hx;exact hx
    refine Wp.aF (xAe (cj2 h7 h8)) ag ?_
    refine Wp.cond_false (by simp only[go_sem,reduceIte,Nat.reduceEqDiff,Bool.false_eq_true]) ?_
    refine Wp.exit ?_
    refine Wp.aF xA1 ag ?_
    refine cI ?_
    rw[←h3,kg h1 h2 hc]
    exact av.refl _
   ·have h7:decide ((j:Int)<(a.length:Int))=false:=by simp;omega
    refine Wp.aF (xAe h7) ag ?_
    refine Wp.cond_false (by simp only[go_sem,reduceIte,Nat.reduceEqDiff,Bool.false_eq_true]) ?_
    refine Wp.exit ?_
    refine Wp.aF xA1 ag ?_
    refine cI ?_
    rw[←h3,kg h1 h2 hc]
    exact av.refl _
theorem cL:∀a,Op.bytesLess a a=false
 |[]=>rfl
 |x::a=>by simp[Op.bytesLess,cL a,UInt8.lt_irrefl]
theorem dt:∀{a b c},Op.bytesLess a b=true→Op.bytesLess b c=true→Op.bytesLess a c=true
 |a,b,[],_,h=>by rw[db] at h;cases h
 |a,[],c::cs,h,_=>by rw[db] at h;cases h
 |[],b::bs,c::cs,_,_=>rfl
 |a::x,b::y,c::z,h1,h2=>by
  simp only[Op.bytesLess,Bool.or_eq_true,decide_eq_true_eq,Bool.and_eq_true,beq_iff_eq] at h1 h2 ⊢
  rcases h1 with h1|⟨rfl,h1⟩
  ·rcases h2 with h2|⟨rfl,h2⟩
   ·exact .inl (UInt8.lt_trans h1 h2)
   ·exact .inl h1
  ·rcases h2 with h2|⟨rfl,h2⟩
   ·exact .inl h2
   ·exact .inr ⟨rfl,dt h1 h2⟩
theorem du:∀a b,Op.bytesLess a b=true∨a=b∨Op.bytesLess b a=true
 |[],[]=> .inr (.inl rfl)
 |[],_::_=> .inl rfl
 |_::_,[]=> .inr (.inr rfl)
 |x::a,y::b=>by
  simp only[Op.bytesLess,Bool.or_eq_true,decide_eq_true_eq,Bool.and_eq_true,beq_iff_eq,List.cons.injEq]
  rcases Nat.lt_trichotomy x.toNat y.toNat with h|h|h
  ·exact .inl (.inl (UInt8.lt_iff_toNat_lt.2 h))
  ·have:=UInt8.toNat_inj.1 h
   subst this
   rcases du a b with h|h|h
   ·exact .inl (.inr ⟨rfl,h⟩)
   ·exact .inr (.inl ⟨rfl,h⟩)
   ·exact .inr (.inr (.inr ⟨rfl,h⟩))
  ·exact .inr (.inr (.inl (UInt8.lt_iff_toNat_lt.2 h)))
theorem gW {a b} (h:Op.bytesLess a b=true):Op.bytesLess b a=false:=by
 cases h':Op.bytesLess b a
 ·rfl
 ·have:=dt h h'
  rw[cL] at this;cases this
abbrev Bs:=List UInt8
structure Pr where
 k:Bs
 v:Bs
 deriving DecidableEq
structure Ch where
 k:Bs
 v:Bs
 d:Bool
 deriving DecidableEq
instance:Inhabited Pr:=⟨⟨[],[]⟩⟩
instance:Inhabited Ch:=⟨⟨[],[],false⟩⟩
def aW (p:Pr):AV:= .agg [.str p.k,.str p.v]
def prs (l:List Pr):List AV:=l.map aW
theorem cB (l:List Pr):(prs l).length=l.length:=by simp[prs]
theorem ff (l:List Pr) (k:Nat) (d:AV) (h:k<l.length):(prs l).getD k d=aW (l.getD k default):=by
 simp[prs,List.getD,List.getElem?_map,List.getElem?_eq_getElem h]
theorem cW {α:Type} {f:α→AV} (h:∀x,bf (f x)=true):∀l:List α,aR (l.map f)=true
 |[]=>rfl
 |x::l=>by simp only[List.map_cons,aR,h x,Bool.true_and];exact cW h l
theorem jl (l:List Pr):aR (prs l)=true:=cW (fun x=>by simp[aW,bf,aR]) l
theorem xR {α:Type} [Inhabited α] {l:List α} {i:Nat} (h:i<l.length):l.drop i=l.getD i default::l.drop (i+1):=by
 rw[List.drop_eq_getElem_cons h,List.getD_eq_getElem?_getD,List.getElem?_eq_getElem h];rfl
end Go.Proofs.YtbgmofhgfnmaiaaGreat.Batch
end
section
namespace Go.Av
theorem aK.G7 (t:Tm) (h:H) (d:Nat→Bool) (o1:Nat) {cs:List AV} (hd:d o1=false) (h1:h.objs o1=some (.cells cs)):
  aK ⟨t,h⟩ ⟨fun j=>unT h d (t j),{h.drop d with objs:=upd (h.drop d).objs o1 (some (.cells (gR h d cs)))}⟩ where
 n:=Nat.le_refl _
 m:=Nat.le_refl _
 go:=fun N G w a r _=>by
  have R:=xB r.h d
  have hd1:(h.drop d).objs o1=some (.cells cs):=by
   simp only[H.drop,hd]
   exact h1
  have hex:∀j o,upd (h.drop d).objs o1 (some (.cells (gR h d cs))) j=some o→∃o',(h.drop d).objs j=some o':=fun j o hj=>by
   simp only[upd] at hj
   by_cases e:j=o1
   ·subst e;exact ⟨_,hd1⟩
   ·rw[if_neg e] at hj;exact ⟨o,hj⟩
  have T2:=Trans.Gr (bS (G:=G) (h:=h) (w:=w) d) hex
  refine ⟨G.frz h _,T2,⟨r.size,fun j=>sA r.h _ _ _ (r.t j),⟨fun j o hj=>?_,fun i j o o' a b e=>?_,R.tok,R.tinj⟩,r.df.mono T2⟩⟩
  ·simp only[upd] at hj
   by_cases e:j=o1
   ·subst e
    rw[if_pos rfl] at hj
    cases hj
    obtain ⟨p1,p2,p3,p4⟩:=R.obj _ _ hd1
    refine ⟨p1,p2,p3,?_⟩
    obtain ⟨-,-,-,vs,rest,T,fr,y1,y2,y3,y4⟩:=r.h.obj _ _ h1
    exact ⟨vs,rest,T,fr,y1,gS r.h d _ _ y2,y3,y4⟩
   ·rw[if_neg e] at hj
    exact R.obj j o hj
  ·obtain ⟨o2,a2⟩:=hex _ _ a
   obtain ⟨o3,b2⟩:=hex _ _ b
   exact R.inj _ _ _ _ a2 b2 e
end Go.Av
end
section
namespace Go.Av
open Go.ChangeShapes Go.WideShapes Go.ChangeAt Go.RowKit
section
variable {H:Type} {enc:TypeId × Value→H} {P:Program} {w:World}
def G0:aM:=⟨fun _=>False,fun _=>0,fun _=>False,fun _=>none,fun _=>False,fun _=>none⟩
def fg (P:Program) (e:TypeId) (cs:List AV):AV:=if bZ P e then .agg cs else cs.headD .any
mutual
def mO:AV→Nat
 | .int _ _=>1
 | .bool _=>1
 | .str l=>l.length+1
 | .sl _ xs _=>cV xs+1
 | .agg cs=>cV cs
 |_=>0
def cV:List AV→Nat
 |[]=>0
 |x::xs=>mO x+cV xs
end
theorem iN:∀l m:List AV,cV (l++m)=cV l+cV m
 |[],m=>by simp[cV]
 |x::l,m=>by simp[cV,iN l m];omega
theorem ru (P:Program) (e:TypeId) (cs:List AV):mO (fg P e cs)≤cV cs:=by
 unfold fg
 split
 ·simp[mO]
 ·cases cs with
  |nil=>simp[mO,cV]
  |cons x cs=>simp[cV]
structure pW (B:DataW H→Nat) (BL:List (DataW H)→Nat):Prop where
 str:∀l,B (.lit (.string l))=l.length+1
 int:∀k n,B (.lit (.int k n))=1
 bool:∀b,B (.lit (.bool b))=1
 nil:B .nil=1
 slice:∀a b,B (.slice a b)=BL a+BL b+1
 agg:∀a,B (.agg a)=BL a+1
 nils:BL []=0
 cons:∀d l,BL (d::l)=B d+BL l
theorem pW.snoc {B:DataW H→Nat} {BL:List (DataW H)→Nat} (hB:pW B BL):∀(l:List (DataW H)) (d:DataW H),BL (l++[d])=BL l+B d
 |[],d=>by simp[hB.cons,hB.nils]
 |x::l,d=>by simp[hB.cons,pW.snoc hB l d];omega
theorem pW.take {B:DataW H→Nat} {BL:List (DataW H)→Nat} (hB:pW B BL):∀(l:List (DataW H)) (m:Nat),BL (l.take m)≤BL l
 |[],m=>by simp
 |x::l,0=>by simp[hB.nils]
 |x::l,m+1=>by simp[hB.cons,pW.take hB l m]
theorem jR {P:Program} {e:TypeId} {n:Nat}:∀{l:List (DataW H)} {d:DataW H},d∈l→n∈d.weights P e→n∈DataW.weightsAll P e l
 |x::l,d,h,hn=>by
  simp only[DataW.weightsAll,List.mem_append]
  rcases List.mem_cons.1 h with rfl|h
  ·exact .inl hn
  ·exact .inr (jR h hn)
inductive uF {α β:Type} (R:α→β→Prop):List α→List β→Prop
 |nil:uF R [] []
 |cons {a b l m}:R a b→uF R l m→uF R (a::l) (b::m)
def Fits (P:Program):Nat→TypeId→List AV→Prop
 |0,_,_=>False
 |k+1,t,xs=>match P.underlying t with
  |some .bool=>∃b,xs=[.bool b]
  |some (.int q)=>∃n,xs=[.int q n]∧(Lit.int q n).wf=true
  |some .string=>∃l,xs=[.str l]∧l.length≤reachBytes
  |some (.slice e)=>∃ys,xs=[.sl (P.cellsOf e) ys .any]∧ys.length*P.bytesOf e≤reachBytes∧∀y∈ys,∃cs,Fits P k e cs∧y=fg P e cs
  |some (.struct fs)=>∃xss,xs=xss.flatten∧uF (fun (f:Field) cs=>Fits P k f.type cs) fs.toList xss
  |_=>False
def iO (P:Program):Nat→TypeId→Bool
 |0,_=>false
 |k+1,t=>match P.underlying t with
  |some .bool|some (.int _)|some .string=>true
  |some (.slice e)=>decide (e<P.types.size)&&decide (0<P.cellsOf e)&&(bZ P e||decide (P.cellsOf e=1))&&iO P k e
  |some (.struct fs)=>decide (t<P.types.size)&&fs.all fun f=>iO P k f.type
  |_=>false
theorem ry {a:Addr} {v:Value} (h:w.cell? a=some v):a.spot=none:=by
 unfold World.cell? at h
 split at h
 ·split at h
  ·cases h
  ·rename_i hs;cases hh:a.spot with
   |none=>rfl
   |some x=>simp[hh] at hs
 ·cases h
theorem uG (b:Bool):One (.bool b):=⟨fun _=>by simp,fun _=>by simp⟩
theorem wy (k:IntKind) (n:Int):One (.int k n):=⟨fun _=>by simp,fun _=>by simp⟩
theorem wz (s:ByteArray):One (.string s):=⟨fun _=>by simp,fun _=>by simp⟩
theorem rA (a:Option Addr) (l c:Nat):One (.slice a l c):=⟨fun _=>by simp,fun _=>by simp⟩
theorem mP {R:Field→List AV→Prop} {G:aM} {B:DataW H→Nat} {BL:List (DataW H)→Nat} (hB:pW B BL) (full:List Value) (rd:Field→List Value→DataW H→Prop)
  (hrd:∀f cs d,rd f cs d→∃xs,R f xs∧aA G w xs cs∧(∀v∈cs,One v)∧cV xs≤B d):∀(fs:List Field) (ds:List (DataW H)) (off:Nat),ds.length=fs.length→
  (∀(j:Nat) f,fs[j]? =some f→f.offset=off+((fs.take j).map fun f=>P.cellsOf f.type).sum)→full.length=off+(fs.map fun f=>P.cellsOf f.type).sum→
  (∀(j:Nat) f d,fs[j]? =some f→ds[j]? =some d→rd f ((full.drop f.offset).take (P.cellsOf f.type)) d)→∃xss,uF R fs xss∧aA G w xss.flatten (full.drop off)∧(∀v∈full.drop off,One v)∧cV xss.flatten≤BL ds
 |[],ds,off,hl,h1,h2,h3=>by
  have e:full.drop off=[]:=List.drop_eq_nil_of_le (by simp at h2;omega)
  exact ⟨[],.nil,by rw[e];exact .nil,by rw[e];simp,by simp[cV]⟩
 |f::fs,[],off,hl,h1,h2,h3=>by cases hl
 |f::fs,d::ds,off,hl,h1,h2,h3=>by
  have o0:f.offset=off:=by simpa using h1 0 f rfl
  have hf:=h3 0 f d rfl rfl
  rw[o0] at hf
  obtain ⟨xs,r1,r2,r3,r4⟩:=hrd f _ d hf
  obtain ⟨xss,q1,q2,q3,q4⟩:=mP hB full rd hrd fs ds (off+P.cellsOf f.type) (by simpa using hl) (fun j g hj=>by
   have:=h1 (j+1) g (by simpa using hj)
   simp only[List.take_succ_cons,List.map_cons,List.sum_cons] at this;omega) (by simp only[List.map_cons,List.sum_cons] at h2;omega) (fun j g d' hg hd=>h3 (j+1) g d' (by simpa using hg) (by simpa using hd))
  have e:full.drop off=(full.drop off).take (P.cellsOf f.type)++full.drop (off+P.cellsOf f.type):=by
   rw[←List.drop_drop,List.take_append_drop]
  refine ⟨xs::xss,.cons r1 q1,?_,?_,?_⟩
  ·rw[e,List.flatten_cons];exact r2.append q2
  ·rw[e];intro v hv
   rcases List.mem_append.1 hv with hv|hv
   ·exact r3 v hv
   ·exact q3 v hv
  ·rw[List.flatten_cons,iN,hB.cons];omega
theorem Ad {e:TypeId} {cs:List AV} {vs:List Value} (hs:vs.length=P.cellsOf e) (hr:aA G0 w cs vs) (ho:∀v∈vs,One v) (hc:bZ P e=false→P.cellsOf e=1):
  ∃v:Value,v.cells.toList=vs∧aw G0 w (fg P e cs) v:=by
 unfold fg
 cases ha:bZ P e with
 |true=>exact ⟨.agg vs.toArray,by simp[Value.cells],by simp only[if_true,aw];exact ⟨vs,rfl,hr⟩⟩
 |false=>
  rw[hc ha] at hs
  obtain ⟨v,rfl⟩:=List.length_eq_one_iff.1 hs
  have hl:=hr.length
  obtain ⟨x,rfl⟩:=List.length_eq_one_iff.1 (show cs.length=1 by simpa using hl.symm)
  simp only[aA] at hr
  obtain ⟨v',us,e1,hv,e2⟩:=hr
  cases e1
  refine ⟨v,?_,by simpa using hv⟩
  have:=ho v af
  cases v<;>first|rfl|exact absurd rfl (this.1 _)|exact absurd rfl (this.2 _)
theorem Fits.slice {k:Nat} {t e:TypeId} {ys:List AV} (ht:P.underlying t=some (.slice e)) (h1:ys.length*P.bytesOf e≤reachBytes) (h2:∀y∈ys,∃cs,Fits P k e cs∧y=fg P e cs):Fits P (k+1) t [.sl (P.cellsOf e) ys .any]:=by
 unfold Fits;rw[ht];exact ⟨ys,rfl,h1,h2⟩
theorem Ae (hl:laidOutB P=true) {B:DataW H→Nat} {BL:List (DataW H)→Nat} (hB:pW B BL):∀(k:Nat) (t:TypeId),iO P k t=true→∀(fuel:Nat) (cs:List Value) (x:DataW H × List MemPlace),
  DataW.trod enc P w 0 (fun _=>true) true fuel t cs=some x→(∀n∈x.1.weights P t,n≤reachBytes)→∃xs,Fits P k t xs∧aA G0 w xs cs∧(∀v∈cs,One v)∧cV xs≤B x.1:=by
 intro k
 induction k with
 |zero=>intro t h;cases h
 |succ k ih=>
  intro t hp fuel cs x hx hwt
  simp only[iO] at hp
  split at hp
  ·rename_i ht
   obtain ⟨b,rfl,rfl⟩:=DataW.trod_bool ht hx
   exact ⟨[.bool b],by simp only[Fits,ht];exact ⟨b,rfl⟩,.cons (by simp[aw]) .nil,by simp[uG],by simp[hB.bool,cV,mO]⟩
  ·rename_i q ht
   obtain ⟨n,rfl,rfl,hw⟩:=DataW.trod_int ht hx
   exact ⟨[.int q n],by simp only[Fits,ht];exact ⟨n,rfl,hw⟩,.cons (by simp[aw]) .nil,by simp[wy],by simp[hB.int,cV,mO]⟩
  ·rename_i ht
   obtain ⟨s,rfl,rfl,-⟩:=DataW.trod_string ht hx
   refine ⟨[.str s.data.toList],by simp only[Fits,ht];exact ⟨_,rfl,hwt _ (by simp[DataW.weights])⟩,.cons (by simp[aw]) .nil,by simp[wz],by simp[hB.str,cV,mO]⟩
  ·rename_i e ht
   simp only[Bool.and_eq_true,decide_eq_true_eq] at hp
   obtain ⟨⟨⟨-,hsz⟩,hag⟩,hpe⟩:=hp
   rcases DataW.trod_slice ht hx with ⟨rfl,rfl⟩|⟨a,len,cap,elems,rest,n,rfl,rfl,rfl,hb,hlc,hcm,hel,hread,hrest,-⟩
   ·refine ⟨[.sl (P.cellsOf e) [] .any],Fits.slice ht af (fun y hy=>by cases hy),.cons ?_ .nil,by simp[rA],by simp[hB.nil,cV,mO]⟩
    unfold aw;exact .inl ⟨rfl,⟨none,rfl⟩,trivial⟩
   ·have hone:bZ P e=false→P.cellsOf e=1:=by
     intro ha
     simpa [ha] using hag
    have each:∀i,i<len→∃vs xs,w.cells? 0 (a.add (i*P.cellsOf e)) (P.cellsOf e)=some vs∧Fits P k e xs∧aA G0 w xs vs∧(∀v∈vs,One v)∧∀y,elems[i]? =some y→cV xs≤B y.1:=by
     intro i hi
     have h:=hread i hi
     rw[List.getElem?_eq_getElem ab] at h
     obtain ⟨vs,h1,h2⟩:=Option.bind_eq_some_iff.1 h
     obtain ⟨xs,h3,h4,h5,h6⟩:=ih e hpe n vs _ h2 (fun m hm=>hwt m (by
      simp only[DataW.weights,ht,List.mem_cons,List.mem_append]
      exact .inr (.inl (jR (List.mem_map.2 ⟨_,List.getElem_mem ab,rfl⟩) hm))))
     exact ⟨vs,xs,h1,h3,h4,h5,fun y hy=>by rw[List.getElem?_eq_getElem ab] at hy;cases hy;exact h6⟩
    have build:∀m,m≤len→∃ys vs,ys.length=m∧vs.length=m*P.cellsOf e∧(∀y∈ys,∃cs,Fits P k e cs∧y=fg P e cs)∧aH G0 w (P.cellsOf e) ys vs∧(∀(i:Nat) v,vs[i]? =some v→w.cell? (a.add i)=some v∧One v)∧cV ys≤BL ((elems.map (·.1)).take m):=by
     intro m
     induction m with
     |zero=>intro _;exact ⟨[],[],rfl,by simp,by simp,by simp[aH],by simp,by simp[cV]⟩
     |succ m ihm=>
      intro hm
      obtain ⟨ys,vs,k1,k2,k3,k4,k5,k6⟩:=ihm ab
      obtain ⟨us,xs,e1,e2,e3,e4,eb⟩:=each m ab
      obtain ⟨-,e5,e6⟩:=World.cells?_some e1
      obtain ⟨v,hv1,hv2⟩:=Ad e5 e3 e4 hone
      refine ⟨ys++[fg P e xs],vs++us,by simp[k1],by simp[k2,e5,Nat.add_mul],?_,?_,?_,?_⟩
      ·intro y hy
       rcases List.mem_append.1 hy with hy|hy
       ·exact k3 y hy
       ·simp at hy;exact ⟨xs,e2,hy⟩
      ·refine k4.append ?_
       simp only[aH]
       exact ⟨v,[],by simp[hv1],by rw[←Array.length_toList,hv1,e5],hv2,rfl⟩
      ·intro i z hz
       rcases Nat.lt_or_ge i vs.length with hi|hi
       ·rw[List.getElem?_append_left hi] at hz;exact k5 i z hz
       ·rw[List.getElem?_append_right hi] at hz
        have hlt:i - vs.length<us.length:=(List.getElem?_eq_some_iff.1 hz).1
        have:=e6 (i - vs.length) ab
        rw[hz] at this
        have ea:(a.add (m*P.cellsOf e)).add (i - vs.length)=a.add i:=by
         rw[←k2]
         unfold Addr.add
         by_cases h0:vs.length=0
         ·simp[h0]
         ·by_cases h1:i - vs.length=0
          ·have:i=vs.length:=by omega
           subst this;simp
          ·have:i≠0:=by omega
           simp[h0,h1,this];omega
        rw[ea] at this
        exact ⟨this,e4 z (List.mem_of_getElem? hz)⟩
      ·have hlt:m<(elems.map (·.1)).length:=by simp;omega
       rw[List.take_succ_eq_append_getElem hlt,hB.snoc,iN]
       have h1:=eb _ (List.getElem?_eq_getElem ab)
       have h2:=ru P e xs
       simp only[List.getElem_map,cV]
       omega
    obtain ⟨ys,vs,k1,k2,k3,k4,k5,k6⟩:=build len (Nat.le_refl _)
    refine ⟨[.sl (P.cellsOf e) ys .any],Fits.slice ht ?_ k3,.cons ?_ .nil,by simp[rA],?_⟩
    ·have:=hwt ((elems.length+rest.length)*P.bytesOf e) (by simp[DataW.weights,ht])
     exact Nat.le_trans (Nat.mul_le_mul_right _ ab) this
    rotate_left
    ·have:=hB.take (elems.map (·.1)) len
     simp only[hB.slice,cV,mO]
     omega
    unfold aw
    by_cases hcap:cap=0
    ·have:ys=[]:=List.length_eq_zero_iff.1 ab
     exact .inl ⟨this,⟨some a,by simp;omega⟩,by simp[jt]⟩
    ·have hspot:a.spot=none:=by
      by_cases hl0:len=0
      ·obtain ⟨hr1,hr2⟩:=hrest rfl
       have h:=hr2 0 ab
       rw[List.getElem?_eq_getElem ab] at h
       obtain ⟨vs',h1,h2⟩:=Option.bind_eq_some_iff.1 h
       obtain ⟨-,g1,g2⟩:=World.cells?_some h1
       have:=g2 0 hsz
       rw[List.getElem?_eq_getElem ab] at this
       have:=ry this
       simpa [hl0,Addr.add] using this
      ·obtain ⟨us,xs,e1,e2,e3,e4,-⟩:=each 0 ab
       obtain ⟨-,g1,g2⟩:=World.cells?_some e1
       have:=g2 0 hsz
       rw[List.getElem?_eq_getElem ab] at this
       have:=ry this
       simpa [Addr.add] using this
     obtain ⟨B,off,sp⟩:=a
     simp only at hspot
     subst hspot
     refine .inr ⟨B,off,cap,vs,by simp[k1],ab,by rw[k2,k1],k4,fun i v hv=>?_,by simp[dd]⟩
     obtain ⟨c1,c2⟩:=k5 i v hv
     rw[add_plain] at c1
     exact ⟨c1,c2,by simp[G0],by simp[G0]⟩
  ·rename_i fs ht
   simp only[Bool.and_eq_true,decide_eq_true_eq] at hp
   obtain ⟨hlt,hp⟩:=hp
   rw[Array.all_eq_true_iff_forall_mem] at hp
   obtain ⟨xs,n,rfl,rfl,hlen,hxl,hread⟩:=DataW.trod_struct ht hx
   obtain ⟨-,hsum,hoff⟩:=kid_struct hl hlt ht
   obtain ⟨xss,q1,q2,q3,q4⟩:=mP (P:=P) (R:=fun (f:Field) cs=>Fits P k f.type cs) (G:=G0) (w:=w) hB cs
    (fun f us d=>iO P k f.type=true∧∃y,DataW.trod enc P w 0 (fun _=>true) true n f.type us=some y∧y.1=d∧∀m∈d.weights P f.type,m≤reachBytes)
    (fun f us d ⟨h1,y,h2,h3,h4⟩=>by subst h3;exact ih f.type h1 n us y h2 h4) fs.toList (xs.map (·.1)) 0 (by simp[hxl]) (fun j f hj=>by rw[hoff j f hj];omega) (by rw[hlen,hsum];omega)
    (fun i f d hi hd=>by
     refine ⟨hp f (by have:=List.mem_of_getElem? hi;simpa using this),?_⟩
     have h:=hread i f (by simpa using hi)
     rw[List.getElem?_map] at hd
     cases hxi:xs[i]? with
     |none=>rw[hxi] at hd;cases hd
     |some y=>
      rw[hxi] at h hd
      refine ⟨y,h,by simpa using hd,fun m hm=>hwt m ?_⟩
      simp only[DataW.weights,ht]
      exact DataW.weights_mem_each (j:=i) (t:=f.type) (d:=d) (by rw[List.getElem?_map,hi];rfl) (by rw[List.getElem?_map,hxi];exact hd) m hm)
   refine ⟨xss.flatten,by simp only[Fits,ht];exact ⟨xss,rfl,q1⟩,by simpa using q2,by simpa using q3,?_⟩
   rw[hB.agg];omega
  ·cases hp
def mQ (P:Program) (k:Nat) (t:TypeId) (a:AV):Prop:=∃cs,Fits P k t cs∧a=fg P t cs
theorem DU {k:Nat} {t:TypeId} {v:Value} {xs:List AV} {base:Nat} (hp:iO P k t=true) (hok:Value.okWide P w .any base t v) (hr:aA G0 w xs v.cells.toList) (ho:∀u∈v.cells.toList,One u):aw G0 w (fg P t xs) v:=by
 unfold fg
 cases ha:bZ P t with
 |true=>
  have:∃cs,v= .agg cs:=by
   unfold bZ at ha
   unfold Value.okWide at hok
   split at ha
   ·rename_i h;rw[h] at hok;obtain ⟨cs,h,-⟩:=hok;exact ⟨cs,h⟩
   ·rename_i h;rw[h] at hok;obtain ⟨cs,h,-⟩:=hok;exact ⟨cs,h⟩
   ·cases ha
  obtain ⟨cs,rfl⟩:=this
  simp only[if_true,aw]
  exact ⟨cs.toList,by simp,by simpa [Value.cells] using hr⟩
 |false=>
  have hv:v.cells= #[v]:=by
   cases v<;>try rfl
   exfalso
   cases k with
   |zero=>cases hp
   |succ k=>
    unfold iO at hp
    unfold bZ at ha
    unfold Value.okWide Cell.okWide Cell.ok at hok
    split at hp
    all_goals (try (rename_i h;rw[h] at hok ha;simp at hok ha;done))
    all_goals (try (rename_i h;rw[h] at hok ha;simp at hok;done))
    all_goals simp_all
  rw[hv] at hr
  have hl:=hr.length
  obtain ⟨x,rfl⟩:=List.length_eq_one_iff.1 (show xs.length=1 by simpa using hl.symm)
  simp only[aA] at hr
  obtain ⟨v',us,e1,hx,e2⟩:=hr
  cases e1
  simpa using hx
theorem uH (hl:laidOutB P=true) {B:DataW H→Nat} {BL:List (DataW H)→Nat} (hB:pW B BL) {k:Nat} {base:Nat}:∀{ts us:List TypeId} {vs:List Value} {ds:List (DataW H)} {ps:List MemPlace},(∀t∈ts,iO P k t=true)→
  (∀(j:Nat) t v,ts[j]? =some t→vs[j]? =some v→Value.okWide P w .any base t v)→(∀n∈DataW.weightsEach P (ts++us) ds,n≤reachBytes)→DataW.TrodAll enc P w 0 (fun _=>true) true ts vs ds ps→∃avs,uF (mQ P k) ts avs∧aA G0 w avs vs∧cV avs≤BL ds
 |[],us,[],[],_,_,_,_,_=>⟨[],.nil,.nil,by simp[cV]⟩
 |t::ts,us,v::vs,d::ds,_,hp,hok,hwt,⟨p,q,⟨fuel,h1⟩,h2,_⟩=>by
  obtain ⟨xs,f1,f2,f3,f4⟩:=Ae hl hB k t (hp t af) fuel _ _ h1 (fun n hn=>hwt n (by simp only[List.cons_append,DataW.weightsEach,List.mem_append];exact .inl hn))
  obtain ⟨avs,g1,g2,g3⟩:=uH hl hB (us:=us) (fun t ht=>hp t (by simp[ht])) (fun j t v a b=>hok (j+1) t v (by simpa using a) (by simpa using b)) (fun n hn=>hwt n (by simp only[List.cons_append,DataW.weightsEach,List.mem_append];exact .inr hn)) h2
  refine ⟨fg P t xs::avs,.cons ⟨xs,f1,rfl⟩ g1,.cons (DU (hp t af) (hok 0 t v rfl rfl) f2 f3) g2,?_⟩
  have:=ru P t xs
  simp only[cV,hB.cons] at f4 ⊢
  omega
theorem oh {sp:Nat→Bool}:∀{ts:List TypeId} {vs:List Value} {ds:List (DataW H)} {ps:List MemPlace},DataW.TrodAll enc P w 0 sp true ts vs ds ps→ds.length=ts.length
 |[],[],[],_,h=>rfl
 |t::ts,v::vs,d::ds,_,⟨p,q,h1,h2,e⟩=>by simp[oh h2]
theorem lq {w':World} {sp:Nat→Bool}:∀{ts:List TypeId} {vs:List Value} {ds:List (DataW H)} {ps:List MemPlace},DataW.TrodAll enc P w 0 sp true ts vs ds ps→(∀p∈ps,w.sameAt w' p)→DataW.TrodAll enc P w' 0 sp true ts vs ds ps
 |[],[],[],_,h,_=>h
 |t::ts,v::vs,d::ds,_,⟨p,q,⟨fuel,h1⟩,h2,e⟩,hs=>by
  subst e
  exact ⟨p,q,⟨fuel,DataW.trod_carry fuel _ _ _ h1 (fun x hx=>hs x (List.mem_append_left _ hx))⟩,lq h2 (fun x hx=>hs x (List.mem_append_right _ hx)),rfl⟩
theorem Af (hl:laidOutB P=true) {B:DataW H→Nat} {BL:List (DataW H)→Nat} (hB:pW B BL) (hm:mapsRowed P=true) (hz:∀t e,t<P.types.size→P.underlying t=some (.slice e)→0<P.cellsOf e) {f:FuncId} {fn:Func} {s:ChangeSpec} {k base:Nat} {W:World} {args:Array Value} {ds gs:List (DataW H)} {before:List MemPlace} {tb:TypeId}
  (hvars:s.vars=[]) (hfn:∀l:List (DataW H),l.length=fn.params.size→s.fn H l= {results:=[.lit (.bool true)],args:=l}) (hrt:fn.resultTypes= #[tb]) (htb:P.underlying tb=some .bool)
  (hpl':fn.params.toList.all (iO P k)=true) (hlt':fn.params.toList.all (fun t=>decide (t<P.types.size))=true)
  (hval:∀(j:Nat) t v,fn.params[j]? =some t→args[j]? =some v→Value.okWide P W .any base t v) (hW:DataW.Whole enc P fn.params.toList s.vars false W args.toList ds gs before)
  {us:List TypeId} (hwt:(DataW.weightsEach P (fn.params.toList++us) (ds++gs)).all (· ≤reachBytes)=true)
  (law:∀avs,uF (mQ P k) fn.params.toList avs→cV avs≤BL (ds++gs)→aZ P f avs (.bool true)):
  Calls P f args W fun e W'=>∃v,e= .returned v∧s.post enc P fn false true false false W args v W':=by
 have hpl:∀t∈fn.params.toList,iO P k t=true:=List.all_eq_true.1 hpl'
 have hlt:∀t∈fn.params.toList,t<P.types.size:=fun t ht=>of_decide_eq_true (List.all_eq_true.1 hlt' t ht)
 have hW':=hW
 obtain ⟨p,q,hA,hV,rfl,-,-⟩:=hW
 rw[hvars] at hV
 obtain ⟨rfl,rfl⟩:=trodVars_none hV
 rw[List.append_nil] at hwt law
 obtain ⟨avs,g1,g2,g3⟩:=uH hl hB hpl (fun j t v a b=>hval j t v (by simpa using a) (by simpa using b)) (fun n hn=>of_decide_eq_true (List.all_eq_true.1 hwt n hn)) hA
 have hlaw:=law avs g1 g3 0 0 G0 W args.toList g2 gM ⟨fun _ _ _ h=>h,fun _ _ _ h=>h⟩
 rw[show args.toList.toArray=args from Array.toArray_toList] at hlaw
 refine hlaw.mono ?_
 rintro e W' ⟨v,G',he,T,-,hv⟩
 subst he
 simp only[aw] at hv
 subst hv
 have keep:∀B,B<W.heap.size→W'.heap[B]? =W.heap[B]? :=fun B hB=>T.keep B hB (fun x=>eX B x) (fun ⟨t,ht,_⟩=>by simp[H0,Av.H.only] at ht)
 have hlt':∀x∈p,x.block<W.heap.size:=DataW.TrodAll.lt hA
 have hlen:=oh hA
 refine ⟨_,rfl,ds,[],p++[],[],p,[],hW',?_,?_,?_,?_,fun h=>by cases h⟩
 ·rw[hfn _ (by simpa using hlen),hrt]
  exact trodAll_mk1 (shut_bool htb _)
 ·rw[hfn _ (by simpa using hlen)]
  have:=DataW.TrodAll.respare (kids_rows hl hm) hz (spare':=fun b=>decide (b<W.heap.size)) hlt hA (fun x hx=>by simpa using hlt' x hx)
  simp only[List.append_nil]
  refine lq this fun x hx=>?_
  have hb:=hlt' x hx
  cases x with
  |cell b off=>unfold World.sameAt World.cell?;simp only;rw[keep b hb]
  |map b=>exact keep b hb
 ·rw[hvars,hfn _ (by simpa using hlen)]
  rfl
 ·refine ⟨T.os,T.output,fun i hi=>?_⟩
  rw[keep i hi]
  generalize W.heap[i]? =o
  cases o with
  |none=>rfl
  |some o=>cases o<;>simp
end
end Go.Av
end
section
set_option maxRecDepth 100000
namespace Go.Proofs.YtbgmofhgfnmaiaaGreat.Tree
open Go Go.Av Go.Proofs Go.Proofs.YtbgmofhgfnmaiaaGreat.C Go.Proofs.YtbgmofhgfnmaiaaGreat.Page
open Go.Proofs.YtbgmofhgfnmaiaaGreat.Batch (Bs Pr prs aW)
def dkO (K n:Nat) (pa:AV):Av.Obj:= .cells [.tsl 128 K 0 n none,pa,.int .i64 (-1),.bool false]
section
variable {h:H} {D K n:Nat} {pa:AV}
theorem wA (ho:h.objs D=some (dkO K n pa)) (hn:0<n):aJ Tryz.prog 58 [.ptr D 0] h (.bool true) h:=by
 refine f58.bP af ?_
 unfold c58 zz
 have d1:decide ((0:Int)<(n:Int))=true:=decide_eq_true ab
 unfold dkO at ho
 refine rf0 (cj2 ho d1) ?_
 refine Wp.ret ⟨trivial,_,?_,av.refl _,rfl⟩
 simp only[go_sem]
 exact rfl
theorem Fh (ho:h.objs D=some (dkO K n pa)) (hn:0<n):aJ Tryz.prog 67 [.ptr D 0] h (.int .i64 n) h:=by
 refine f67.bP af ?_
 unfold c67 zz
 have c1:=wA ho hn
 unfold dkO at ho
 refine rg1 (cj2 ho @Bool.not_true) c1 ?_
 refine Wp.ret ⟨trivial,_,?_,av.refl _,rfl⟩
 simp only[go_sem]
 exact rfl
theorem EH (ho:h.objs D=some (dkO K n pa)) (hn:0<n):aJ Tryz.prog 49 [.ptr D 0] h (.int .i64 0) h:=by
 refine f49.bP af ?_
 unfold c49 zz
 have c1:=wA ho hn
 unfold dkO at ho
 refine rg1 (cj2 ho @Bool.not_true) c1 ?_
 refine Wp.ret ⟨trivial,_,?_,av.refl _,rfl⟩
 simp only[go_sem]
 exact rfl
theorem uI (ho:h.objs D=some (dkO K n pa)) {i:Nat} (hi:i<n):aJ Tryz.prog 138 [.ptr D 0,.int .i64 i] h (.int .i64 0) h:=by
 refine f138.bP af ?_
 unfold Ge zz
 have c1:=EH ho ab
 have d1:decide ((i:Int)<0)=false:=decide_eq_false ab
 have d2:decide ((n:Int)≤(i:Int))=false:=decide_eq_false ab
 unfold dkO at ho
 refine rg1 (cj5 ho d1 d2 @decide_true @Bool.not_true) c1 ?_
 refine Wp.ret ⟨trivial,_,?_,av.refl _,rfl⟩
 simp only[go_sem]
 exact rfl
theorem B4 (ho:h.objs D=some (dkO K n pa)):aJ Tryz.prog 50 [.ptr D 0] h (.int .i64 0) h:=by
 refine f50.bP af ?_
 unfold c50 zz
 have d1:decide ((-1:Int)=0)=false:=by decide
 have d2:decide ((0:Int)< -1)=false:=by decide
 unfold dkO at ho
 refine rf0 (cj3 ho d1 d2) ?_
 refine Wp.ret ⟨trivial,_,?_,av.refl _,rfl⟩
 simp only[go_sem]
 exact rfl
end
end Go.Proofs.YtbgmofhgfnmaiaaGreat.Tree
end
section
set_option maxRecDepth 100000
namespace Go.Proofs.YtbgmofhgfnmaiaaGreat.Tree
open Go Go.Av Go.Proofs Go.Proofs.YtbgmofhgfnmaiaaGreat.C Go.Proofs.YtbgmofhgfnmaiaaGreat.Page
open Go.Proofs.YtbgmofhgfnmaiaaGreat.Batch (Bs Pr prs aW)
def wAV (x:Nat × List UInt8):AV:= .agg (ar x.2++[.int .i64 x.1])
def tkC:Option Nat→Cap
 |some t=> .own t
 |none=> .exact 0
def tkT:Option Nat→List Nat→List Nat
 |some t,T=>t::T
 |none,T=>T
def cC (p:List (Nat × List UInt8)) (tk:Option Nat):AV:= .sl 129 (p.map wAV) (tkC tk)
theorem DV {F:Nat→Option Av.Obj} {n m K N D W off i:Nat} {tk:Option Nat} {T:List Nat} {cap:Option Nat} {p:List (Nat × List UInt8)} {l:List UInt8} {cs:List AV} (ho:F D=some (dkO K N (cC p tk))) (hW:F W=some (.cells cs)) (hl:l.length=128) (hcs:(cs.drop off).take 128=ar l) (hle:off+128≤cs.length)
  (hi:i<N) (hD:D<n) (hWn:W<n) (hn:F n=none) (ht:∀t,tk=some t→t∉T) (h0:tk=none→p=[]) (hp:p.length<1000000):
  aJ Tryz.prog 146 [.ptr D 0,.int .i64 i,.tsl 1 W off 128 cap] ⟨F,n,tkT tk T,m⟩ (.int .i64 0) ⟨upd F D (some (dkO K N (cC (p++[(i,l)]) (some m)))),n+1,m::T,m+1⟩:=by
 refine f146.bP af ?_
 unfold Gh
 have c1:=uI (h:=⟨F,n,tkT tk T,m⟩) ho hi
 have c2:=B4 (h:=⟨F,n,tkT tk T,m⟩) ho
 have d1:decide ((128:Int)<((128:Nat):Int))=false:=by decide
 refine rg2 (cj2 d1 @decide_true) c1 c2 ?_
 have hDn:¬(D=n):=Nat.ne_of_lt hD
 have hWn1:¬(W=n):=Nat.ne_of_lt hWn
 have hnD:¬(n=D):=fun e=>hDn e.symm
 obtain ⟨Z,hZ⟩:∃Z,Z=List.replicate 128 (AV.int .u8 0):=⟨_,rfl⟩
 rw[←hZ]
 have hZl:Z.length=128:=by rw[hZ];simp
 have hZc:Z.all aO=true:=by rw[hZ];simp[aO]
 clear hZ
 have z1:∀x:AV,(Z++[x]).length=129:=fun x=>by simp[hZl]
 have z2:∀x:AV,List.take 128 (Z++[x])=Z:=fun x=>by rw[←hZl,List.take_left]
 have z7:∀x:AV,List.drop 129 (Z++[x])=[]:=fun x=>List.drop_eq_nil_of_le (by rw[z1];exact Nat.le_refl _)
 have z3:(Z++[AV.int .i64 0]).all aO=true:=by simp only[List.all_append,hZc];rfl
 have z4:(Z++[AV.int .i64 (i:Int)]).all aO=true:=by simp only[List.all_append,hZc];rfl
 have z8:∀x:AV,List.drop 128 (Z++[x])=[x]:=fun x=>by rw[←hZl,List.drop_left]
 have z9:(ar l).length=128:=by simp[ar,hl]
 refine rf0 (sE z1 z2 z3 z4 z7 @List.append_nil.{0} @List.take_zero.{0} @List.nil_append.{0} @Nat.zero_add @List.length_cons.{0} @List.length_nil.{0}) ?_
 refine an.opA ae (by simp only[fB,jJ,jI,go_sem,reduceIte,Nat.reduceEqDiff,Nat.reduceAdd,bx,ax,if_true,if_false,Nat.reduceMul,Nat.reduceLeDiff,z1,List.map,Nat.zero_add,Nat.one_mul,Nat.mul_one,Nat.reduceLeDiff,and_self,Int.toNat_zero,Nat.sub_zero,Nat.reduceMul];exact rfl) ?_
 simp only[cg]
 refine an.evF xAc ?_
 refine an.opA ae (by simp only[fB,jJ,jI,go_sem,reduceIte,Nat.reduceEqDiff,Nat.reduceAdd,bx,ax,if_true,if_false,Nat.reduceMul,Nat.reduceLeDiff,hWn1,hW,z1,z8,z9,hle,hcs,Nat.min_self,List.take_zero,List.nil_append,Nat.zero_add,Nat.reduceLeDiff,ne_eq,not_false_eq_true,not_true,and_self,hDn,hnD];exact rfl) ?_
 simp only[cg]
 refine an.nil ?_
 rw[show List.take (min 128 (Int.toNat 128)) (List.drop off cs)=ar l from hcs,z9,z8,bn,bn]
 refine Wp.le (s':=⟨tm [(0,.ptr D 0),(8,.ptr n 0)],⟨upd F n (some (.cells (ar l++[.int .i64 i]))),n+1,tkT tk T,m⟩⟩) (aK.tm ?_) ?_
 ·exact xSb
 have y1:(ar l++[AV.int .i64 (i:Int)]).length=129:=by simp[z9]
 have y2:(ar l++[AV.int .i64 (i:Int)]).all aO=true:=by simp[ar,byte,aO]
 have y3:List.take 129 (ar l++[AV.int .i64 (i:Int)])=ar l++[AV.int .i64 (i:Int)]:=List.take_of_length_le (by rw[y1];exact Nat.le_refl _)
 have y4:(p.map wAV).length=p.length:=by simp
 have r1:(p.length+1)*136≤140737488355328:=by omega
 have r2:p.length+1<4611686018427387904:=by omega
 have ey:dkO K N (cC (p++[(i,l)]) (some m))= .cells [.tsl 128 K 0 N none,.sl 129 (List.map wAV p++[.agg (ar l++[.int .i64 i])]) (.own m),.int .i64 (-1),.bool false]:=by simp[dkO,cC,wAV,tkC]
 cases tk with
 |some t=>
  have y5:List.filter (fun x=> !decide (x=t)) T=T:=List.filter_eq_self.2 fun x hx=>by
   have:x≠t:=fun e=>ht t rfl (e▸hx)
   simp[this]
  unfold dkO cC tkC at ho
  unfold tkT
  refine rn0 (cP ho hDn hnD y1 y2 y3 y4 y5 r1 r2 @Nat.zero_add (cj9 @List.drop_zero.{0} @List.mem_cons.{0} @true_or @and_self @Nat.one_mul @List.all_cons.{0} @List.all_nil.{0} @List.length_cons.{0} @List.length_nil.{0})) ?_
  refine Wp.le (s':=⟨tm [(6,.int .i64 0)],⟨upd F D (some (dkO K N (cC (p++[(i,l)]) (some m)))),n+1,m::T,m+1⟩⟩) (aK.of (bp ?_) ?_ (fun x hx=>?_) (Nat.le_refl _) (Nat.le_refl _)) ?_
  ·exact xSb
  ·rw[ey]
   exact OLe.upd (OLe.skip hn) (dN.refl _)
  ·simpa [y5] using hx
  refine Wp.ret ⟨trivial,_,?_,av.refl _,rfl⟩
  simp only[go_sem]
  exact rfl
 |none=>
  obtain rfl:=h0 rfl
  replace ho:F D=some (.cells [.tsl 128 K 0 N none,.sl 129 [] (.exact 0),.int .i64 (-1),.bool false]):=ho
  unfold tkT
  have r4:(1:Nat)<4611686018427387904:=by decide
  refine rn0 (cP ho hDn hnD y1 y2 y3 r4 @true_or @or_true @List.nil_append.{0} @List.map_nil.{0,0} (oz @Nat.zero_add @List.drop_zero.{0} @List.mem_cons.{0} @true_or @and_self @Nat.one_mul @List.all_cons.{0} @List.all_nil.{0} @List.length_cons.{0} @List.length_nil.{0})) ?_
  refine Wp.le (s':=⟨tm [(6,.int .i64 0)],⟨upd F D (some (dkO K N (cC ([]++[(i,l)]) (some m)))),n+1,m::T,m+1⟩⟩) (aK.of (bp ?_) ?_ (fun x hx=>?_) (Nat.le_refl _) (Nat.le_refl _)) ?_
  ·exact xSb
  ·rw[ey]
   exact OLe.upd (OLe.skip hn) (dN.refl _)
  ·exact hx
  refine Wp.ret ⟨trivial,_,?_,av.refl _,rfl⟩
  simp only[go_sem]
  exact rfl
theorem rC (p:List (Nat × List UInt8)) {j:Nat} (h:j<p.length) (d:AV):(p.map wAV).getD j d=wAV (p.getD j (0,[])):=by
 simp[List.getD_eq_getElem?_getD,List.getElem?_eq_getElem h]
theorem wB {p:List (Nat × List UInt8)} {c:Cap} {B:Nat} (hp:p.length<1000000) (hl:∀x∈p,x.2.length=128) (id:Nat) (Inv:Nat→H→Prop) (E:H→Prop)
  (hB:∀j h,Inv j h→h.objs B=some (.cells [.sl 129 (p.map wAV) c]))
  (hY:∀j h,j<p.length→Inv (j+1) h→sH Tryz.prog id [.int .i64 (j:Nat),wAV (p.getD j (0,[]))] h fun r h'=>(r= .bool true∧Inv j h')∨(r= .bool false∧E h'))
  (h0:H) (hi:Inv p.length h0):aI Tryz.prog 158 [.yld id,.ptr B 0] h0 fun r h'=>r= .tup []∧(Inv 0 h'∨E h'):=by
 refine f158.bu af ?_
 unfold Gl zz
 have b0:=hB _ _ hi
 have len:(p.map wAV).length=p.length:=by simp
 have w1:IntKind.i64.wrap ((p.length:Int) - 1)=(p.length:Int) - 1:=IntWalk.i64_in _ ab
 refine rf0 (cj3 b0 @len w1) ?_
 refine Wp.le (s':=⟨tm [(0,.yld id),(1,.ptr B 0),(3,.int .i64 ((p.length:Int) - 1))],h0⟩) (aK.tm ?_) ?_
 ·exact xSb
 refine Wp.eH [0,1] xA7 (fun b:Nat × H=>[(3,.int .i64 ((b.1:Int) - 1))]) (fun b=>b.2) (fun b=>b.1≤p.length∧Inv b.1 b.2) (fun b=>b.1) (p.length,h0) ⟨Nat.le_refl _,hi⟩ rfl ?_ ?_
 ·exact xSb
 clear b0 hi h0 w1
 rintro ⟨j,h⟩ ⟨hj,hI⟩
 simp only at hj hI
 cases j with
 |zero=>
  have g1:decide ((0:Int)≤((0:Nat):Int) - 1)=false:=by decide
  refine rf0 g1 ?_
  refine ⟨trivial,_,rfl,?_,.inl hI⟩
  simp only[go_sem]
 |succ j=>
  have g1:decide ((0:Int)≤((j+1:Nat):Int) - 1)=true:=decide_eq_true ab
  have e0:((j+1:Nat):Int) - 1=(j:Int):=by omega
  rw[e0] at g1 ⊢
  have b0:=hB _ _ hI
  have hs:=rC p (j:=j) ab .any
  have hy:=hY j h ab hI
  have h3:(j:Int)<(p.length:Int):=by omega
  have h2:(0:Int)≤(j:Int):=by omega
  have hx:(p.getD j (0,[])).2.length=128:=by
   rw[List.getD_eq_getElem?_getD,List.getElem?_eq_getElem (show j<p.length by omega)]
   exact hl _ (List.getElem_mem _)
  generalize p.getD j (0,[])=x at hs hy hx
  change _=AV.agg (ar x.2++[AV.int .i64 (x.1:Int)]) at hs
  have sh:(ar x.2++[AV.int .i64 (x.1:Int)]).all aO=true:=by simp[ar,byte,aO]
  have y1:(ar x.2++[AV.int .i64 (x.1:Int)]).length=129:=by simp[ar,hx]
  have y3:List.take 129 (ar x.2++[AV.int .i64 (x.1:Int)])=ar x.2++[AV.int .i64 (x.1:Int)]:=List.take_of_length_le (by rw[y1];exact Nat.le_refl _)
  refine rf0 (cP b0 @len g1 hs h2 h3 @Int.toNat_natCast @and_self sh y1 y3 (cj4 @Bool.or_true @Bool.false_or @Nat.zero_add @List.drop_zero.{0})) ?_
  refine an.yield ae (by simp only[go_sem,reduceIte,Nat.reduceEqDiff]) xA4 hy fun r h1 hq hn hm=>?_
  have w2:IntKind.i64.wrap ((j:Int) - 1)=(j:Int) - 1:=IntWalk.i64_in _ ab
  rcases hq with ⟨rfl,hi1⟩|⟨rfl,hE1⟩
  ·refine an.evF xAc ?_
   refine rf0 (cj2 @Bool.not_true w2) ?_
   refine ⟨(j,h1),⟨ab,hi1⟩,Nat.lt_succ_self _,?_⟩
   refine aK.tm ?_
   exact xSb
  ·refine an.evF xAc ?_
   refine rf0 @Bool.not_false ?_
   refine Wp.ret ⟨trivial,_,rfl,?_,.inr hE1⟩
   simp only[go_sem]
def rdP (p:List (Nat × List UInt8)) (d:List (Nat × List UInt8)) (i:Nat):List UInt8:=p.foldl (fun a x=>if x.1=i then x.2 else a) (dU d i)
theorem ic (p d:List (Nat × List UInt8)) (x:Nat × List UInt8) (i:Nat):rdP (p++[x]) d i=if x.1=i then x.2 else rdP p d i:=by
 simp[rdP,List.foldl_append]
theorem jm {α:Type} {M:List α→Prop} (h0:M []) (h1:∀l x,M l→M (l++[x])):∀l,M l:=by
 intro l
 rw[←List.reverse_reverse l]
 induction l.reverse with
 |nil=>exact h0
 |cons x r ih=>rw[List.reverse_cons];exact h1 _ _ ih
theorem uJ {p d:List (Nat × List UInt8)} {i:Nat} (h:∀x∈p,x.1≠i):rdP p d i=dU d i:=by
 revert h
 refine jm (M:=fun p=>(∀x∈p,x.1≠i)→rdP p d i=dU d i) (fun _=>rfl) (fun p x ih h=>?_) p
 rw[ic,if_neg (h x af),ih fun y hy=>h y (by simp[hy])]
theorem Fi {p d:List (Nat × List UInt8)} {i j:Nat} (hj:j<p.length) (h:∀k,j<k→k<p.length→(p.getD k (0,[])).1≠i) (he:(p.getD j (0,[])).1=i):rdP p d i=(p.getD j (0,[])).2:=by
 revert hj h he
 refine jm (M:=fun p=>j<p.length→(∀k,j<k→k<p.length→(p.getD k (0,[])).1≠i)→(p.getD j (0,[])).1=i→rdP p d i=(p.getD j (0,[])).2) (fun hj=>by simp at hj) (fun p x ih hj h he=>?_) p
 rw[ic]
 simp only[List.length_append,List.length_cons,List.length_nil] at hj
 have e1:(p++[x]).getD p.length (0,[])=x:=by simp[List.getD]
 have e2:∀k,k<p.length→(p++[x]).getD k (0,[])=p.getD k (0,[]):=fun k hk=>by simp[List.getD,List.getElem?_append_left hk]
 by_cases e:j=p.length
 ·subst e
  rw[e1] at he ⊢
  rw[if_pos he]
 ·have hj2:j<p.length:=by omega
  have hx:=h p.length hj2 af
  rw[e1] at hx
  rw[if_neg hx,e2 j hj2]
  rw[e2 j hj2] at he
  exact ih hj2 (fun k h1 h2=>by rw[←e2 k h2];exact h k h1 ak) he
theorem Ag {h:H} {xs:List AV} {c:Cap}:aJ Tryz.prog 139 [.sl 129 xs c] h (.clo (.func 158) [] [.ptr h.n 0]) {h with objs:=upd h.objs h.n (some (.cells [.sl 129 xs c])),n:=h.n+1}:=by
 refine f139.bP af ?_
 unfold Gf zz
 refine vZ ?_
 refine Wp.ret ⟨trivial,_,?_,av.refl _,rfl⟩
 simp only[go_sem]
 exact rfl
def rdG (F:Nat→Option Av.Obj) (n i:Nat) (PA:AV) (v:List UInt8):Nat→Option Av.Obj:=upd (upd (upd F n (some (.cells [.int .i64 i]))) (n+1) (some (.cells (ar v)))) (n+1+1) (some (.cells [PA]))
set_option maxHeartbeats 1000000 in
theorem Fj {F:Nat→Option Av.Obj} {n m K N D i:Nat} {tk:Option Nat} {T:List Nat} {p d:List (Nat × List UInt8)} (ho:F D=some (dkO K N (cC p tk))) (hK:F K=some (.bk ⟨N,d⟩)) (hd:∀x∈d,x.2.length=128) (hl:∀x∈p,x.2.length=128)
  (hi:i<N) (hD:D<n) (hKn:K<n) (hf:∀j,n≤j→F j=none) (hp:p.length<1000000):
  ∃n',n≤n'∧aJ Tryz.prog 99 [.ptr D 0,.int .i64 i] ⟨F,n,T,m⟩ (.tup [.sl 1 (ar (rdP p d i)) .any,.int .i64 0]) ⟨F,n',T,m⟩:=by
 have key:aI Tryz.prog 99 [.ptr D 0,.int .i64 i] ⟨F,n,T,m⟩ fun r h'=>∃n',n≤n'∧r= .tup [.tsl 1 (n+1) 0 128 (some 128),.int .i64 0]∧h'=⟨upd F (n+1) (some (.cells (ar (rdP p d i)))),n',T,m⟩:=by
  refine f99.bu af ?_
  unfold c99
  have hDn:¬(D=n):=Nat.ne_of_lt hD
  have hnD:¬(n=D):=fun e=>hDn e.symm
  have hKn1:¬(K=n):=Nat.ne_of_lt hKn
  have c1:=uI (h:=⟨upd F n (some (.cells [.int .i64 i])),n+1,T,m⟩) (D:=D) (K:=K) (n:=N) (pa:=cC p tk) (by simp only[upd,if_neg hDn];exact ho) hi
  refine G5 c1 ?_
  refine Wp.le (s':=⟨tm [(0,.ptr D 0),(3,.ptr n 0)],⟨upd F n (some (.cells [.int .i64 i])),n+1,T,m⟩⟩) (aK.tm ?_) ?_
  ·exact xSb
  have ho2:=ho
  unfold dkO cC at ho2
  have h2:(0:Int)≤(i:Int):=by omega
  have h3:(i:Int)<(N:Int):=by omega
  have m1:i*128%128=0:=by omega
  have m2:i*128/128=i:=by omega
  refine Wp.reg ?_
  refine ao.part 6 (xAe (cj8 ho2 hDn hnD h2 h3 @Int.toNat_natCast @and_self @Nat.zero_add)) ?_
  simp only[List.drop_succ_cons,List.drop_zero,List.drop_nil]
  refine ao.opA xA2 (by simp only[fB,jJ,jI,go_sem,reduceIte,Nat.reduceEqDiff,Nat.reduceAdd,bx,ax,if_true,if_false,Nat.reduceMul,Nat.reduceLeDiff,hK,hKn1,m1,m2,hi];exact rfl) ?_
  obtain ⟨Z,hZ⟩:∃Z,Z=List.replicate 128 (AV.int .u8 0):=⟨_,rfl⟩
  rw[←hZ]
  have hZl:Z.length=128:=by rw[hZ];simp
  have hZc:Z.all aO=true:=by rw[hZ];simp[aO]
  clear hZ
  obtain ⟨v0,hv0⟩:∃v0,v0=dU d i:=⟨_,rfl⟩
  have v0l:v0.length=128:=by rw[hv0];exact je hd i
  rw[←hv0]
  have v1:(ar v0).length=128:=by simp[ar,v0l]
  have v2:(ar v0).all aO=true:=by simp[ar,byte,aO]
  have v3:List.drop 128 Z=[]:=List.drop_eq_nil_of_le ab
  refine ao.part 2 (xAd (cj9 hZc hZl v1 v2 v3 @Nat.zero_add @List.take_zero.{0} @List.nil_append.{0} @List.append_nil.{0})) ?_
  simp only[List.drop_succ_cons,List.drop_zero,List.drop_nil]
  refine ao.nil ⟨by simp[bg,aS,apart,aV];omega,?_⟩
  rw[bn]
  refine Wp.le (s':=⟨tm [(0,.ptr D 0),(3,.ptr n 0),(7,.ptr (n+1) 0)],⟨upd (upd F n (some (.cells [.int .i64 i]))) (n+1) (some (.cells (ar v0))),n+1+1,T,m⟩⟩) (aK.tm ?_) ?_
  ·exact xSb
  have hDn2:¬(D=n+1):=by omega
  have hnn:¬(n=n+1):=by omega
  have c2:=Ag (h:=⟨upd (upd F n (some (.cells [.int .i64 i]))) (n+1) (some (.cells (ar v0))),n+1+1,T,m⟩) (xs:=p.map wAV) (c:=tkC tk)
  refine rf0 (cj3 ho2 hDn hDn2) ?_
  simp only at c2
  refine an.cF xA2 xAb (by exact ⟨Nat.le_succ _,Nat.le_refl _⟩) (c2) ?_
  refine an.nil ?_
  refine Wp.block ?_
  obtain ⟨PA,hPA⟩:∃PA,PA=AV.sl 129 (p.map wAV) (tkC tk):=⟨_,rfl⟩
  refine Wp.le (s':=⟨tm [(3,.ptr n 0),(7,.ptr (n+1) 0),(27,.clo (.func 158) [] [.ptr (n+1+1) 0])],⟨rdG F n i PA v0,n+1+1+1,T,m⟩⟩) (aK.of (bp ?_) ?_ (fun x hx=>hx) (Nat.le_refl _) (Nat.le_refl _)) ?_
  ·exact xSb
  ·rw[hPA];exact OLe.refl _
  refine Wp.Gs (fi:=158) (first:=[]) (caps:=[.ptr (n+1+1) 0]) (by simp only[go_sem,reduceIte,Nat.reduceEqDiff]) Tryz.func158 rfl (of_decide_eq_true (by kernel_rfl)) (by
   simp only[rdG,upd]
   rw[if_neg ab,if_neg ab,if_neg ab]
   exact hf _ ab) ?_
  intro asg body a1 a2 a3 a4
  generalize hT:tm [(3,AV.ptr n 0),(7,.ptr (n+1) 0),(27,.clo (.func 158) [] [.ptr (n+1+1) 0])]=tt at*
  have t3:tt 3= .ptr n 0:=by rw[←hT];rfl
  have t7:tt 7= .ptr (n+1) 0:=by rw[←hT];rfl
  obtain ⟨L,hL⟩:∃L,L=n+1+1+1:=⟨_,rfl⟩
  rw[←hL]
  have fin:∀(v:List UInt8),v=rdP p d i→∀(Hh:Nat→Option Av.Obj) (n':Nat),L<n'→Hh (n+1)=some (.cells (ar v))→(∀k o,F k=some o→Hh k=some o)→
    Wp Tryz.prog 37 (.seq (.reg [⟨some 36,none,.raw (.slp 1 128) [(.t 7),(.c (.int .i64 0)),(.c (.int .i64 128))]⟩,⟨some 4,none,.mov (.t 36)⟩,⟨some 5,none,.mov (.c (.int .i64 0))⟩] none) .ret) ⟨tt,⟨Hh,n',T,m⟩⟩ fun e s'=>kY e∧∃q,de [RV.tmp 4,RV.tmp 5] s'.t s'.h=some q∧∃n',n≤n'∧q= .tup [.tsl 1 (n+1) 0 128 (some 128),.int .i64 0]∧s'.h=⟨upd F (n+1) (some (.cells (ar (rdP p d i)))),n',T,m⟩:=by
   intro v hv Hh n' hn' h1 h2
   have hl2:(rdP p d i).length=128:=by
    refine jm (M:=fun p=>(∀x∈p,x.2.length=128)→(rdP p d i).length=128) (fun _=>je hd i) (fun p x ih h=>?_) p hl
    rw[ic]
    split
    ·exact h x af
    ·exact ih fun y hy=>h y (by simp[hy])
   refine Wp.le (s':=⟨tm [(7,.ptr (n+1) 0)],⟨upd F (n+1) (some (.cells (ar (rdP p d i)))),n',T,m⟩⟩) (aK.of (bp ?_) (fun j o' hj=>?_) (fun x hx=>hx) (Nat.le_refl _) (Nat.le_refl _)) ?_
   ·simp only[aY,go_sem,reduceIte,Nat.reduceEqDiff,Nat.reduceAdd,bx,t7];and_intros<;>first|exact trivial|exact av.refl _|exact av.any _|(refine av.int ?_;omega)
   ·simp only[upd] at hj
    by_cases e:j=n+1
    ·rw[if_pos e] at hj
     cases hj
     exact ⟨_,by rw[e,h1,hv],dN.refl _⟩
    ·rw[if_neg e] at hj
     exact ⟨_,h2 j o' hj,dN.refl _⟩
   have w1:(ar (rdP p d i)).length=128:=by simp[ar,hl2]
   refine Wp.seq (Wp.DJ ?_)
   refine an.opA ae (by simp only[fB,jJ,jI,go_sem,reduceIte,Nat.reduceEqDiff,Nat.reduceAdd,bx,ax,if_true,if_false,Nat.reduceMul,Nat.reduceLeDiff,w1,List.map,Nat.zero_add,Nat.one_mul,Nat.mul_one,Nat.reduceLeDiff,and_self,Int.toNat_zero,Nat.sub_zero,Nat.reduceMul];exact rfl) ?_
   simp only[cg]
   refine an.evF xAc ?_
   refine an.nil ?_
   refine Wp.ret ⟨trivial,_,?_,n',ab,rfl,rfl⟩
   simp only[go_sem]
   exact rfl
  refine (wB (p:=p) (c:=tkC tk) (B:=n+1+1) hp hl L (fun j h=>(∀k,j≤k→k<p.length→(p.getD k (0,[])).1≠i)∧∃n',L<n'∧h=⟨upd (rdG F n i PA v0) L (some (.loop 37 tt [28,29] asg body .ready none)),n',T,m⟩)
   (fun h=>∃n' t2,L<n'∧h=⟨upd (rdG F n i PA (rdP p d i)) L (some (.loop 37 t2 [28,29] asg body .done (some (.exit 0)))),n',T,m⟩) ?_ ?_ _ ?_).mono ?_
  ·rintro j h ⟨-,n',q1,rfl⟩
   simp only[rdG,upd]
   rw[if_neg ab,if_pos trivial,hPA]
  ·rintro j h hj ⟨hI,n',q1,rfl⟩
   have hob:upd (rdG F n i PA v0) L (some (.loop 37 tt [28,29] asg body .ready none)) L=some (.loop 37 tt [28,29] asg body .ready none):=by simp[upd]
   refine vY (t:=tt) (ps:=[28,29]) hob a1 a2 a3 a4 rfl af ?_
   have hx:(p.getD j (0,[])).2.length=128:=by
    rw[List.getD_eq_getElem?_getD,List.getElem?_eq_getElem hj]
    exact hl _ (List.getElem_mem _)
   have hmiss:=fun (e:(p.getD j (0,[])).1≠i) (k:Nat) (h1:j≤k) (h2:k<p.length)=>(by
    by_cases q:k=j
    ·rw[q];exact e
    ·exact hI k ab h2:(p.getD k (0,[])).1≠i)
   have hhit:=fun (e:(p.getD j (0,[])).1=i)=>Fi (p:=p) (d:=d) hj (fun k h1 h2=>hI k ab h2) e
   generalize p.getD j (0,[])=x at hx hmiss hhit
   have z1:∀y:AV,(Z++[y]).length=129:=fun y=>by simp[hZl]
   have z3:(Z++[AV.int .i64 0]).all aO=true:=by simp only[List.all_append,hZc];rfl
   have z7:∀y:AV,List.drop 129 (Z++[y])=[]:=fun y=>List.drop_eq_nil_of_le (by rw[z1];exact Nat.le_refl _)
   have y1:(ar x.2++[AV.int .i64 (x.1:Int)]).length=129:=by simp[ar,hx]
   have y2:(ar x.2++[AV.int .i64 (x.1:Int)]).all aO=true:=by simp[ar,byte,aO]
   refine Wp.ke (by simp only[go_sem,reduceIte,Nat.reduceEqDiff,my,wAV,z1,z3,z7,y1,y2,Nat.zero_add,List.take_zero,List.nil_append,List.append_nil,Nat.reduceLeDiff,and_self];exact rfl) ag ⟨rfl,tt,?_,?_⟩
   ·simp only[upd]
    rw[if_neg ab,if_neg ab,if_pos trivial]
   obtain ⟨bz,hbz⟩:∃bz,bz=Av.Obj.loop 37 tt [28,29] asg body .busy none:=⟨_,rfl⟩
   rw[←hbz]
   obtain ⟨Bf,hBf⟩:∃Bf,Bf=upd (rdG F n i PA v0) L (some bz):=⟨_,rfl⟩
   have fB1:Bf n=some (.cells [.int .i64 i]):=by
    rw[hBf]
    simp only[rdG,upd]
    rw[if_neg ab,if_neg ab,if_neg ab,if_pos trivial]
   have fB2:Bf (n+1)=some (.cells (ar v0)):=by
    rw[hBf]
    simp only[rdG,upd]
    rw[if_neg ab,if_neg ab,if_pos trivial]
   have fBL:Bf L=some bz:=by
    rw[hBf]
    simp only[upd]
    rw[if_pos trivial]
   have fBn:Bf n'=none:=by
    rw[hBf]
    simp only[rdG,upd]
    rw[if_neg ab,if_neg ab,if_neg ab,if_neg ab]
    exact hf _ ab
   refine Wp.le (s':=⟨tm [(3,.ptr n 0),(7,.ptr (n+1) 0),(9,.ptr n' 0)],⟨upd Bf n' (some (.cells (ar x.2++[.int .i64 x.1]))),n'+1,T,m⟩⟩) (aK.of (bp ?_) ?_ (fun x hx=>hx) (Nat.le_refl _) (Nat.le_refl _)) ?_
   ·simp only[aY,go_sem,reduceIte,Nat.reduceEqDiff,Nat.reduceAdd,bx,t3,t7];and_intros<;>first|exact trivial|exact av.refl _|exact av.any _|(refine av.int ?_;omega)
   ·simp only
    rw[bn,kf _ _ _ (show n'≠L by omega),bn,←hBf]
    exact OLe.refl _
   have hn1:¬(n=n'):=by omega
   have hn2:¬(n+1=n'):=by omega
   have hn3:¬(n'=n+1):=by omega
   have y5:(ar x.2++[AV.int .i64 (x.1:Int)])[128]? =some (.int .i64 (x.1:Int)):=by
    have:(ar x.2).length=128:=by simp[ar,hx]
    rw[List.getElem?_append_right ab,this];rfl
   have y6:List.take 128 (ar x.2++[AV.int .i64 (x.1:Int)])=ar x.2:=by
    have:(ar x.2).length=128:=by simp[ar,hx]
    rw[←this,List.take_left]
   have y7:(ar x.2).length=128:=by simp[ar,hx]
   have y8:(ar x.2).all aO=true:=by simp[ar,byte,aO]
   have y9:List.drop 128 (ar v0)=[]:=List.drop_eq_nil_of_le ab
   by_cases e:x.1=i
   ·have dE:decide ((x.1:Int)=(i:Int))=true:=decide_eq_true ab
    refine Wp.block ?_
    refine Wp.seq ?_
    refine Wp.da (xAd (cP fB1 fB2 hn1 hn2 hn3 y5 y6 y7 y8 y9 v1 (cj7 dE y1 @Nat.zero_add @List.drop_zero.{0} @List.take_zero.{0} @List.nil_append.{0} @List.append_nil.{0}))) ?_
    refine an.nil ?_
    refine Wp.cond_true (by simp only[go_sem,reduceIte,Nat.reduceEqDiff]) ?_
    refine Wp.seq ?_
    refine Wp.da (xAd (cP fB1 fB2 hn1 hn2 hn3 y5 y6 y7 y8 y9 v1 (cj7 dE y1 @Nat.zero_add @List.drop_zero.{0} @List.take_zero.{0} @List.nil_append.{0} @List.append_nil.{0}))) ?_
    refine an.nil ?_
    refine Wp.le (s':=⟨fun _=> .any,⟨upd Bf (n+1) (some (.cells (ar x.2))),n'+1,T,m⟩⟩) (aK.of (fun _=>av.any _) ?_ (fun x hx=>hx) (Nat.le_refl _) (Nat.le_refl _)) ?_
    ·exact OLe.upd (OLe.skip fBn) (dN.refl _)
    refine Wp.exit ?_
    refine ⟨tt,false,.done,some (.exit 0),?_,.exit 0,fun _ _=> .inr ⟨rfl,n'+1,tt,ab,?_⟩⟩
    ·simp only[upd]
     rw[if_neg ab]
     rw[←hbz];exact fBL
    ·have hr:=hhit e
     simp only[hBf]
     rw[kf _ _ _ (show L≠n+1 by omega),bn,hr]
     congr 2
     simp only[rdG]
     rw[kf _ _ _ (show n+1+1≠n+1 by omega),bn]
   ·have dE:decide ((x.1:Int)=(i:Int))=false:=decide_eq_false ab
    refine Wp.block ?_
    refine Wp.seq ?_
    refine Wp.da (xAd (cP fB1 fB2 hn1 hn2 hn3 y5 y6 y7 y8 y9 v1 (cj7 dE y1 @Nat.zero_add @List.drop_zero.{0} @List.take_zero.{0} @List.nil_append.{0} @List.append_nil.{0}))) ?_
    refine an.nil ?_
    refine Wp.cond_false (by simp only[go_sem,reduceIte,Nat.reduceEqDiff]) ?_
    refine Wp.le (s':=⟨fun _=> .any,⟨Bf,n'+1,T,m⟩⟩) (aK.of (fun _=>av.any _) (OLe.skip fBn) (fun x hx=>hx) (Nat.le_refl _) (Nat.le_refl _)) ?_
    refine Wp.skip ?_
    refine ⟨tt,true,.ready,none,by rw[←hbz];exact fBL,.normal,fun _ _=> .inl ⟨rfl,hmiss e,n'+1,ab,?_⟩⟩
    simp only[hBf]
    rw[bn]
  ·refine ⟨fun k h1 h2=>by omega,n+1+1+1+1,ab,?_⟩
   rw[hL]
  ·rintro r h' ⟨rfl,⟨hI,n',q1,rfl⟩|⟨n',t2,q1,rfl⟩⟩
   ·refine ⟨tt,.ready,none,_,by simp[upd],by simp,.none,?_⟩
    refine fin v0 ?_ _ n' q1 ?_ ?_
    ·rw[hv0]
     exact (uJ fun x hx=>by
      obtain ⟨k,hk,e⟩:=List.getElem_of_mem hx
      have:=hI k (Nat.zero_le _) hk
      rw[List.getD_eq_getElem?_getD,List.getElem?_eq_getElem hk,Option.getD_some,e] at this
      exact this).symm
    ·simp only[rdG,upd]
     rw[if_neg ab,if_neg ab,if_neg ab,if_pos trivial]
    ·intro k o hk
     have hkn:k<n:=by
      rcases Nat.lt_or_ge k n with h|h
      ·exact h
      ·rw[hf k h] at hk;cases hk
     simp only[rdG,upd]
     rw[if_neg ab,if_neg ab,if_neg ab,if_neg ab,if_neg ab]
     exact hk
   ·refine ⟨t2,.done,some (.exit 0),_,by simp[upd],by simp,.exit 0,?_⟩
    refine fin _ rfl _ n' q1 ?_ ?_
    ·simp only[rdG,upd]
     rw[if_neg ab,if_neg ab,if_neg ab,if_pos trivial]
    ·intro k o hk
     have hkn:k<n:=by
      rcases Nat.lt_or_ge k n with h|h
      ·exact h
      ·rw[hf k h] at hk;cases hk
     simp only[rdG,upd]
     rw[if_neg ab,if_neg ab,if_neg ab,if_neg ab,if_neg ab]
     exact hk
 obtain ⟨r,h',hc,-,-,n',hn',rfl,rfl⟩:=key
 refine ⟨n',hn',?_⟩
 have fr:=hc.frz fun j=>decide (j=n+1)
 have hl2:(rdP p d i).length=128:=by
  refine jm (M:=fun p=>(∀x∈p,x.2.length=128)→(rdP p d i).length=128) (fun _=>je hd i) (fun p x ih h=>?_) p hl
  rw[ic]
  split
  ·exact h x af
  ·exact ih fun y hy=>h y (by simp[hy])
 have e1:unT ⟨upd F (n+1) (some (.cells (ar (rdP p d i)))),n',T,m⟩ (fun j=>decide (j=n+1)) (.tup [.tsl 1 (n+1) 0 128 (some 128),.int .i64 0])= .tup [.sl 1 (ar (rdP p d i)) .any,.int .i64 0]:=by
  have h1:(ar (rdP p d i)).length=128:=by simp[ar,hl2]
  simp only[unT,gR,upd,if_true,decide_true,and_self,h1,Nat.zero_add,Nat.le_refl,List.drop_zero,List.take_of_length_le (Nat.le_of_eq h1)]
 have e2:(⟨upd F (n+1) (some (.cells (ar (rdP p d i)))),n',T,m⟩:H).drop (fun j=>decide (j=n+1))=⟨F,n',T,m⟩:=by
  refine H.ext (fun j=>?_) rfl rfl rfl
  simp only[H.drop,upd,decide_eq_true_eq]
  split
  ·rename_i e;rw[e,hf _ ab]
  ·rfl
 rw[e1,e2] at fr
 exact fr
theorem B5 (l:List Int) (hl:l.length≤1000000) (x:Int):aZ Tryz.prog 94 [.sl 1 (ints l) .any,.int .i64 x] (.int .i64 (if l.contains x then ((l.findIdx (x == ·):Nat):Int) else -1)):=by
 refine f94.eY af (bE _ (by simp only[aR,bf,cG,ints,Bool.and_true,Bool.true_and];exact cW (fun _=>rfl) _)) (ct _ rfl) fun k m=>?_
 unfold c94 zz
 have len:(ints l).length=l.length:=by simp[ints]
 refine Wp.aF xA1 ag ?_
 refine Wp.seq ?_
 refine Wp.aF (xAe @len) ag ?_
 refine Wp.block ?_
 refine Wp.kZ [0,1,7] xA6 (fun j:Nat=>[(8,.int .i64 j)]) (fun j=>j≤l.length∧∀i (hi:i<l.length),i<j→l[i]≠x) (fun j=>l.length - j) 0 ⟨Nat.zero_le _,fun i hi h=>absurd h ab⟩ ?_ ?_
 ·exact xSb
 ·intro j hj
  obtain ⟨hj,hs⟩:=hj
  refine Wp.aF xA1 ag ?_
  refine Wp.seq ?_
  refine Wp.bG (b:=decide ((j:Int)<(l.length:Int))) xA2 (fun hc=>?_) (fun hc=>?_)
  ·have h1:(0:Int)≤(j:Int):=by omega
   have h2:(j:Int)<(l.length:Int):=by simpa using hc
   have h3:j<l.length:=by omega
   have h4:(ints l).getD j .any= .int .i64 l[j]:=by simp[List.getD,h3,ints]
   refine Wp.skip ?_
   refine Wp.seq ?_
   refine Wp.block ?_
   refine Wp.aF xA1 ag ?_
   refine Wp.aF (xAd (cj6 @len h1 h2 @and_self @Int.toNat_natCast h4)) ag ?_
   refine Wp.bG (b:=decide (x=l[j])) xA2 (fun hd=>?_) (fun hd=>?_)
   ·have hd:x=l[j]:=of_decide_eq_true hd
    have hc:l.contains x=true:=by rw[hd];simp
    have hf:l.findIdx (x == ·)=j:=(List.findIdx_eq h3).2 ⟨by simp[hd],fun i hi=>by
     have:=hs i ab hi
     simpa using fun e=>this e.symm⟩
    refine Wp.aF xA1 ag ?_
    refine cI ?_
    rw[if_pos hc,hf]
    exact av.refl _
   ·have hd:x≠l[j]:=of_decide_eq_false hd
    refine Wp.skip ?_
    refine Wp.ke (by simp only[go_sem,reduceIte,Nat.reduceEqDiff,Nat.reduceAdd,bx];simp (disch:=omega) only[IntWalk.i64_in];exact rfl) ag ?_
    refine ⟨j+1,⟨ab,fun i hi h=>?_⟩,ab,?_⟩
    ·by_cases he:i=j
     ·subst he;exact fun e=>hd e.symm
     ·exact hs i hi ab
    ·exact xSu
  ·have:¬(j:Int)<(l.length:Int):=by simpa using hc
   refine Wp.exit ?_
   refine Wp.aF xA1 ag ?_
   refine cI ?_
   have hc:l.contains x=false:=by
    rw[←Bool.not_eq_true,List.contains_iff_mem]
    intro hm
    obtain ⟨i,hi,e⟩:=List.mem_iff_getElem.1 hm
    exact hs i hi ab e
   rw[if_neg (by rw[hc];decide)]
   exact av.refl _
theorem uK (l:List Int) (hl:l.length≤1000000) (x:Int):aZ Tryz.prog 60 [.sl 1 (ints l) .any,.int .i64 x] (.bool (l.contains x)):=by
 refine f60.eY af (bE _ (by simp only[aR,bf,cG,ints,Bool.and_true,Bool.true_and];exact cW (fun _=>rfl) _)) (ct _ rfl) fun k m=>?_
 unfold c60 zz
 refine Wp.aF xA1 ag ?_
 refine Wp.seqItems xA1 ?_
 refine ao.bW xA2 xAb ((B5 l hl x)) ?_
 refine ao.eval xA1 ?_
 refine ao.nil ⟨by trivial,?_⟩
 refine cI ?_
 have:decide ((0:Int)≤if l.contains x then ((l.findIdx (x == ·):Nat):Int) else -1)=l.contains x:=by
  cases l.contains x<;>simp
 rw[this]
 exact av.refl _
def kd (pick:Nat→Bool) (p d:List (Nat × List UInt8)):Nat→List (Nat × List UInt8)
 |0=>d
 |k+1=>if pick k then p.getD k (0,[])::kd pick p d k else kd pick p d k
theorem wC {pick:Nat→Bool} {p d:List (Nat × List UInt8)} (hd:∀x∈d,x.2.length=128) (hl:∀x∈p,x.2.length=128):∀k,k≤p.length→∀x∈kd pick p d k,x.2.length=128
 |0,_,x,hx=>hd x hx
 |k+1,hk,x,hx=>by
  unfold kd at hx
  split at hx
  ·rcases List.mem_cons.1 hx with rfl|h
   ·rw[List.getD_eq_getElem?_getD,List.getElem?_eq_getElem (show k<p.length by omega)]
    exact hl _ (List.getElem_mem _)
   ·exact wC hd hl k ab x h
  ·exact wC hd hl k ab x hx
theorem Fk {p d:List (Nat × List UInt8)} (i:Nat):dU (kd (fun _=>true) p d p.length) i=rdP p d i:=by
 have key:∀(q r:List (Nat × List UInt8)),dU (kd (fun _=>true) (q++r) d q.length) i=rdP q d i:=by
  refine jm (fun r=>rfl) fun q x ih r=>?_
  rw[ic,List.length_append,List.length_singleton]
  simp only[kd,if_true]
  have e1:(q++[x]++r).getD q.length (0,[])=x:=by simp[List.getD]
  rw[e1,show x=(x.1,x.2) from rfl,jg]
  have:=ih ([x]++r)
  rw[←List.append_assoc] at this
  by_cases e:x.1=i
  ·rw[if_pos e.symm,if_pos e]
  ·rw[if_neg fun h=>e h.symm,if_neg e];exact this
 simpa using key p []
theorem sW {pick:Nat→Bool} {p d:List (Nat × List UInt8)} {i:Nat} (h:∀x∈p,x.1≠i):∀k,k≤p.length→dU (kd pick p d k) i=dU d i
 |0,_=>rfl
 |k+1,hk=>by
  unfold kd
  split
  ·rw[show p.getD k (0,[])=((p.getD k (0,[])).1,(p.getD k (0,[])).2) from rfl,jg,if_neg,sW h k ab]
   rw[List.getD_eq_getElem?_getD,List.getElem?_eq_getElem (show k<p.length by omega)]
   exact fun e=>h _ (List.getElem_mem _) e.symm
  ·exact sW h k ab
theorem B6 (c:UInt8):unB (byte c)=some c:=by
 unfold unB byte
 have h:Nat.ble c.toNat 255=true:=Nat.ble_eq_true_of_le (by have:=c.toNat_lt;omega)
 change (match Nat.ble c.toNat 255 with|true=>some (UInt8.ofNat c.toNat)|false=>none)=_
 rw[h]
 simp
theorem lU:∀l:List UInt8,sC (ar l)=some l
 |[]=>rfl
 |c::l=>by
  have:=lU l
  unfold ar at this ⊢
  simp only[List.map,sC,B6,this]
theorem an.Fl {P:Program} {N:Nat} {dst:Option Nat} {g:Option (Nat × Bool)} {f:FuncId} {fn:Func} {y:Opd} {l:List Opd} {its:List aP} {t:Tm} {h:H} {K:Tm→H→Prop} {first caps vals:List AV} {r:AV} (hg:guardOf t g=some true) (hy:ev t y= .clo (.func f) first caps)
  (hf:P.funcs[f]? =some fn) (hb:fn.body.isSome=true) (hn:fn.name≠ "runtime.NumGoroutine") (hs:ay (first++l.map (ev t)++caps) vals) (hc:aJ P f vals h r h)
  (rest:an P N its (cg t dst r) h K):an P N (⟨dst,g,.callv y l⟩::its) t h K:=
 an.step (fun ops i o ho hit=>mB.full ⟨Nat.le_refl _,Nat.le_refl _⟩ (iC ho hit hg rfl hy hf hb hn hs hc)) rest
theorem B7 {F:Nat→Option Av.Obj} {n m K N D fi:Nat} {tk:Option Nat} {T:List Nat} {p d:List (Nat × List UInt8)} {pick:Nat→Bool} {caps:List AV} {fn:Func} (ho:F D=some (dkO K N (cC p tk))) (hK:F K=some (.bk ⟨N,d⟩))
  (hl:∀x∈p,x.2.length=128∧x.1<N) (hD:D<n) (hKn:K<n) (hDK:D≠K) (hf:∀j,n≤j→F j=none) (hp:p.length<1000000)
  (h1:Tryz.prog.funcs[fi]? =some fn) (h2:fn.body.isSome=true) (h3:fn.name≠ "runtime.NumGoroutine")
  (pk:∀(k:Nat) (h:H),(∀j,j≠K→j<n→h.objs j=F j)→k<p.length→aJ Tryz.prog fi (.int .i64 k::caps) h (.bool (pick k)) h):
  aI Tryz.prog 51 [.ptr D 0,.clo (.func fi) [] caps] ⟨F,n,tkT tk T,m⟩ fun r h'=>r= .tup []∧∃n',n≤n'∧h'=⟨upd (upd F K (some (.bk ⟨N,kd pick p d p.length⟩))) D (some (dkO K N (cC [] none))),n',T,m⟩:=by
 refine f51.bu af ?_
 unfold c51
 have ho2:=ho
 unfold dkO cC at ho2
 have len:(p.map wAV).length=p.length:=by simp
 refine rf0 (cj2 ho2 @len) ?_
 refine Wp.le (s':=⟨tm [(0,.ptr D 0),(1,.clo (.func fi) [] caps),(9,.sl 129 (p.map wAV) (tkC tk)),(10,.int .i64 p.length),(11,.int .i64 0)],⟨upd F K (some (.bk ⟨N,kd pick p d 0⟩)),n,T,m⟩⟩) (aK.of (bp ?_) ?_ (fun x hx=>by unfold tkT;split<;>simp[hx]) (Nat.le_refl _) (Nat.le_refl _)) ?_
 ·exact xSb
 ·intro j o' hj
  simp only[upd] at hj
  by_cases e:j=K
  ·rw[if_pos e] at hj;cases hj;exact ⟨_,by rw[e];exact hK,dN.refl _⟩
  ·rw[if_neg e] at hj;exact ⟨_,hj,dN.refl _⟩
 refine Wp.eH [0,1,9,10] xA7 (fun b:Nat × Nat=>[(11,.int .i64 b.1)]) (fun b=>⟨upd F K (some (.bk ⟨N,kd pick p d b.1⟩)),b.2,T,m⟩) (fun b=>b.1≤p.length∧n≤b.2) (fun b=>p.length - b.1) (0,n) ⟨Nat.zero_le _,Nat.le_refl _⟩ rfl ?_ ?_
 ·exact xSb
 rintro ⟨k,n'⟩ ⟨hk,hn'⟩
 simp only at hk hn'
 by_cases hkp:k<p.length
 ·have g1:decide ((k:Int)<(p.length:Int))=true:=decide_eq_true ab
  have q2:(0:Int)≤(k:Int):=by omega
  have q3:(k:Int)<(p.length:Int):=by omega
  have hs:=rC p (j:=k) hkp .any
  have hx:(p.getD k (0,[])).2.length=128∧(p.getD k (0,[])).1<N:=by
   rw[List.getD_eq_getElem?_getD,List.getElem?_eq_getElem hkp]
   exact hl _ (List.getElem_mem _)
  have ek:kd pick p d (k+1)=if pick k then p.getD k (0,[])::kd pick p d k else kd pick p d k:=rfl
  generalize p.getD k (0,[])=x at hs hx ek
  change _=AV.agg (ar x.2++[AV.int .i64 (x.1:Int)]) at hs
  have y0:(ar x.2).length=128:=by simp[ar,hx.1]
  have y1:(ar x.2++[AV.int .i64 (x.1:Int)]).length=129:=by simp[y0]
  have y2:(ar x.2++[AV.int .i64 (x.1:Int)]).all aO=true:=by simp[ar,byte,aO]
  have y3:List.take 129 (ar x.2++[AV.int .i64 (x.1:Int)])=ar x.2++[AV.int .i64 (x.1:Int)]:=List.take_of_length_le (by rw[y1];exact Nat.le_refl _)
  have y5:(ar x.2++[AV.int .i64 (x.1:Int)])[128]? =some (.int .i64 (x.1:Int)):=by
   rw[List.getElem?_append_right ab,y0];rfl
  have y6:List.take 128 (ar x.2++[AV.int .i64 (x.1:Int)])=ar x.2:=by rw[←y0,List.take_left]
  obtain ⟨Z,hZ⟩:∃Z,Z=List.replicate 128 (AV.int .u8 0):=⟨_,rfl⟩
  rw[←hZ]
  have hZl:Z.length=128:=by rw[hZ];simp
  have hZc:Z.all aO=true:=by rw[hZ];simp[aO]
  clear hZ
  have z1:∀y:AV,(Z++[y]).length=129:=fun y=>by simp[hZl]
  have z3:(Z++[AV.int .i64 0]).all aO=true:=by simp only[List.all_append,hZc];rfl
  have z7:∀y:AV,List.drop 129 (Z++[y])=[]:=fun y=>List.drop_eq_nil_of_le (by rw[z1];exact Nat.le_refl _)
  refine rf0 (cP g1 @len hs @q2 q3 @Int.toNat_natCast @and_self y1 y2 y3 z1 (cj7 z3 z7 @Nat.zero_add @List.take_zero.{0} @List.nil_append.{0} @List.append_nil.{0} @List.drop_zero.{0})) ?_
  have kn:¬(n'=K):=by omega
  have kn1:¬(K=n'):=by omega
  have kn2:¬(D=n'):=by omega
  have x1:(0:Int)≤(x.1:Int):=by omega
  have x2:(x.1:Int)<(N:Int):=by have:=hx.2;omega
  have m1:x.1*128%128=0:=by omega
  have m2:x.1*128/128=x.1:=by omega
  refine an.Fl (first:=[]) (caps:=caps) ae (by simp only[go_sem,reduceIte,Nat.reduceEqDiff]) h1 h2 h3 (by simp only[go_sem,reduceIte,Nat.reduceEqDiff,List.map,List.nil_append,List.cons_append];exact ay.refl _) (pk k _ (fun j j1 j2=>?_) hkp) ?_
  ·simp only[upd]
   rw[if_neg ab,if_neg ab,if_neg j1]
  have hnk:∀b,(upd F K (some b):Nat→Option Av.Obj) n'=none:=fun b=>by
   simp only[upd]
   rw[if_neg kn]
   exact hf _ hn'
  have w1:IntKind.i64.wrap ((k:Int)+1)=((k+1:Nat):Int):=by rw[IntWalk.i64_in _ ab];rfl
  refine an.evF xAc ?_
  refine an.nil ?_
  rw[bn]
  obtain ⟨B,hB⟩:∃B,B=kd pick p d k:=⟨_,rfl⟩
  rw[←hB] at ek ⊢
  cases hpk:pick k with
  |false=>
   rw[hpk] at ek
   refine Wp.cond_false (by simp only[go_sem,reduceIte,Nat.reduceEqDiff]) ?_
   refine Wp.le (s':=⟨tm [(0,.ptr D 0),(1,.clo (.func fi) [] caps),(9,.sl 129 (p.map wAV) (tkC tk)),(10,.int .i64 p.length),(11,.int .i64 k)],⟨upd F K (some (.bk ⟨N,kd pick p d (k+1)⟩)),n'+1,T,m⟩⟩) (aK.of (bp ?_) ?_ (fun x hx=>hx) (Nat.le_refl _) (Nat.le_refl _)) ?_
   ·exact xSb
   ·rw[ek,if_neg ah]
    exact OLe.skip (hnk _)
   refine Wp.skip ?_
   refine rf0 w1 ?_
   refine ⟨(k+1,n'+1),⟨by simp only;omega,by simp only;omega⟩,by simp only;omega,?_⟩
   refine aK.tm ?_
   exact xSb
  |true=>
   rw[hpk] at ek
   refine Wp.cond_true (by simp only[go_sem,reduceIte,Nat.reduceEqDiff]) ?_
   refine Wp.reg ?_
   refine ao.part 9 (xAd (cP ho2 kn kn1 kn2 hDK y5 y6 y1 x1 x2 @Int.toNat_natCast (cj3 @and_self @Nat.zero_add @List.drop_zero.{0}))) ?_
   simp only[List.drop_succ_cons,List.drop_zero,List.drop_nil]
   refine ao.opA xA2 (by simp only[fB,jJ,jI,go_sem,reduceIte,Nat.reduceEqDiff,Nat.reduceAdd,bx,ax,if_true,if_false,Nat.reduceMul,Nat.reduceLeDiff,kn,kn1,m1,m2,hx.2,hx.1,lU,and_self];exact rfl) ?_
   refine ao.nil ⟨by simp[bg,aS,apart,aV],?_⟩
   refine Wp.le (s':=⟨tm [(0,.ptr D 0),(1,.clo (.func fi) [] caps),(9,.sl 129 (p.map wAV) (tkC tk)),(10,.int .i64 p.length),(11,.int .i64 k)],⟨upd F K (some (.bk ⟨N,kd pick p d (k+1)⟩)),n'+1,T,m⟩⟩) (aK.of (bp ?_) ?_ (fun x hx=>hx) (Nat.le_refl _) (Nat.le_refl _)) ?_
   ·exact xSb
   ·rw[ek,if_pos rfl]
    rw[kf _ _ _ kn,bn]
    exact OLe.skip (hnk _)
   refine rf0 w1 ?_
   refine ⟨(k+1,n'+1),⟨by simp only;omega,by simp only;omega⟩,by simp only;omega,?_⟩
   refine aK.tm ?_
   exact xSb
 ·obtain rfl:k=p.length:=by omega
  have g1:decide ((p.length:Int)<(p.length:Int))=false:=decide_eq_false ab
  have dk:¬D=K:=hDK
  refine rf0 (cj3 g1 ho2 dk) ?_
  exact ⟨trivial,.tup [],rfl,rfl,n',hn',rfl⟩
theorem Gu (k:Int) (h:H):aJ Tryz.prog 52 [.int .i64 k] h (.bool true) h:=by
 refine f52.bP af ?_
 unfold c52 zz
 refine vZ ?_
 refine Wp.ret ⟨trivial,_,?_,av.refl _,rfl⟩
 simp only[go_sem]
 exact rfl
theorem DW {F:Nat→Option Av.Obj} {n m K N D:Nat} {tk:Option Nat} {T:List Nat} {p d:List (Nat × List UInt8)} (ho:F D=some (dkO K N (cC p tk))) (hK:F K=some (.bk ⟨N,d⟩))
  (hl:∀x∈p,x.2.length=128∧x.1<N) (hD:D<n) (hKn:K<n) (hDK:D≠K) (hf:∀j,n≤j→F j=none) (hp:p.length<1000000) (hN:0<N):
  aI Tryz.prog 21 [.ptr D 0] ⟨F,n,tkT tk T,m⟩ fun r h'=>r= .int .i64 0∧∃n',n≤n'∧h'=⟨upd (upd F K (some (.bk ⟨N,kd (fun _=>true) p d p.length⟩))) D (some (dkO K N (cC [] none))),n',T,m⟩:=by
 refine f21.bu af ?_
 unfold c21 zz
 have c1:=EH (h:=⟨F,n,tkT tk T,m⟩) ho hN
 have c2:=B4 (h:=⟨F,n,tkT tk T,m⟩) ho
 have c3:=B7 (T:=T) (m:=m) (pick:=fun _=>true) (caps:=[]) ho hK hl hD hKn hDK hf hp Tryz.func52 rfl (of_decide_eq_true (by kernel_rfl)) fun k h _ _=>Gu k h
 refine rg2 @decide_true c1 c2 ?_
 refine an.aT ae xA4 c3 fun r h' ⟨hr,n',hn',hh⟩ _ _=>?_
 subst hr hh
 refine an.evF xAc ?_
 refine an.nil ?_
 refine vZ ?_
 refine Wp.ret ⟨trivial,.int .i64 0,?_,rfl,n',hn',rfl⟩
 simp only[go_sem]
 exact rfl
theorem DX {F:Nat→Option Av.Obj} {n m K N D:Nat} {tk:Option Nat} {T:List Nat} {p d:List (Nat × List UInt8)} {zs:List Int} (ho:F D=some (dkO K N (cC p tk))) (hK:F K=some (.bk ⟨N,d⟩))
  (hl:∀x∈p,x.2.length=128∧x.1<N) (hD:D<n) (hKn:K<n) (hDK:D≠K) (hf:∀j,n≤j→F j=none) (hp:p.length<1000000) (hN:0<N)
  (hz:zs.length≤1000000):
  aI Tryz.prog 28 [.ptr D 0,.sl 1 (ints zs) .any] ⟨F,n,tkT tk T,m⟩ fun r h'=>r= .int .i64 0∧∃n',n≤n'∧h'=⟨upd (upd F K (some (.bk ⟨N,kd (fun k=>zs.contains (k:Int)) p d p.length⟩))) D (some (dkO K N (cC [] none))),n',T,m⟩:=by
 refine f28.bu af ?_
 unfold c28 zz
 obtain ⟨G,hG⟩:∃G,G=upd F n (some (.cells [.sl 1 (ints zs) .any])):=⟨_,rfl⟩
 have hDn:¬(D=n):=by omega
 have gD:G D=some (dkO K N (cC p tk)):=by rw[hG];simp only[upd];rw[if_neg hDn];exact ho
 have gK:G K=some (.bk ⟨N,d⟩):=by rw[hG];simp only[upd];rw[if_neg ab];exact hK
 have gn:G n=some (.cells [.sl 1 (ints zs) .any]):=by rw[hG];simp only[upd,if_true]
 have gf:∀j,n+1≤j→G j=none:=fun j hj=>by rw[hG];simp only[upd];rw[if_neg ab];exact hf _ ab
 have c1:=wA (h:=⟨G,n+1,tkT tk T,m⟩) gD hN
 have c3:=B7 (T:=T) (m:=m) (fi:=59) (pick:=fun k=>zs.contains (k:Int)) (caps:=[.ptr n 0]) gD gK hl ab ab hDK gf hp Tryz.func59 rfl (of_decide_eq_true (by kernel_rfl)) fun k h hj _=>by
  have hc:=hj n ab ab
  rw[gn] at hc
  refine f59.bP af ?_
  unfold c59 zz
  refine rf1 hc ((uK zs hz (k:Int))) ?_
  refine Wp.ret ⟨trivial,_,?_,av.refl _,rfl⟩
  simp only[go_sem]
  exact rfl
 rw[hG] at c1
 refine rg1 @Bool.not_true c1 ?_
 rw[←hG]
 refine an.aT ae xA4 c3 fun r h' ⟨hr,n',hn',hh⟩ _ _=>?_
 subst hr hh
 refine an.evF xAc ?_
 refine an.nil ?_
 refine Wp.le (s':=⟨tm [(0,.ptr D 0)],⟨upd (upd F K (some (.bk ⟨N,kd (fun k=>zs.contains (k:Int)) p d p.length⟩))) D (some (dkO K N (cC [] none))),n',T,m⟩⟩) (aK.of (bp ?_) ?_ (fun x hx=>hx) (Nat.le_refl _) (Nat.le_refl _)) ?_
 ·exact xSb
 ·rw[hG]
  refine OLe.upd (OLe.upd ?_ (dN.refl _)) (dN.refl _)
  exact OLe.skip (hf n (Nat.le_refl _))
 generalize hX:(Av.Obj.bk ⟨N,kd (fun k=>zs.contains (k:Int)) p d p.length⟩)=X
 obtain ⟨Y,hY⟩:∃Y,Y=upd (upd F K (some X)) D (some (dkO K N (cC [] none))):=⟨_,rfl⟩
 have e1:Y D=some (.cells [.tsl 128 K 0 N none,.sl 129 [] (.exact 0),.int .i64 (-1),.bool false]):=by rw[hY];simp only[upd,if_true];rfl
 rw[←hY]
 refine rf0 e1 ?_
 refine Wp.ret ⟨trivial,.int .i64 0,?_,rfl,n',ab,?_⟩
 ·simp only[go_sem]
  exact rfl
 ·rw[hY,bn,bn]
  rfl
end Go.Proofs.YtbgmofhgfnmaiaaGreat.Tree
end
section
set_option maxRecDepth 100000
namespace Go.Proofs.YtbgmofhgfnmaiaaGreat.Tree
open Go Go.Av Go.Proofs Go.Proofs.YtbgmofhgfnmaiaaGreat.C Go.Proofs.YtbgmofhgfnmaiaaGreat.Page
open Go.Proofs.YtbgmofhgfnmaiaaGreat.Batch (Bs Pr prs aW)
abbrev W:=BitVec 64
def nC (w:W):AV:= .int .u64 (w.toNat:Int)
def di (l:List W):List AV:=l.map nC
def alO (np U nw:Nat):Av.Obj:= .cells [.int .i64 np,.tsl 1 U 0 nw none]
def eJ (ws:List W) (i:Nat):Bool:=(ws.getD (i/64) 0).getLsbD (i%64)
def setW (ws:List W) (i:Nat) (b:Bool):List W:=ws.set (i/64) (if b then ws.getD (i/64) 0 ||| BitVec.twoPow 64 (i%64) else ws.getD (i/64) 0 &&& ~~~(BitVec.twoPow 64 (i%64)))
theorem jn (ws:List W) (i:Nat) (b:Bool):(setW ws i b).length=ws.length:=by simp[setW]
theorem rD {ws:List W} {i:Nat} (h:i/64<ws.length) (b:Bool) (j:Nat):eJ (setW ws i b) j=if j=i then b else eJ ws j:=by
 unfold eJ setW
 rw[List.getD_eq_getElem?_getD,List.getElem?_set]
 by_cases e:i/64=j/64
 ·rw[if_pos e,if_pos h,Option.getD_some,e]
  have hj:j%64<64:=Nat.mod_lt _ ah
  have hi:i%64<64:=Nat.mod_lt _ ah
  by_cases e2:j=i
  ·subst e2
   rw[if_pos rfl]
   cases b<;>simp[BitVec.getLsbD_twoPow,hj]
  ·have e3:¬(i%64=j%64):=by omega
   have e4:¬(j%64=i%64):=by omega
   rw[if_neg e2]
   cases b<;>simp[BitVec.getLsbD_twoPow,hj,e3,e4]
 ·rw[if_neg e,if_neg ab,←List.getD_eq_getElem?_getD]
theorem wrap_u64 (w:W):IntKind.u64.wrap ((w.toNat:Nat):Int)=(w.toNat:Int):=by
 have:=w.isLt
 unfold IntKind.wrap
 simp[IntKind.bits,IntKind.signed]
 omega
theorem B8 (a b:W):oy .u64 (a.toNat:Int) (b.toNat:Int)=((a &&& b).toNat:Int):=by
 have e:∀c:W,BitVec.ofInt IntKind.u64.bits (c.toNat:Int)=c:=fun c=>by
  show BitVec.ofInt 64 (c.toNat:Int)=c
  simp
 unfold oy
 rw[e,e]
 exact wrap_u64 _
theorem Gv (a b:W):orI .u64 (a.toNat:Int) (b.toNat:Int)=((a ||| b).toNat:Int):=by
 have e:∀c:W,BitVec.ofInt IntKind.u64.bits (c.toNat:Int)=c:=fun c=>by
  show BitVec.ofInt 64 (c.toNat:Int)=c
  simp
 unfold orI
 rw[e,e]
 exact wrap_u64 _
theorem Fm (a b:W):AP .u64 (a.toNat:Int) (b.toNat:Int)=((a &&& ~~~b).toNat:Int):=by
 have e:∀c:W,BitVec.ofInt IntKind.u64.bits (c.toNat:Int)=c:=fun c=>by
  show BitVec.ofInt 64 (c.toNat:Int)=c
  simp
 unfold AP
 rw[e,e]
 exact wrap_u64 _
theorem DY (a:W) {j:Nat} (hj:j<64):(!decide (((a &&& BitVec.twoPow 64 j).toNat:Int)=0))=a.getLsbD j:=by
 have e:a &&& BitVec.twoPow 64 j=if a.getLsbD j then BitVec.twoPow 64 j else 0:=by
  rw[BitVec.and_twoPow];rfl
 rw[e]
 cases a.getLsbD j
 ·simp
 ·have h2:(BitVec.twoPow 64 j).toNat=2^j:=by rw[BitVec.toNat_twoPow,Nat.mod_eq_of_lt (Nat.pow_lt_pow_right ah hj)]
  have:0<2^j:=Nat.pow_pos ah
  simp only[if_true,h2,Bool.not_eq_true',decide_eq_false_iff_not]
  omega
theorem B9 (i:Nat) (hi:i<1000000):aZ Tryz.prog 151 [.int .i64 i] (.tup [.int .i64 ((i/64:Nat):Int),nC (BitVec.twoPow 64 (i%64))]):=by
 refine f151.dw af (by simp[aR,bf]) rfl ?_
 unfold Gk zz
 have hj:i%64<64:=Nat.mod_lt _ ah
 have e1:IntKind.i64.wrap ((i:Int).tdiv 64)=((i/64:Nat):Int):=by
  rw[Int.tdiv_eq_ediv_of_nonneg ab,IntWalk.i64_in _ ab];omega
 have e2:(i:Int).tmod 64=((i%64:Nat):Int):=by
  rw[Int.tmod_eq_emod_of_nonneg ab];omega
 have e3:¬(((i%64:Nat):Int)<0):=by omega
 have e4:min (Int.toNat ((i%64:Nat):Int)) IntKind.u64.bits=i%64:=by
  show min _ 64=_
  omega
 have e5:IntKind.u64.wrap (1*2^(i%64))=((BitVec.twoPow 64 (i%64)).toNat:Int):=by
  have h2:(BitVec.twoPow 64 (i%64)).toNat=2^(i%64):=by rw[BitVec.toNat_twoPow,Nat.mod_eq_of_lt (Nat.pow_lt_pow_right ah hj)]
  have:=wrap_u64 (BitVec.twoPow 64 (i%64))
  rw[h2] at this ⊢
  rw[Int.one_mul]
  simpa using this
 refine rn0 (cj3 e1 e2 e3) ?_
 refine Wp.ret ⟨trivial,.tup [.int .i64 ((i/64:Nat):Int),.int .u64 (IntKind.u64.wrap (1*2^min (Int.toNat ((i%64:Nat):Int)) IntKind.u64.bits))],?_,?_⟩
 ·simp only[go_sem]
  exact rfl
 ·rw[e4,e5]
  exact av.refl _
section
variable {h:H} {A U np:Nat} {ws:List W}
theorem wD (ho:h.objs A=some (alO np U ws.length)) (hn:0<np):aJ Tryz.prog 97 [.ptr A 0] h (.bool true) h:=by
 refine f97.bP af ?_
 unfold c97 zz
 have d1:decide ((0:Int)<(np:Int))=true:=decide_eq_true ab
 unfold alO at ho
 refine rf0 (cj2 ho d1) ?_
 refine Wp.ret ⟨trivial,_,?_,av.refl _,rfl⟩
 simp only[go_sem]
 exact rfl
theorem Gw (ho:h.objs A=some (alO np U ws.length)) (hu:h.objs U=some (.cells (di ws))) {i:Nat} (hi:i/64<ws.length) (hi2:i<1000000):aJ Tryz.prog 125 [.ptr A 0,.int .i64 i] h (.bool (eJ ws i)) h:=by
 refine f125.bP af ?_
 unfold Gc zz
 unfold alO at ho
 have g1:(0:Int)≤((i/64:Nat):Int):=by omega
 have g2:((i/64:Nat):Int)<(ws.length:Int):=by omega
 have g3:(di ws)[i/64]? =some (nC (ws.getD (i/64) 0)):=by simp[di,List.getD,List.getElem?_eq_getElem hi]
 have g4:oy .u64 ((ws.getD (i/64) 0).toNat:Int) ((BitVec.twoPow 64 (i%64)).toNat:Int)=_:=B8 _ _
 have g5:=DY (ws.getD (i/64) 0) (j:=i%64) (Nat.mod_lt _ ah)
 have e:eJ ws i=(ws.getD (i/64) 0).getLsbD (i%64):=rfl
 rw[←e] at g5
 have c1:=B9 i hi2
 unfold nC at g3 c1
 refine rf1 (sE ho hu g1 g2 g3 g4 g5 @and_self @Nat.zero_add @Nat.mul_one @Int.toNat_natCast) c1 ?_
 refine Wp.ret ⟨trivial,_,?_,av.refl _,rfl⟩
 simp only[go_sem]
 exact rfl
end
section
variable {F:Nat→Option Av.Obj} {n m A U np:Nat} {T:List Nat} {ws:List W}
theorem xS {ws:List W} {i:Nat} (hi:i/64<ws.length) (w:W):setAt (di ws) (i/64) [nC w]=di (ws.set (i/64) w):=by
 unfold setAt di
 rw[List.map_set,List.set_eq_take_append_cons_drop,if_pos (by simpa using hi)]
 simp
theorem EI (ho:F A=some (alO np U ws.length)) (hu:F U=some (.cells (di ws))) (hAU:A≠U) {i:Nat} (hi:i/64<ws.length) (hi2:i<900000) (b:Bool):
  aJ Tryz.prog 126 [.ptr A 0,.int .i64 i,.int .i64 1,.bool b] ⟨F,n,T,m⟩ (.tup []) ⟨upd F U (some (.cells (di (setW ws i b)))),n,T,m⟩:=by
 refine f126.bP af ?_
 unfold Gd zz
 unfold alO at ho
 have g1:(0:Int)≤((i/64:Nat):Int):=by omega
 have g2:((i/64:Nat):Int)<(ws.length:Int):=by omega
 have g3:(di ws)[i/64]? =some (nC (ws.getD (i/64) 0)):=by simp[di,List.getD,List.getElem?_eq_getElem hi]
 have g4:orI .u64 ((ws.getD (i/64) 0).toNat:Int) ((BitVec.twoPow 64 (i%64)).toNat:Int)=_:=Gv _ _
 have g5:AP .u64 ((ws.getD (i/64) 0).toNat:Int) ((BitVec.twoPow 64 (i%64)).toNat:Int)=_:=Fm _ _
 have g6:i/64+1≤(di ws).length:=by simp[di];omega
 have c1:=B9 i ab
 unfold nC at g3 c1
 have w1:IntKind.i64.wrap ((i:Int)+1)=(i:Int)+1:=IntWalk.i64_in _ ab
 refine vZ ?_
 refine Wp.eH [0,1,2,3] xA7 (fun q:Bool=>[(8,.int .i64 (if q then (i:Int)+1 else i))]) (fun q=>⟨if q then upd F U (some (.cells (di (setW ws i b)))) else F,n,T,m⟩) (fun _=>True) (fun q=>if q then 0 else 1) false trivial rfl ?_ ?_
 ·exact xSb
 rintro q -
 cases q with
 |true=>
  have d1:decide ((i:Int)+1<(i:Int)+1)=false:=decide_eq_false ab
  simp only[if_true]
  refine rf0 (cj2 w1 d1) ?_
  exact ⟨trivial,_,rfl,av.refl _,rfl⟩
 |false=>
  have d1:decide ((i:Int)<(i:Int)+1)=true:=decide_eq_true ab
  cases b with
  |true=>
   simp only[Bool.false_eq_true,if_false]
   refine rf1 (cP w1 d1 ho hu g1 g2 g3 g4 g6 @and_self @Nat.zero_add (cj2 @Nat.mul_one @Int.toNat_natCast)) c1 ?_
   refine ⟨true,trivial,by decide,?_⟩
   refine aK.of (bp ?_) ?_ (fun x hx=>hx) (Nat.le_refl _) (Nat.le_refl _)
   ·exact xSb
   ·have hs:=xS hi (ws.getD (i/64) 0 ||| BitVec.twoPow 64 (i%64))
    unfold setAt nC at hs
    simp only[List.length_singleton] at hs
    rw[hs]
    exact OLe.refl _
  |false=>
   simp only[Bool.false_eq_true,if_false]
   refine rf1 (cP w1 d1 ho hu g1 g2 g3 g5 g6 @and_self @Nat.zero_add (cj2 @Nat.mul_one @Int.toNat_natCast)) c1 ?_
   refine ⟨true,trivial,by decide,?_⟩
   refine aK.of (bp ?_) ?_ (fun x hx=>hx) (Nat.le_refl _) (Nat.le_refl _)
   ·exact xSb
   ·have hs:=xS hi (ws.getD (i/64) 0 &&& ~~~BitVec.twoPow 64 (i%64))
    unfold setAt nC at hs
    simp only[List.length_singleton] at hs
    rw[hs]
    exact OLe.refl _
end
section
variable {h:H} {A U np:Nat} {ws:List W}
theorem Gx (ho:h.objs A=some (alO np U ws.length)) (hu:h.objs U=some (.cells (di ws))) (hnp:np≤64*ws.length) (hn2:np<100000) {i:Nat} (hi:i<np):
  aJ Tryz.prog 159 [.ptr A 0,.int .i64 i,.int .i64 1] h (.int .i64 (if eJ ws i then 0 else 1)) h:=by
 refine f159.bP af ?_
 unfold Gm zz
 have c1:=Gw ho hu (i:=i) ab ab
 unfold alO at ho
 obtain ⟨z,hz⟩:∃z:Int,z=0:=⟨_,rfl⟩
 obtain ⟨one,h1⟩:∃one:Int,one=1:=⟨_,rfl⟩
 have w0:IntKind.i64.wrap ((i:Int)+z)=(i:Int):=by rw[hz,Int.add_zero];exact IntWalk.i64_in _ ab
 have w1:IntKind.i64.wrap (z+one)=one:=by rw[hz,h1];decide
 have d0:decide ((i:Int)<(np:Int))=true:=decide_eq_true ab
 have d1:decide (z<one)=true:=decide_eq_true ab
 have d2:decide (one<one)=false:=decide_eq_false ab
 refine vZ ?_
 rw[←h1]
 refine Wp.eH [0,1,2] xA7 (fun q:Bool=>[(7,.int .i64 (if q then one else z))]) (fun q=>h) (fun q=>q=true→eJ ws i=false) (fun q=>if q then 0 else 1) false (fun h=>by cases h) rfl ?_ ?_
 ·exact xSb
 rintro q hq
 cases q with
 |true=>
  have hb:=hq rfl
  simp only[if_true]
  refine rf0 d2 ?_
  refine Wp.ret ⟨trivial,.int .i64 one,?_,?_,rfl⟩
  ·simp only[go_sem]
   exact rfl
  ·rw[hb,h1]
   exact av.refl _
 |false=>
  simp only[Bool.false_eq_true,if_false]
  cases hb:eJ ws i with
  |false=>
   rw[hb] at c1
   refine rg1 (cj6 w0 w1 d0 d1 ho @Bool.not_false) c1 ?_
   refine ⟨true,fun _=>rfl,by decide,?_⟩
   refine aK.tm ?_
   exact xSb
  |true=>
   rw[hb] at c1
   refine rg1 (cj6 w0 w1 d0 d1 ho @Bool.not_true) c1 ?_
   refine Wp.ret ⟨trivial,.int .i64 z,?_,?_,rfl⟩
   ·simp only[go_sem]
    exact rfl
   ·rw[hz]
    exact av.refl _
def kr (ws:List W) (np:Nat):Option Nat:=(List.range np).find? fun i=> !eJ ws i
theorem Ca {ws:List W} {i:Nat} (h0:i%64=0) (h:ws.getD (i/64) 0=BitVec.allOnes 64) {j:Nat} (h1:i≤j) (h2:j<i+64):eJ ws j=true:=by
 have e:j/64=i/64:=by omega
 unfold eJ
 rw[e,h]
 rw[BitVec.getLsbD_allOnes]
 exact decide_eq_true (Nat.mod_lt _ ah)
theorem Fo (ho:h.objs A=some (alO np U ws.length)) (hu:h.objs U=some (.cells (di ws))) (hnp:np≤64*ws.length) (hn2:np<100000):
  aJ Tryz.prog 145 [.ptr A 0,.int .i64 1] h (match kr ws np with|some i=> .tup [.int .i64 i,.bool true]|none=> .tup [.int .i64 0,.bool false]) h:=by
 refine f145.bP af ?_
 unfold Gg zz
 have ho2:=ho
 unfold alO at ho2
 refine vZ ?_
 refine Wp.Bv ?_
 refine vZ ?_
 refine Wp.eH [0,1] xA7 (fun i:Nat=>[(6,.int .i64 i)]) (fun q=>h) (fun i=>(∀j,j<i→j<np→eJ ws j=true)∧i≤np+64) (fun i=>np+64 - i) 0 ⟨fun j hj=>by omega,ab⟩ rfl ?_ ?_
 ·exact xSb
 rintro i ⟨hi,hi2⟩
 by_cases hin:i<np
 ·have d1:decide ((i:Int)<(np:Int))=true:=decide_eq_true ab
  have c1:=B9 i ab
  have e2:(i:Int).tmod 64=((i%64:Nat):Int):=by
   rw[Int.tmod_eq_emod_of_nonneg ab];omega
  have c2:=Gx ho hu hnp hn2 hin
  have z01:decide ((0:Int)=1)=false:=by decide
  have z11:decide ((1:Int)=1)=true:=by decide
  have w0:IntKind.i64.wrap ((0:Int)+1)=1:=by decide
  unfold nC at c1
  have hw:i/64<ws.length:=by omega
  have g1:(0:Int)≤((i/64:Nat):Int):=by omega
  have g2:((i/64:Nat):Int)<(ws.length:Int):=by omega
  have g3:(di ws)[i/64]? =some (nC (ws.getD (i/64) 0)):=by simp[di,List.getD,List.getElem?_eq_getElem hw]
  unfold nC at g3
  by_cases hs:i%64=0∧ws.getD (i/64) 0=BitVec.allOnes 64
  ·have d2:decide (((i%64:Nat):Int)=0)=true:=decide_eq_true ab
   have d3:decide (((ws.getD (i/64) 0).toNat:Int)=18446744073709551615)=true:=by rw[hs.2];decide
   have w1:IntKind.i64.wrap ((i:Int)+64)=((i+64:Nat):Int):=by rw[IntWalk.i64_in _ ab];rfl
   refine rf1 (cj2 d1 ho2) c1 ?_
   refine Wp.DD ?_
   refine xOp (cP e2 d2 d3 ho2 hu g1 g2 g3 @and_self @Nat.zero_add @Nat.mul_one @Int.toNat_natCast) ?_
   refine xOp (cP e2 d2 d3 ho2 hu g1 g2 g3 @and_self @Nat.zero_add @Nat.mul_one @Int.toNat_natCast) ?_
   refine xOp (cP e2 d2 d3 ho2 hu g1 g2 g3 @and_self @Nat.zero_add @Nat.mul_one @Int.toNat_natCast) ?_
   refine xOp (cP e2 d2 d3 ho2 hu g1 g2 g3 @and_self @Nat.zero_add @Nat.mul_one @Int.toNat_natCast) ?_
   refine xOp (cP e2 d2 d3 ho2 hu g1 g2 g3 @and_self @Nat.zero_add @Nat.mul_one @Int.toNat_natCast) ?_
   refine xOp (cP e2 d2 d3 ho2 hu g1 g2 g3 @and_self @Nat.zero_add @Nat.mul_one @Int.toNat_natCast) ?_
   refine xOp (cP e2 d2 d3 ho2 hu g1 g2 g3 @and_self @Nat.zero_add @Nat.mul_one @Int.toNat_natCast) ?_
   refine xOp (cP e2 d2 d3 ho2 hu g1 g2 g3 @and_self @Nat.zero_add @Nat.mul_one @Int.toNat_natCast) ?_
   refine xOp (cP e2 d2 d3 ho2 hu g1 g2 g3 @and_self @Nat.zero_add @Nat.mul_one @Int.toNat_natCast) ?_
   refine xOp (cP e2 d2 d3 ho2 hu g1 g2 g3 @and_self @Nat.zero_add @Nat.mul_one @Int.toNat_natCast) ?_
   refine xOp (cP e2 d2 d3 ho2 hu g1 g2 g3 @and_self @Nat.zero_add @Nat.mul_one @Int.toNat_natCast) ?_
   refine xOp (cP e2 d2 d3 ho2 hu g1 g2 g3 @and_self @Nat.zero_add @Nat.mul_one @Int.toNat_natCast) ?_
   refine xOp (cP e2 d2 d3 ho2 hu g1 g2 g3 @and_self @Nat.zero_add @Nat.mul_one @Int.toNat_natCast) ?_
   refine ao.toN (log:=[]) (ao.nil ?_)
   refine rf0 w1 ?_
   refine ⟨i+64,⟨fun j hj hj2=>?_,ab⟩,ab,?_⟩
   ·by_cases e:j<i
    ·exact hi j e hj2
    ·exact Ca hs.1 hs.2 ab hj
   ·refine aK.tm ?_
    exact xSb
  ·have d3:(if decide (((i%64:Nat):Int)=0)=true then decide (((ws.getD (i/64) 0).toNat:Int)=18446744073709551615) else false)=false:=by
    by_cases h0:i%64=0
    ·rw[if_pos (decide_eq_true ab)]
     refine decide_eq_false fun h1=>hs ⟨h0,BitVec.eq_of_toNat_eq ?_⟩
     rw[show (BitVec.allOnes 64).toNat=18446744073709551615 from rfl]
     omega
    ·rw[if_neg]
     simp
     omega
   by_cases h0:i%64=0
   ·have d2:decide (((i%64:Nat):Int)=0)=true:=decide_eq_true ab
    rw[d2,if_pos rfl] at d3
    refine rf1 (cj2 d1 ho2) c1 ?_
    refine Wp.DD ?_
    refine xOp (cP e2 d2 d3 ho2 hu g1 g2 g3 @and_self @Nat.zero_add @Nat.mul_one @Int.toNat_natCast) ?_
    refine xOp (cP e2 d2 d3 ho2 hu g1 g2 g3 @and_self @Nat.zero_add @Nat.mul_one @Int.toNat_natCast) ?_
    refine xOp (cP e2 d2 d3 ho2 hu g1 g2 g3 @and_self @Nat.zero_add @Nat.mul_one @Int.toNat_natCast) ?_
    refine xOp (cP e2 d2 d3 ho2 hu g1 g2 g3 @and_self @Nat.zero_add @Nat.mul_one @Int.toNat_natCast) ?_
    refine xOp (cP e2 d2 d3 ho2 hu g1 g2 g3 @and_self @Nat.zero_add @Nat.mul_one @Int.toNat_natCast) ?_
    refine xOp (cP e2 d2 d3 ho2 hu g1 g2 g3 @and_self @Nat.zero_add @Nat.mul_one @Int.toNat_natCast) ?_
    refine xOp (cP e2 d2 d3 ho2 hu g1 g2 g3 @and_self @Nat.zero_add @Nat.mul_one @Int.toNat_natCast) ?_
    refine xOp (cP e2 d2 d3 ho2 hu g1 g2 g3 @and_self @Nat.zero_add @Nat.mul_one @Int.toNat_natCast) ?_
    refine xOp (cP e2 d2 d3 ho2 hu g1 g2 g3 @and_self @Nat.zero_add @Nat.mul_one @Int.toNat_natCast) ?_
    refine xOp (cP e2 d2 d3 ho2 hu g1 g2 g3 @and_self @Nat.zero_add @Nat.mul_one @Int.toNat_natCast) ?_
    refine xOp (cP e2 d2 d3 ho2 hu g1 g2 g3 @and_self @Nat.zero_add @Nat.mul_one @Int.toNat_natCast) ?_
    refine xOp (cP e2 d2 d3 ho2 hu g1 g2 g3 @and_self @Nat.zero_add @Nat.mul_one @Int.toNat_natCast) ?_
    refine xOp (cP e2 d2 d3 ho2 hu g1 g2 g3 @and_self @Nat.zero_add @Nat.mul_one @Int.toNat_natCast) ?_
    refine ao.toN (log:=[]) (ao.nil ?_)
    cases hb:eJ ws i with
    |true=>
     rw[hb] at c2
     simp only[if_true] at c2
     have w1:IntKind.i64.wrap ((i:Int)+1)=((i+1:Nat):Int):=by rw[IntWalk.i64_in _ ab];rfl
     refine rg1 (cj3 w0 w1 z01) c2 ?_
     refine ⟨i+1,⟨fun j hj hj2=>?_,ab⟩,ab,?_⟩
     ·by_cases e:j=i
      ·rw[e];exact hb
      ·exact hi j ab hj2
     ·refine aK.tm ?_
      exact xSb
    |false=>
     rw[hb] at c2
     simp only[Bool.false_eq_true,if_false] at c2
     have e:kr ws np=some i:=List.find?_range_eq_some.2 ⟨by rw[hb];rfl,List.mem_range.2 hin,fun j hj=>by rw[hi j hj ab];rfl⟩
     rw[e]
     refine rg1 z11 c2 ?_
     refine Wp.ret ⟨trivial,_,?_,av.refl _,rfl⟩
     simp only[go_sem]
     exact rfl
   ·have d2:decide (((i%64:Nat):Int)=0)=false:=decide_eq_false ab
    have h64:¬((64:Int)=0):=by decide
    refine rf1 (cj5 d1 ho2 e2 d2 h64) c1 ?_
    cases hb:eJ ws i with
    |true=>
     rw[hb] at c2
     simp only[if_true] at c2
     have w1:IntKind.i64.wrap ((i:Int)+1)=((i+1:Nat):Int):=by rw[IntWalk.i64_in _ ab];rfl
     refine rg1 (cj3 w0 w1 z01) c2 ?_
     refine ⟨i+1,⟨fun j hj hj2=>?_,ab⟩,ab,?_⟩
     ·by_cases e:j=i
      ·rw[e];exact hb
      ·exact hi j ab hj2
     ·refine aK.tm ?_
      exact xSb
    |false=>
     rw[hb] at c2
     simp only[Bool.false_eq_true,if_false] at c2
     have e:kr ws np=some i:=List.find?_range_eq_some.2 ⟨by rw[hb];rfl,List.mem_range.2 hin,fun j hj=>by rw[hi j hj ab];rfl⟩
     rw[e]
     refine rg1 z11 c2 ?_
     refine Wp.ret ⟨trivial,_,?_,av.refl _,rfl⟩
     simp only[go_sem]
     exact rfl
 ·have d1:decide ((i:Int)<(np:Int))=false:=decide_eq_false ab
  have e:kr ws np=none:=List.find?_range_eq_none.2 fun j hj=>by rw[hi j ab hj];rfl
  rw[e]
  refine rf0 (cj2 d1 ho2) ?_
  refine Wp.ret ⟨trivial,_,?_,av.refl _,rfl⟩
  simp only[go_sem]
  exact rfl
end
end Go.Proofs.YtbgmofhgfnmaiaaGreat.Tree
end
section
set_option maxRecDepth 100000
namespace Go.Proofs.YtbgmofhgfnmaiaaGreat.Tree
open Go Go.Av Go.Proofs Go.Proofs.YtbgmofhgfnmaiaaGreat.C Go.Proofs.YtbgmofhgfnmaiaaGreat.Page
open Go.Proofs.YtbgmofhgfnmaiaaGreat.Batch (Bs Pr prs aW)
section
variable {F:Nat→Option Av.Obj} {n m A U np:Nat} {T:List Nat} {ws:List W}
theorem Ah (ho:F A=some (alO np U ws.length)) (hu:F U=some (.cells (di ws))) (hAU:A≠U) (hnp:np≤64*ws.length) (hn2:np<100000) {i:Nat} (hf:kr ws np=some i) (hi:i<np):
  aJ Tryz.prog 114 [.ptr A 0,.int .i64 1] ⟨F,n,T,m⟩ (.tup [.int .i64 i,.int .i64 0]) ⟨upd F U (some (.cells (di (setW ws i true)))),n,T,m⟩:=by
 refine f114.bP af ?_
 unfold F6 zz
 have c1:=wD (h:=⟨F,n,T,m⟩) ho ab
 have c2:=Fo (h:=⟨F,n,T,m⟩) ho hu hnp hn2
 rw[hf] at c2
 simp only at c2
 have c3:=EI (n:=n) (T:=T) (m:=m) ho hu hAU (i:=i) ab ab true
 have d1:decide ((1:Int)<1)=false:=by decide
 refine rg3 (cj3 d1 @Bool.not_true @Bool.not_false) c1 c2 c3 ?_
 refine Wp.ret ⟨trivial,_,?_,av.refl _,rfl⟩
 simp only[go_sem]
 exact rfl
theorem Fp (ho:F A=some (alO np U ws.length)) (hu:F U=some (.cells (di ws))) (hAU:A≠U) (hnp:np≤64*ws.length) (hn2:np<100000) {i:Nat} (hi:i<np) (hb:eJ ws i=true):
  aJ Tryz.prog 110 [.ptr A 0,.int .i64 i,.int .i64 1] ⟨F,n,T,m⟩ (.int .i64 0) ⟨upd F U (some (.cells (di (setW ws i false)))),n,T,m⟩:=by
 refine f110.bP af ?_
 unfold FZ zz
 have c1:=wD (h:=⟨F,n,T,m⟩) ho ab
 have c2:=Gw (h:=⟨F,n,T,m⟩) ho hu (i:=i) ab ab
 rw[hb] at c2
 have c3:=EI (n:=n) (T:=T) (m:=m) ho hu hAU (i:=i) ab ab false
 have ho2:=ho
 unfold alO at ho2
 obtain ⟨one,h1⟩:∃one:Int,one=1:=⟨_,rfl⟩
 rw[←h1] at c3 ⊢
 have d1:decide (one<one)=false:=decide_eq_false ab
 have d2:decide ((i:Int)<0)=false:=decide_eq_false ab
 have d3:decide ((np:Int)<one)=false:=decide_eq_false ab
 have w1:IntKind.i64.wrap ((np:Int) - one)=(np:Int) - one:=IntWalk.i64_in _ ab
 have d4:decide ((np:Int) - one<(i:Int))=false:=decide_eq_false ab
 refine rg1 (cj8 d1 d2 d3 d4 w1 ho2 @Bool.not_true @Bool.not_false) c1 ?_
 have w2:IntKind.i64.wrap ((i:Int)+one)=(i:Int)+one:=IntWalk.i64_in _ ab
 refine Wp.eH [0,1,2] xA7 (fun q:Bool=>[(7,.int .i64 (if q then (i:Int)+one else i))]) (fun q=>⟨F,n,T,m⟩) (fun _=>True) (fun q=>if q then 0 else 1) false trivial rfl ?_ ?_
 ·exact xSb
 rintro q -
 cases q with
 |true=>
  have d5:decide ((i:Int)+one<(i:Int)+one)=false:=decide_eq_false ab
  simp only[if_true]
  refine rg1 (cj2 w2 d5) c3 ?_
  refine Wp.ret ⟨trivial,_,?_,av.refl _,rfl⟩
  simp only[go_sem]
  exact rfl
 |false=>
  have d5:decide ((i:Int)<(i:Int)+one)=true:=decide_eq_true ab
  simp only[Bool.false_eq_true,if_false]
  refine rg1 (cj3 w2 d5 @Bool.not_true) c2 ?_
  refine ⟨true,trivial,by decide,?_⟩
  refine aK.tm ?_
  exact xSb
end
end Go.Proofs.YtbgmofhgfnmaiaaGreat.Tree
end
section
set_option maxRecDepth 100000
namespace Go.Proofs.YtbgmofhgfnmaiaaGreat.Tree
open Go Go.Av Go.Proofs Go.Proofs.YtbgmofhgfnmaiaaGreat.C Go.Proofs.YtbgmofhgfnmaiaaGreat.Page
open Go.Proofs.YtbgmofhgfnmaiaaGreat.Batch (Bs Pr prs aW)
theorem Cb (p:Addr) (w:World):
  CallsD Tryz.prog 69 #[.pointer (some p)] .returning w fun e u' w'=>e= .returned (.tuple #[])∧u'= .returning∧w'=w:=by
 refine callsD_of_wpS Tryz.func69 rfl fun c₀ cs hu=>?_
 apply wpS_seq
 apply wpS_region
 simp[wpOpsS,go_sem,recoverD,hu,Tryz.ntmps69,Exit.thenS]
 apply wpS_seq
 apply wpS_seq
 apply wpS_region
 simp[wpOpsS,go_sem,Array.replicate]
 refine wpS_cond (t:=true) (by simp[Act.eval]) ?_
 simp only[if_true]
 refine wpS_of_wp (wp_ret ?_)
 cases c₀
 simp_all [Exit.thenS,bodyPostS,results,Tryz.results69]
theorem Cc (k:Int) (w:World):(Instr.typeAssert (.iface 37 (.int .i64 k)) 20 37 true).run Tryz.prog w= .ok (.tuple #[.int .i64 k,.bool true]) w:=by kernel_rfl
theorem wE (p:Addr) (x:Int) (k:Int) (w:World) (hc:w.cell? p=some (.int .i64 x)) (hz:w.frozen? p=false):
  CallsD Tryz.prog 69 #[.pointer (some p)] (.panicking [{v:= .iface 37 (.int .i64 k),recovered:=false}]) w fun e u' w'=>
   e= .returned (.tuple #[])∧u'= .panicking [{v:= .iface 37 (.int .i64 k),recovered:=true}]∧w'=w.setCell p (.int .i64 k):=by
 refine callsD_of_wpS Tryz.func69 rfl fun c₀ cs hu=>?_
 apply wpS_seq
 apply wpS_region
 simp[wpOpsS,go_sem,recoverD,hu,Tryz.ntmps69,Exit.thenS]
 apply wpS_seq
 apply wpS_seq
 apply wpS_region
 simp[wpOpsS,go_sem,Array.replicate]
 refine wpS_cond (t:=false) (by simp[Act.eval]) ?_
 simp only[Bool.false_eq_true,if_false]
 refine wpS_of_wp (wp_skip ?_)
 simp only[Exit.thenS]
 apply wpS_seq
 apply wpS_region
 simp[wpOpsS,go_sem,Exit.thenS,Cc]
 apply wpS_seq
 apply wpS_seq
 apply wpS_region
 simp[wpOpsS,go_sem]
 refine wpS_cond (t:=false) (by simp[Act.eval]) ?_
 simp only[Bool.false_eq_true,if_false]
 refine wpS_of_wp (wp_skip ?_)
 simp only[Exit.thenS]
 apply wpS_region
 simp[wpOpsS,go_sem,hc,hz,bodyPostS,results,Tryz.results69]
theorem rE {G G2:aM} {w w1 w2:World} {h h':H} {x:Value} (k:Value) (R:aX G h w) (T1:Av.Trans G w h (mw G w.heap.size) w1 h) (R1:aX (mw G w.heap.size) h w1) (hs:w.heap.size<w1.heap.size) (n1:¬h.O (mw G w.heap.size) w.heap.size)
  (T2:Av.Trans (mw G w.heap.size) w1 h G2 w2 h') (R2:aX G2 h' w2) {T:TypeId} {fr:Nat × Nat} (hA:w2.heap[w.heap.size]? =some (.cells #[x] T fr)):
  Av.Trans G w h G2 (w2.setCell ⟨w.heap.size,0,none⟩ k) h'∧aX G2 h' (w2.setCell ⟨w.heap.size,0,none⟩ k):=by
 have ho:G2.own w.heap.size:=(T2.own_keep _ hs n1).2 (.inl rfl)
 have t:=zq (x:=k) hA ho
 exact ⟨(T1.trans R R1 T2).set t (Nat.le_refl _),R2.set t fun x=>n1 (T2.O_new _ hs x)⟩
def oi (h:H) (id:Nat):Prop:=∃j o r,h.objs id=some (.cells [.ptr j o,r])
theorem uL {h:H} {id:Nat} (ho:oi h id):aJ Tryz.prog 44 [.ptr id 0] h (.bool true) h:=by
 obtain ⟨j,o,r,ho⟩:=ho
 obtain ⟨r,h',hc,e1,e2⟩:=f44.fA (args:=[.ptr id 0]) (h:=h) (Q:=fun r h'=>r= .bool true∧h'=h) af (by
  unfold c44 zz
  refine rf0 ho ?_
  refine Wp.ret ⟨trivial,_,?_,rfl,rfl⟩
  simp only[go_sem]
  exact rfl)
 subst e1 e2
 exact hc
theorem om {h:H} {id:Nat} (ho:oi h id) {G:aM} {w:World} (R:aX G h w) {T:TypeId}:∃ad,(w.alloc (.cells #[.int .i64 0] T)).cell? {block:=G.ι id,off:=0}=some (.pointer (some ad)):=by
 obtain ⟨j,o,r,ho⟩:=ho
 obtain ⟨-,-,d3,-⟩:=R.obj id _ ho
 obtain ⟨vs,rest,T0,fr,hg,hvs,hfr,hone⟩:=fq R ho
 simp only[aA,aw] at hvs
 obtain ⟨v,us,rfl,⟨-,rfl⟩,-⟩:=hvs
 refine ⟨⟨G.ι j,o,none⟩,?_⟩
 have hp:dB w (w.alloc (.cells #[.int .i64 0] T)) (.cells #[.int .i64 0] T):=⟨rfl,rfl,rfl⟩
 have hk:(w.alloc (.cells #[.int .i64 0] T)).heap[G.ι id]? =w.heap[G.ι id]? :=by
  rw[show (w.alloc (.cells #[.int .i64 0] T)).heap=w.heap.push (.cells #[.int .i64 0] T) from rfl,Array.getElem?_push,if_neg (Nat.ne_of_lt d3)]
 unfold World.cell?
 simp[hk,hg]
theorem Fq {id g:Nat} {fn:Func} {first caps:List AV} {h h':H} {r:AV} (ho:oi h id) (hg:Tryz.prog.funcs[g]? =some fn) (hb:fn.body.isSome=true) (hn:fn.name≠ "runtime.NumGoroutine")
  (hc:aJ Tryz.prog g (first++caps) h r h'):aJ Tryz.prog 34 [.ptr id 0,.clo (.func g) first caps] h (.int .i64 0) h':=by
 intro G w vs hv R F
 simp only[aA,aw] at hv
 obtain ⟨v0,us0,rfl,⟨hd,rfl⟩,v,us,rfl,⟨fv,cv,rfl,h1,h2⟩,rfl⟩:=hv
 have hmf:∀(fn:Fn) (first cap:Array Value) (w:World),(Instr.makeFunc fn first cap).run Tryz.prog w= .ok (.func fn first cap) w:=fun _ _ _ _=>rfl
 obtain ⟨ad,hcl⟩:=om (T:=37) ho R
 go_enter_defers Tryz.func34,Tryz.ntmps34
 go_wp2
 rename_i Q' K1 k1 K2 k2
 rw[eR _ hg hb hn]
 let o:Go.Obj:= .cells #[.int .i64 0] 37
 have hp:dB w (w.alloc o) o:=⟨rfl,rfl,rfl⟩
 obtain ⟨T1,R1,n1,n2⟩:=ug R hp
 have F1:cR (mw G w.heap.size) h h':=F
 have hv1:aA (mw G w.heap.size) (w.alloc o) (first++caps) (fv++cv):=(aA.mono R T1 _ _ h1).append (aA.mono R T1 _ _ h2)
 show Calls _ _ _ _ _
 refine (hc _ _ _ hv1 R1 F1).mono ?_
 rintro e w2 ⟨v2,G2,rfl,T2,R2,-⟩
 have hA:w2.heap[w.heap.size]? =some o:=(T2.keep _ (by rw[hp.size];omega) n1 n2).trans hp.new
 have hcell:w2.cell? {block:=w.heap.size,off:=0}=some (.int .i64 0):=by
  unfold World.cell?;simp only[hA,o];rfl
 have hfz:w2.frozen? {block:=w.heap.size,off:=0}=false:=by
  unfold World.frozen?;simp only[hA,o];rfl
 apply k2
 go_wp2
 obtain ⟨T3,R3⟩:=rE (.int .i64 0) R T1 R1 (by rw[hp.size];omega) n1 T2 R2 hA
 have hB:=xA (x:= .int .i64 0) hA
 refine leaves_cons (f:=69) (args:= #[.pointer (some ⟨w.heap.size,0,none⟩)]) af (by simp[go_sem]) ?_
 refine (Cb ⟨w.heap.size,0,none⟩ _).mono ?_
 rintro e u' w'' ⟨rfl,rfl,rfl⟩
 generalize w2.setCell ⟨w.heap.size,0,none⟩ (.int .i64 0)=w3 at T3 R3 hB ⊢
 have hcell3:w3.cell? {block:=w.heap.size,off:=0}=some (.int .i64 0):=by
  unfold World.cell?;simp only[hB];rfl
 simp[Leaves,settle,results,Tryz.results34,go_sem,hcell3]
 exact ⟨G2,T3,R3,by simp[aw]⟩
theorem DZ {id g:Nat} {fn:Func} {first caps:List AV} {h h':H} {k:Int} (ho:oi h id) (hg:Tryz.prog.funcs[g]? =some fn) (hb:fn.body.isSome=true) (hn:fn.name≠ "runtime.NumGoroutine")
  (hc:eg Tryz.prog g (first++caps) h (.iface 37 (.int .i64 k)) h'):aJ Tryz.prog 34 [.ptr id 0,.clo (.func g) first caps] h (.int .i64 k) h':=by
 intro G w vs hv R F
 simp only[aA,aw] at hv
 obtain ⟨v0,us0,rfl,⟨hd,rfl⟩,v,us,rfl,⟨fv,cv,rfl,h1,h2⟩,rfl⟩:=hv
 have hmf:∀(fn:Fn) (first cap:Array Value) (w:World),(Instr.makeFunc fn first cap).run Tryz.prog w= .ok (.func fn first cap) w:=fun _ _ _ _=>rfl
 obtain ⟨ad,hcl⟩:=om (T:=37) ho R
 go_enter_defers Tryz.func34,Tryz.ntmps34
 go_wp2
 rename_i Q' K1 k1 K2 k2
 rw[eR _ hg hb hn]
 let o:Go.Obj:= .cells #[.int .i64 0] 37
 have hp:dB w (w.alloc o) o:=⟨rfl,rfl,rfl⟩
 obtain ⟨T1,R1,n1,n2⟩:=ug R hp
 have F1:cR (mw G w.heap.size) h h':=F
 have hv1:aA (mw G w.heap.size) (w.alloc o) (first++caps) (fv++cv):=(aA.mono R T1 _ _ h1).append (aA.mono R T1 _ _ h2)
 show Calls _ _ _ _ _
 refine (hc _ _ _ hv1 R1 F1).mono ?_
 rintro e w2 ⟨G2,rfl,T2,R2⟩
 have hA:w2.heap[w.heap.size]? =some o:=(T2.keep _ (by rw[hp.size];omega) n1 n2).trans hp.new
 have hcell:w2.cell? {block:=w.heap.size,off:=0}=some (.int .i64 0):=by
  unfold World.cell?;simp only[hA,o];rfl
 have hfz:w2.frozen? {block:=w.heap.size,off:=0}=false:=by
  unfold World.frozen?;simp only[hA,o];rfl
 obtain ⟨T3,R3⟩:=rE (.int .i64 k) R T1 R1 (by rw[hp.size];omega) n1 T2 R2 hA
 have hB:=xA (x:= .int .i64 k) hA
 show Leaves _ _ _ _ _ _ _
 refine leaves_cons (f:=69) (args:= #[.pointer (some ⟨w.heap.size,0,none⟩)]) af (by simp[go_sem]) ?_
 refine (wE ⟨w.heap.size,0,none⟩ 0 k _ hcell hfz).mono ?_
 rintro e u' w'' ⟨rfl,rfl,rfl⟩
 generalize w2.setCell ⟨w.heap.size,0,none⟩ (.int .i64 k)=w3 at T3 R3 hB ⊢
 have hcell3:w3.cell? {block:=w.heap.size,off:=0}=some (.int .i64 k):=by
  unfold World.cell?;simp only[hB];rfl
 simp[Leaves,settle,results,Tryz.results34,go_sem,hcell3]
 exact ⟨G2,T3,R3,by simp[aw]⟩
theorem laid:laidOutB Tryz.prog=true:=by kernel_rfl
theorem Gy:mapsRowed Tryz.prog=true:=by kernel_rfl
theorem full:∀t e,t<Tryz.prog.types.size→Tryz.prog.underlying t=some (.slice e)→0<Tryz.prog.cellsOf e:=slices_full_of Tryz.prog (by kernel_rfl)
theorem own:ownKnob Tryz.prog.godebug=none:=by kernel_rfl
theorem G8 {H:Type}:pW (H:=H) Rows.uptoBulk Rows.uptoBulkAll:=
 ⟨fun l=>by simp[Rows.uptoBulk],fun k n=>by simp[Rows.uptoBulk],fun b=>by simp[Rows.uptoBulk],by simp[Rows.uptoBulk],fun a b=>by simp[Rows.uptoBulk],fun a=>by simp[Rows.uptoBulk],by simp[Rows.uptoBulkAll],fun d l=>by simp[Rows.uptoBulkAll]⟩
end Go.Proofs.YtbgmofhgfnmaiaaGreat.Tree
end
section
set_option maxRecDepth 100000
namespace Go.Proofs.YtbgmofhgfnmaiaaGreat.Tree
open Go
def pa:Nat→Nat→Nat
 |0,_=>0
 |k+1,x=>x%2+pa k (x/2)
theorem pa8 (k hi lo:Nat) (h:lo<256):pa (k+8) (hi*256+lo)=pa 8 lo+pa k hi:=by
 simp only[pa]
 have e:(hi*256+lo)/2/2/2/2/2/2/2/2=hi:=by omega
 rw[e]
 omega
def ofB:List Nat→Nat
 |[]=>0
 |b::l=>ofB l*256+b
def rB (c:Nat):Nat→Nat
 |0=>0
 |k+1=>rB c k*256+c
theorem pX (a b c d:Nat) (hb:b<256) (hd:d<256):(a*256+b) &&& (c*256+d)=(a &&& c)*256+(b &&& d):=by
 have hbd:b &&& d<2^8:=Nat.and_lt_two_pow b (show d<2^8 from hd)
 refine Nat.eq_of_testBit_eq fun i=>?_
 rw[Nat.testBit_and,Nat.mul_comm a,Nat.mul_comm c,Nat.mul_comm (a &&& c),show (256:Nat)=2^8 from rfl,Nat.testBit_two_pow_mul_add _ (show b<2^8 from hb),Nat.testBit_two_pow_mul_add _ (show d<2^8 from hd),Nat.testBit_two_pow_mul_add _ hbd]
 split<;>rw[Nat.testBit_and]
def s1b (b:Nat):Nat:=((b/2) &&& 85)+(b &&& 85)
def s2b (b:Nat):Nat:=((b/4) &&& 51)+(b &&& 51)
def s3b (b:Nat):Nat:=(b/16+b) &&& 15
theorem Gz:∀l:List Nat,(∀b∈l,b<256)→((ofB l/2) &&& rB 85 l.length)+(ofB l &&& rB 85 l.length)=ofB (l.map s1b)
 |[],_=>rfl
 |b::l,h=>by
  have ih:=Gz l fun x hx=>h x (by simp[hx])
  have hb:=h b af
  have e1:ofB (b::l)/2=(ofB l/2)*256+(ofB l%2*128+b/2):=by simp only[ofB];omega
  have key:∀r:Fin 2,∀x:Fin 256,(r.val*128+x.val/2) &&& 85=(x.val/2) &&& 85:=by decide+kernel
  have k1:=key ⟨ofB l%2,Nat.mod_lt _ ah⟩ ⟨b,hb⟩
  simp only at k1
  rw[e1]
  simp only[List.length_cons,rB,ofB,List.map_cons]
  rw[pX _ _ _ _ ab ah,pX _ _ _ _ hb ah,k1,←ih]
  simp only[s1b]
  omega
theorem GA:∀l:List Nat,(∀b∈l,b<256)→((ofB l/4) &&& rB 51 l.length)+(ofB l &&& rB 51 l.length)=ofB (l.map s2b)
 |[],_=>rfl
 |b::l,h=>by
  have ih:=GA l fun x hx=>h x (by simp[hx])
  have hb:=h b af
  have e1:ofB (b::l)/4=(ofB l/4)*256+(ofB l%4*64+b/4):=by simp only[ofB];omega
  have key:∀r:Fin 4,∀x:Fin 256,(r.val*64+x.val/4) &&& 51=(x.val/4) &&& 51:=by decide+kernel
  have k1:=key ⟨ofB l%4,Nat.mod_lt _ ah⟩ ⟨b,hb⟩
  simp only at k1
  rw[e1]
  simp only[List.length_cons,rB,ofB,List.map_cons]
  rw[pX _ _ _ _ ab ah,pX _ _ _ _ hb ah,k1,←ih]
  simp only[s2b]
  omega
theorem GB:∀l:List Nat,(∀b∈l,b%16≤4∧b/16≤4)→((ofB l/16+ofB l) &&& rB 15 l.length)=ofB (l.map s3b)
 |[],_=>rfl
 |b::l,h=>by
  have ih:=GB l fun x hx=>h x (by simp[hx])
  have hb:=h b af
  have hlow:ofB l%16≤4:=by
   cases l with
   |nil=>simp[ofB]
   |cons c l=>
    have:=(h c af).1
    simp only[ofB];omega
  have e1:ofB (b::l)/16+ofB (b::l)=(ofB l/16+ofB l)*256+(ofB l%16*16+(b/16+b)):=by simp only[ofB];omega
  have key:∀r:Fin 5,∀x:Fin 73,(r.val*16+x.val) &&& 15=x.val &&& 15:=by decide+kernel
  have k1:=key ⟨ofB l%16,ab⟩ ⟨b/16+b,ab⟩
  simp only at k1
  rw[e1]
  simp only[List.length_cons,rB,ofB,List.map_cons]
  rw[pX _ _ _ _ ab ah,k1,ih]
  rfl
theorem Fs:∀b:Fin 256,s3b (s2b (s1b b.val))=pa 8 b.val:=by decide+kernel
theorem GC:∀b:Fin 256,s1b b.val<256:=by decide+kernel
theorem Ft:∀b:Fin 256,s2b (s1b b.val)%16≤4∧s2b (s1b b.val)/16≤4:=by decide+kernel
theorem ku:∀b:Fin 256,pa 8 b.val≤8:=by decide+kernel
def D1 (x:Nat):Nat:=
 let x1:=((x/2) &&& 6148914691236517205)+(x &&& 6148914691236517205)
 let x2:=((x1/4) &&& 3689348814741910323)+(x1 &&& 3689348814741910323)
 (x2/16+x2) &&& 1085102592571150095
def D2 (x:Nat):Nat:=
 let x1:=x+x/256
 let x2:=x1+x1/65536
 (x2+x2/4294967296)%128
theorem Fu (x:Nat) (h:x<2^64):∃b0 b1 b2 b3 b4 b5 b6 b7,b0<256∧b1<256∧b2<256∧b3<256∧b4<256∧b5<256∧b6<256∧b7<256∧x=ofB [b0,b1,b2,b3,b4,b5,b6,b7]:=by
 refine ⟨x%256,x/256%256,x/256/256%256,x/256/256/256%256,x/256/256/256/256%256,x/256/256/256/256/256%256,x/256/256/256/256/256/256%256,x/256/256/256/256/256/256/256,?_⟩
 simp only[ofB]
 omega
theorem q1 {P a:Nat} (h:a<256):(P*256+a)/256=P:=by omega
theorem q2 {P Q a b:Nat} (h:Q=P*256+b) (ha:a<256) (hb:b<256):(Q*256+a)/65536=P:=by subst h;omega
theorem q4 {P Q a b:Nat} (h:Q/65536=P) (ha:a<256) (hb:b<256):((Q*256+b)*256+a)/4294967296=P:=by subst h;omega
theorem G9 (P Q a b:Nat):(P*256+a)+(Q*256+b)=(P+Q)*256+(a+b):=by omega
theorem D3 {c0 c1 c2 c3 c4 c5 c6 c7:Nat} (l0:c0≤8) (l1:c1≤8) (l2:c2≤8) (l3:c3≤8) (l4:c4≤8) (l5:c5≤8) (l6:c6≤8) (l7:c7≤8):D2 (ofB [c0,c1,c2,c3,c4,c5,c6,c7])=c0+(c1+(c2+(c3+(c4+(c5+(c6+c7)))))):=by
 have a0:ofB [c0,c1,c2,c3,c4,c5,c6,c7]=ofB [c1,c2,c3,c4,c5,c6,c7]*256+c0:=by simp only[ofB]
 have a1:ofB [c1,c2,c3,c4,c5,c6,c7]=ofB [c2,c3,c4,c5,c6,c7]*256+c1:=by simp only[ofB]
 have a2:ofB [c2,c3,c4,c5,c6,c7]=ofB [c3,c4,c5,c6,c7]*256+c2:=by simp only[ofB]
 have a3:ofB [c3,c4,c5,c6,c7]=ofB [c4,c5,c6,c7]*256+c3:=by simp only[ofB]
 have a4:ofB [c4,c5,c6,c7]=ofB [c5,c6,c7]*256+c4:=by simp only[ofB]
 have a5:ofB [c5,c6,c7]=ofB [c6,c7]*256+c5:=by simp only[ofB]
 have a6:ofB [c6,c7]=ofB [c7]*256+c6:=by simp only[ofB]
 have a7:ofB [c7]=c7:=by simp[ofB]
 generalize ofB [c0,c1,c2,c3,c4,c5,c6,c7]=X at*
 generalize ofB [c1,c2,c3,c4,c5,c6,c7]=P0 at*
 generalize ofB [c2,c3,c4,c5,c6,c7]=P1 at*
 generalize ofB [c3,c4,c5,c6,c7]=P2 at*
 generalize ofB [c4,c5,c6,c7]=P3 at*
 generalize ofB [c5,c6,c7]=P4 at*
 generalize ofB [c6,c7]=P5 at*
 generalize ofB [c7]=P6 at*
 unfold D2
 simp only
 have b1:X/256=P0:=by rw[a0];exact q1 ab
 have b2:X+P0=(P0+P1)*256+(c0+c1):=by clear b1;omega
 have b3:P0+P1=(P1+P2)*256+(c1+c2):=by clear b1 b2;omega
 have b4:(X+P0)/65536=P1+P2:=by rw[b2];exact q2 b3 ab ab
 have b5:X+P0+(P1+P2)=((P1+P2+P3+P4)*256+(c1+c2+c3+c4))*256+(c0+c1+c2+c3):=by clear b1 b2 b3 b4;omega
 have b6:P1+P2+P3+P4=(P2+P3+P4+P5)*256+(c2+c3+c4+c5):=by clear b1 b2 b3 b4 b5;omega
 have b7:P2+P3+P4+P5=(P3+P4+P5+P6)*256+(c3+c4+c5+c6):=by clear b1 b2 b3 b4 b5 b6;omega
 have b8:(P1+P2+P3+P4)/65536=P3+P4+P5+P6:=by rw[b6];exact q2 b7 ab ab
 have b9:(X+P0+(P1+P2))/4294967296=P3+P4+P5+P6:=by rw[b5];exact q4 b8 ab ab
 have b10:P3+P4+P5+P6=(P4+P5+P6)*256+(c4+c5+c6+c7):=by clear b1 b2 b3 b4 b5 b6 b7 b8 b9;omega
 rw[b1,b4,b9,b5,b10,G9]
 clear b1 b2 b3 b4 b5 b6 b7 b8 b9 b10 a0 a1 a2 a3 a4 a5 a6 a7
 omega
theorem D4 (x:Nat) (h:x<2^64):D2 (D1 x)=pa 64 x:=by
 obtain ⟨b0,b1,b2,b3,b4,b5,b6,b7,h0,h1,h2,h3,h4,h5,h6,h7,rfl⟩:=Fu x h
 have hl:∀b∈[b0,b1,b2,b3,b4,b5,b6,b7],b<256:=by simp;omega
 generalize hL:[b0,b1,b2,b3,b4,b5,b6,b7]=l at*
 have len:l.length=8:=by rw[←hL];rfl
 have e1:=Gz l hl
 have e2:=GA (l.map s1b) fun b hb=>by
  obtain ⟨c,hc,rfl⟩:=List.mem_map.1 hb
  exact GC ⟨c,hl c hc⟩
 have e3:=GB ((l.map s1b).map s2b) fun b hb=>by
  obtain ⟨c,hc,rfl⟩:=List.mem_map.1 hb
  obtain ⟨d,hd,rfl⟩:=List.mem_map.1 hc
  exact Ft ⟨d,hl d hd⟩
 simp only[List.length_map,len] at e1 e2 e3
 have q:D1 (ofB l)=ofB (l.map (pa 8)):=by
  unfold D1
  simp only
  rw[show (6148914691236517205:Nat)=rB 85 8 from rfl,e1,show (3689348814741910323:Nat)=rB 51 8 from rfl,e2,show (1085102592571150095:Nat)=rB 15 8 from rfl,e3]
  congr 1
  rw[List.map_map,List.map_map]
  exact List.map_congr_left fun b hb=>Fs ⟨b,hl b hb⟩
 rw[q,←hL]
 have g:pa 64 (ofB [b0,b1,b2,b3,b4,b5,b6,b7])=pa 8 b0+(pa 8 b1+(pa 8 b2+(pa 8 b3+(pa 8 b4+(pa 8 b5+(pa 8 b6+pa 8 b7)))))):=by
  simp only[ofB]
  rw[show (64:Nat)=56+8 from rfl,pa8 56 _ _ h0,show (56:Nat)=48+8 from rfl,pa8 48 _ _ h1,show (48:Nat)=40+8 from rfl,pa8 40 _ _ h2,show (40:Nat)=32+8 from rfl,pa8 32 _ _ h3,show (32:Nat)=24+8 from rfl,pa8 24 _ _ h4,show (24:Nat)=16+8 from rfl,pa8 16 _ _ h5,show (16:Nat)=8+8 from rfl,pa8 8 _ _ h6]
  simp
 rw[g]
 have l0:=ku ⟨b0,h0⟩
 have l1:=ku ⟨b1,h1⟩
 have l2:=ku ⟨b2,h2⟩
 have l3:=ku ⟨b3,h3⟩
 have l4:=ku ⟨b4,h4⟩
 have l5:=ku ⟨b5,h5⟩
 have l6:=ku ⟨b6,h6⟩
 have l7:=ku ⟨b7,h7⟩
 simp only at l0 l1 l2 l3 l4 l5 l6 l7
 simp only[List.map_cons,List.map_nil]
 exact D3 l0 l1 l2 l3 l4 l5 l6 l7
end Go.Proofs.YtbgmofhgfnmaiaaGreat.Tree
end
section
set_option maxRecDepth 100000
namespace Go.Proofs.YtbgmofhgfnmaiaaGreat.Tree
open Go Go.Av Go.Proofs Go.Proofs.YtbgmofhgfnmaiaaGreat.C Go.Proofs.YtbgmofhgfnmaiaaGreat.Page
open Go.Proofs.YtbgmofhgfnmaiaaGreat.Batch (Bs Pr prs aW)
theorem wF {x:Nat} (h:x<2^64):IntKind.u64.wrap (x:Int)=(x:Int):=by
 unfold IntKind.wrap
 simp[IntKind.bits,IntKind.signed]
 omega
theorem Cd {a b:Nat} (ha:a<2^64) (hb:b<2^64):oy .u64 (a:Int) (b:Int)=((a &&& b:Nat):Int):=by
 have h:=B8 (BitVec.ofNat 64 a) (BitVec.ofNat 64 b)
 rw[BitVec.toNat_and,BitVec.toNat_ofNat,BitVec.toNat_ofNat,Nat.mod_eq_of_lt ha,Nat.mod_eq_of_lt hb] at h
 exact h
theorem wG (a p:Nat):(a:Int).fdiv (p:Int)=((a/p:Nat):Int):=by
 rw[Int.fdiv_eq_ediv_of_nonneg _ ab]
 exact (Int.natCast_ediv a p).symm
theorem uM {x c p:Nat} (hx:x<2^64) (hc:c<2^63):IntKind.u64.wrap (oy .u64 ((x:Int).fdiv (p:Int)) (c:Int)+oy .u64 (x:Int) (c:Int))=(((x/p &&& c)+(x &&& c):Nat):Int):=by
 rw[wG,Cd (Nat.lt_of_le_of_lt (Nat.div_le_self _ _) hx) ab,Cd hx ab]
 have h1:x/p &&& c≤c:=Nat.and_le_right
 have h2:x &&& c≤c:=Nat.and_le_right
 rw[←Int.natCast_add]
 exact wF ab
theorem Fv {y:Nat} (hy:y<2^63):oy .i64 (IntKind.i64.wrap (y:Int)) 127=((y%128:Nat):Int):=by
 have e0:IntKind.i64.wrap (y:Int)=y:=IntWalk.i64_in _ ab
 rw[e0]
 unfold oy
 have e1:BitVec.ofInt IntKind.i64.bits (y:Int)=BitVec.ofNat 64 y:=by
  show BitVec.ofInt 64 (y:Int)=_
  simp
 have e2:BitVec.ofInt IntKind.i64.bits 127=BitVec.ofNat 64 127:=rfl
 rw[e1,e2]
 have e3:(BitVec.ofNat 64 y &&& BitVec.ofNat 64 127).toNat=y%128:=by
  rw[BitVec.toNat_and,BitVec.toNat_ofNat,BitVec.toNat_ofNat,Nat.mod_eq_of_lt (show y<2^64 by omega)]
  exact Nat.and_two_pow_sub_one_eq_mod y 7
 show IntKind.i64.wrap (((BitVec.ofNat 64 y &&& BitVec.ofNat 64 127).toNat:Nat):Int)=_
 rw[e3]
 exact IntWalk.i64_in _ ab
theorem D5 {x p c:Nat} (hx:x/p+x<2^64) (hc:c<2^63:=by decide):oy .u64 (IntKind.u64.wrap ((x:Int).fdiv (p:Int)+(x:Int))) (c:Int)=((x/p+x &&& c:Nat):Int):=by
 rw[wG,←Int.natCast_add,wF hx,Cd hx ab]
theorem sX {x p:Nat} (hx:x+x/p<2^64):IntKind.u64.wrap ((x:Int)+(x:Int).fdiv (p:Int))=((x+x/p:Nat):Int):=by
 rw[wG,←Int.natCast_add,wF hx]
theorem GD (x:Nat) (hx:x<2^64):aZ Tryz.prog 98 [.int .u64 x] (.int .i64 ((pa 64 x:Nat):Int)):=by
 refine f98.dw af (by simp[aR,bf]) rfl ?_
 unfold c98 zz
 rw[←D4 x hx]
 obtain ⟨X1,h1⟩:∃X1,X1=(x/2 &&& 6148914691236517205)+(x &&& 6148914691236517205):=⟨_,rfl⟩
 have b1:X1<2^64:=by
  have:x/2 &&& 6148914691236517205≤6148914691236517205:=Nat.and_le_right
  have:x &&& 6148914691236517205≤6148914691236517205:=Nat.and_le_right
  omega
 obtain ⟨X2,h2⟩:∃X2,X2=(X1/4 &&& 3689348814741910323)+(X1 &&& 3689348814741910323):=⟨_,rfl⟩
 have b2:X2≤3689348814741910323+3689348814741910323:=by
  have:X1/4 &&& 3689348814741910323≤3689348814741910323:=Nat.and_le_right
  have:X1 &&& 3689348814741910323≤3689348814741910323:=Nat.and_le_right
  omega
 obtain ⟨X3,h3⟩:∃X3,X3=(X2/16+X2) &&& 1085102592571150095:=⟨_,rfl⟩
 have b3:X3≤1085102592571150095:=by rw[h3];exact Nat.and_le_right
 obtain ⟨Y1,g1⟩:∃Y1,Y1=X3+X3/256:=⟨_,rfl⟩
 obtain ⟨Y2,g2⟩:∃Y2,Y2=Y1+Y1/65536:=⟨_,rfl⟩
 obtain ⟨Y3,g3⟩:∃Y3,Y3=Y2+Y2/4294967296:=⟨_,rfl⟩
 have eN:D2 (D1 x)=Y3%128:=by rw[g3,g2,g1,h3,h2,h1];rfl
 rw[eN]
 refine Wp.aF xA1 ag ?_
 refine Wp.aF xA1 ag ?_
 refine Wp.le (s':=⟨tm [(0,.int .u64 (X1:Int))],H0 0 0⟩) (aK.tm ?_) ?_
 ·simp only[aY,go_sem,reduceIte,Nat.reduceEqDiff,bx]
  refine ⟨av.int ?_,trivial⟩
  rw[h1]
  exact uM (p:=2) hx ah
 refine Wp.aF xA1 ag ?_
 refine Wp.le (s':=⟨tm [(0,.int .u64 (X2:Int))],H0 0 0⟩) (aK.tm ?_) ?_
 ·simp only[aY,go_sem,reduceIte,Nat.reduceEqDiff,bx]
  refine ⟨av.int ?_,trivial⟩
  rw[h2]
  exact uM (p:=4) b1 ah
 refine Wp.aF xA1 ag ?_
 refine Wp.le (s':=⟨tm [(0,.int .u64 (X3:Int))],H0 0 0⟩) (aK.tm ?_) ?_
 ·simp only[aY,go_sem,reduceIte,Nat.reduceEqDiff,bx]
  refine ⟨av.int ?_,trivial⟩
  rw[h3]
  exact D5 (p:=16) ab
 refine Wp.aF xA1 ag ?_
 refine Wp.le (s':=⟨tm [(0,.int .u64 (Y1:Int))],H0 0 0⟩) (aK.tm ?_) ?_
 ·simp only[aY,go_sem,reduceIte,Nat.reduceEqDiff,bx]
  refine ⟨av.int ?_,trivial⟩
  rw[g1]
  exact sX (p:=256) ab
 refine Wp.aF xA1 ag ?_
 refine Wp.le (s':=⟨tm [(0,.int .u64 (Y2:Int))],H0 0 0⟩) (aK.tm ?_) ?_
 ·simp only[aY,go_sem,reduceIte,Nat.reduceEqDiff,bx]
  refine ⟨av.int ?_,trivial⟩
  rw[g2]
  exact sX (p:=65536) ab
 refine Wp.aF xA1 ag ?_
 refine Wp.le (s':=⟨tm [(0,.int .u64 (Y3:Int))],H0 0 0⟩) (aK.tm ?_) ?_
 ·simp only[aY,go_sem,reduceIte,Nat.reduceEqDiff,bx]
  refine ⟨av.int ?_,trivial⟩
  rw[g3]
  exact sX (p:=4294967296) ab
 refine Wp.aF xA1 ag ?_
 refine Wp.ret ⟨trivial,.int .i64 (oy .i64 (IntKind.i64.wrap (Y3:Int)) 127),?_,?_⟩
 ·simp only[go_sem]
  exact rfl
 ·rw[Fv ab]
  exact av.refl _
def lV (ws:List W) (j:Nat):Nat:=((ws.take j).map fun w=>pa 64 w.toNat).sum
theorem GF (k x:Nat):pa k x≤k:=by
 induction k generalizing x with
 |zero=>exact Nat.le_refl _
 |succ k ih=>have:=ih (x/2);simp only[pa];omega
theorem nD {ws:List W} {j:Nat} (h:j<ws.length):lV ws (j+1)=lV ws j+pa 64 (ws.getD j 0).toNat:=by
 unfold lV
 rw[List.take_succ_eq_append_getElem h,List.map_append,List.sum_append]
 simp[List.getD,List.getElem?_eq_getElem h]
theorem xU (ws:List W):∀j,j≤ws.length→lV ws j≤64*j
 |0,_=>by simp[lV]
 |j+1,h=>by
  rw[nD ab]
  have:=xU ws j ab
  have:=GF 64 (ws.getD j 0).toNat
  omega
theorem Fw {h:H} {A U np:Nat} {ws:List W} (ho:h.objs A=some (alO np U ws.length)) (hu:h.objs U=some (.cells (di ws))) (h0:0<np) (hn:np<100000) (hl:ws.length<10000):
  aJ Tryz.prog 66 [.ptr A 0] h (.int .i64 ((np:Int) - (lV ws ws.length:Nat))) h:=by
 refine f66.bP af ?_
 unfold c66 zz
 have c1:=wD ho h0
 unfold alO at ho
 have e0:(np:Int) - (lV ws 0:Nat)=np:=by simp[lV]
 refine rg1 (cj2 ho @Bool.not_true) c1 ?_
 refine Wp.eH [16,17] xA7 (fun j:Nat=>[(3,.int .i64 ((np:Int) - (lV ws j:Nat))),(18,.int .i64 j)]) (fun _=>h) (fun j=>j≤ws.length) (fun j=>ws.length - j) 0 (Nat.zero_le _) rfl ?_ ?_
 ·rw[e0]
  exact xSb
 intro j hj
 by_cases hjl:j<ws.length
 ·have d1:decide ((j:Int)<(ws.length:Int))=true:=decide_eq_true ab
  have g1:(0:Int)≤(j:Int):=by omega
  have g2:(j:Int)<(ws.length:Int):=by omega
  have g3:(di ws)[j]? =some (.int .u64 ((ws.getD j 0).toNat:Int)):=by simp[di,nC,List.getD,List.getElem?_eq_getElem hjl]
  have c2:=GD (ws.getD j 0).toNat (ws.getD j 0).isLt
  have w1:IntKind.i64.wrap ((j:Int)+1)=((j+1:Nat):Int):=by rw[IntWalk.i64_in _ ab];rfl
  have b1:=xU ws (j+1) hjl
  have b2:=nD hjl
  have w2:IntKind.i64.wrap ((np:Int) - (lV ws j:Nat) - (pa 64 (ws.getD j 0).toNat:Nat))=(np:Int) - (lV ws (j+1):Nat):=by
   rw[IntWalk.i64_in _ ab];omega
  generalize (ws.getD j 0).toNat=x at g3 c2 w2
  refine rf1 (cP ho hu d1 g1 g2 g3 w1 w2 @and_self @Nat.zero_add @Nat.mul_one @Int.toNat_natCast) c2 ?_
  refine ⟨j+1,hjl,ab,?_⟩
  refine aK.tm ?_
  exact xSb
 ·obtain rfl:j=ws.length:=by omega
  have d1:decide ((ws.length:Int)<(ws.length:Int))=false:=decide_eq_false ab
  refine rf0 d1 ?_
  refine Wp.ret ⟨trivial,_,?_,av.refl _,rfl⟩
  simp only[go_sem]
  exact rfl
structure PgI where
 (P A U D K I:Nat)
structure PgS where
 (np:Nat) (ws:List W) (st:List Nat) (p d:List (Nat × List UInt8)) (tk:Option Nat)
def ie (l:List Nat):List AV:=l.map fun z:Nat=> .int .i64 (z:Int)
structure PgH (x:PgI) (s:PgS) (T:List Nat) (h:H):Prop where
 oP:h.objs x.P=some (.cells [.ptr x.A 0,.ptr x.D 0,.int .i64 0,.tsl 1 x.I 0 s.st.length none])
 oA:h.objs x.A=some (alO s.np x.U s.ws.length)
 oU:h.objs x.U=some (.cells (di s.ws))
 oD:h.objs x.D=some (dkO x.K (8*s.np) (cC s.p s.tk))
 oK:h.objs x.K=some (.bk ⟨8*s.np,s.d⟩)
 oI:h.objs x.I=some (.cells (ie s.st))
 lt:x.P<h.n∧x.A<h.n∧x.U<h.n∧x.D<h.n∧x.K<h.n∧x.I<h.n
 ne:x.P≠x.A∧x.P≠x.U∧x.P≠x.D∧x.P≠x.K∧x.P≠x.I∧x.A≠x.U∧x.A≠x.D∧x.A≠x.K∧x.A≠x.I∧x.U≠x.D∧x.U≠x.K∧x.U≠x.I∧x.D≠x.K∧x.D≠x.I∧x.K≠x.I
 fresh:∀j,h.n≤j→h.objs j=none
 toks:h.toks=tkT s.tk T
 tm:∀t∈T,t<h.m
 tkm:∀t,s.tk=some t→t<h.m∧t∉T
 tk0:s.tk=none→s.p=[]
def cD (x:PgI) (h h':H):Prop:=∀j,j<h.n→j≠x.P→j≠x.A→j≠x.U→j≠x.D→j≠x.K→j≠x.I→h'.objs j=h.objs j
theorem PgH.keep {x:PgI} {s:PgS} {T:List Nat} {h h':H} (g:PgH x s T h) (q:∀j,j<h.n→h'.objs j=h.objs j) (hn:h.n≤h'.n) (hf:∀j,h'.n≤j→h'.objs j=none) (ht:h'.toks=h.toks) (hm:h.m≤h'.m):PgH x s T h' where
 oP:=(q _ g.lt.1).trans g.oP
 oA:=(q _ g.lt.2.1).trans g.oA
 oU:=(q _ g.lt.2.2.1).trans g.oU
 oD:=(q _ g.lt.2.2.2.1).trans g.oD
 oK:=(q _ g.lt.2.2.2.2.1).trans g.oK
 oI:=(q _ g.lt.2.2.2.2.2).trans g.oI
 lt:=by have:=g.lt;omega
 ne:=g.ne
 fresh:=hf
 toks:=ht.trans g.toks
 tm:=fun t h=>Nat.lt_of_lt_of_le (g.tm t h) hm
 tkm:=fun t h=>⟨Nat.lt_of_lt_of_le (g.tkm t h).1 hm,(g.tkm t h).2⟩
 tk0:=g.tk0
theorem PgH.sY {x:PgI} {s:PgS} {T:List Nat} {h:H} (g:PgH x s T h) {ws:List W} (hl:ws.length=s.ws.length):PgH x {s with ws:=ws} T {h with objs:=upd h.objs x.U (some (.cells (di ws)))}:=by
 have ne:=g.ne
 have lt:=g.lt
 have q:∀j,j≠x.U→upd h.objs x.U (some (Av.Obj.cells (di ws))) j=h.objs j:=fun j hj=>by simp only[upd];rw[if_neg hj]
 exact {
  oP:=(q _ ne.2.1).trans g.oP
  oA:=(q _ ne.2.2.2.2.2.1).trans (by rw[g.oA];simp only[hl])
  oU:=by simp only[upd,if_true]
  oD:=(q _ (Ne.symm ne.2.2.2.2.2.2.2.2.2.1)).trans g.oD
  oK:=(q _ (Ne.symm ne.2.2.2.2.2.2.2.2.2.2.1)).trans g.oK
  oI:=(q _ (Ne.symm ne.2.2.2.2.2.2.2.2.2.2.2.1)).trans g.oI
  lt:=lt
  ne:=ne
  fresh:=fun j hj=>(q j (by simp only at hj;omega)).trans (g.fresh j hj)
  toks:=g.toks
  tm:=g.tm
  tkm:=g.tkm
  tk0:=g.tk0}
theorem PgH.nE {x:PgI} {s:PgS} {T:List Nat} {h:H} (g:PgH x s T h) {st:List Nat} (hl:st.length=s.st.length):PgH x {s with st:=st} T {h with objs:=upd h.objs x.I (some (.cells (ie st)))}:=by
 have ne:=g.ne
 have lt:=g.lt
 have q:∀j,j≠x.I→upd h.objs x.I (some (Av.Obj.cells (ie st))) j=h.objs j:=fun j hj=>by simp only[upd];rw[if_neg hj]
 exact {
  oP:=(q _ ne.2.2.2.2.1).trans (by rw[g.oP];simp only[hl])
  oA:=(q _ ne.2.2.2.2.2.2.2.2.1).trans g.oA
  oU:=(q _ ne.2.2.2.2.2.2.2.2.2.2.2.1).trans g.oU
  oD:=(q _ ne.2.2.2.2.2.2.2.2.2.2.2.2.2.1).trans g.oD
  oK:=(q _ ne.2.2.2.2.2.2.2.2.2.2.2.2.2.2).trans g.oK
  oI:=by simp only[upd,if_true]
  lt:=lt
  ne:=ne
  fresh:=fun j hj=>(q j (by simp only at hj;omega)).trans (g.fresh j hj)
  toks:=g.toks
  tm:=g.tm
  tkm:=g.tkm
  tk0:=g.tk0}
theorem cD.trans {x:PgI} {h h1 h2:H} (a:cD x h h1) (b:cD x h1 h2) (hn:h.n≤h1.n):cD x h h2:=
 fun j hj a1 a2 a3 a4 a5 a6=>(b j ab a1 a2 a3 a4 a5 a6).trans (a j hj a1 a2 a3 a4 a5 a6)
theorem cD.refl (x:PgI) (h:H):cD x h h:=fun _ _ _ _ _ _ _ _=>rfl
theorem cD.sY {x:PgI} {h:H} {o:Option Av.Obj}:cD x h {h with objs:=upd h.objs x.U o}:=fun j _ _ _ a3 _ _ _=>by simp only[upd];rw[if_neg a3]
theorem cD.nE {x:PgI} {h:H} {o:Option Av.Obj}:cD x h {h with objs:=upd h.objs x.I o}:=fun j _ _ _ _ _ _ a6=>by simp only[upd];rw[if_neg a6]
theorem aq.trans {h h1 h2:H} (a:aq h h1) (b:aq h1 h2) (n1:h.n≤h1.n) (n2:h1.n≤h2.n):aq h h2:=fun j hj=>by
 rcases b j hj with c|c
 ·rcases a j c with d|d
  ·exact .inl d
  ·exact .inr ⟨d.1,ab⟩
 ·exact .inr ⟨ab,c.2⟩
theorem aq.refl (h:H):aq h h:=fun _ hj=> .inl hj
theorem aq.set {h:H} {i:Nat} {o:Option Av.Obj} {p:Av.Obj} (hp:h.objs i=some p):aq h {h with objs:=upd h.objs i o}:=fun j hj=> .inl (by
 simp only[upd] at hj
 by_cases e:j=i
 ·rw[e,hp];rfl
 ·rw[if_neg e] at hj;exact hj)
structure cd (s:PgS):Prop where
 np0:0<s.np
 np1:s.np≤500
 st:s.st.length=s.np
 st3:∀i,s.st.getD i 0≤3
 wl:s.ws.length=(s.np+63)/64
 bit:∀i,eJ s.ws i=(decide (i<s.np)&& !decide (s.st.getD i 0=0))
 pl:∀x∈s.p,x.2.length=128∧x.1<8*s.np
 dl:∀x∈s.d,x.2.length=128
def wrs (i:Nat) (l:List UInt8) (k:Nat):List (Nat × List UInt8):=(List.range k).map fun j=>(i*8+j,(l.drop (j*128)).take 128)
theorem uN (i:Nat) (l:List UInt8) (k:Nat):wrs i l (k+1)=wrs i l k++[(i*8+k,(l.drop (k*128)).take 128)]:=by
 simp[wrs,List.range_succ]
structure OvI (x:PgI) (s:PgS) (T:List Nat) (i:Nat) (l:List UInt8) (h0:H) (k:Nat) (h:H):Prop where
 le:k≤8
 pg:∃tk,PgH x {s with p:=s.p++wrs i l k,tk:=tk} T h
 wh:h.objs h0.n=some (.cells (ar l))
 sm:cD x h0 h
 no:aq h0 h
 ln:h0.n+1≤h.n
 lm:h0.m≤h.m
theorem iP {x:PgI} {s:PgS} {T:List Nat} {h:H} (g:PgH x s T h):aJ Tryz.prog 64 [.ptr x.P 0] h (.bool true) h:=by
 refine f64.bP af ?_
 unfold c64 zz
 have ho:=g.oP
 refine rf0 (cj2 ho @Bool.not_true) ?_
 refine Wp.ret ⟨trivial,_,?_,av.refl _,rfl⟩
 simp only[go_sem]
 exact rfl
theorem mR {x:PgI} {s:PgS} {T:List Nat} {h:H} (g:PgH x s T h) {i:Nat} (hi:i<s.st.length):aJ Tryz.prog 81 [.ptr x.P 0,.int .i64 i] h (.bool true) h:=by
 refine f81.bP af ?_
 unfold c81 zz
 have ho:=g.oP
 have d1:decide ((0:Int)≤(i:Int))=true:=decide_eq_true ab
 have d2:decide ((i:Int)<(s.st.length:Int))=true:=decide_eq_true ab
 refine rf0 (cj3 ho d1 d2) ?_
 refine Wp.ret ⟨trivial,_,?_,av.refl _,rfl⟩
 simp only[go_sem]
 exact rfl
theorem D7 {x:PgI} {s:PgS} {T:List Nat} {i k:Nat} {l:List UInt8} {h0 h:H} {cap:Option Nat} (hD0:x.D<h0.n) (o:OvI x s T i l h0 k h) (np1:s.np≤500) (hk:k<8) (hl:l.length=1024) (hi:i<s.np) (hp:s.p.length<900000):
  aI Tryz.prog 146 [.ptr x.D 0,.int .i64 ((i*8+k:Nat):Int),.tsl 1 h0.n (k*128) 128 cap] h fun r h'=>r= .int .i64 0∧OvI x s T i l h0 (k+1) h'∧aq h h':=by
 obtain ⟨tk,g⟩:=o.pg
 have hb:((ar l).drop (k*128)).take 128=ar ((l.drop (k*128)).take 128):=by simp[ar,List.map_drop,List.map_take]
 have hw:=DV (n:=h.n) (m:=h.m) (T:=T) (cap:=cap) (i:=i*8+k) (l:=(l.drop (k*128)).take 128) g.oD o.wh ak hb (by simp[ar];omega) (by simp only;omega) g.lt.2.2.2.1 (by have:=o.ln;omega) (g.fresh _ (Nat.le_refl _)) (fun t h=>(g.tkm t h).2) g.tk0 (by simp[wrs];omega)
 have hh:h=⟨h.objs,h.n,tkT tk T,h.m⟩:=by
  have:=g.toks
  cases h
  simp only at this
  rw[this]
 have ne:=g.ne
 have lt:=g.lt
 have ln:=o.ln
 have lm:=o.lm
 rw[←hh] at hw
 refine ⟨_,_,hw,Nat.le_succ _,Nat.le_succ _,rfl,?_⟩
 have q:∀j,j≠x.D→upd h.objs x.D (some (dkO x.K (8*s.np) (cC (s.p++wrs i l k++[(i*8+k,(l.drop (k*128)).take 128)]) (some h.m)))) j=h.objs j:=fun j hj=>by simp only[upd];rw[if_neg hj]
 refine ⟨⟨ab,⟨some h.m,?_⟩,?_,fun j hj a1 a2 a3 a4 a5 a6=>(q j a4).trans (o.sm j hj a1 a2 a3 a4 a5 a6),fun j hj=>?_,?_,?_⟩,fun j hj=> .inl ?_⟩
 rotate_right
 ·simp only[upd] at hj
  by_cases e:j=x.D
  ·rw[e,g.oD];rfl
  ·rw[if_neg e] at hj;exact hj
 ·exact {
   oP:=(q _ ne.2.2.1).trans g.oP
   oA:=(q _ ne.2.2.2.2.2.2.1).trans g.oA
   oU:=(q _ ne.2.2.2.2.2.2.2.2.2.1).trans g.oU
   oD:=by
    simp only[upd,if_true]
    rw[uN,List.append_assoc]
   oK:=(q _ (Ne.symm ne.2.2.2.2.2.2.2.2.2.2.2.2.1)).trans g.oK
   oI:=(q _ (Ne.symm ne.2.2.2.2.2.2.2.2.2.2.2.2.2.1)).trans g.oI
   lt:=by simp only;omega
   ne:=ne
   fresh:=fun j hj=>(q j (by simp only at hj;omega)).trans (g.fresh j (by simp only at hj;omega))
   toks:=rfl
   tm:=fun t ht=>Nat.lt_succ_of_lt (g.tm t ht)
   tkm:=fun t ht=>by
    cases ht
    exact ⟨Nat.lt_succ_self _,fun e=>Nat.lt_irrefl _ (g.tm _ e)⟩
   tk0:=fun e=>by cases e}
 ·exact (q _ ab).trans o.wh
 ·simp only[upd] at hj
  by_cases e:j=x.D
  ·refine (o.no j ?_).imp id fun a=>⟨a.1,Nat.lt_succ_of_lt a.2⟩
   rw[e,g.oD];rfl
  ·rw[if_neg e] at hj
   exact (o.no j hj).imp id fun a=>⟨a.1,Nat.lt_succ_of_lt a.2⟩
 ·simp only;omega
 ·simp only;omega
set_option maxHeartbeats 1000000 in
theorem Ce {x:PgI} {s:PgS} {T:List Nat} {h0:H} (g:PgH x s T h0) (np1:s.np≤500) {i:Nat} {l:List UInt8} (hl:l.length=1024) (hi:i<s.np) (hp:s.p.length<900000):
  aI Tryz.prog 115 [.ptr x.P 0,.int .i64 i,.sl 1 (ar l) .any] h0 fun r h=>r= .int .i64 0∧(∃tk,PgH x {s with p:=s.p++wrs i l 8,tk:=tk} T h)∧cD x h0 h∧aq h0 h:=by
 refine f115.bu af ?_
 unfold F7
 obtain ⟨Z,hZ⟩:∃Z,Z=List.replicate 1024 (AV.int .u8 0):=⟨_,rfl⟩
 rw[←hZ]
 have hZl:Z.length=1024:=by rw[hZ];simp
 have hZc:Z.all aO=true:=by rw[hZ];simp[aO]
 clear hZ
 have z3:List.drop 1024 Z=[]:=List.drop_eq_nil_of_le ab
 have y1:(ar l).length=1024:=by simp[ar,hl]
 refine rf0 (cj2 hZl hZc) ?_
 refine an.opA ae (by simp only[fB,jJ,jI,go_sem,reduceIte,Nat.reduceEqDiff,Nat.reduceAdd,bx,ax,if_true,if_false,Nat.reduceMul,Nat.reduceLeDiff,hZl,y1,List.map,Nat.zero_add,Nat.one_mul,Nat.mul_one,Nat.reduceLeDiff,and_self,Int.toNat_zero,Nat.sub_zero,Nat.reduceMul];exact rfl) ?_
 simp only[cg]
 have y2:(ar l).all aO=true:=by simp[ar,byte,aO]
 have m3:Int.toNat 1024≤1024:=by decide
 have m1:min 1024 (Int.toNat 1024)=1024:=rfl
 have m2:List.take 1024 (ar l)=ar l:=List.take_of_length_le ab
 refine an.evF xAc ?_
 refine an.opA ae (by simp only[fB,jJ,jI,go_sem,reduceIte,Nat.reduceEqDiff,Nat.reduceAdd,bx,ax,if_true,if_false,Nat.reduceMul,Nat.reduceLeDiff,m1,m2,m3,y2,hZl,y1,z3,Nat.min_self,List.append_nil,List.take_zero,List.nil_append,Nat.zero_add,Nat.reduceLeDiff,and_self,ne_eq,not_false_eq_true,not_true];exact rfl) ?_
 simp only[cg]
 refine an.nil ?_
 rw[bn]
 have j0:OvI x s T i l h0 0 {h0 with objs:=upd h0.objs h0.n (some (.cells (ar l))),n:=h0.n+1}:=by
  have lt:=g.lt
  have q:∀j,j<h0.n→upd h0.objs h0.n (some (Av.Obj.cells (ar l))) j=h0.objs j:=fun j hj=>by simp only[upd];rw[if_neg ab]
  refine ⟨ab,⟨s.tk,?_⟩,by simp[upd],fun j hj _ _ _ _ _ _=>q j hj,fun j hj=>?_,Nat.le_refl _,Nat.le_refl _⟩
  ·have e0:({s with p:=s.p++wrs i l 0,tk:=s.tk}:PgS)=s:=by cases s;simp[wrs]
   rw[e0]
   refine g.keep q (Nat.le_succ _) (fun j hj=>?_) rfl (Nat.le_refl _)
   simp only[upd]
   simp only at hj
   rw[if_neg ab]
   exact g.fresh j ab
  ·simp only[upd] at hj
   by_cases e:j=h0.n
   ·exact .inr ⟨ab,by simp only;omega⟩
   ·rw[if_neg e] at hj;exact .inl hj
 generalize hh1:(⟨upd h0.objs h0.n (some (.cells (ar l))),h0.n+1,h0.toks,h0.m⟩:H)=h1 at*
 refine Wp.le (s':=⟨tm [(0,.ptr x.P 0),(1,.int .i64 i),(7,.ptr h0.n 0)],h1⟩) (aK.tm ?_) ?_
 ·exact xSb
 refine rf0 @and_self ?_
 refine Wp.eH [0,1,7] xA7 (fun b:Nat × H=>[(14,.int .i64 (b.1:Int))]) (fun b=>b.2) (fun b=>OvI x s T i l h0 b.1 b.2) (fun b=>8 - b.1) (0,h1) j0 rfl ?_ ?_
 ·exact xSb
 clear hh1 j0 h1
 rintro ⟨k,h⟩ o
 simp only at o
 obtain ⟨tk,g2⟩:=o.pg
 by_cases hk:k<8
 ·have d1:decide ((k:Int)<8)=true:=decide_eq_true ab
  have w1:IntKind.i64.wrap ((k:Int)*128)=((k*128:Nat):Int):=by rw[IntWalk.i64_in _ ab];omega
  have w2:IntKind.i64.wrap ((k:Int)+1)=((k+1:Nat):Int):=by rw[IntWalk.i64_in _ ab];rfl
  have w3:IntKind.i64.wrap (((k+1:Nat):Int)*128)=(((k+1)*128:Nat):Int):=by rw[IntWalk.i64_in _ ab];omega
  have wh:=o.wh
  refine rf0 (cj4 d1 w1 w2 w3) ?_
  have s1:(0:Int)≤((k*128:Nat):Int):=by omega
  have s2:((k*128:Nat):Int)≤(((k+1)*128:Nat):Int):=by omega
  have s3:(((k+1)*128:Nat):Int)≤((1024:Nat):Int):=by omega
  have s4:(k+1)*128 - k*128=128:=by omega
  refine an.opA ae (by simp only[fB,jJ,jI,go_sem,reduceIte,Nat.reduceEqDiff,Nat.reduceAdd,bx,ax,if_true,if_false,Nat.reduceMul,Nat.reduceLeDiff,wh,s1,s2,s3,s4,y1,Int.toNat_natCast,Nat.zero_add,Nat.mul_one,Nat.one_mul,Nat.reduceLeDiff,and_self];exact rfl) ?_
  simp only[cg]
  refine an.evF xAc ?_
  refine an.nil ?_
  have oP:=g2.oP
  have v1:IntKind.i64.wrap ((i:Int)*8)=((i*8:Nat):Int):=by rw[IntWalk.i64_in _ ab];omega
  have v2:IntKind.i64.wrap (0+((i*8:Nat):Int))=((i*8:Nat):Int):=by rw[IntWalk.i64_in _ ab];omega
  have v3:IntKind.i64.wrap (((i*8:Nat):Int)+(k:Int))=((i*8+k:Nat):Int):=by rw[IntWalk.i64_in _ ab];rfl
  refine Wp.seq (Wp.reg ?_)
  refine ao.part 14 (xAe (cj4 oP v1 v2 v3)) ?_
  simp only[List.drop_succ_cons,List.drop_zero,List.drop_nil]
  refine ao.aT ae xA4 (fun j hj=>?_) (D7 g.lt.2.2.2.1 o np1 hk hl hi hp) (fun r h' hq=>hq.2.2) fun r h' hq hn hm=>?_
  ·rcases Nat.lt_or_ge j h.n with h1|h1
   ·exact h1
   ·rw[g2.fresh j h1] at hj;cases hj
  obtain ⟨rfl,o2,-⟩:=hq
  refine ao.part 1 xA1 ?_
  simp only[List.drop_succ_cons,List.drop_zero,List.drop_nil]
  refine ao.nil ⟨by simp[bg,aS,apart,aV],?_⟩
  refine rf0 w2 ?_
  refine ⟨(k+1,h'),o2,by simp only;omega,?_⟩
  refine aK.tm ?_
  exact xSb
 ·have e8:k=8:=by have:=o.le;omega
  subst e8
  have d1:decide (((8:Nat):Int)<8)=false:=by decide
  refine rf0 d1 ?_
  refine Wp.ret ⟨trivial,.int .i64 0,?_,rfl,⟨tk,g2⟩,o.sm,o.no⟩
  simp only[go_sem]
  exact rfl
end Go.Proofs.YtbgmofhgfnmaiaaGreat.Tree
end
section
set_option maxRecDepth 100000
namespace Go.Proofs.YtbgmofhgfnmaiaaGreat.Tree
open Go Go.Av Go.Proofs Go.Proofs.YtbgmofhgfnmaiaaGreat.C Go.Proofs.YtbgmofhgfnmaiaaGreat.Page
open Go.Proofs.YtbgmofhgfnmaiaaGreat.Batch (Bs Pr prs aW)
theorem pY {ws:List W} {np i:Nat} (h:kr ws np=some i):i<np∧eJ ws i=false:=by
 obtain ⟨h1,h2,-⟩:=List.find?_range_eq_some.1 h
 exact ⟨List.mem_range.1 h2,by simpa using h1⟩
theorem sZ {st:List Nat} {i:Nat} (hi:i<st.length) (z:Nat) (zi:Int) (e:zi=(z:Int)):List.take i (ie st)++[.int .i64 zi]++List.drop (i+1) (ie st)=ie (st.set i z):=by
 unfold ie
 rw[List.map_set,List.set_eq_take_append_cons_drop,if_pos (by simpa using hi),e]
 simp
theorem lW {st:List Nat} {i:Nat} (hi:i<st.length):(ie st)[i]? =some (.int .i64 (st.getD i 0:Nat)):=by
 simp[ie,List.getD,List.getElem?_eq_getElem hi]
section
variable {x:PgI} {s:PgS} {T:List Nat} {h:H} {i:Nat} {l:List UInt8}
theorem uO (g:PgH x s T h) (ok:cd s) (hl:l.length=1024) (hf:kr s.ws s.np=some i) (hp:s.p.length<900000):
  aI Tryz.prog 84 [.ptr x.P 0,.sl 1 (ar l) .any] h fun r h'=>r= .tup [.int .i64 i,.int .i64 0]∧(∃tk,PgH x {s with ws:=setW s.ws i true,st:=s.st.set i 2,p:=s.p++wrs i l 8,tk:=tk} T h')∧cD x h h'∧aq h h':=by
 refine f84.bu af ?_
 unfold c84 zz
 have hi:=(pY hf).1
 have np1:=ok.np1
 have c1:=iP g
 have c2:=Ah (F:=h.objs) (n:=h.n) (T:=h.toks) (m:=h.m) g.oA g.oU g.ne.2.2.2.2.2.1 (by rw[ok.wl];omega) ab hf hi
 have oP:=g.oP
 have y1:(ar l).length=1024:=by simp[ar,hl]
 have d1:decide ((1024:Int)<((1024:Nat):Int))=false:=by decide
 have d2:decide ((0:Int)=0)=true:=by decide
 have g1:=g.sY (jn s.ws i true)
 refine rg2 (cj6 oP y1 d1 d2 @Bool.not_true @Bool.not_false) c1 c2 ?_
 refine an.aT ae xA4 (Ce g1 np1 hl hi hp) fun r h2 ⟨hr,⟨tk,g2⟩,sm,no⟩ hn2 _=>?_
 subst hr
 have si:i<s.st.length:=by rw[ok.st];exact hi
 have oP2:=g2.oP
 have oI2:=g2.oI
 have e1:(0:Int)≤(i:Int):=by omega
 have e2:(i:Int)<(s.st.length:Int):=by omega
 have e3:i+1≤(ie s.st).length:=by simp[ie];omega
 simp only at oP2 oI2
 refine an.evF xAc ?_
 refine an.nil ?_
 refine rf0 (sE oP2 oI2 e1 e2 e3 d2 @Bool.not_true @Int.toNat_natCast @and_self @Nat.zero_add @Nat.mul_one) ?_
 rw[sZ si 2 2 rfl]
 refine Wp.ret ⟨trivial,.tup [.int .i64 i,.int .i64 0],?_,rfl,⟨tk,g2.nE af⟩,?_,?_⟩
 ·simp only[go_sem]
  exact rfl
 ·exact (cD.sY.trans sm (Nat.le_refl _)).trans cD.nE hn2
 ·exact aq.trans (aq.trans (aq.set g.oU) no (Nat.le_refl _) hn2) (aq.set g2.oI) hn2 (Nat.le_refl _)
theorem s5 (g:PgH x s T h) (hl:l.length=1024) (hi:i<s.st.length) (hf:s.st.getD i 0≠2):
  aJ Tryz.prog 109 [.ptr x.P 0,.int .i64 i,.sl 1 (ar l) .any] h (.int .i64 7) h:=by
 refine f109.bP af ?_
 unfold E2 zz
 have c1:=iP g
 have c2:=mR g hi
 have oP:=g.oP
 have oI:=g.oI
 have y1:(ar l).length=1024:=by simp[ar,hl]
 have d1:decide ((1024:Int)<((1024:Nat):Int))=false:=by decide
 have d2:decide (((s.st.getD i 0:Nat):Int)=2)=false:=decide_eq_false ab
 have e1:(0:Int)≤(i:Int):=by omega
 have e2:(i:Int)<(s.st.length:Int):=by omega
 have e3:=lW hi
 refine rg2 (cP oP oI e1 e2 e3 y1 d1 d2 @Bool.not_true @Bool.not_false @Int.toNat_natCast (cj3 @and_self @Nat.zero_add @Nat.mul_one)) c1 c2 ?_
 refine Wp.ret ⟨trivial,_,?_,av.refl _,rfl⟩
 simp only[go_sem]
 exact rfl
theorem s8 (g:PgH x s T h) (np1:s.np≤500) (hl:l.length=1024) (hn:i<s.np) (hi:i<s.st.length) (hf:s.st.getD i 0=2) (hp:s.p.length<900000):
  aI Tryz.prog 109 [.ptr x.P 0,.int .i64 i,.sl 1 (ar l) .any] h fun r h'=>r= .int .i64 0∧(∃tk,PgH x {s with p:=s.p++wrs i l 8,tk:=tk} T h')∧cD x h h'∧aq h h':=by
 refine f109.bu af ?_
 unfold E2 zz
 have c1:=iP g
 have c2:=mR g hi
 have oP:=g.oP
 have oI:=g.oI
 have y1:(ar l).length=1024:=by simp[ar,hl]
 have d1:decide ((1024:Int)<((1024:Nat):Int))=false:=by decide
 have d2:decide (((s.st.getD i 0:Nat):Int)=2)=true:=decide_eq_true ab
 have e1:(0:Int)≤(i:Int):=by omega
 have e2:(i:Int)<(s.st.length:Int):=by omega
 have e3:=lW hi
 refine rg2 (cP oP oI e1 e2 e3 y1 d1 d2 @Bool.not_true @Bool.not_false @Int.toNat_natCast (cj3 @and_self @Nat.zero_add @Nat.mul_one)) c1 c2 ?_
 refine an.aT ae xA4 (Ce g np1 hl hn hp) fun r h2 ⟨hr,g2,sm,no⟩ hn2 _=>?_
 subst hr
 refine an.evF xAc ?_
 refine an.nil ?_
 refine Wp.ret ⟨trivial,.int .i64 0,?_,rfl,g2,sm,no⟩
 simp only[go_sem]
 exact rfl
theorem xV (g:PgH x s T h) (ok:cd s) (hi:i<s.np) (hf:s.st.getD i 0≠0):
  aJ Tryz.prog 82 [.ptr x.P 0,.int .i64 i] h (.tup []) {h with objs:=upd (upd h.objs x.U (some (.cells (di (setW s.ws i false))))) x.I (some (.cells (ie (s.st.set i 0))))}:=by
 refine f82.bP af ?_
 unfold c82 zz
 have np1:=ok.np1
 have c2:=Fp (F:=h.objs) (n:=h.n) (T:=h.toks) (m:=h.m) g.oA g.oU g.ne.2.2.2.2.2.1 (by rw[ok.wl];omega) ab hi (by rw[ok.bit,decide_eq_true hi,decide_eq_false hf];rfl)
 have g1:=g.sY (jn s.ws i false)
 have si:i<s.st.length:=by rw[ok.st];exact hi
 have oP:=g.oP
 have oP2:=g1.oP
 have oI2:=g1.oI
 simp only at oP2 oI2
 have e1:(0:Int)≤(i:Int):=by omega
 have e2:(i:Int)<(s.st.length:Int):=by omega
 have e3:i+1≤(ie s.st).length:=by simp[ie];omega
 refine rg1 oP c2 ?_
 generalize upd h.objs x.U (some (Av.Obj.cells (di (setW s.ws i false))))=Y at oP2 oI2 ⊢
 refine rf0 (cj9 oP2 oI2 e1 e2 e3 @Int.toNat_natCast @and_self @Nat.zero_add @Nat.mul_one) ?_
 rw[sZ si 0 0 rfl]
 exact ⟨trivial,.tup [],rfl,av.refl _,rfl⟩
theorem qB (g:PgH x s T h) (ok:cd s) (hi:i<s.np) (hf:s.st.getD i 0=2):
  aJ Tryz.prog 48 [.ptr x.P 0,.int .i64 i] h (.int .i64 0) {h with objs:=upd (upd h.objs x.U (some (.cells (di (setW s.ws i false))))) x.I (some (.cells (ie (s.st.set i 0))))}:=by
 refine f48.bP af ?_
 unfold c48 zz
 have si:i<s.st.length:=by rw[ok.st];exact hi
 have c1:=iP g
 have c2:=mR g si
 have c3:=xV g ok hi ab
 have oP:=g.oP
 have oI:=g.oI
 have d2:decide (((s.st.getD i 0:Nat):Int)=2)=true:=decide_eq_true ab
 have e1:(0:Int)≤(i:Int):=by omega
 have e2:(i:Int)<(s.st.length:Int):=by omega
 have e3:=lW si
 refine rg3 (cP oP oI e1 e2 e3 d2 @Bool.not_true @Bool.not_false @Int.toNat_natCast @and_self @Nat.zero_add @Nat.mul_one) c1 c2 c3 ?_
 refine Wp.ret ⟨trivial,_,?_,av.refl _,rfl⟩
 simp only[go_sem]
 exact rfl
theorem jS (g:PgH x s T h) (ok:cd s) (hi:i<s.np) (hf:s.st.getD i 0=1):
  aJ Tryz.prog 48 [.ptr x.P 0,.int .i64 i] h (.int .i64 0) {h with objs:=upd h.objs x.I (some (.cells (ie (s.st.set i 3))))}:=by
 refine f48.bP af ?_
 unfold c48 zz
 have si:i<s.st.length:=by rw[ok.st];exact hi
 have c1:=iP g
 have c2:=mR g si
 have oP:=g.oP
 have oI:=g.oI
 have d2:decide (((s.st.getD i 0:Nat):Int)=2)=false:=decide_eq_false ab
 have d3:decide (((s.st.getD i 0:Nat):Int)=1)=true:=decide_eq_true ab
 have e1:(0:Int)≤(i:Int):=by omega
 have e2:(i:Int)<(s.st.length:Int):=by omega
 have e3:=lW si
 have e4:i+1≤(ie s.st).length:=by simp[ie];omega
 refine rg2 (cP oP oI e1 e2 e3 e4 d2 d3 @Bool.not_true @Bool.not_false @Int.toNat_natCast (cj3 @and_self @Nat.zero_add @Nat.mul_one)) c1 c2 ?_
 rw[sZ si 3 3 rfl]
 refine Wp.ret ⟨trivial,_,?_,av.refl _,rfl⟩
 simp only[go_sem]
 exact rfl
theorem cd.drop (ok:cd s) (hi:i<s.np):cd {s with ws:=setW s.ws i false,st:=s.st.set i 0} where
 np0:=ok.np0
 np1:=ok.np1
 st:=by simp[ok.st]
 st3:=fun j=>by
  have:=ok.st3 j
  simp only[List.getD_eq_getElem?_getD,List.getElem?_set] at this ⊢
  split
  ·split<;>simp
  ·exact this
 wl:=by simp only[jn];exact ok.wl
 bit:=fun j=>by
  have hw:i/64<s.ws.length:=by rw[ok.wl];omega
  simp only
  rw[rD hw]
  by_cases e:j=i
  ·rw[if_pos e,e]
   simp[List.getD_eq_getElem?_getD,ok.st,hi]
  ·rw[if_neg e,ok.bit]
   simp[List.getD_eq_getElem?_getD,List.getElem?_set,Ne.symm e]
 pl:=ok.pl
 dl:=ok.dl
theorem cd.set (ok:cd s) (hi:i<s.np) {z:Nat} (hz:z≤3) (h0:z≠0) (hs:s.st.getD i 0≠0):cd {s with st:=s.st.set i z} where
 np0:=ok.np0
 np1:=ok.np1
 st:=by simp[ok.st]
 st3:=fun j=>by
  have:=ok.st3 j
  simp only[List.getD_eq_getElem?_getD,List.getElem?_set] at this ⊢
  split
  ·split<;>simp[hz]
  ·exact this
 wl:=ok.wl
 bit:=fun j=>by
  simp only
  rw[ok.bit]
  by_cases e:j=i
  ·rw[e]
   have si:i<s.st.length:=by rw[ok.st];exact hi
   have hs':¬s.st[i]=0:=by simpa [List.getD_eq_getElem?_getD,List.getElem?_eq_getElem si] using hs
   simp[List.getD_eq_getElem?_getD,ok.st,hi,h0,hs']
  ·simp[List.getD_eq_getElem?_getD,List.getElem?_set,Ne.symm e]
 pl:=ok.pl
 dl:=ok.dl
theorem cd.more (ok:cd s) {p:List (Nat × List UInt8)} {tk:Option Nat} (hp:∀x∈p,x.2.length=128∧x.1<8*s.np):cd {s with p:=s.p++p,tk:=tk} where
 np0:=ok.np0
 np1:=ok.np1
 st:=ok.st
 st3:=ok.st3
 wl:=ok.wl
 bit:=ok.bit
 pl:=fun x hx=>(List.mem_append.1 hx).elim (ok.pl x) (hp x)
 dl:=ok.dl
theorem s9 (hl:l.length=1024) (hi:i<s.np):∀x∈wrs i l 8,x.2.length=128∧x.1<8*s.np:=by
 intro x hx
 obtain ⟨k,hk,rfl⟩:=List.mem_map.1 hx
 have:=List.mem_range.1 hk
 exact ⟨by simp;omega,by simp only;omega⟩
theorem cd.take (ok:cd s) (hi:i<s.np) {z:Nat} (hz:z≤3) (h0:z≠0):cd {s with ws:=setW s.ws i true,st:=s.st.set i z} where
 np0:=ok.np0
 np1:=ok.np1
 st:=by simp[ok.st]
 st3:=fun j=>by
  have:=ok.st3 j
  simp only[List.getD_eq_getElem?_getD,List.getElem?_set] at this ⊢
  split
  ·split<;>simp[hz]
  ·exact this
 wl:=by simp only[jn];exact ok.wl
 bit:=fun j=>by
  have hw:i/64<s.ws.length:=by rw[ok.wl];omega
  simp only
  rw[rD hw]
  by_cases e:j=i
  ·rw[if_pos e,e]
   simp[List.getD_eq_getElem?_getD,ok.st,hi,h0]
  ·rw[if_neg e,ok.bit]
   simp[List.getD_eq_getElem?_getD,List.getElem?_set,Ne.symm e]
 pl:=ok.pl
 dl:=ok.dl
end
end Go.Proofs.YtbgmofhgfnmaiaaGreat.Tree
end
section
set_option maxRecDepth 100000
namespace Go.Proofs.YtbgmofhgfnmaiaaGreat.Tree
open Go Go.Av Go.Proofs Go.Proofs.YtbgmofhgfnmaiaaGreat.C Go.Proofs.YtbgmofhgfnmaiaaGreat.Page
open Go.Proofs.YtbgmofhgfnmaiaaGreat.Batch (Bs Pr prs aW)
def gB (a b z:Nat):Nat:=if z=a then 0 else if z=b then 1 else z
def eW (a b:Nat) (l:List Nat) (j:Nat):List Nat:=(l.take j).map (gB a b)++l.drop j
theorem rF (a b:Nat) (l:List Nat) (j:Nat):(eW a b l j).length=l.length:=by simp[eW];omega
theorem rG {a b:Nat} {l:List Nat} {j:Nat} (h:j<l.length):(eW a b l j).getD j 0=l.getD j 0:=by
 simp[eW,List.getD_eq_getElem?_getD,List.getElem?_append,Nat.min_eq_left (Nat.le_of_lt h)]
theorem wH {a b:Nat} {l:List Nat} {j:Nat} (h:j<l.length):eW a b l (j+1)=(eW a b l j).set j (gB a b (l.getD j 0)):=by
 unfold eW
 have e1:l.drop j=l[j]::l.drop (j+1):=List.drop_eq_getElem_cons h
 have e2:((l.take j).map (gB a b)).length=j:=by simp;omega
 rw[e1,List.set_append_right _ _ ab,e2,Nat.sub_self,List.set_cons_zero,List.take_succ_eq_append_getElem h,List.map_append,List.append_assoc]
 simp[List.getD_eq_getElem?_getD,List.getElem?_eq_getElem h]
theorem Cf {l:List Nat} {j:Nat} (h:j<l.length):l.set j (l.getD j 0)=l:=by
 simp[List.getD_eq_getElem?_getD,List.getElem?_eq_getElem h]
structure TuI (x:PgI) (s:PgS) (T:List Nat) (a b:Nat) (h0:H) (k:Nat) (h:H):Prop where
 le:k≤s.np
 pg:∃ws,PgH x {s with ws:=ws,st:=eW a b s.st k} T h∧cd {s with ws:=ws,st:=eW a b s.st k}
 sm:cD x h0 h
 no:aq h0 h
 ln:h.n=h0.n
set_option maxHeartbeats 1000000 in
theorem Cg {x:PgI} {s:PgS} {T:List Nat} {h0:H} (g:PgH x s T h0) (ok:cd s) {a b:Nat} (ha:a≠0) (hb:b≠0) (hab:a≠b):
  aI Tryz.prog 53 [.ptr x.P 0,.int .i64 (a:Int),.int .i64 (b:Int)] h0 fun r h=>r= .int .i64 0∧TuI x s T a b h0 s.np h:=by
 refine f53.bu af ?_
 unfold c53 zz
 have np1:=ok.np1
 have c1:=iP g
 have oP:=g.oP
 refine rg1 (cj2 oP @Bool.not_true) c1 ?_
 have j0:TuI x s T a b h0 0 h0:=by
  refine ⟨Nat.zero_le _,⟨s.ws,?_⟩,cD.refl _ _,aq.refl _,rfl⟩
  have e:({s with ws:=s.ws,st:=eW a b s.st 0}:PgS)=s:=by cases s;simp[eW]
  rw[e]
  exact ⟨g,ok⟩
 refine Wp.eH [0,1,2,15,16] xA7 (fun b:Nat × H=>[(17,.int .i64 (b.1:Int))]) (fun b=>b.2) (fun q=>TuI x s T a b h0 q.1 q.2) (fun b=>s.np - b.1) (0,h0) j0 rfl ?_ ?_
 ·exact xSb
 rintro ⟨k,h⟩ o
 simp only at o
 obtain ⟨ws,g2,ok2⟩:=o.pg
 by_cases hk:k<s.np
 ·have sk:k<s.st.length:=by rw[ok.st];exact hk
  have d1:decide ((k:Int)<(s.st.length:Int))=true:=decide_eq_true ab
  have e1:(0:Int)≤(k:Int):=by omega
  have e2:(k:Int)<(s.st.length:Int):=by omega
  have oI:=g2.oI
  have e3:=lW (st:=eW a b s.st k) (i:=k) (by rw[rF];exact sk)
  rw[rG sk] at e3
  have w1:IntKind.i64.wrap ((k:Int)+1)=((k+1:Nat):Int):=by rw[IntWalk.i64_in _ ab];rfl
  simp only at oI
  have fin:∀(h':H) (ws':List W) (z:Nat),z=gB a b (s.st.getD k 0)→PgH x {s with ws:=ws',st:=(eW a b s.st k).set k z} T h'→cd {s with ws:=ws',st:=(eW a b s.st k).set k z}→cD x h h'→aq h h'→h'.n=h.n→TuI x s T a b h0 (k+1) h':=by
   intro h' ws' z hz p1 p2 p3 p4 p5
   refine ⟨hk,⟨ws',?_⟩,o.sm.trans p3 (by rw[o.ln];exact Nat.le_refl _),aq.trans o.no p4 (by rw[o.ln];exact Nat.le_refl _) ab,p5.trans o.ln⟩
   rw[wH sk,←hz]
   exact ⟨p1,p2⟩
  refine rf0 (cj9 d1 oI e1 e2 e3 @Int.toNat_natCast @and_self @Nat.zero_add @Nat.mul_one) ?_
  have tg:=rG (a:=a) (b:=b) sk
  have tl:=rF a b s.st k
  by_cases za:s.st.getD k 0=a
  ·have d2:decide (((s.st.getD k 0:Nat):Int)=(a:Int))=true:=decide_eq_true ab
   have c3:=xV (i:=k) g2 ok2 hk (by simp only;rw[tg,za];exact ha)
   simp only at c3
   refine rg1 (cj2 d2 w1) c3 ?_
   refine ⟨(k+1,_),fin _ (setW ws k false) 0 (by rw[gB,if_pos za]) ((g2.sY (jn ws k false)).nE af) (ok2.drop hk) (cD.sY.trans cD.nE (Nat.le_refl _)) (aq.trans (aq.set g2.oU) (aq.set (g2.sY (jn ws k false)).oI) (Nat.le_refl _) (Nat.le_refl _)) rfl,by simp only;omega,?_⟩
   refine aK.tm ?_
   exact xSb
  ·have d2:decide (((s.st.getD k 0:Nat):Int)=(a:Int))=false:=decide_eq_false ab
   by_cases zb:s.st.getD k 0=b
   ·have d3:decide (((s.st.getD k 0:Nat):Int)=(b:Int))=true:=decide_eq_true ab
    have oP2:=g2.oP
    simp only at oP2
    have e2':(k:Int)<((eW a b s.st k).length:Int):=by rw[tl];exact e2
    have e4:k+1≤(ie (eW a b s.st k)).length:=by simp[ie,tl];omega
    refine rf0 (cP d2 d3 oP2 oI e1 e2' e4 @Int.toNat_natCast @and_self @Nat.zero_add @Nat.mul_one w1) ?_
    rw[sZ (by rw[tl];exact sk) 1 1 rfl]
    refine ⟨(k+1,_),fin _ ws 1 (by rw[gB,if_neg za,if_pos zb]) (g2.nE af) (ok2.set hk ab ab (by simp only;rw[tg,zb];exact hb)) cD.nE (aq.set g2.oI) rfl,by simp only;omega,?_⟩
    refine aK.tm ?_
    exact xSb
   ·have d3:decide (((s.st.getD k 0:Nat):Int)=(b:Int))=false:=decide_eq_false ab
    have es:(eW a b s.st k).set k (s.st.getD k 0)=eW a b s.st k:=by
     rw[←tg];exact Cf (by rw[tl];exact sk)
    refine rf0 (cj3 d2 d3 w1) ?_
    refine ⟨(k+1,h),fin _ ws (s.st.getD k 0) (by rw[gB,if_neg za,if_neg zb]) (by rw[es];exact g2) (by rw[es];exact ok2) (cD.refl _ _) (aq.refl _) rfl,by simp only;omega,?_⟩
    refine aK.tm ?_
    exact xSb
 ·have e8:k=s.np:=by have:=o.le;omega
  subst e8
  have d1:decide ((s.np:Int)<(s.st.length:Int))=false:=decide_eq_false (by rw[ok.st];omega)
  refine rf0 d1 ?_
  refine Wp.ret ⟨trivial,.int .i64 0,?_,rfl,o⟩
  simp only[go_sem]
  exact rfl
theorem Ci {x:PgI} {s:PgS} {T:List Nat} {h0:H} (g:PgH x s T h0) (ok:cd s):
  aI Tryz.prog 22 [.ptr x.P 0] h0 fun r h=>r= .int .i64 0∧TuI x s T 3 2 h0 s.np h:=by
 refine f22.bu af ?_
 unfold c22 zz
 have c:=Cg g ok (a:=3) (b:=2) ah ah ah
 refine rf0 @and_self ?_
 refine an.aT ae xA4 c fun r h2 ⟨hr,o⟩ _ _=>?_
 subst hr
 refine an.evF xAc ?_
 refine an.nil ?_
 refine Wp.ret ⟨trivial,.int .i64 0,?_,rfl,o⟩
 simp only[go_sem]
 exact rfl
theorem Fx {x:PgI} {s:PgS} {T:List Nat} {h0:H} (g:PgH x s T h0) (ok:cd s):
  aI Tryz.prog 25 [.ptr x.P 0] h0 fun r h=>r= .int .i64 0∧TuI x s T 2 3 h0 s.np h:=by
 refine f25.bu af ?_
 unfold c25 zz
 have c:=Cg g ok (a:=2) (b:=3) ah ah ah
 refine rf0 @and_self ?_
 refine an.aT ae xA4 c fun r h2 ⟨hr,o⟩ _ _=>?_
 subst hr
 refine an.evF xAc ?_
 refine an.nil ?_
 refine Wp.ret ⟨trivial,.int .i64 0,?_,rfl,o⟩
 simp only[go_sem]
 exact rfl
def pgB (p d:List (Nat × List UInt8)) (i:Nat):Nat→List UInt8
 |0=>[]
 |k+1=>pgB p d i k++rdP p d (i*8+k)
theorem te {p d:List (Nat × List UInt8)} (hd:∀x∈d,x.2.length=128) (hl:∀x∈p,x.2.length=128) (i:Nat):(rdP p d i).length=128:=by
 refine jm (M:=fun p=>(∀x∈p,x.2.length=128)→(rdP p d i).length=128) (fun _=>je hd i) (fun p x ih h=>?_) p hl
 rw[ic]
 split
 ·exact h x af
 ·exact ih fun y hy=>h y (by simp[hy])
theorem xW {p d:List (Nat × List UInt8)} (hd:∀x∈d,x.2.length=128) (hl:∀x∈p,x.2.length=128) (i:Nat):∀k,(pgB p d i k).length=k*128
 |0=>rfl
 |k+1=>by rw[pgB,List.length_append,xW hd hl i k,te hd hl];omega
def RdT (L:List Nat) (m0:Nat) (k:Nat) (c:Cap) (toks:List Nat):Prop:=(k=0∧c= .exact 0∧toks=L)∨∃t,m0≤t∧c= .own t∧toks=t::L
set_option maxHeartbeats 1000000 in
theorem xX {x:PgI} {s:PgS} {T:List Nat} {h:H} (g:PgH x s T h) (ok:cd s) {i:Nat} (hi:i<s.np) (hs:s.st.getD i 0≠0) (hp:s.p.length<900000):
  aI Tryz.prog 71 [.ptr x.P 0,.int .i64 i] h fun r h'=>r= .tup [.sl 1 (ar (pgB s.p s.d i 8)) .any,.int .i64 0]∧PgH x s T h'∧h'.objs=h.objs:=by
 refine f71.bu af ?_
 unfold c71 zz
 have np1:=ok.np1
 have si:i<s.st.length:=by rw[ok.st];exact hi
 have c1:=iP g
 have c2:=mR g si
 have oP:=g.oP
 have oI:=g.oI
 have e1:(0:Int)≤(i:Int):=by omega
 have e2:(i:Int)<(s.st.length:Int):=by omega
 have e3:=lW si
 have d0:decide (((s.st.getD i 0:Nat):Int)=0)=false:=decide_eq_false ab
 have c3:aJ Tryz.prog 92 [.int .i64 ((s.st.getD i 0:Nat):Int)] h (.bool true) h:=by
  refine f92.bP af ?_
  unfold c92 zz
  refine rf0 (cj2 d0 @Bool.not_false) ?_
  refine Wp.ret ⟨trivial,_,?_,av.refl _,rfl⟩
  simp only[go_sem]
  exact rfl
 refine rg3 (sE oP oI e1 e2 e3 @Bool.not_true @Bool.not_false @Int.toNat_natCast @and_self @Nat.zero_add @Nat.mul_one) c1 c2 c3 ?_
 refine Wp.loop (fun b:Nat × Nat × Nat × List Nat × Cap=>⟨tm [(0,.ptr x.P 0),(1,.int .i64 i),(6,.sl 1 (ar (pgB s.p s.d i b.1)) b.2.2.2.2),(29,.int .i64 (b.1:Int))],⟨h.objs,b.2.1,b.2.2.2.1,b.2.2.1⟩⟩) (fun b=>b.1≤8∧h.n≤b.2.1∧h.m≤b.2.2.1∧(∀t,b.2.2.2.2= .own t→t<b.2.2.1)∧RdT h.toks h.m b.1 b.2.2.2.2 b.2.2.2.1) (fun b=>8 - b.1) (0,h.n,h.m,h.toks,.exact 0) ⟨ab,Nat.le_refl _,Nat.le_refl _,(fun t e=>by cases e),.inl ⟨rfl,rfl,rfl⟩⟩ ?_ ?_
 ·refine aK.tm ?_
  exact xSb
 rintro ⟨k,n',m',toks,c⟩ ⟨hk,hn,hm,hc,ht⟩
 simp only at hk hn hm hc ht
 by_cases hk8:k<8
 ·have d1:decide ((k:Int)<8)=true:=decide_eq_true ab
  have v1:IntKind.i64.wrap ((i:Int)*8)=((i*8:Nat):Int):=by rw[IntWalk.i64_in _ ab];omega
  have v2:IntKind.i64.wrap (0+((i*8:Nat):Int))=((i*8:Nat):Int):=by rw[IntWalk.i64_in _ ab];omega
  have v3:IntKind.i64.wrap (((i*8:Nat):Int)+(k:Int))=((i*8+k:Nat):Int):=by rw[IntWalk.i64_in _ ab];rfl
  have w2:IntKind.i64.wrap ((k:Int)+1)=((k+1:Nat):Int):=by rw[IntWalk.i64_in _ ab];rfl
  have d2:decide ((0:Int)=0)=true:=by decide
  have lt:=g.lt
  obtain ⟨n2,hn2,rd⟩:=Fj (n:=n') (m:=m') (T:=toks) (i:=i*8+k) g.oD g.oK ok.dl (fun y hy=>(ok.pl y hy).1) ab ab ab (fun j hj=>g.fresh j ab) ab
  refine rf0 d1 ?_
  refine Wp.reg ?_
  refine ao.part 13 (xAe (cj4 oP v1 v2 v3)) ?_
  simp only[List.drop_succ_cons,List.drop_zero,List.drop_nil]
  refine ao.aT (Q:=fun r h'=>r= .tup [.sl 1 (ar (rdP s.p s.d (i*8+k))) .any,.int .i64 0]∧h'=⟨h.objs,n2,toks,m'⟩) ae xA4 (fun j hj=>?_) ⟨_,_,rd,hn2,Nat.le_refl _,⟨rfl,rfl⟩⟩ (fun r h' hq=>?_) fun r h' hq hn3 hm3=>?_
  ·rcases Nat.lt_or_ge j h.n with h1|h1
   ·simp only;omega
   ·simp only at hj;rw[g.fresh j h1] at hj;cases hj
  ·obtain ⟨-,rfl⟩:=hq
   exact fun j hj=> .inl hj
  obtain ⟨rfl,rfl⟩:=hq
  refine ao.part 5 xA1 ?_
  simp only[List.drop_succ_cons,List.drop_zero,List.drop_nil]
  refine ao.nil ⟨by simp[bg,aS,apart,aV],?_⟩
  refine rf0 (cj2 d2 @Bool.not_true) ?_
  have y1:(ar (pgB s.p s.d i k)).length=k*128:=by
   simp only[ar,List.length_map]
   exact xW ok.dl (fun y hy=>(ok.pl y hy).1) i k
  have y2:(ar (rdP s.p s.d (i*8+k))).length=128:=by
   simp only[ar,List.length_map]
   exact te ok.dl (fun y hy=>(ok.pl y hy).1) _
  have ey:ar (pgB s.p s.d i k)++ar (rdP s.p s.d (i*8+k))=ar (pgB s.p s.d i (k+1)):=by simp[ar,pgB]
  have r1:k*128+128≤140737488355328:=by omega
  have r2:k*128+128<4611686018427387904:=by omega
  show Wp _ _ _ _ _
  rcases ht with ⟨rfl,rfl,rfl⟩|⟨t,ht,rfl,rfl⟩
  ·have b0:ar (pgB s.p s.d i 0)=[]:=rfl
   rw[b0]
   rw[b0,List.nil_append] at ey
   have r3:(128:Nat)≤140737488355328:=by decide
   have r4:(128:Nat)<4611686018427387904:=by decide
   have y6:(rdP s.p s.d (i*8)).length=128:=te ok.dl (fun y hy=>(ok.pl y hy).1) _
   refine rf0 (cP y2 y6 r3 r4 w2 @List.nil_append.{0} @List.length_nil.{0} @Nat.zero_add @Nat.mul_one @true_or @or_true @and_self) ?_
   refine ⟨(0+1,n2,m'+1,m'::h.toks,.own m'),⟨by simp only;omega,by simp only;omega,by simp only;omega,fun t e=>by cases e;exact Nat.lt_succ_self _,.inr ⟨m',hm,rfl,rfl⟩⟩,by simp only;omega,?_⟩
   simp only
   rw[←ey]
   refine aK.tm ?_
   exact xSb
  ·have y5:List.filter (fun x=> !decide (x=t)) h.toks=h.toks:=List.filter_eq_self.2 fun y hy=>by
    have:y≠t:=by
     rw[g.toks] at hy
     have:y<h.m:=by
      cases htk:s.tk with
      |none=>rw[htk] at hy;exact g.tm y hy
      |some t2=>
       rw[htk] at hy
       rcases List.mem_cons.1 hy with rfl|e
       ·exact (g.tkm _ htk).1
       ·exact g.tm y e
     omega
    simp[this]
   refine rf0 (cP y1 y2 y5 r1 r2 ey w2 @Nat.mul_one @List.mem_cons.{0} @true_or @or_true @and_self) ?_
   refine ⟨(k+1,n2,m'+1,m'::h.toks,.own m'),⟨by simp only;omega,by simp only;omega,by simp only;omega,fun t e=>by cases e;exact Nat.lt_succ_self _,.inr ⟨m',hm,rfl,rfl⟩⟩,by simp only;omega,?_⟩
   refine aK.of (bp ?_) (OLe.refl _) (fun y hy=>?_) (Nat.le_refl _) (Nat.le_refl _)
   ·exact xSb
   ·simpa [y5] using hy
 ·have e8:k=8:=by omega
  subst e8
  have d1:decide (((8:Nat):Int)<8)=false:=by decide
  refine rf0 d1 ?_
  have sub:∀y,y∈h.toks→y∈toks:=fun y hy=>by
   rcases ht with ⟨-,-,rfl⟩|⟨t,-,-,rfl⟩
   ·exact hy
   ·exact List.mem_cons_of_mem _ hy
  refine Wp.le (s':=⟨tm [(4,.sl 1 (ar (pgB s.p s.d i 8)) .any),(5,.int .i64 0)],⟨h.objs,n',h.toks,m'⟩⟩) (aK.of (bp ?_) (OLe.refl _) sub (Nat.le_refl _) (Nat.le_refl _)) ?_
  ·simp only[aY,go_sem,reduceIte,Nat.reduceEqDiff,bx]
   exact ⟨av.cap,av.refl _,trivial⟩
  refine Wp.ret ⟨trivial,.tup [.sl 1 (ar (pgB s.p s.d i 8)) .any,.int .i64 0],?_,rfl,?_,rfl⟩
  ·simp only[go_sem]
   exact rfl
  ·exact g.keep (fun _ _=>rfl) hn (fun j hj=>g.fresh j (by simp only at hj;omega)) rfl hm
def cE (st:List Nat) (z:Nat) (k:Nat):List Int:=((List.range k).filter fun j=>decide (st.getD j 0=z)).map fun (j:Nat)=>(j:Int)
theorem ou (st:List Nat) (z k:Nat):cE st z (k+1)=if st.getD k 0=z then cE st z k++[(k:Int)] else cE st z k:=by
 unfold cE
 rw[List.range_succ,List.filter_append,List.map_append]
 by_cases e:st.getD k 0=z
 ·rw[if_pos e,List.filter_cons_of_pos (by simpa using e)];rfl
 ·rw[if_neg e,List.filter_cons_of_neg (by simpa using e)];simp
theorem jN (st:List Nat) (z k:Nat):(cE st z k).length≤k:=by
 unfold cE
 rw[List.length_map]
 exact Nat.le_trans (List.length_filter_le _ _) af
theorem D8 {x:PgI} {s:PgS} {T:List Nat} {h:H} (g:PgH x s T h):∀y∈h.toks,y<h.m:=fun y hy=>by
 rw[g.toks] at hy
 cases htk:s.tk with
 |none=>rw[htk] at hy;exact g.tm y hy
 |some t2=>
  rw[htk] at hy
  rcases List.mem_cons.1 hy with rfl|e
  ·exact (g.tkm _ htk).1
  ·exact g.tm y e
theorem Ha {L:List Nat} {t m:Nat} (h:∀y∈L,y<m) (ht:m≤t):List.filter (fun x=> !decide (x=t)) L=L:=List.filter_eq_self.2 fun y hy=>by
 have:=h y hy
 have:y≠t:=by omega
 simp[this]
set_option maxHeartbeats 1000000 in
theorem tf {x:PgI} {s:PgS} {T:List Nat} {h:H} (g:PgH x s T h) (ok:cd s) (z:Nat):
  aI Tryz.prog 65 [.ptr x.P 0,.int .i64 (z:Int)] h fun r h'=>r= .sl 1 (ints (cE s.st z s.np)) .any∧PgH x s T h'∧h'.objs=h.objs:=by
 refine f65.bu af ?_
 unfold c65 zz
 have np1:=ok.np1
 have oP:=g.oP
 have oI:=g.oI
 refine rf0 oP ?_
 refine Wp.loop (fun b:Nat × Nat × List Nat × Cap=>⟨tm [(0,.ptr x.P 0),(1,.int .i64 (z:Int)),(5,.sl 1 (ints (cE s.st z b.1)) b.2.2.2),(11,.tsl 1 x.I 0 s.st.length none),(12,.int .i64 (s.st.length:Int)),(13,.int .i64 (b.1:Int))],⟨h.objs,h.n,b.2.2.1,b.2.1⟩⟩) (fun b=>b.1≤s.np∧h.m≤b.2.1∧RdT h.toks h.m (cE s.st z b.1).length b.2.2.2 b.2.2.1) (fun b=>s.np - b.1) (0,h.m,h.toks,.exact 0) ⟨ab,Nat.le_refl _,.inl ⟨rfl,rfl,rfl⟩⟩ ?_ ?_
 ·refine aK.tm ?_
  exact xSb
 rintro ⟨k,m',toks,c⟩ ⟨hk,hm,ht⟩
 simp only at hk hm ht
 by_cases hk8:k<s.np
 ·have sk:k<s.st.length:=by rw[ok.st];exact hk8
  have d1:decide ((k:Int)<(s.st.length:Int))=true:=decide_eq_true ab
  have e1:(0:Int)≤(k:Int):=by omega
  have e2:(k:Int)<(s.st.length:Int):=by omega
  have e3:=lW sk
  have w2:IntKind.i64.wrap ((k:Int)+1)=((k+1:Nat):Int):=by rw[IntWalk.i64_in _ ab];rfl
  have el:=jN s.st z k
  have es:=ou s.st z k
  by_cases e:s.st.getD k 0=z
  ·have d2:decide (((s.st.getD k 0:Nat):Int)=(z:Int))=true:=decide_eq_true ab
   rw[if_pos e] at es
   generalize cE s.st z k=L at el es ht
   have ea:ints L++[AV.int .i64 (k:Int)]=ints (cE s.st z (k+1)):=by rw[es];simp[ints]
   rcases ht with ⟨h0,rfl,rfl⟩|⟨t,ht,rfl,rfl⟩
   ·have h0:L=[]:=List.length_eq_zero_iff.1 h0
    subst h0
    have ea2:[AV.int .i64 (k:Int)]=ints (cE s.st z (k+1)):=ea
    have r3:(8:Nat)≤140737488355328:=by decide
    have r4:(1:Nat)<4611686018427387904:=by decide
    have b0:ints []=[]:=rfl
    rw[b0]
    refine rf0 (cP d1 oI e1 e2 e3 @Int.toNat_natCast @and_self @Nat.zero_add @Nat.mul_one d2 w2 (cj8 r3 r4 @List.nil_append.{0} @List.length_nil.{0} @List.length_cons.{0} @Nat.one_mul @true_or @or_true)) ?_
    refine ⟨(k+1,m'+1,m'::h.toks,.own m'),⟨by simp only;omega,by simp only;omega,.inr ⟨m',hm,rfl,rfl⟩⟩,by simp only;omega,?_⟩
    simp only
    rw[←ea2]
    refine aK.tm ?_
    exact xSb
   ·have y5:=Ha (D8 g) ht
    have y1:(ints L).length=L.length:=by simp[ints]
    have r1:(L.length+1)*8≤140737488355328:=by omega
    have r2:L.length+1<4611686018427387904:=by omega
    refine rf0 (cP d1 oI e1 e2 e3 @Int.toNat_natCast @and_self @Nat.zero_add @Nat.mul_one d2 w2 (oz y1 y5 r1 r2 ea @List.length_nil.{0} @List.length_cons.{0} @List.mem_cons.{0} @true_or @or_true)) ?_
    refine ⟨(k+1,m'+1,m'::h.toks,.own m'),⟨by simp only;omega,by simp only;omega,.inr ⟨m',hm,rfl,rfl⟩⟩,by simp only;omega,?_⟩
    refine aK.of (bp ?_) (OLe.refl _) (fun y hy=>?_) (Nat.le_refl _) (Nat.le_refl _)
    ·exact xSb
    ·simpa [y5] using hy
  ·have d2:decide (((s.st.getD k 0:Nat):Int)=(z:Int))=false:=decide_eq_false ab
   rw[if_neg e] at es
   rw[←es] at ht ⊢
   refine rf0 (sE d1 oI e1 e2 e3 @Int.toNat_natCast @and_self @Nat.zero_add @Nat.mul_one d2 w2) ?_
   refine ⟨(k+1,m',toks,c),⟨by simp only;omega,by simp only;omega,ht⟩,by simp only;omega,?_⟩
   refine aK.tm ?_
   exact xSb
 ·have e8:k=s.np:=by omega
  subst e8
  have d1:decide ((s.np:Int)<(s.st.length:Int))=false:=decide_eq_false (by rw[ok.st];omega)
  refine rf0 d1 ?_
  have sub:∀y,y∈h.toks→y∈toks:=fun y hy=>by
   rcases ht with ⟨-,-,rfl⟩|⟨t,-,-,rfl⟩
   ·exact hy
   ·exact List.mem_cons_of_mem _ hy
  refine Wp.le (s':=⟨tm [(4,.sl 1 (ints (cE s.st z s.np)) .any)],⟨h.objs,h.n,h.toks,m'⟩⟩) (aK.of (bp ?_) (OLe.refl _) sub (Nat.le_refl _) (Nat.le_refl _)) ?_
  ·simp only[aY,go_sem,reduceIte,Nat.reduceEqDiff,bx]
   exact ⟨av.cap,trivial⟩
  refine Wp.ret ⟨trivial,.sl 1 (ints (cE s.st z s.np)) .any,?_,rfl,?_,rfl⟩
  ·simp only[go_sem]
   exact rfl
  ·exact g.keep (fun _ _=>rfl) (Nat.le_refl _) (fun j hj=>g.fresh j hj) rfl hm
theorem D9 {x:PgI} {s:PgS} {T:List Nat} {h:H} (g:PgH x s T h) (ok:cd s):
  aI Tryz.prog 30 [.ptr x.P 0] h fun r h'=>r= .tup [.sl 1 (ints (cE s.st 1 s.np)) .any,.sl 1 (ints (cE s.st 2 s.np)) .any,.sl 1 (ints (cE s.st 3 s.np)) .any]∧PgH x s T h'∧h'.objs=h.objs:=by
 refine f30.bu af ?_
 unfold c30 zz
 have c1:=iP g
 refine rg1 @Bool.not_true c1 ?_
 refine an.aT ae xA4 (tf g ok 1) fun r h1 ⟨hr,g1,o1⟩ _ _=>?_
 subst hr
 refine an.evF xAc ?_
 refine an.aT ae xA4 (tf g1 ok 2) fun r h2 ⟨hr,g2,o2⟩ _ _=>?_
 subst hr
 refine an.evF xAc ?_
 refine an.aT ae xA4 (tf g2 ok 3) fun r h3 ⟨hr,g3,o3⟩ _ _=>?_
 subst hr
 refine an.evF xAc ?_
 refine an.nil ?_
 refine Wp.ret ⟨trivial,.tup [.sl 1 (ints (cE s.st 1 s.np)) .any,.sl 1 (ints (cE s.st 2 s.np)) .any,.sl 1 (ints (cE s.st 3 s.np)) .any],?_,rfl,g3,o3.trans (o2.trans o1)⟩
 simp only[go_sem]
 exact rfl
theorem Ea {x:PgI} {s:PgS} {T:List Nat} {h:H} (g:PgH x s T h) (ok:cd s):aJ Tryz.prog 31 [.ptr x.P 0] h (.int .i64 ((s.np:Int) - (lV s.ws s.ws.length:Nat))) h:=by
 refine f31.bP af ?_
 unfold c31 zz
 have np1:=ok.np1
 have c1:=iP g
 have c2:=Fw g.oA g.oU ok.np0 ab (by rw[ok.wl];omega)
 have oP:=g.oP
 refine rg2 (cj2 oP @Bool.not_true) c1 c2 ?_
 refine Wp.ret ⟨trivial,_,?_,av.refl _,rfl⟩
 simp only[go_sem]
 exact rfl
theorem wI {h:H} {c:Cap} {f:AV}:aJ Tryz.prog 124 [.sl 1 [] c,f] h (.int .i64 (-1)) h:=by
 refine f124.bP af ?_
 unfold Gb zz
 have d1:decide ((0:Int)<((0:Nat):Int))=false:=by decide
 refine rf0 @List.length_nil.{0} ?_
 refine Wp.eH [] rfl (fun _:Unit=>[(7,.int .i64 ((0:Nat):Int)),(8,.int .i64 0)]) (fun _=>h) (fun _=>True) (fun _=>0) () trivial rfl ?_ ?_
 ·exact xSb
 rintro - -
 refine rf0 d1 ?_
 refine Wp.ret ⟨trivial,_,?_,av.refl _,rfl⟩
 simp only[go_sem]
 exact rfl
theorem qC {h:H} {c:Cap} {f:AV}:aJ Tryz.prog 90 [.sl 1 [] c,f] h (.bool false) h:=by
 refine f90.bP af ?_
 unfold c90 zz
 have c1:=wI (h:=h) (c:=c) (f:=f)
 have d1:decide ((0:Int)≤ -1)=false:=by decide
 refine rg1 d1 c1 ?_
 refine Wp.ret ⟨trivial,_,?_,av.refl _,rfl⟩
 simp only[go_sem]
 exact rfl
theorem Ai {x:PgI} {s:PgS} {T:List Nat} {h:H} (g:PgH x s T h) {c:Cap}:aI Tryz.prog 57 [.ptr x.P 0,.sl 1 [] c] h fun r h'=>r= .int .i64 0∧PgH x s T h'∧h'.objs=h.objs:=by
 refine f57.bu af ?_
 unfold c57 zz
 have lt:=g.lt
 have g1:PgH x s T ⟨upd h.objs h.n (some (.cells [.ptr x.P 0])),h.n+1,h.toks,h.m⟩:=g.keep (fun j hj=>by simp only[upd];rw[if_neg ab]) (Nat.le_succ _) (fun j hj=>by
  simp only at hj
  simp only[upd]
  rw[if_neg ab]
  exact g.fresh j ab) rfl (Nat.le_refl _)
 have c1:=iP g1
 have d1:decide ((0:Int)<((0:Nat):Int))=false:=by decide
 refine rg1 (cj3 @Bool.not_true d1 @List.length_nil.{0}) c1 ?_
 obtain ⟨h1,e1⟩:∃h1:H,h1=⟨upd h.objs h.n (some (.cells [.ptr x.P 0])),h.n+1,h.toks,h.m⟩:=⟨_,rfl⟩
 rw[←e1]
 refine Wp.eH [1,2] xA7 (fun _:Unit=>[(13,.int .i64 ((0:Nat):Int)),(14,.int .i64 0)]) (fun _=>h1) (fun _=>True) (fun _=>0) () trivial rfl ?_ ?_
 ·exact xSb
 rintro - -
 have c2:=qC (h:=h1) (c:=c) (f:= .clo (.func 91) [] [.ptr h.n 0])
 refine rg1 (cj2 d1 @List.length_nil.{0}) c2 ?_
 refine Wp.eH [] rfl (fun _:Unit=>[(35,.int .i64 ((0:Nat):Int)),(36,.int .i64 0)]) (fun _=>h1) (fun _=>True) (fun _=>0) () trivial rfl ?_ ?_
 ·exact xSb
 rintro - -
 refine rf0 d1 ?_
 refine Wp.le (s':=⟨tm [(4,.int .i64 0)],⟨h.objs,h.n+1,h.toks,h.m⟩⟩) (aK.of (bp ?_) ?_ (fun y hy=>by rw[e1];exact hy) (by rw[e1];exact Nat.le_refl _) (by rw[e1];exact Nat.le_refl _)) ?_
 ·exact xSb
 ·rw[e1]
  exact OLe.skip (g.fresh _ (Nat.le_refl _))
 refine Wp.ret ⟨trivial,.int .i64 0,?_,rfl,?_,rfl⟩
 ·simp only[go_sem]
  exact rfl
 ·exact g.keep (fun _ _=>rfl) (Nat.le_succ _) (fun j hj=>g.fresh j (by simp only at hj;omega)) rfl (Nat.le_refl _)
theorem Aj:sC (List.replicate 128 (AV.int .u8 0))=some (List.replicate 128 0):=by
 have h:=lU (List.replicate 128 0)
 have e:ar (List.replicate 128 0)=List.replicate 128 (AV.int .u8 0):=by simp[ar,byte]
 rw[e] at h
 exact h
theorem Ak {F:Nat→Option Av.Obj} {n m:Nat} {T:List Nat} {k:Nat} (h0:0<k) (h1:k≤16384):
  aJ Tryz.prog 32 [.int .i64 (k:Int)] ⟨F,n,T,m⟩ (.tup [.ptr (n+1) 0,.int .i64 0]) ⟨upd (upd F n (some (.bk ⟨k,[]⟩))) (n+1) (some (dkO n k (cC [] none))),n+1+1,T,m⟩:=by
 refine f32.bP af ?_
 unfold c32
 have d1:decide ((k:Int)<1)=false:=decide_eq_false ab
 have d2:decide ((16384:Int)<(k:Int))=false:=decide_eq_false ab
 have z:=Aj
 obtain ⟨Z,hZ⟩:∃Z,Z=List.replicate 128 (AV.int .u8 0):=⟨_,rfl⟩
 rw[←hZ] at z ⊢
 clear hZ
 refine rf0 (cj2 d1 d2) ?_
 have s1:(0:Int)≤(k:Int):=by omega
 have s2:(k:Int)*((128:Nat):Int)≤140737488355328:=by omega
 have s3:(k:Int)<9223372036854775808:=by omega
 refine Wp.reg ?_
 refine ao.part 1 xA1 ?_
 simp only[List.drop_succ_cons,List.drop_zero,List.drop_nil]
 refine ao.opA xA2 (by simp only[fB,jJ,jI,go_sem,reduceIte,Nat.reduceEqDiff,Nat.reduceAdd,bx,ax,if_true,if_false,Nat.reduceMul,Nat.reduceLeDiff,z,s1,s2,s3,Int.le_refl,Int.toNat_natCast,and_self];exact rfl) ?_
 refine ao.part 4 xA1 ?_
 simp only[List.drop_succ_cons,List.drop_zero,List.drop_nil]
 refine ao.nil ⟨trivial,?_⟩
 refine Wp.ret ⟨trivial,_,?_,av.refl _,?_⟩
 ·simp only[go_sem]
  exact rfl
 ·rfl
theorem wK {F:Nat→Option Av.Obj} {n m:Nat} {T:List Nat} {k:Nat} (h0:0<k) (h1:k≤16384):
  aJ Tryz.prog 68 [.int .i64 (k:Int)] ⟨F,n,T,m⟩ (.tup [.ptr (n+1) 0,.int .i64 0]) ⟨upd (upd F n (some (.cells (di (List.replicate ((k+63)/64) 0))))) (n+1) (some (alO k n ((k+63)/64))),n+1+1,T,m⟩:=by
 refine f68.bP af ?_
 unfold c68 zz
 have d1:decide ((k:Int)<1)=false:=decide_eq_false ab
 have d2:decide ((16384:Int)<(k:Int))=false:=decide_eq_false ab
 have w1:IntKind.i64.wrap ((k:Int)+64)=(k:Int)+64:=IntWalk.i64_in _ ab
 have w2:IntKind.i64.wrap ((k:Int)+64 - 1)=((k+63:Nat):Int):=by rw[IntWalk.i64_in _ ab];omega
 have w3:IntKind.i64.wrap (((k+63:Nat):Int).tdiv 64)=(((k+63)/64:Nat):Int):=by
  rw[Int.tdiv_eq_ediv_of_nonneg ab,IntWalk.i64_in _ ab];omega
 have h64:¬((64:Int)=0):=by decide
 obtain ⟨q,hq⟩:∃q,q=(k+63)/64:=⟨_,rfl⟩
 rw[←hq] at w3 ⊢
 have s1:(0:Int)≤(q:Int):=by omega
 have s2:(q:Int)*((8:Nat):Int)≤140737488355328:=by omega
 have s3:(q:Int)<9223372036854775808:=by omega
 have ez:(List.replicate q (AV.int .u64 0)).flatMap cellsOf=di (List.replicate q 0):=by
  clear w3 s1 s2 s3 hq
  induction q with
  |zero=>rfl
  |succ q ih=>simp only[List.replicate_succ,List.flatMap_cons,ih];rfl
 obtain ⟨zz,hz⟩:∃zz:AV,zz= .int .u64 0:=⟨_,rfl⟩
 rw[←hz] at ez ⊢
 have hs:shaped zz=true:=by rw[hz];rfl
 have hx:∀c,zz≠ .agg c:=fun c=>by rw[hz];intro h;cases h
 refine rf0 (cj2 d1 d2) ?_
 refine Wp.reg ?_
 refine ao.part 5 (xAe (cj4 w1 w2 w3 h64)) ?_
 simp only[List.drop_succ_cons,List.drop_zero,List.drop_nil]
 subst hz
 refine ao.opA xA2 (by simp only[fB,jJ,jI,go_sem,reduceIte,Nat.reduceEqDiff,Nat.reduceAdd,bx,ax,if_true,if_false,Nat.reduceMul,Nat.reduceLeDiff,s1,s2,s3,ez,Int.le_refl,Int.toNat_natCast,and_self];exact rfl) ?_
 refine ao.part 4 xA1 ?_
 simp only[List.drop_succ_cons,List.drop_zero,List.drop_nil]
 refine ao.nil ⟨trivial,?_⟩
 refine Wp.ret ⟨trivial,_,?_,av.refl _,?_⟩
 ·simp only[go_sem]
  exact rfl
 ·rfl
def mS (F:Nat→Option Av.Obj) (n D k:Nat):Nat→Option Av.Obj:=upd (upd (upd (upd F n (some (.cells (di (List.replicate ((k+63)/64) 0))))) (n+1) (some (alO k n ((k+63)/64)))) (n+1+1) (some (.cells (ie (List.replicate k 0))))) (n+1+1+1) (some (.cells [.ptr (n+1) 0,.ptr D 0,.int .i64 0,.tsl 1 (n+1+1) 0 k none]))
theorem wL {F:Nat→Option Av.Obj} {n m D K:Nat} {T:List Nat} {k:Nat} {pa:AV} (hD:F D=some (dkO K (8*k) pa)) (h0:0<k) (h1:k≤500):
  aJ Tryz.prog 33 [.ptr D 0,.int .i64 0,.int .i64 (k:Int)] ⟨F,n,T,m⟩ (.tup [.ptr (n+1+1+1) 0,.int .i64 0]) ⟨mS F n D k,n+1+1+1+1,T,m⟩:=by
 refine f33.bP af ?_
 unfold c33 zz
 have c1:=Fh (h:=⟨F,n,T,m⟩) hD ab
 have c2:=wK (F:=F) (n:=n) (m:=m) (T:=T) h0 ab
 obtain ⟨z,hz⟩:∃z:Int,z=0:=⟨_,rfl⟩
 have d0:decide (((8*k:Nat):Int)=0)=false:=decide_eq_false ab
 have d1:decide ((0:Int)<0)=false:=by decide
 have d2:decide ((k:Int)<1)=false:=decide_eq_false ab
 have w1:IntKind.i64.wrap (((8*k:Nat):Int).tdiv 8)=(k:Int):=by
  rw[Int.tdiv_eq_ediv_of_nonneg ab,IntWalk.i64_in _ ab];omega
 have d3:decide ((k:Int)<(k:Int))=false:=decide_eq_false ab
 have w2:IntKind.i64.wrap ((k:Int)*8)=((8*k:Nat):Int):=by rw[IntWalk.i64_in _ ab];omega
 have w3:IntKind.i64.wrap (((8*k:Nat):Int) - ((8*k:Nat):Int))=0:=by rw[Int.sub_self];decide
 have h8:¬((8:Int)=0):=by decide
 have s1:(0:Int)≤(k:Int):=by omega
 have s2:(k:Int)*((8:Nat):Int)≤140737488355328:=by omega
 have s3:(k:Int)<9223372036854775808:=by omega
 have ez:(List.replicate k (AV.int .i64 0)).flatMap cellsOf=ie (List.replicate k 0):=by
  clear w3 w2 w1 d0 d1 d2 d3 s1 s2 s3 c1 c2 hD h0 h1
  induction k with
  |zero=>rfl
  |succ k ih=>simp only[List.replicate_succ,List.flatMap_cons,ih];rfl
 refine rg1 (cj8 d0 d1 d2 d3 w1 w2 w3 h8) c1 ?_
 refine an.cF xA2 xAb (by exact ⟨Nat.le_trans (Nat.le_succ _) (Nat.le_succ _),Nat.le_refl _⟩) (c2) ?_
 refine an.evF xAc ?_
 refine an.nil ?_
 generalize hG:upd (upd F n (some (.cells (di (List.replicate ((k+63)/64) 0))))) (n+1) (some (alO k n ((k+63)/64)))=G at*
 refine Wp.seq (Wp.reg ?_)
 refine ao.part 4 xA1 ?_
 simp only[List.drop_succ_cons,List.drop_zero,List.drop_nil]
 refine ao.opA xA2 (by simp only[fB,jJ,jI,go_sem,reduceIte,Nat.reduceEqDiff,Nat.reduceAdd,bx,ax,if_true,if_false,Nat.reduceMul,Nat.reduceLeDiff,s1,s2,s3,ez,Int.le_refl,Int.toNat_natCast,and_self];exact rfl) ?_
 refine ao.part 4 xA1 ?_
 simp only[List.drop_succ_cons,List.drop_zero,List.drop_nil]
 refine ao.nil ⟨trivial,?_⟩
 refine Wp.ret ⟨trivial,_,?_,av.refl _,?_⟩
 ·simp only[go_sem]
  exact rfl
 ·unfold mS
  rw[hG]
def pg0 (k:Nat):PgS:=⟨k,List.replicate ((k+63)/64) 0,List.replicate k 0,[],[],none⟩
theorem wM {k:Nat} (h0:0<k) (h1:k≤500):cd (pg0 k) where
 np0:=h0
 np1:=h1
 st:=by simp[pg0]
 st3:=fun i=>by
  simp only[pg0,List.getD_eq_getElem?_getD,List.getElem?_replicate]
  split<;>simp
 wl:=by simp[pg0]
 bit:=fun i=>by
  have e1:(List.replicate k 0).getD i 0=0:=by
   simp only[List.getD_eq_getElem?_getD,List.getElem?_replicate]
   split<;>simp
  have e2:(List.replicate ((k+63)/64) (0:W)).getD (i/64) 0=0:=by
   simp only[List.getD_eq_getElem?_getD,List.getElem?_replicate]
   split<;>simp
  simp only[pg0,eJ,e1,e2]
  simp
 pl:=fun x hx=>by simp[pg0] at hx
 dl:=fun x hx=>by simp[pg0] at hx
theorem GG {F:Nat→Option Av.Obj} {n m:Nat} {T:List Nat} {k:Nat} (hf:∀j,n≤j→F j=none) (hT:∀t∈T,t<m):
  PgH ⟨n+1+1+1+1+1,n+1+1+1,n+1+1,n+1,n,n+1+1+1+1⟩ (pg0 k) T ⟨mS (upd (upd F n (some (.bk ⟨8*k,[]⟩))) (n+1) (some (dkO n (8*k) (cC [] none)))) (n+1+1) (n+1) k,n+1+1+1+1+1+1,T,m⟩:=by
 have u:∀(f:Nat→Option Av.Obj) (i:Nat) (a:Option Av.Obj),upd f i a i=a:=fun f i a=>by simp[upd]
 have v:∀(f:Nat→Option Av.Obj) (i j:Nat) (a:Option Av.Obj),j≠i→upd f i a j=f j:=fun f i j a h=>by simp[upd,h]
 refine ⟨?_,?_,?_,?_,?_,?_,?_,?_,?_,rfl,hT,(fun t e=>by cases e),fun _=>rfl⟩
 ·simp only[mS,pg0]
  rw[u];simp
 ·simp only[mS,pg0]
  rw[v _ _ _ _ ab,v _ _ _ _ ab,u];simp
 ·simp only[mS,pg0]
  rw[v _ _ _ _ ab,v _ _ _ _ ab,v _ _ _ _ ab,u]
 ·simp only[mS,pg0]
  rw[v _ _ _ _ ab,v _ _ _ _ ab,v _ _ _ _ ab,v _ _ _ _ ab,u]
 ·simp only[mS,pg0]
  rw[v _ _ _ _ ab,v _ _ _ _ ab,v _ _ _ _ ab,v _ _ _ _ ab,v _ _ _ _ ab,u]
 ·simp only[mS,pg0]
  rw[v _ _ _ _ ab,u]
 ·simp only;omega
 ·simp only;omega
 ·intro j hj
  simp only at hj
  simp only[mS]
  rw[v _ _ _ _ ab,v _ _ _ _ ab,v _ _ _ _ ab,v _ _ _ _ ab,v _ _ _ _ ab,v _ _ _ _ ab]
  exact hf j ab
end Go.Proofs.YtbgmofhgfnmaiaaGreat.Tree
end
section
set_option maxRecDepth 100000
namespace Go.Proofs.YtbgmofhgfnmaiaaGreat.Tree
open Go Go.Av Go.Proofs Go.Proofs.YtbgmofhgfnmaiaaGreat.C Go.Proofs.YtbgmofhgfnmaiaaGreat.Page
open Go.Proofs.YtbgmofhgfnmaiaaGreat.Batch (Bs Pr prs aW)
section
variable {x:PgI} {s:PgS} {T:List Nat} {h:H}
theorem PgH.kept (g:PgH x s T h) {d:List (Nat × List UInt8)} {n':Nat} (hn:h.n≤n'):PgH x {s with p:=[],d:=d,tk:=none} T ⟨upd (upd h.objs x.K (some (.bk ⟨8*s.np,d⟩))) x.D (some (dkO x.K (8*s.np) (cC [] none))),n',T,h.m⟩:=by
 have ne:=g.ne
 have lt:=g.lt
 have q:∀j,j≠x.D→j≠x.K→upd (upd h.objs x.K (some (.bk ⟨8*s.np,d⟩))) x.D (some (dkO x.K (8*s.np) (cC [] none))) j=h.objs j:=fun j a b=>by simp only[upd];rw[if_neg a,if_neg b]
 exact {
  oP:=(q _ ne.2.2.1 ne.2.2.2.1).trans g.oP
  oA:=(q _ ne.2.2.2.2.2.2.1 ne.2.2.2.2.2.2.2.1).trans g.oA
  oU:=(q _ ne.2.2.2.2.2.2.2.2.2.1 ne.2.2.2.2.2.2.2.2.2.2.1).trans g.oU
  oD:=by simp only[upd,if_true]
  oK:=by
   simp only[upd]
   rw[if_neg (Ne.symm ne.2.2.2.2.2.2.2.2.2.2.2.2.1)]
   simp
  oI:=(q _ (Ne.symm ne.2.2.2.2.2.2.2.2.2.2.2.2.2.1) (Ne.symm ne.2.2.2.2.2.2.2.2.2.2.2.2.2.2)).trans g.oI
  lt:=by simp only;omega
  ne:=ne
  fresh:=fun j hj=>(q j (by simp only at hj;omega) (by simp only at hj;omega)).trans (g.fresh j (by simp only at hj;omega))
  toks:=rfl
  tm:=g.tm
  tkm:=fun t e=>by cases e
  tk0:=fun _=>rfl}
theorem rH (g:PgH x s T h) {d:List (Nat × List UInt8)} {n':Nat}:cD x h ⟨upd (upd h.objs x.K (some (.bk ⟨8*s.np,d⟩))) x.D (some (dkO x.K (8*s.np) (cC [] none))),n',T,h.m⟩:=fun j _ _ _ _ a4 a5 _=>by simp only[upd];rw[if_neg a4,if_neg a5]
theorem xY (g:PgH x s T h) {d:List (Nat × List UInt8)} {n':Nat}:aq h ⟨upd (upd h.objs x.K (some (.bk ⟨8*s.np,d⟩))) x.D (some (dkO x.K (8*s.np) (cC [] none))),n',T,h.m⟩:=fun j hj=> .inl (by
 simp only[upd] at hj
 by_cases e:j=x.D
 ·rw[e,g.oD];rfl
 ·rw[if_neg e] at hj
  by_cases e2:j=x.K
  ·rw[e2,g.oK];rfl
  ·rw[if_neg e2] at hj;exact hj)
theorem EJ (g:PgH x s T h):(⟨h.objs,h.n,tkT s.tk T,h.m⟩:H)=h:=by
 have:=g.toks
 cases h
 simp only at this
 rw[this]
theorem Eb (g:PgH x s T h) (ok:cd s) (hp:s.p.length<1000000):aI Tryz.prog 21 [.ptr x.D 0] h fun r h'=>r= .int .i64 0∧PgH x {s with p:=[],d:=kd (fun _=>true) s.p s.d s.p.length,tk:=none} T h'∧cD x h h'∧aq h h':=by
 have c:=DW (n:=h.n) (m:=h.m) (T:=T) g.oD g.oK ok.pl g.lt.2.2.2.1 g.lt.2.2.2.2.1 g.ne.2.2.2.2.2.2.2.2.2.2.2.2.1 g.fresh hp (by have:=ok.np0;omega)
 rw[EJ g] at c
 refine c.mono ?_
 rintro r h' ⟨rfl,n',hn,rfl⟩
 exact ⟨rfl,g.kept hn,rH g,xY g⟩
theorem Ec (g:PgH x s T h) (ok:cd s) (hp:s.p.length<1000000) {zs:List Int} (hz:zs.length≤1000000):aI Tryz.prog 28 [.ptr x.D 0,.sl 1 (ints zs) .any] h fun r h'=>r= .int .i64 0∧PgH x {s with p:=[],d:=kd (fun k=>zs.contains (k:Int)) s.p s.d s.p.length,tk:=none} T h'∧cD x h h'∧aq h h':=by
 have c:=DX (n:=h.n) (m:=h.m) (T:=T) g.oD g.oK ok.pl g.lt.2.2.2.1 g.lt.2.2.2.2.1 g.ne.2.2.2.2.2.2.2.2.2.2.2.2.1 g.fresh hp (by have:=ok.np0;omega) hz
 rw[EJ g] at c
 refine c.mono ?_
 rintro r h' ⟨rfl,n',hn,rfl⟩
 exact ⟨rfl,g.kept hn,rH g,xY g⟩
theorem cd.kept (ok:cd s) {pick:Nat→Bool}:cd {s with p:=[],d:=kd pick s.p s.d s.p.length,tk:=none} where
 np0:=ok.np0
 np1:=ok.np1
 st:=ok.st
 st3:=ok.st3
 wl:=ok.wl
 bit:=ok.bit
 pl:=fun x hx=>by simp at hx
 dl:=wC ok.dl (fun x hx=>(ok.pl x hx).1) _ (Nat.le_refl _)
end
theorem kQ {p d p' d':List (Nat × List UInt8)} {i:Nat}:∀k,(∀j,j<k→rdP p d (i*8+j)=rdP p' d' (i*8+j))→pgB p d i k=pgB p' d' i k
 |0,_=>rfl
 |k+1,h=>by rw[pgB,pgB,kQ k fun j hj=>h j ab,h k ab]
theorem Ed (p q d:List (Nat × List UInt8)) (j:Nat):rdP (p++q) d j=q.foldl (fun a x=>if x.1=j then x.2 else a) (rdP p d j):=by
 simp[rdP,List.foldl_append]
theorem rI:∀(q:List (Nat × List UInt8)) (j:Nat) (a:List UInt8),(∀x∈q,x.1≠j)→q.foldl (fun a x=>if x.1=j then x.2 else a) a=a
 |[],_,_,_=>rfl
 |x::q,j,a,h=>by
  rw[List.foldl_cons,if_neg (h x af)]
  exact rI q j a fun y hy=>h y (by simp[hy])
theorem Al {p d:List (Nat × List UInt8)} {i j:Nat} {l:List UInt8} {k:Nat} (h:j<i*8∨i*8+k≤j):rdP (p++wrs i l k) d j=rdP p d j:=by
 rw[Ed]
 refine rI _ _ _ fun x hx=>?_
 obtain ⟨q,hq,rfl⟩:=List.mem_map.1 hx
 have:=List.mem_range.1 hq
 simp only
 omega
theorem xZ {p d:List (Nat × List UInt8)} {i:Nat} {l:List UInt8}:∀(k j:Nat),j<k→rdP (p++wrs i l k) d (i*8+j)=(l.drop (j*128)).take 128
 |0,_,h=>absurd h (Nat.not_lt_zero _)
 |k+1,j,h=>by
  rw[uN,←List.append_assoc,ic]
  by_cases e:j=k
  ·subst e;rw[if_pos rfl]
  ·rw[if_neg (by simp only;omega)]
   exact xZ k j ab
theorem Cj {p d:List (Nat × List UInt8)} {i:Nat} {l:List UInt8} (hl:l.length=1024):pgB (p++wrs i l 8) d i 8=l:=by
 have key:∀k,k≤8→pgB (p++wrs i l 8) d i k=l.take (k*128):=by
  intro k hk
  induction k with
  |zero=>simp[pgB]
  |succ k ih=>
   rw[pgB,ih ab,xZ 8 k ab,Nat.succ_mul,List.take_add]
 rw[key 8 (Nat.le_refl _)]
 exact List.take_of_length_le ab
theorem jO {p d:List (Nat × List UInt8)} {i k:Nat} {l:List UInt8} (h:k≠i):pgB (p++wrs i l 8) d k 8=pgB p d k 8:=
 kQ 8 fun j hj=>Al ab
theorem wN {p d:List (Nat × List UInt8)} (k:Nat):pgB [] (kd (fun _=>true) p d p.length) k 8=pgB p d k 8:=
 kQ 8 fun j hj=>by
  show dU _ _=_
  exact Fk _
theorem wO {p d:List (Nat × List UInt8)} {pick:Nat→Bool} {k:Nat} (h:∀x∈p,x.1<k*8∨k*8+8≤x.1):pgB [] (kd pick p d p.length) k 8=pgB p d k 8:=
 kQ 8 fun j hj=>by
  show dU _ _=_
  rw[sW (fun x hx=>by have:=h x hx;omega) _ (Nat.le_refl _)]
  exact (uJ fun x hx=>by have:=h x hx;omega).symm
end Go.Proofs.YtbgmofhgfnmaiaaGreat.Tree
end
section
set_option maxRecDepth 100000
namespace Go.Proofs.YtbgmofhgfnmaiaaGreat.Tree
open Go Go.Av Go.Proofs Go.Proofs.YtbgmofhgfnmaiaaGreat.C Go.Proofs.YtbgmofhgfnmaiaaGreat.Page
open Go.Proofs.YtbgmofhgfnmaiaaGreat.Batch (Bs Pr prs aW)
def dQ (f:Nat→Bool):Nat→Nat
 |0=>0
 |n+1=>dQ f n+(f n).toNat
theorem mT (f:Nat→Bool) (a:Nat):∀b,dQ f (a+b)=dQ f a+dQ (fun i=>f (a+i)) b
 |0=>rfl
 |b+1=>by
  show dQ f (a+b)+(f (a+b)).toNat=dQ f a+(dQ (fun i=>f (a+i)) b+(f (a+b)).toNat)
  rw[mT f a b];omega
theorem fR {f g:Nat→Bool}:∀n,(∀i,i<n→f i=g i)→dQ f n=dQ g n
 |0,_=>rfl
 |n+1,h=>by rw[dQ,dQ,fR n fun i hi=>h i ab,h n ab]
theorem nF {f:Nat→Bool}:∀n,(∀i,i<n→f i=false)→dQ f n=0
 |0,_=>rfl
 |n+1,h=>by rw[dQ,nF n fun i hi=>h i ab,h n ab];rfl
theorem Ck:∀(k x:Nat),pa k x=dQ (fun i=>x.testBit i) k
 |0,_=>rfl
 |k+1,x=>by
  rw[pa,Ck k (x/2),show k+1=1+k from Nat.add_comm _ _,mT]
  have e1:dQ (fun i=>x.testBit i) 1=x%2:=by
   show 0+(x.testBit 0).toNat=_
   rw[Nat.testBit_zero]
   rcases Nat.mod_two_eq_zero_or_one x with h|h<;>simp[h]
  have e2:dQ (fun i=>x.testBit (1+i)) k=dQ (fun i=>(x/2).testBit i) k:=fR k fun i _=>by
   show x.testBit (1+i)=(x/2).testBit i
   rw[Nat.add_comm,Nat.testBit_succ]
  rw[e1,e2]
theorem uP (ws:List W):∀j,j≤ws.length→lV ws j=dQ (eJ ws) (64*j)
 |0,_=>by simp[lV,dQ]
 |j+1,h=>by
  rw[nD ab,uP ws j ab,Nat.mul_succ,mT,Ck]
  congr 1
  refine fR 64 fun i hi=>?_
  have e1:(64*j+i)/64=j:=by omega
  have e2:(64*j+i)%64=i:=by omega
  unfold eJ
  rw[e1,e2]
  rfl
theorem kR (st:List Nat) (z:Nat):∀n,(cE st z n).length=dQ (fun i=>decide (st.getD i 0=z)) n
 |0=>rfl
 |n+1=>by
  rw[ou,dQ,←kR st z n]
  by_cases e:st.getD n 0=z
  ·rw[if_pos e,List.length_append,decide_eq_true e];rfl
  ·rw[if_neg e,decide_eq_false e];rfl
theorem GH (st:List Nat) (h3:∀i,st.getD i 0≤3):∀n,dQ (fun i=> !decide (st.getD i 0=0)) n=dQ (fun i=>decide (st.getD i 0=1)) n+dQ (fun i=>decide (st.getD i 0=2)) n+dQ (fun i=>decide (st.getD i 0=3)) n
 |0=>rfl
 |n+1=>by
  simp only[dQ]
  rw[GH st h3 n]
  have:=h3 n
  generalize st.getD n 0=z at this
  have:z=0∨z=1∨z=2∨z=3:=by omega
  rcases this with rfl|rfl|rfl|rfl<;>simp<;>omega
theorem Am {s:PgS} (ok:cd s):lV s.ws s.ws.length=(cE s.st 1 s.np).length+(cE s.st 2 s.np).length+(cE s.st 3 s.np).length:=by
 rw[uP s.ws _ (Nat.le_refl _),kR,kR,kR,←GH s.st ok.st3]
 have hw:=ok.wl
 obtain ⟨r,hr⟩:∃r,64*s.ws.length=s.np+r:=⟨64*s.ws.length - s.np,ab⟩
 rw[hr,mT]
 have e1:dQ (fun i=>eJ s.ws (s.np+i)) r=0:=nF r fun i hi=>by
  show eJ s.ws (s.np+i)=false
  rw[ok.bit,decide_eq_false ab];rfl
 rw[e1,Nat.add_zero]
 exact fR _ fun i hi=>by rw[ok.bit,decide_eq_true hi];rfl
def trO (x:PgI) (r:Int):Av.Obj:= .cells [.ptr x.P 0,.int .i64 r]
def Kept (h h':H):Prop:=∀j,j<h.n→h'.objs j=h.objs j
theorem kv (l:List Int):(ints l).length=l.length:=by simp[ints]
theorem th {x:PgI} {s:PgS} {T:List Nat} {h:H} (g:PgH x s T h) (ok:cd s) {r:Int} (h1: -1≤r) (h2:r<s.np):
  aI Tryz.prog 26 [.ptr x.P 0,.int .i64 r] h fun q h'=>∃t,q= .tup [.ptr t 0,.int .i64 0]∧h.n≤t∧t<h'.n∧h'.objs t=some (trO x r)∧PgH x s T h'∧Kept h h'∧aq h h':=by
 refine f26.bu af ?_
 unfold c26 zz
 have np1:=ok.np1
 refine rf0 @and_self ?_
 refine an.aT ae xA4 (Ai (c:= .exact 0) g) fun r1 h1' ⟨hr,g1,o1⟩ n1 _=>?_
 subst hr
 refine an.evF xAc ?_
 refine an.nil ?_
 have d0:decide ((0:Int)=0)=true:=by decide
 refine rf0 (cj2 d0 @Bool.not_true) ?_
 refine an.aT ae xA4 (D9 g1 ok) fun r2 h2' ⟨hr,g2,o2⟩ n2 _=>?_
 subst hr
 refine an.evF xAc ?_
 refine an.nil ?_
 have c1:=Ea g2 ok
 have tk:=Am ok
 rw[tk] at c1
 have a1:=jN s.st 1 s.np
 have a2:=jN s.st 2 s.np
 have a3:=jN s.st 3 s.np
 have l1:=kv (cE s.st 1 s.np)
 have l2:=kv (cE s.st 2 s.np)
 have l3:=kv (cE s.st 3 s.np)
 generalize (cE s.st 1 s.np).length=n1 at*
 generalize (cE s.st 2 s.np).length=n2 at*
 generalize (cE s.st 3 s.np).length=n3 at*
 generalize ints (cE s.st 1 s.np)=L1 at*
 generalize ints (cE s.st 2 s.np)=L2 at*
 generalize ints (cE s.st 3 s.np)=L3 at*
 have w1:IntKind.i64.wrap ((n1:Int)+(n2:Int))=((n1+n2:Nat):Int):=by rw[IntWalk.i64_in _ ab];rfl
 have w2:IntKind.i64.wrap (((n1+n2:Nat):Int)+(n3:Int))=((n1+n2+n3:Nat):Int):=by rw[IntWalk.i64_in _ ab];rfl
 have w3:IntKind.i64.wrap (((n1+n2+n3:Nat):Int)+((s.np:Int) - ((n1+n2+n3:Nat):Int)))=(s.np:Int):=by rw[IntWalk.i64_in _ ab];omega
 have d1:decide (r< -1)=false:=decide_eq_false ab
 have d2:decide ((s.np:Int)≤r)=false:=decide_eq_false ab
 refine rg1 (cj8 l1 l2 l3 w1 w2 w3 d1 d2) c1 ?_
 have q:∀j,j<h2'.n→(upd h2'.objs h2'.n (some (trO x r)):Nat→Option Av.Obj) j=h2'.objs j:=fun j hj=>by simp only[upd];rw[if_neg ab]
 have oo:h2'.objs=h.objs:=o2.trans o1
 have nn:h.n≤h2'.n:=Nat.le_trans ‹h.n≤h1'.n› ‹h1'.n≤h2'.n›
 refine Wp.ret ⟨trivial,.tup [.ptr h2'.n 0,.int .i64 0],?_,h2'.n,rfl,nn,Nat.lt_succ_self _,?_,?_,?_,?_⟩
 ·simp only[go_sem]
  exact rfl
 ·exact if_pos rfl
 ·refine g2.keep q (Nat.le_succ _) (fun j hj=>?_) rfl (Nat.le_refl _)
  simp only at hj
  show (upd h2'.objs h2'.n (some (trO x r)):Nat→Option Av.Obj) j=none
  simp only[upd]
  rw[if_neg ab]
  exact g2.fresh j ab
 ·intro j hj
  exact (q j ab).trans (by rw[oo])
 ·intro j hj
  have hj:((upd h2'.objs h2'.n (some (trO x r)):Nat→Option Av.Obj) j).isSome=true:=hj
  by_cases e:j=h2'.n
  ·exact .inr ⟨ab,by rw[e];exact Nat.lt_succ_self _⟩
  ·simp only[upd] at hj
   rw[if_neg e,oo] at hj
   exact .inl hj
end Go.Proofs.YtbgmofhgfnmaiaaGreat.Tree
end
section
set_option maxRecDepth 100000
namespace Go.Proofs.YtbgmofhgfnmaiaaGreat.Tree
open Go Go.Av Go.Proofs Go.Proofs.YtbgmofhgfnmaiaaGreat.C Go.Proofs.YtbgmofhgfnmaiaaGreat.Page
open Go.Proofs.YtbgmofhgfnmaiaaGreat.Batch (Bs Pr prs aW)
theorem eS {h:H}:aJ Tryz.prog 47 [.int .i64 0] h (.tup []) h:=by
 refine f47.bP af ?_
 unfold c47 zz
 have d0:decide ((0:Int)=0)=true:=by decide
 refine rf0 (cj2 d0 @Bool.not_true) ?_
 exact ⟨trivial,.tup [],rfl,av.refl _,rfl⟩
section
variable {x:PgI} {s:PgS} {T:List Nat} {h:H}
def H.new (h:H) (o:Av.Obj):H:=⟨upd h.objs h.n (some o),h.n+1,h.toks,h.m⟩
theorem aL {o:Av.Obj} {j:Nat} (hj:j<h.n):(H.new h o).objs j=h.objs j:=by simp only[H.new,upd];rw[if_neg ab]
theorem bU {o:Av.Obj}:(H.new h o).objs h.n=some o:=by simp[H.new,upd]
theorem PgH.new (g:PgH x s T h) (o:Av.Obj):PgH x s T (H.new h o):=
 g.keep (fun j hj=>aL hj) (Nat.le_succ _) (fun j hj=>by
  have hj:h.n+1≤j:=hj
  simp only[H.new,upd]
  rw[if_neg ab]
  exact g.fresh j ab) rfl (Nat.le_refl _)
theorem cN {o:Av.Obj}:cD x h (H.new h o):=fun j hj _ _ _ _ _ _=>aL hj
theorem bN {o:Av.Obj}:aq h (H.new h o):=fun j hj=>by
 by_cases e:j=h.n
 ·exact .inr ⟨ab,by rw[e];exact Nat.lt_succ_self _⟩
 ·simp only[H.new,upd] at hj
  rw[if_neg e] at hj
  exact .inl hj
theorem x5 {tid:Nat} {r:Int} {n:Page.Node} {i:Nat} (g:PgH x s T h) (ok:cd s) (ht:h.objs tid=some (trO x r)) (hn:Nb n) (hc:check n=0) (hl:(bB n).length=1024) (hf:kr s.ws s.np=some i) (hp:s.p.length<900000):
  aI Tryz.prog 55 [.ptr tid 0,aD n] h fun q h'=>q= .int .i64 i∧(∃tk,PgH x {s with ws:=setW s.ws i true,st:=s.st.set i 2,p:=s.p++wrs i (bB n) 8,tk:=tk} T h')∧cD x h h'∧aq h h':=by
 refine f55.bu af ?_
 unfold c55 zz
 have hlt:tid<h.n:=by
  rcases Nat.lt_or_ge tid h.n with q|q
  ·exact q
  ·rw[g.fresh _ q] at ht;cases ht
 have b0:=sO n hn
 rw[hc] at b0
 have b:aZ Tryz.prog 83 [aD n] (.tup [.sl 1 (ar (bB n)) .any,.int .i64 0]):=b0
 clear b0
 have c0:aJ Tryz.prog 47 [.int .i64 0] (H.new h (.cells [.bool n.leaf,.sl 1 (strs n.keys) .any,.sl 1 (strs n.vals) .any,.sl 1 (ints n.kids) .any])) (.tup []) (H.new h (.cells [.bool n.leaf,.sl 1 (strs n.keys) .any,.sl 1 (strs n.vals) .any,.sl 1 (ints n.kids) .any])):=eS
 have ht1:=(aL (o:= .cells [.bool n.leaf,.sl 1 (strs n.keys) .any,.sl 1 (strs n.vals) .any,.sl 1 (ints n.kids) .any]) hlt).trans ht
 have g1:=g.new (.cells [.bool n.leaf,.sl 1 (strs n.keys) .any,.sl 1 (strs n.vals) .any,.sl 1 (ints n.kids) .any])
 have sm:=cN (x:=x) (h:=h) (o:= .cells [.bool n.leaf,.sl 1 (strs n.keys) .any,.sl 1 (strs n.vals) .any,.sl 1 (ints n.kids) .any])
 have no:=bN (h:=h) (o:= .cells [.bool n.leaf,.sl 1 (strs n.keys) .any,.sl 1 (strs n.vals) .any,.sl 1 (ints n.kids) .any])
 have ln:h.n≤(H.new h (.cells [.bool n.leaf,.sl 1 (strs n.keys) .any,.sl 1 (strs n.vals) .any,.sl 1 (ints n.kids) .any])).n:=Nat.le_succ _
 unfold aD at b ⊢
 unfold H.new at c0
 refine rg2 @and_self b c0 ?_
 refine Wp.le (s':=⟨tm [(0,.ptr tid 0),(5,.sl 1 (ar (bB n)) .any)],H.new h (.cells [.bool n.leaf,.sl 1 (strs n.keys) .any,.sl 1 (strs n.vals) .any,.sl 1 (ints n.kids) .any])⟩) (aK.tm ?_) ?_
 ·exact xSb
 clear c0
 generalize H.new h (.cells [.bool n.leaf,.sl 1 (strs n.keys) .any,.sl 1 (strs n.vals) .any,.sl 1 (ints n.kids) .any])=h1 at*
 unfold trO at ht1
 refine rf0 ht1 ?_
 refine an.aT ae xA4 (uO g1 ok hl hf hp) fun r h2 ⟨hr,g2,sm2,no2⟩ n2 _=>?_
 subst hr
 have c2:aJ Tryz.prog 47 [.int .i64 0] h2 (.tup []) h2:=eS
 refine an.evF xAc ?_
 refine an.nil ?_
 refine rg1 @and_self c2 ?_
 refine Wp.ret ⟨trivial,.int .i64 i,?_,rfl,g2,sm.trans sm2 ln,aq.trans no no2 ln n2⟩
 simp only[go_sem]
 exact rfl
def aC (n:Page.Node):Av.Obj:= .cells [.bool n.leaf,.sl 1 (strs n.keys) .any,.sl 1 (strs n.vals) .any,.sl 1 (ints n.kids) .any]
theorem wP {tid:Nat} {r:Int} {n:Page.Node} {i:Nat} (g:PgH x s T h) (ok:cd s) (ht:h.objs tid=some (trO x r)) (hn:Nb n) (hc:check n=0) (hl:(bB n).length=1024) (hi:i<s.np) (hs:s.st.getD i 0=2) (hp:s.p.length<900000):
  aI Tryz.prog 78 [.ptr tid 0,.int .i64 (i:Int),aD n] h fun q h'=>q= .int .i64 i∧(∃tk,PgH x {s with p:=s.p++wrs i (bB n) 8,tk:=tk} T h')∧cD x h h'∧aq h h':=by
 refine f78.bu af ?_
 unfold c78 zz
 have hlt:tid<h.n:=by
  rcases Nat.lt_or_ge tid h.n with q|q
  ·exact q
  ·rw[g.fresh _ q] at ht;cases ht
 have b0:=sO n hn
 rw[hc] at b0
 have b:aZ Tryz.prog 83 [aD n] (.tup [.sl 1 (ar (bB n)) .any,.int .i64 0]):=b0
 clear b0
 have c0:aJ Tryz.prog 47 [.int .i64 0] (H.new h (aC n)) (.tup []) (H.new h (aC n)):=eS
 have ht1:=(aL (o:=aC n) hlt).trans ht
 have hn1:=bU (h:=h) (o:=aC n)
 have g1:=g.new (aC n)
 have sm:=cN (x:=x) (h:=h) (o:=aC n)
 have no:=bN (h:=h) (o:=aC n)
 have ln:h.n≤(H.new h (aC n)).n:=Nat.le_succ _
 unfold aD at b
 unfold aD
 unfold H.new aC at c0
 refine rg2 @and_self b c0 ?_
 refine Wp.le (s':=⟨tm [(0,.ptr tid 0),(1,.int .i64 i),(5,.ptr h.n 0),(7,.sl 1 (ar (bB n)) .any)],H.new h (aC n)⟩) (aK.tm ?_) ?_
 ·exact xSb
 clear c0
 generalize H.new h (aC n)=h1 at*
 have ht2:=ht1
 unfold trO at ht1
 unfold aC at hn1
 have np1:=ok.np1
 refine rf0 ht1 ?_
 refine an.aT ae xA4 (s8 g1 np1 hl hi (by rw[ok.st];exact hi) hs hp) fun r h2 ⟨hr,g2,sm2,no2⟩ n2 _=>?_
 subst hr
 have d0:decide ((0:Int)=0)=true:=by decide
 refine an.evF xAc ?_
 refine an.nil ?_
 refine rf0 d0 ?_
 refine Wp.ret ⟨trivial,.int .i64 i,?_,rfl,g2,sm.trans sm2 ln,aq.trans no no2 ln n2⟩
 simp only[go_sem]
 exact rfl
theorem tp {tid:Nat} {r:Int} {n:Page.Node} {i k:Nat} (g:PgH x s T h) (ok:cd s) (ht:h.objs tid=some (trO x r)) (htx:tid≠x.P∧tid≠x.A∧tid≠x.U∧tid≠x.D∧tid≠x.K∧tid≠x.I) (hn:Nb n) (hc:check n=0) (hl:(bB n).length=1024) (hi:i<s.np) (hs:s.st.getD i 0=1) (hf:kr s.ws s.np=some k) (hp:s.p.length<900000):
  aI Tryz.prog 78 [.ptr tid 0,.int .i64 (i:Int),aD n] h fun q h'=>q= .int .i64 k∧(∃tk,PgH x {s with ws:=setW s.ws k true,st:=(s.st.set k 2).set i 3,p:=s.p++wrs k (bB n) 8,tk:=tk} T h')∧cD x h h'∧aq h h':=by
 refine f78.bu af ?_
 unfold c78 zz
 have hlt:tid<h.n:=by
  rcases Nat.lt_or_ge tid h.n with q|q
  ·exact q
  ·rw[g.fresh _ q] at ht;cases ht
 have b0:=sO n hn
 rw[hc] at b0
 have b:aZ Tryz.prog 83 [aD n] (.tup [.sl 1 (ar (bB n)) .any,.int .i64 0]):=b0
 clear b0
 have c0:aJ Tryz.prog 47 [.int .i64 0] (H.new h (aC n)) (.tup []) (H.new h (aC n)):=eS
 have ht1:=(aL (o:=aC n) hlt).trans ht
 have hn1:=bU (h:=h) (o:=aC n)
 have g1:=g.new (aC n)
 have sm:=cN (x:=x) (h:=h) (o:=aC n)
 have no:=bN (h:=h) (o:=aC n)
 have ln:h.n≤(H.new h (aC n)).n:=Nat.le_succ _
 unfold aD at b
 unfold aD
 unfold H.new aC at c0
 refine rg2 @and_self b c0 ?_
 refine Wp.le (s':=⟨tm [(0,.ptr tid 0),(1,.int .i64 i),(5,.ptr h.n 0),(7,.sl 1 (ar (bB n)) .any)],H.new h (aC n)⟩) (aK.tm ?_) ?_
 ·exact xSb
 clear c0
 generalize H.new h (aC n)=h1 at*
 have ht2:=ht1
 unfold trO at ht1
 unfold aC at hn1
 have np1:=ok.np1
 have hlt1:tid<h1.n:=by
  rcases Nat.lt_or_ge tid h1.n with q|q
  ·exact q
  ·rw[g1.fresh _ q] at ht2;cases ht2
 have c3:=s5 (l:=bB n) g1 hl (i:=i) (by rw[ok.st];exact hi) ab
 have d0:decide ((7:Int)=0)=false:=by decide
 have d7:decide ((7:Int)=7)=true:=by decide
 refine rg1 (cj5 ht1 hn1 d0 d7 @Bool.not_true) c3 ?_
 refine an.aT (vals:=[.ptr tid 0,aD n]) ae xA4 (x5 g1 ok ht2 hn hc hl hf hp) fun r h2 ⟨hr,⟨tk,g2⟩,sm2,no2⟩ n2 _=>?_
 subst hr
 have hk:=pY hf
 have ki:k≠i:=by
  intro e
  have:=ok.bit k
  rw[hk.2,decide_eq_true hk.1,e,hs] at this
  simp at this
 have ok2:=(ok.take hk.1 (z:=2) ah ah).more (p:=wrs k (bB n) 8) (tk:=tk) (s9 hl hk.1)
 have hs2:(s.st.set k 2).getD i 0=1:=by
  rw[List.getD_eq_getElem?_getD,List.getElem?_set_ne ki,←List.getD_eq_getElem?_getD]
  exact hs
 have ht3:h2.objs tid=some (trO x r):=(sm2 tid hlt1 htx.1 htx.2.1 htx.2.2.1 htx.2.2.2.1 htx.2.2.2.2.1 htx.2.2.2.2.2).trans ht2
 unfold trO at ht3
 have c5:=jS g2 ok2 hi hs2
 have g3:=g2.nE (st:=(s.st.set k 2).set i 3) af
 have o3:=g2.oI
 simp only at c5 g3 o3
 generalize hh3:({h2 with objs:=upd h2.objs x.I (some (Av.Obj.cells (ie ((s.st.set k 2).set i 3))))}:H)=h3 at*
 have e3:h3.n=h2.n:=by rw[←hh3]
 have sm3:cD x h2 h3:=by rw[←hh3];exact cD.nE
 have no3:aq h2 h3:=by rw[←hh3];exact aq.set o3
 have c6:aJ Tryz.prog 47 [.int .i64 0] h3 (.tup []) h3:=eS
 refine an.evF xAc ?_
 refine an.nil ?_
 have e4:h3.m=h2.m:=by rw[←hh3]
 refine rf0 ht3 ?_
 refine an.cF xA2 xAb (by exact ⟨Nat.le_of_eq e3.symm,Nat.le_of_eq e4.symm⟩) (c5) ?_
 refine an.evF xAc ?_
 refine an.cF xA2 xAb (by exact ⟨Nat.le_refl _,Nat.le_refl _⟩) (c6) ?_
 refine an.evF xAc ?_
 refine an.nil ?_
 refine rf0 @and_self ?_
 refine Wp.ret ⟨trivial,.int .i64 k,?_,rfl,⟨tk,g3⟩,(sm.trans sm2 ln).trans sm3 (Nat.le_trans ln n2),aq.trans (aq.trans no no2 ln n2) no3 (Nat.le_trans ln n2) (Nat.le_of_eq e3.symm)⟩
 simp only[go_sem]
 exact rfl
end
end Go.Proofs.YtbgmofhgfnmaiaaGreat.Tree
end
section
set_option maxRecDepth 100000
namespace Go.Proofs.YtbgmofhgfnmaiaaGreat.Tree
open Go Go.Av Go.Proofs Go.Proofs.YtbgmofhgfnmaiaaGreat.C Go.Proofs.YtbgmofhgfnmaiaaGreat.Page
open Go.Proofs.YtbgmofhgfnmaiaaGreat.Batch (Bs Pr prs aW)
section
variable {x:PgI} {s:PgS} {T:List Nat} {h:H}
theorem ed {h':H} (k:Kept h h'):cD x h h':=fun j hj _ _ _ _ _ _=>k j hj
theorem jP {tid i d:Nat} {r:Int} (g:PgH x s T h) (ok:cd s) (ht:h.objs tid=some (trO x r)) (hi:i<s.np) (hs:s.st.getD i 0≠0) (hp:s.p.length<900000) (hd:d≤20) (hr:lj (pgB s.p s.d i 8)=0):
  aI Tryz.prog 41 [.ptr tid 0,.int .i64 (i:Int),.int .i64 (d:Int)] h fun q h'=>q=aD (fC (pgB s.p s.d i 8))∧PgH x s T h'∧Kept h h'∧aq h h':=by
 refine f41.bu af ?_
 unfold c41 zz
 have hlt:tid<h.n:=by
  rcases Nat.lt_or_ge tid h.n with q|q
  ·exact q
  ·rw[g.fresh _ q] at ht;cases ht
 have d1:decide ((20:Int)<(d:Int))=false:=decide_eq_false ab
 obtain ⟨o0,ho0⟩:∃o0:Av.Obj,o0= .cells [.bool false,.sl 1 [] (.exact 0),.sl 1 [] (.exact 0),.sl 1 [] (.exact 0)]:=⟨_,rfl⟩
 have ht1:=(aL (o:=o0) hlt).trans ht
 have hn1:=bU (h:=h) (o:=o0)
 have g1:=g.new o0
 have k1:Kept h (H.new h o0):=fun j hj=>aL hj
 have no1:=bN (h:=h) (o:=o0)
 have ln:h.n+1≤(H.new h o0).n:=Nat.le_refl _
 have lm:(H.new h o0).m=h.m:=rfl
 refine rf0 d1 ?_
 refine Wp.le (s':=⟨tm [(0,.ptr tid 0),(1,.int .i64 i),(6,.ptr h.n 0)],H.new h o0⟩) (aK.of (bp ?_) ?_ (fun y hy=>hy) (Nat.le_refl _) (Nat.le_refl _)) ?_
 ·exact xSb
 ·rw[ho0];exact OLe.refl _
 generalize H.new h o0=h1 at*
 unfold trO at ht1
 refine rf0 ht1 ?_
 refine an.aT ae xA4 (xX g1 ok hi hs hp) fun q h2 ⟨hq,g2,o2⟩ n2 m2=>?_
 subst hq
 have c2:aJ Tryz.prog 47 [.int .i64 0] h2 (.tup []) h2:=eS
 refine an.evF xAc ?_
 refine an.nil ?_
 have b0:=Fe (pgB s.p s.d i 8)
 rw[hr] at b0
 have b:aZ Tryz.prog 72 [.sl 1 (ar (pgB s.p s.d i 8)) .any] (.tup [aD (fC (pgB s.p s.d i 8)),.int .i64 0]):=b0
 clear b0
 generalize fC (pgB s.p s.d i 8)=nd at*
 have g3:=g2.new (aC nd)
 have k3:Kept h2 (H.new h2 (aC nd)):=fun j hj=>aL hj
 have no3:=bN (h:=h2) (o:=aC nd)
 have hn3:=bU (h:=h2) (o:=aC nd)
 have hn4:(H.new h2 (aC nd)).objs h.n=some o0:=(aL ab).trans ((by rw[o2]:h2.objs h.n=h1.objs h.n).trans hn1)
 have ln3:(H.new h2 (aC nd)).n=h2.n+1:=rfl
 have c3:aJ Tryz.prog 47 [.int .i64 0] (H.new h2 (aC nd)) (.tup []) (H.new h2 (aC nd)):=eS
 unfold aD at b
 have c4:=c3
 unfold H.new aC at c4
 refine rg2 @and_self c2 b ?_
 rw[bn]
 refine an.cF xA2 xAb (by exact ⟨Nat.le_refl _,Nat.le_refl _⟩) (c4) ?_
 refine an.nil ?_
 refine Wp.le (s':=⟨tm [(6,.ptr h.n 0),(9,.ptr h2.n 0)],H.new h2 (aC nd)⟩) (aK.tm ?_) ?_
 ·exact xSb
 clear c3 c4
 have lm3:(H.new h2 (aC nd)).m=h2.m:=rfl
 have lt3:(H.new h2 (aC nd)).toks=h2.toks:=rfl
 generalize H.new h2 (aC nd)=h3 at*
 have hne:¬(h.n=h2.n):=by omega
 unfold aC at hn3
 rw[ho0] at hn4
 refine rf0 (cj3 hn3 hn4 hne) ?_
 have q:∀j,j<h.n→(upd h3.objs h.n (some (aC nd)):Nat→Option Av.Obj) j=h.objs j:=fun j hj=>by
  simp only[upd]
  rw[if_neg ab,k3 j ab,o2,k1 j hj]
 refine Wp.ret ⟨trivial,aD nd,?_,rfl,?_,q,?_⟩
 ·have e:(upd h3.objs h.n (some (aC nd)):Nat→Option Av.Obj) h.n=some (aC nd):=by simp[upd]
  unfold aC at e
  have e2:de [RV.cell 6 (some 4)] (tm [(6,.ptr h.n 0)]) ⟨upd h3.objs h.n (some (aC nd)),h3.n,h3.toks,h3.m⟩=some (aD nd):=by
   unfold aC
   simp only[de,rvs,rv,tm,upd,reduceIte,e]
   simp[upd,Av.part,shaped,aO,aD]
  exact e2
 ·refine g.keep q (show h.n≤h3.n by omega) (fun j hj=>?_) (show h3.toks=h.toks by rw[lt3,g2.toks,g.toks]) (show h.m≤h3.m by omega)
  have hj:h3.n≤j:=hj
  show (upd h3.objs h.n (some (aC nd)):Nat→Option Av.Obj) j=none
  simp only[upd]
  rw[if_neg ab]
  exact g3.fresh j hj
 ·intro j hj
  have hj:((upd h3.objs h.n (some (aC nd)):Nat→Option Av.Obj) j).isSome=true:=hj
  by_cases e:j=h.n
  ·exact .inr ⟨ab,by rw[e];show h.n<h3.n;omega⟩
  ·simp only[upd] at hj
   rw[if_neg e] at hj
   rcases no3 j hj with a|a
   ·rw[o2] at a
    rcases no1 j a with b|b
    ·exact .inl b
    ·exact .inr ⟨b.1,by show j<h3.n;omega⟩
   ·exact .inr ⟨ab,a.2⟩
end
end Go.Proofs.YtbgmofhgfnmaiaaGreat.Tree
end
section
set_option maxRecDepth 100000
namespace Go.Proofs.YtbgmofhgfnmaiaaGreat.Tree
open Go Go.Av Go.Proofs Go.Proofs.YtbgmofhgfnmaiaaGreat.C Go.Proofs.YtbgmofhgfnmaiaaGreat.Page
open Go.Proofs.YtbgmofhgfnmaiaaGreat.Batch (Bs Pr prs aW)
section
variable {x:PgI} {s:PgS} {T:List Nat} {h:H}
theorem Cl {h:H}:aI Tryz.prog 87 [] h fun q h'=>q= .agg [.str [],.int .i64 (-1)]∧h'=H.new h (.cells [.str [],.int .i64 (-1)]):=by
 refine f87.bu af ?_
 unfold c87 zz
 refine rf0 @and_self ?_
 rw[bn]
 refine Wp.ret ⟨trivial,.agg [.str [],.int .i64 (-1)],?_,rfl,rfl⟩
 have e2:de [RV.cell 0 (some 2)] (tm [(0,.ptr h.n 0)]) ⟨upd h.objs h.n (some (.cells [.str [],.int .i64 (-1)])),h.n+1,h.toks,h.m⟩=some (.agg [.str [],.int .i64 (-1)]):=by
  simp[de,rvs,rv,tm,upd,Av.part,shaped,aO]
 exact e2
theorem PgH.other (g:PgH x s T h) {j0:Nat} {o:Av.Obj} (h0:j0<h.n) (a:x.P≠j0∧x.A≠j0∧x.U≠j0∧x.D≠j0∧x.K≠j0∧x.I≠j0):PgH x s T {h with objs:=upd h.objs j0 (some o)}:=by
 have q:∀j,j≠j0→upd h.objs j0 (some o) j=h.objs j:=fun j hj=>by simp only[upd];rw[if_neg hj]
 exact {
  oP:=(q _ a.1).trans g.oP
  oA:=(q _ a.2.1).trans g.oA
  oU:=(q _ a.2.2.1).trans g.oU
  oD:=(q _ a.2.2.2.1).trans g.oD
  oK:=(q _ a.2.2.2.2.1).trans g.oK
  oI:=(q _ a.2.2.2.2.2).trans g.oI
  lt:=g.lt
  ne:=g.ne
  fresh:=fun j hj=>(q j (by simp only at hj;omega)).trans (g.fresh j hj)
  toks:=g.toks
  tm:=g.tm
  tkm:=g.tkm
  tk0:=g.tk0}
theorem wQ {tid i:Nat} {r:Int} {n:Page.Node} {Q:PgS→Nat→Prop} (g:PgH x s T h) (ht:h.objs tid=some (trO x r)) (hn:Nb n) (hz:Page.size n≤1024)
  (ov:∀h1,PgH x s T h1→h1.objs tid=some (trO x r)→aI Tryz.prog 78 [.ptr tid 0,.int .i64 (i:Int),aD n] h1 fun q h2=>∃s' k,q= .int .i64 (k:Nat)∧PgH x s' T h2∧Q s' k∧cD x h1 h2∧aq h1 h2):
  aI Tryz.prog 86 [.ptr tid 0,.int .i64 (i:Int),aD n] h fun q h2=>∃s' k,q= .tup [.int .i64 (k:Nat),.agg [.str [],.int .i64 (-1)]]∧PgH x s' T h2∧Q s' k∧cD x h h2∧aq h h2:=by
 refine f86.bu af ?_
 unfold c86 zz
 have hlt:tid<h.n:=by
  rcases Nat.lt_or_ge tid h.n with q|q
  ·exact q
  ·rw[g.fresh _ q] at ht;cases ht
 have b:=pF n hn
 have d1:decide ((Page.size n:Int)≤1024)=true:=decide_eq_true ab
 unfold aD at b
 unfold aD
 have g1:=(g.new (aC n)).new (.cells [.str [],.int .i64 0])
 have ht1:(H.new (H.new h (aC n)) (.cells [.str [],.int .i64 0])).objs tid=some (trO x r):=(aL (Nat.lt_succ_of_lt hlt)).trans ((aL hlt).trans ht)
 have hn1:(H.new (H.new h (aC n)) (.cells [.str [],.int .i64 0])).objs (h.n+1)=some (.cells [.str [],.int .i64 0]):=bU (h:=H.new h (aC n))
 have sm1:cD x h (H.new (H.new h (aC n)) (.cells [.str [],.int .i64 0])):=cN.trans cN (Nat.le_succ _)
 have no1:aq h (H.new (H.new h (aC n)) (.cells [.str [],.int .i64 0])):=aq.trans bN bN (Nat.le_succ _) (Nat.le_succ _)
 have ln1:(H.new (H.new h (aC n)) (.cells [.str [],.int .i64 0])).n=h.n+1+1:=rfl
 refine rf1 d1 b ?_
 change an _ _ _ _ (H.new (H.new h (aC n)) (.cells [.str [],.int .i64 0])) _
 generalize H.new (H.new h (aC n)) (.cells [.str [],.int .i64 0])=h1 at*
 refine an.aT (vals:=[.ptr tid 0,.int .i64 (i:Int),aD n]) ae xA4 (ov h1 g1 ht1) fun q h2 ⟨s',k,hq,g2,hQ,sm2,no2⟩ n2 _=>?_
 subst hq
 refine an.aT (vals:=[]) ae xA4 Cl fun q h3 ⟨hq,hh3⟩ n3 _=>?_
 subst hq
 have lt:=g.lt
 have g3:PgH x s' T h3:=by rw[hh3];exact g2.new _
 have sm3:cD x h2 h3:=by rw[hh3];exact cN
 have no3:aq h2 h3:=by rw[hh3];exact bN
 have hn3:h3.objs (h.n+1)=some (.cells [.str [],.int .i64 0]):=by
  rw[hh3]
  exact (aL ab).trans ((sm2 _ ab ab ab ab ab ab ab).trans hn1)
 clear hh3
 refine an.evF (xAd hn3) ?_
 refine an.nil ?_
 refine Wp.ret ⟨trivial,.tup [.int .i64 k,.agg [.str [],.int .i64 (-1)]],?_,s',k,rfl,g3.other (j0:=h.n+1) ab ab,hQ,?_,?_⟩
 ·have e2:de [RV.tmp 6,RV.cell 7 (some 2)] (tm [(6,.int .i64 k),(7,.ptr (h.n+1) 0)]) ⟨upd h3.objs (h.n+1) (some (.cells [.str [],.int .i64 (-1)])),h3.n,h3.toks,h3.m⟩=some (.tup [.int .i64 k,.agg [.str [],.int .i64 (-1)]]):=by
   simp[de,rvs,rv,tm,upd,Av.part,shaped,aO]
  exact e2
 ·intro j hj a1 a2 a3 a4 a5 a6
  have e:(upd h3.objs (h.n+1) (some (.cells [.str [],.int .i64 (-1)])):Nat→Option Av.Obj) j=h3.objs j:=by simp only[upd];rw[if_neg ab]
  exact e.trans (((sm1.trans sm2 ab).trans sm3 ab) j hj a1 a2 a3 a4 a5 a6)
 ·exact aq.trans (aq.trans (aq.trans no1 no2 ab n2) no3 ab n3) (aq.set hn3) ab (Nat.le_refl _)
end
end Go.Proofs.YtbgmofhgfnmaiaaGreat.Tree
end
section
set_option maxRecDepth 100000
namespace Go.Proofs.YtbgmofhgfnmaiaaGreat.Tree
open Go Go.Av Go.Proofs Go.Proofs.YtbgmofhgfnmaiaaGreat.C Go.Proofs.YtbgmofhgfnmaiaaGreat.Page
open Go.Proofs.YtbgmofhgfnmaiaaGreat.Batch (Bs Pr prs aW)
section
variable {x:PgI} {s:PgS} {T:List Nat} {h:H}
theorem tq {tid i:Nat} {r:Int} {n:Page.Node} {Q:PgS→Nat→Prop} {Q2:PgS→Nat→PgS→Nat→Prop} (g:PgH x s T h) (ht:h.objs tid=some (trO x r)) (htx:tid≠x.P∧tid≠x.A∧tid≠x.U∧tid≠x.D∧tid≠x.K∧tid≠x.I) (hn:Nb n) (hs:Ns n) (hz:¬Page.size n≤1024) (hb:Page.size n≤1000000000)
  (ov:∀h1,PgH x s T h1→h1.objs tid=some (trO x r)→aI Tryz.prog 78 [.ptr tid 0,.int .i64 (i:Int),aD (split n).l] h1 fun q h2=>∃s' k,q= .int .i64 (k:Nat)∧PgH x s' T h2∧Q s' k∧cD x h1 h2∧aq h1 h2)
  (fr:∀s1 k h1,Q s1 k→PgH x s1 T h1→h1.objs tid=some (trO x r)→aI Tryz.prog 55 [.ptr tid 0,aD (split n).r] h1 fun q h2=>∃s2 k2,q= .int .i64 (k2:Nat)∧PgH x s2 T h2∧Q2 s1 k s2 k2∧cD x h1 h2∧aq h1 h2):
  aI Tryz.prog 86 [.ptr tid 0,.int .i64 (i:Int),aD n] h fun q h2=>∃s1 k s2 k2,q= .tup [.int .i64 (k:Nat),.agg [.str (split n).k,.int .i64 (k2:Nat)]]∧Q s1 k∧PgH x s2 T h2∧Q2 s1 k s2 k2∧cD x h h2∧aq h h2:=by
 refine f86.bu af ?_
 unfold c86 zz
 have hlt:tid<h.n:=by
  rcases Nat.lt_or_ge tid h.n with q|q
  ·exact q
  ·rw[g.fresh _ q] at ht;cases ht
 have b:=pF n hn
 have c:=DN n hn hs
 have d1:decide ((Page.size n:Int)≤1024)=false:=decide_eq_false ab
 generalize split n=sp at*
 unfold mG at c
 unfold aD at b c
 unfold aD
 have g1:=(((g.new (aC n)).new (.cells [.str [],.int .i64 0])).new (aC sp.l)).new (aC sp.r)
 have ht1:(H.new (H.new (H.new (H.new h (aC n)) (.cells [.str [],.int .i64 0])) (aC sp.l)) (aC sp.r)).objs tid=some (trO x r):=(aL (Nat.lt_succ_of_lt (Nat.lt_succ_of_lt (Nat.lt_succ_of_lt hlt)))).trans ((aL (Nat.lt_succ_of_lt (Nat.lt_succ_of_lt hlt))).trans ((aL (Nat.lt_succ_of_lt hlt)).trans ((aL hlt).trans ht)))
 have hn1:(H.new (H.new (H.new (H.new h (aC n)) (.cells [.str [],.int .i64 0])) (aC sp.l)) (aC sp.r)).objs (h.n+1)=some (.cells [.str [],.int .i64 0]):=(aL (Nat.lt_succ_of_lt (Nat.lt_succ_self _))).trans ((aL (Nat.lt_succ_self _)).trans (bU (h:=H.new h (aC n))))
 have hr1:(H.new (H.new (H.new (H.new h (aC n)) (.cells [.str [],.int .i64 0])) (aC sp.l)) (aC sp.r)).objs (h.n+1+1+1)=some (aC sp.r):=bU (h:=H.new (H.new (H.new h (aC n)) (.cells [.str [],.int .i64 0])) (aC sp.l))
 have sm1:cD x h (H.new (H.new (H.new (H.new h (aC n)) (.cells [.str [],.int .i64 0])) (aC sp.l)) (aC sp.r)):=((cN.trans cN (Nat.le_succ _)).trans cN (Nat.le_add_right _ 2)).trans cN (Nat.le_add_right _ 3)
 have no1:aq h (H.new (H.new (H.new (H.new h (aC n)) (.cells [.str [],.int .i64 0])) (aC sp.l)) (aC sp.r)):=aq.trans (aq.trans (aq.trans bN bN (Nat.le_succ _) (Nat.le_succ _)) bN (Nat.le_add_right _ 2) (Nat.le_succ _)) bN (Nat.le_add_right _ 3) (Nat.le_succ _)
 have ln1:(H.new (H.new (H.new (H.new h (aC n)) (.cells [.str [],.int .i64 0])) (aC sp.l)) (aC sp.r)).n=h.n+1+1+1+1:=rfl
 refine rf2 d1 b c ?_
 rw[kf (i:=h.n+1+1+1) (k:=h.n+1+1) _ _ _ ab,bn,bn]
 change an _ _ _ _ (H.new (H.new (H.new (H.new h (aC n)) (.cells [.str [],.int .i64 0])) (aC sp.l)) (aC sp.r)) _
 generalize H.new (H.new (H.new (H.new h (aC n)) (.cells [.str [],.int .i64 0])) (aC sp.l)) (aC sp.r)=h1 at*
 refine an.aT (vals:=[.ptr tid 0,.int .i64 (i:Int),aD sp.l]) ae xA4 (ov h1 g1 ht1) fun q h2 ⟨s1,k,hq,g2,hQ,sm2,no2⟩ n2 _=>?_
 subst hq
 have lt:=g.lt
 have ht2:h2.objs tid=some (trO x r):=(sm2 tid ab htx.1 htx.2.1 htx.2.2.1 htx.2.2.2.1 htx.2.2.2.2.1 htx.2.2.2.2.2).trans ht1
 have hn2:h2.objs (h.n+1)=some (.cells [.str [],.int .i64 0]):=(sm2 _ ab ab ab ab ab ab ab).trans hn1
 have hr2:h2.objs (h.n+1+1+1)=some (aC sp.r):=(sm2 _ ab ab ab ab ab ab ab).trans hr1
 unfold aC at hr2
 refine an.evF xAc ?_
 refine an.nil ?_
 refine rf0 hr2 ?_
 refine an.aT (vals:=[.ptr tid 0,aD sp.r]) ae xA4 (fr s1 k h2 hQ g2 ht2) fun q h3 ⟨s2,k2,hq,g3,hQ2,sm3,no3⟩ n3 _=>?_
 subst hq
 have hn3:h3.objs (h.n+1)=some (.cells [.str [],.int .i64 0]):=(sm3 _ ab ab ab ab ab ab ab).trans hn2
 refine an.evF (xAd hn3) ?_
 refine an.nil ?_
 refine Wp.ret ⟨trivial,.tup [.int .i64 k,.agg [.str sp.k,.int .i64 k2]],?_,s1,k,s2,k2,rfl,hQ,g3.other (j0:=h.n+1) ab ab,hQ2,?_,?_⟩
 ·have e2:de [RV.tmp 6,RV.cell 7 (some 2)] (tm [(6,.int .i64 k),(7,.ptr (h.n+1) 0)]) ⟨upd h3.objs (h.n+1) (some (.cells [.str sp.k,.int .i64 k2])),h3.n,h3.toks,h3.m⟩=some (.tup [.int .i64 k,.agg [.str sp.k,.int .i64 k2]]):=by
   simp[de,rvs,rv,tm,upd,Av.part,shaped,aO]
  exact e2
 ·intro j hj a1 a2 a3 a4 a5 a6
  have e:(upd h3.objs (h.n+1) (some (.cells [.str sp.k,.int .i64 k2])):Nat→Option Av.Obj) j=h3.objs j:=by simp only[upd];rw[if_neg ab]
  exact e.trans (((sm1.trans sm2 ab).trans sm3 ab) j hj a1 a2 a3 a4 a5 a6)
 ·exact aq.trans (aq.trans (aq.trans no1 no2 ab n2) no3 ab n3) (aq.set hn3) ab (Nat.le_refl _)
end
end Go.Proofs.YtbgmofhgfnmaiaaGreat.Tree
end
section
set_option maxRecDepth 100000
namespace Go.Proofs.YtbgmofhgfnmaiaaGreat.Tree
open Go Go.Av Go.Proofs Go.Proofs.YtbgmofhgfnmaiaaGreat.C Go.Proofs.YtbgmofhgfnmaiaaGreat.Page
open Go.Proofs.YtbgmofhgfnmaiaaGreat.Batch (Bs Pr prs aW)
def kW (k:Int):Value:= .iface 37 (.int .i64 k)
def dz (h:H) (n0:Nat) (K:AV) (xs:List AV) (c:Nat):Prop:=(xs=[]∧K= .sl 1 [] (.exact 0))∨∃a,K= .tsl 1 a 0 xs.length none∧h.objs a=some (.cells xs)∧n0≤a∧a<h.n∧a≠c∧0<xs.length
theorem dz.keep {h h':H} {n0 c c':Nat} {K:AV} {xs:List AV} (r:dz h n0 K xs c) (hn:h.n≤h'.n) (ho:∀j,n0≤j→j<h.n→j≠c→h'.objs j=h.objs j) (hc:∀a,a<h.n→a≠c→a≠c'):dz h' n0 K xs c':=by
 rcases r with r|⟨a,r1,r2,r3,r4,r5,r6⟩
 ·exact .inl r
 ·exact .inr ⟨a,r1,(ho a r3 r4 r5).trans r2,r3,ab,hc a r4 r5,r6⟩
theorem dz.un {h:H} {n0 c:Nat} {K:AV} {xs:List AV} (r:dz h n0 K xs c):av (unT h (fun _=>true) K) (.sl 1 xs .any):=by
 rcases r with ⟨rfl,rfl⟩|⟨a,rfl,r2,-⟩
 ·simp only[unT];exact av.cap
 ·simp[unT,r2];exact av.refl _
theorem dz.cell {h:H} {n0 c:Nat} {K:AV} {xs:List AV} (r:dz h n0 K xs c):aO K=true:=by
 rcases r with ⟨rfl,rfl⟩|⟨a,rfl,r2,-⟩ <;>rfl
theorem Cm {h:H} {c:Nat} {xs:List AV} (r2:h.objs c=some (.cells xs)):av (unT h (fun _=>true) (.tsl 1 c 0 xs.length none)) (.sl 1 xs .any):=by
 simp[unT,r2];exact av.refl _
def ndO (K:AV) (c k:Nat):Av.Obj:= .cells [.bool false,K,.sl 1 [] (.exact 0),.tsl 1 c 0 k none]
structure RdI (b:List UInt8) (h0:H) (i:Nat) (a:Acc) (h:H):Prop where
 o0:h.objs h0.n=some (.cells dg)
 o1:h.objs (h0.n+1)=some (bX b a.s)
 o2:∃K c,h.objs (h0.n+2)=some (ndO K c a.kids.length)∧h.objs c=some (.cells (ints a.kids))∧dz h (h0.n+3) K (strs a.keys) c∧h0.n+3≤c∧c<h.n
 kp:Kept h0 h
 ln:h0.n+3≤h.n
 lm:h0.m≤h.m
 tk:h.toks=h0.toks
 fr:∀j,h.n≤j→h.objs j=none
theorem Cn (b:List UInt8) (s:Scan) (w:Nat) (hb:b.length≤1099511627776) (hs:s.pos≤b.length) (hw:w≤4) (id:Nat):sI Tryz.prog 100 [.ptr id 0,.int .i64 w] id (bX b s) (.int .i64 (dv b s w).1) (bX b (dv b s w).2):=
 fun n m=>⟨m,Nat.le_refl _,ko b s w hb hs hw id n m⟩
theorem Ee (b:List UInt8) (s:Scan) (w:Nat) (hb:b.length≤1099511627776) (hs:s.pos≤b.length) (hw:w≤4) (id:Nat):sI Tryz.prog 101 [.ptr id 0,.int .i64 w] id (bX b s) (.str (bI b s w).1) (bX b (bI b s w).2):=
 fun n m=>⟨m,Nat.le_refl _,sR b s w hb hs hw id n m⟩
theorem Ef {b:List UInt8}:∀(c:Nat) (a:Acc),(eV false b c a).s.ok=true→a.s.ok=true
 |0,a,h=>h
 |c+1,a,h=>by
  unfold eV at h
  split at h
  ·assumption
  ·exact h
set_option maxHeartbeats 2000000 in
theorem Fy {h:H} {b:List UInt8} (hf:∀j,h.n≤j→h.objs j=none) (hE:lj b=0) (hlf:(fC b).leaf=false):
  aI Tryz.prog 72 [.sl 1 (ar b) .any] h fun q h'=>∃K c,q= .tup [.agg [.bool false,K,.sl 1 [] (.exact 0),.tsl 1 c 0 (fC b).kids.length none],.int .i64 0]∧h'.objs c=some (.cells (ints (fC b).kids))∧dz h' (h.n+3) K (strs (fC b).keys) c∧h.n+3≤c∧c<h'.n∧Kept h h'∧aq h h'∧h'.toks=h.toks∧(∀j,h'.n≤j→h'.objs j=none):=by
 have hP:fQ b=true:=by
  unfold lj at hE
  split at hE
  ·assumption
  ·cases hE
 have hP2:=hP
 unfold fQ at hP2
 simp only[Bool.and_eq_true,decide_eq_true_eq] at hP2
 obtain ⟨⟨⟨hb,hok⟩,hchk⟩,hbb⟩:=hP2
 unfold fC at hlf ⊢
 rw[if_pos hP] at hlf ⊢
 have hlo:bM b=false:=hlf
 obtain ⟨htag,hbl⟩:=(pP hb hok hchk).1 hbb
 have h73:decide (b.getD 0 0=73)=true:=by
  unfold pO at htag
  unfold bM at hlo
  rw[hlo] at htag
  simpa using htag
 have en:dv b ⟨1,true⟩ 2=(val ((b.drop 1).take 2),⟨3,true⟩):=by rw[dv,if_pos ak]
 have hcn:=pM b
 have hI0:=Inv.start false b ab
 have hacc:br b=eV false b (val ((b.drop 1).take 2)) (dI false b):=by unfold br;rw[hlo]
 have hS1:=Cn b ⟨1,true⟩ 2 ab ak ab (h.n+1)
 have hS2:=Cn b ⟨3,true⟩ 4 ab ak ab (h.n+1)
 rw[en] at hS1
 simp only at hS1
 have hvals:(br b).vals=[]∧(cz b).kids=(br b).kids∧(cz b).keys=(br b).keys:=by
  have hr:=cM (n:=cz b) hlf
  exact ⟨(hr.1 (gV hchk).1).2.1,rfl,rfl⟩
 generalize hC:val ((b.drop 1).take 2)=C at*
 refine f72.bu af ?_
 unfold c72 zz
 have d0:decide ((b.length:Int)=1024)=true:=decide_eq_true ab
 have x0:(0:Int)<(b.length:Int):=by omega
 have y0:(0:Int)≤(0:Int):=by omega
 have z0:(0:Int).toNat=0:=rfl
 have b0:=jG b 0 .any ab
 have hj2:=mL b
 have hj1:=kK b
 rw[h73] at hj2
 rw[hlo] at hj1
 refine rf0 (cj8 d0 x0 y0 z0 b0 @byte.eq_1 hj1 hj2) ?_
 rw[bn]
 refine an.uq xA2 xAb ((by simp[upd,bX])) (hS1) fun m1 hm1=>?_
 refine an.evF xAc ?_
 refine an.nil ?_
 have e3:upd (upd (upd (upd h.objs h.n (some (Av.Obj.cells dg))) (h.n+1) (some (bX b ⟨1,true⟩))) (h.n+1+1) (some (.cells dg))) (h.n+1) (some (bX b ⟨3,true⟩))=upd (upd (upd h.objs h.n (some (Av.Obj.cells dg))) (h.n+1) (some (bX b ⟨3,true⟩))) (h.n+2) (some (.cells dg)):=by
  funext j;simp only[upd]
  by_cases q1:j=h.n+1
  ·subst q1;simp
  ·simp[q1]
 refine Wp.le (s':=⟨tm [(0,.sl 1 (ar b) .any),(2,.ptr h.n 0),(4,.ptr (h.n+1) 0),(5,.ptr (h.n+2) 0),(6,.int .i64 C)],⟨upd (upd (upd h.objs h.n (some (Av.Obj.cells dg))) (h.n+1) (some (bX b ⟨3,true⟩))) (h.n+2) (some (.cells dg)),h.n+3,h.toks,m1⟩⟩) (aK.of (bp ?_) ?_ (fun y hy=>hy) (Nat.le_refl _) (Nat.le_refl _)) ?_
 ·exact xSb
 ·exact e3▸OLe.refl _
 have j0:(upd (upd (upd h.objs h.n (some (Av.Obj.cells dg))) (h.n+1) (some (bX b ⟨3,true⟩))) (h.n+2) (some (.cells dg)):Nat→Option Av.Obj) h.n=some (.cells dg):=by simp[upd]
 have j1:(upd (upd (upd h.objs h.n (some (Av.Obj.cells dg))) (h.n+1) (some (bX b ⟨3,true⟩))) (h.n+2) (some (.cells dg)):Nat→Option Av.Obj) (h.n+1)=some (bX b ⟨3,true⟩):=by simp[upd]
 have j2:(upd (upd (upd h.objs h.n (some (Av.Obj.cells dg))) (h.n+1) (some (bX b ⟨3,true⟩))) (h.n+2) (some (.cells dg)):Nat→Option Av.Obj) (h.n+2)=some (.cells dg):=by simp[upd]
 have jk:∀j,j<h.n→(upd (upd (upd h.objs h.n (some (Av.Obj.cells dg))) (h.n+1) (some (bX b ⟨3,true⟩))) (h.n+2) (some (.cells dg)):Nat→Option Av.Obj) j=h.objs j:=fun j hj=>by simp only[upd];rw[if_neg ab,if_neg ab,if_neg ab]
 have jf:∀j,h.n+3≤j→(upd (upd (upd h.objs h.n (some (Av.Obj.cells dg))) (h.n+1) (some (bX b ⟨3,true⟩))) (h.n+2) (some (.cells dg)):Nat→Option Av.Obj) j=none:=fun j hj=>by simp only[upd];rw[if_neg ab,if_neg ab,if_neg ab];exact hf j ab
 generalize (upd (upd (upd h.objs h.n (some (Av.Obj.cells dg))) (h.n+1) (some (bX b ⟨3,true⟩))) (h.n+2) (some (.cells dg)):Nat→Option Av.Obj)=F at*
 unfold dg at j2
 refine rf0 j2 ?_
 refine Wp.reg ?_
 refine ao.part 3 (xAe j2) ?_
 simp only[List.drop_succ_cons,List.drop_zero,List.drop_nil]
 refine ao.uq xA2 xAb ((j1)) (hS2) fun m2 hm2=>?_
 refine ao.part 1 xA1 ?_
 simp only[List.drop_succ_cons,List.drop_zero,List.drop_nil]
 refine ao.opT xA2 (by simp only[gE,go_sem,reduceIte,Nat.reduceEqDiff,Nat.reduceAdd,bx];exact rfl) rfl ?_
 refine ao.part 2 (xAe j2) ?_
 simp only[List.drop_succ_cons,List.drop_zero,List.drop_nil]
 refine ao.nil ⟨by simp[bg,aS,apart,aV],?_⟩
 have R0:RdI b h 0 (dI false b) ⟨upd (upd (upd F (h.n+1) (some (bX b (dv b ⟨3,true⟩ 4).2))) (h.n+3) (some (.cells (List.flatMap cellsOf [AV.int .i64 (dv b ⟨3,true⟩ 4).1])))) (h.n+2) (some (.cells [AV.bool false,AV.sl 1 [] (.exact 0),AV.sl 1 [] (.exact 0),AV.tsl 1 (h.n+3) 0 1 none])),h.n+3+1,h.toks,m2⟩:=by
  refine ⟨by simp[upd,j0],by simp[upd,dI],⟨.sl 1 [] (.exact 0),h.n+3,by simp[upd,ndO,dI],by simp[upd,dI,ints,cellsOf],.inl ⟨by simp[dI,strs],rfl⟩,Nat.le_refl _,Nat.lt_succ_self _⟩,fun j hj=>?_,by simp only;omega,?_,rfl,fun j hj=>?_⟩
  ·simp only[upd];rw[if_neg ab,if_neg ab,if_neg ab];exact jk j hj
  ·exact Nat.le_trans hm1 hm2
  ·simp only at hj
   simp only[upd];rw[if_neg ab,if_neg ab,if_neg ab];exact jf j ab
 generalize (⟨upd (upd (upd F (h.n+1) (some (bX b (dv b ⟨3,true⟩ 4).2))) (h.n+3) (some (.cells (List.flatMap cellsOf [AV.int .i64 (dv b ⟨3,true⟩ 4).1])))) (h.n+2) (some (.cells [AV.bool false,AV.sl 1 [] (.exact 0),AV.sl 1 [] (.exact 0),AV.tsl 1 (h.n+3) 0 1 none])),h.n+3+1,h.toks,m2⟩:H)=g0 at*
 clear hm1 hm2 hS1 hS2 j0 j1 j2 jk jf e3 F
 refine Wp.seq (Wp.block ?_)
 refine Wp.eH [0,2,4,5] xA7 (fun q:Nat × Acc × H=>[(6,.int .i64 ((C - q.1:Nat):Int))]) (fun q=>q.2.2) (fun q=>q.1≤C∧RdI b h q.1 q.2.1 q.2.2∧Page.Inv false b q.1 q.2.1∧eV false b (C - q.1) q.2.1=br b) (fun q=>C - q.1) (0,dI false b,g0) ⟨Nat.zero_le _,R0,hI0,hacc.symm⟩ rfl ?_ ?_
 ·exact xSb
 clear R0
 rintro ⟨i,a,g⟩ ⟨hi,R,I,L⟩
 simp only at hi R I L
 have hao:a.s.ok=true:=Ef _ _ (by rw[L];exact hok)
 have o1:=R.o1
 unfold bX at o1
 rw[hao] at o1
 obtain ⟨K,c,o2,oc,rK,hc1,hc2⟩:=R.o2
 have ln:=R.ln
 by_cases hlt:i<C
 ·have d1:decide ((0:Int)<((C - i:Nat):Int))=true:=decide_eq_true ab
  have e1:IntKind.i64.wrap (((C - i:Nat):Int) - 1)=((C - (i+1):Nat):Int):=by rw[IntWalk.i64_in _ ab];omega
  have hst:eV false b (C - (i+1)) (eB false b a)=br b:=by
   rw[←L,show C - i=(C - (i+1))+1 by omega,eV,if_pos hao]
  have hI':=I.step
  have lk:=I.k
  have ld:=I.d
  have hP1:=Ee b a.s 1 ab I.pos ab (h.n+1)
  have hN1:=Cn b (bI b a.s 1).2 4 ab (kJ I.pos) ab (h.n+1)
  refine rf0 (cj2 d1 o1) ?_
  have hks:∀k,(strs (a.keys++[k])).length=(strs a.keys).length+1:=fun k=>by simp[strs]
  have hfm:∀k,strs a.keys++List.flatMap cellsOf [AV.str k]=strs (a.keys++[k]):=fun k=>by simp[strs,cellsOf]
  have lks:(strs a.keys).length=a.keys.length:=by simp[strs]
  refine Wp.ex (β:=H) (fun g2=>⟨tm [(0,.sl 1 (ar b) .any),(2,.ptr h.n 0),(4,.ptr (h.n+1) 0),(5,.ptr (h.n+2) 0),(6,.int .i64 ((C - i:Nat):Int))],g2⟩) (fun g2=>RdI b h i ⟨a.keys++[(bI b a.s 1).1],a.vals,a.kids,(bI b a.s 1).2⟩ g2) (Wp.reg ?_) fun g2 s' R2 le=>?_
  ·unfold ndO at o2
   refine ao.part 3 (xAe o2) ?_
   simp only[List.drop_succ_cons,List.drop_zero,List.drop_nil]
   refine ao.uq xA2 xAb ((R.o1)) (hP1) fun m2 hm2=>?_
   refine ao.part 1 xA1 ?_
   simp only[List.drop_succ_cons,List.drop_zero,List.drop_nil]
   have r1:¬(h.n+1=g.n):=by omega
   have r2:¬(h.n+2=g.n):=by omega
   have r3:¬(h.n=g.n):=by omega
   rcases rK with ⟨k1,rfl⟩|⟨ka,rfl,k2,k3,k4,k5,k6⟩
   ·have k1':a.keys=[]:=List.map_eq_nil_iff.1 k1
    refine ao.opT xA2 (by simp only[gE,go_sem,reduceIte,Nat.reduceEqDiff,Nat.reduceAdd,bx];exact rfl) rfl ?_
    refine ao.part 2 (xAe (cj2 o2 r2)) ?_
    simp only[List.drop_succ_cons,List.drop_zero,List.drop_nil]
    refine ao.nil ⟨by simp[bg,aS,apart,aV],?_⟩
    refine ⟨_,?_,aK.tm ?_⟩
    ·refine ⟨by simp[upd,r3,R.o0],by simp[upd,r1],⟨.tsl 1 g.n 0 1 none,c,by simp[upd,ndO],?_,.inr ⟨g.n,by simp[k1',strs],?_,ln,Nat.lt_succ_self _,ab,by simp[strs]⟩,hc1,Nat.lt_succ_of_lt hc2⟩,fun j hj=>?_,by simp only;omega,Nat.le_trans R.lm hm2,R.tk,fun j hj=>?_⟩
     ·simp only[upd];rw[if_neg ab,if_neg ab,if_neg ab];exact oc
     ·simp only[upd];rw[if_neg ab];simp[k1',strs,cellsOf]
     ·simp only[upd];rw[if_neg ab,if_neg ab,if_neg ab];exact R.kp j hj
     ·simp only at hj
      simp only[upd];rw[if_neg ab,if_neg ab,if_neg ab];exact R.fr j ab
    ·exact xSb
   ·have q1:(strs a.keys).length=(strs a.keys).length*1:=(Nat.mul_one _).symm
    have q2:(a.keys.length+1)*16≤140737488355328:=by omega
    have q3:a.keys.length+1<4611686018427387904:=by omega
    have r4:¬(ka=h.n+1):=by omega
    have r5:¬(h.n+2=ka):=by omega
    have q4:strs a.keys++[AV.str (bI b a.s 1).1]=strs (a.keys++[(bI b a.s 1).1]):=by simp[strs]
    have q5:List.flatMap cellsOf [AV.str (bI b a.s 1).1]=[AV.str (bI b a.s 1).1]:=rfl
    refine ao.opK xA2 (by simp only[mz,go_sem,reduceIte,Nat.reduceEqDiff,Nat.reduceAdd,bx,r4,k2,q2,q3,List.all_cons,List.all_nil,Nat.mul_one,and_self,decide_true,Bool.and_self,lks,if_true];exact rfl) rfl ?_
    refine ao.part 2 (xAe (cj3 o2 r2 r5)) ?_
    simp only[List.drop_succ_cons,List.drop_zero,List.drop_nil]
    refine ao.nil ⟨by simp[bg,aS,apart,aV],?_⟩
    refine ⟨_,?_,aK.tm ?_⟩
    ·refine ⟨?_,by simp[upd,r1,Ne.symm r4],⟨.tsl 1 g.n 0 (a.keys.length+1) none,c,by simp[upd,ndO],?_,.inr ⟨g.n,by simp[strs],?_,ln,Nat.lt_succ_self _,ab,by simp[strs]⟩,hc1,Nat.lt_succ_of_lt hc2⟩,fun j hj=>?_,by simp only;omega,Nat.le_trans R.lm hm2,R.tk,fun j hj=>?_⟩
     ·simp only[upd];rw[if_neg ab,if_neg ab,if_neg ab,if_neg ab];exact R.o0
     ·simp only[upd];rw[if_neg ab,if_neg ab,if_neg ab,if_neg ab];exact oc
     ·simp only[upd];rw[if_neg ab,if_pos trivial,q5,q4]
     ·simp only[upd];rw[if_neg ab,if_neg ab,if_neg ab,if_neg ab];exact R.kp j hj
     ·simp only at hj
      simp only[upd];rw[if_neg ab,if_neg ab,if_neg ab,if_neg ab];exact R.fr j ab
    ·exact xSb
  ·refine Wp.le le ?_
   clear le R o1 o2 oc rK
   have o1:=R2.o1
   obtain ⟨K2,c2,o2,oc,rK,hc1,hc2⟩:=R2.o2
   have ln:=R2.ln
   unfold ndO at o2
   simp only at oc rK o2
   have lki:(ints a.kids).length=a.kids.length:=by simp[ints]
   have q2:(a.kids.length+1)*8≤140737488355328:=by omega
   have q3:a.kids.length+1<4611686018427387904:=by omega
   have r1:¬(h.n+1=g2.n):=by omega
   have r2:¬(h.n+2=g2.n):=by omega
   have r4:¬(c2=h.n+1):=by omega
   have r5:¬(h.n+2=c2):=by omega
   refine rf0 o2 ?_
   refine Wp.reg ?_
   refine ao.part 3 (xAe o2) ?_
   simp only[List.drop_succ_cons,List.drop_zero,List.drop_nil]
   refine ao.uq xA2 xAb ((o1)) (hN1) fun m2 hm2=>?_
   refine ao.part 1 xA1 ?_
   simp only[List.drop_succ_cons,List.drop_zero,List.drop_nil]
   refine ao.opK xA2 (by simp only[mz,go_sem,reduceIte,Nat.reduceEqDiff,Nat.reduceAdd,bx,r4,oc,q2,q3,List.all_cons,List.all_nil,Nat.mul_one,and_self,decide_true,Bool.and_self,lki,if_true];exact rfl) rfl ?_
   refine ao.part 2 (xAe (cj3 o2 r2 r5)) ?_
   simp only[List.drop_succ_cons,List.drop_zero,List.drop_nil]
   refine ao.nil ⟨by simp[bg,aS,apart,aV],?_⟩
   refine rf0 e1 ?_
   refine ⟨(i+1,eB false b a,_),⟨by simp only;omega,?_,hI',hst⟩,by simp only;omega,aK.tm ?_⟩
   ·refine ⟨?_,by simp[upd,r1,Ne.symm r4,eB],⟨K2,g2.n,by simp[upd,ndO,eB],?_,?_,ln,Nat.lt_succ_self _⟩,fun j hj=>?_,by simp only;omega,Nat.le_trans R2.lm hm2,R2.tk,fun j hj=>?_⟩
    ·simp only[upd];rw[if_neg ab,if_neg ab,if_neg ab,if_neg ab];exact R2.o0
    ·simp only[upd];rw[if_neg ab];simp[eB,ints,cellsOf]
    ·rcases rK with ⟨k1,k2⟩|⟨ka,k1,k2,k3,k4,k5,k6⟩
     ·exact .inl ⟨by simpa [eB] using k1,k2⟩
     ·refine .inr ⟨ka,by simpa [eB] using k1,?_,k3,Nat.lt_succ_of_lt k4,ab,by simpa [eB] using k6⟩
      simp only[upd];rw[if_neg ab,if_neg ab,if_neg ab,if_neg ab];simpa [eB] using k2
    ·simp only[upd];rw[if_neg ab,if_neg ab,if_neg ab,if_neg ab];exact R2.kp j hj
    ·simp only at hj
     simp only[upd];rw[if_neg ab,if_neg ab,if_neg ab,if_neg ab];exact R2.fr j ab
   ·exact xSb
 ·have hi2:i=C:=by omega
  subst hi2
  have ha:a=br b:=by rw[←L,Nat.sub_self,eV]
  subst ha
  have d1:decide ((0:Int)<((i - i:Nat):Int))=false:=decide_eq_false ab
  have hn:=xL hb
  have hcl:∀K2,av (unT g (fun _=>true) K2) (.sl 1 (strs (cz b).keys) .any)→ay (gR g (fun _=>true) [.agg [.bool false,K2,.sl 1 [] (.exact 0),.tsl 1 c 0 (br b).kids.length none]]) [aD (cz b)]:=by
   intro K2 hK
   have hk2:(br b).kids.length=(ints (br b).kids).length:=by simp[ints]
   have hT:av (unT g (fun _=>true) (.tsl 1 c 0 (br b).kids.length none)) (.sl 1 (ints (cz b).kids) .any):=by
    rw[hk2];exact Cm oc
   have hv:(cz b).vals=[]:=hvals.1
   unfold aD
   rw[hlf,hv]
   simp only[gR]
   refine ay.cons ?_ ay.nil
   simp only[unT,gR]
   simp only[unT] at hT
   exact av.agg (ay.cons (av.refl _) (ay.cons hK (ay.cons av.cap (ay.cons hT ay.nil))))
  have c3:aJ Tryz.prog 103 [.agg [.bool false,K,.sl 1 [] (.exact 0),.tsl 1 c 0 (br b).kids.length none]] g (.int .i64 (check (cz b))) g:=aZ.EG (mE _ hn) (hcl K rK.un) (fun _ _ _ _ h=>by simpa [aw] using h)
  rw[hchk] at c3
  have hblank:=pQ (b.drop (br b).s.pos) ak
  have hbl2:(b.drop (br b).s.pos).any (fun c=>decide (c≠0))=false:=by
   unfold jh at hbl
   simpa using hbl
  rw[hbl2] at hblank
  have x1:(0:Int)≤((br b).s.pos:Int):=by omega
  have x2:((br b).s.pos:Int)≤(b.length:Int):=by have:=I.pos;omega
  have d2:decide (((0:Nat):Int)=0)=true:=by decide
  unfold ndO at o2
  refine rg2 (cj9 d1 o1 o2 x1 x2 d2 @gY @gZ @List.take_length.{0}) hblank c3 ?_
  have o0:=R.o0
  unfold dg at o0
  have hKc:=rK.cell
  unfold aO at hKc
  refine rf0 (cj3 o0 o2 hKc) ?_
  have q0:∀j,j≠h.n→(upd g.objs h.n (some (.cells [AV.bool false,K,.sl 1 [] (.exact 0),.tsl 1 c 0 (br b).kids.length none])):Nat→Option Av.Obj) j=g.objs j:=fun j hj=>by simp only[upd];rw[if_neg hj]
  refine Wp.ret ?_
  refine ⟨trivial,.tup [.agg [.bool false,K,.sl 1 [] (.exact 0),.tsl 1 c 0 (cz b).kids.length none],.int .i64 0],?_,K,c,rfl,(q0 _ ab).trans oc,?_,hc1,hc2,fun j hj=>(q0 _ ab).trans (R.kp j hj),fun j hj=>?_,R.tk,fun j hj=>(q0 _ (by simp only at hj;omega)).trans (R.fr j hj)⟩
  ·simp[de,rvs,rv,tm,upd,Av.part,shaped,aO,cz]
  ·exact rK.keep (Nat.le_refl _) (fun j h1 h2 _=>q0 _ ab) (fun a _ h=>h)
  ·have hj:((upd g.objs h.n (some (.cells [AV.bool false,K,.sl 1 [] (.exact 0),.tsl 1 c 0 (br b).kids.length none])):Nat→Option Av.Obj) j).isSome=true:=hj
   by_cases e:j<h.n
   ·left
    rw[q0 _ ab,R.kp j e] at hj
    exact hj
   ·right
    refine ⟨ab,?_⟩
    show j<g.n
    rcases Nat.lt_or_ge j g.n with e2|e2
    ·exact e2
    ·rw[q0 _ ab,R.fr j e2] at hj;cases hj
end Go.Proofs.YtbgmofhgfnmaiaaGreat.Tree
end
section
set_option maxRecDepth 100000
namespace Go.Proofs.YtbgmofhgfnmaiaaGreat.Tree
open Go Go.Av Go.Proofs Go.Proofs.YtbgmofhgfnmaiaaGreat.C Go.Proofs.YtbgmofhgfnmaiaaGreat.Page
open Go.Proofs.YtbgmofhgfnmaiaaGreat.Batch (Bs Pr prs aW)
section
variable {h:H}
theorem pZ {h1:H} {id:Nat} (hs:h1.sub h) (hn:h1.n=h.n) (hm:h1.m=h.m) (ht:h1.toks=[]) (h0:(h1.objs id).isSome=true):h.patch h1 (h1.less id)=h.less id:=by
 refine H.ext (fun j=>?_) hn (by simp[H.patch,H.less,ht,eP]) hm
 simp only[H.patch,H.less]
 by_cases e:j=id
 ·subst e;simp[h0]
 ·simp only[e,if_false]
  by_cases q:(h1.objs j).isSome=true
  ·obtain ⟨o,ho⟩:=Option.isSome_iff_exists.1 q
   simp[ho,hs.1 _ _ ho]
  ·have q2:¬((h1.objs j).isSome=true∨h1.n≤j∧j<h1.n):=by
    rintro (x|x)
    ·exact q x
    ·omega
   split
   ·exact absurd ‹_› q2
   ·rfl
theorem rJ {id:Nat} {o:Av.Obj} (ho:h.objs id=some o):(H.only (upd az id (some o)) [] h.n h.m).sub h:=by
 refine ⟨fun j o' hj=>?_,fun t ht=>by simp[H.only] at ht⟩
 simp only[H.only,upd,az] at hj
 split at hj
 ·rename_i e;subst e;rw[ho];exact hj
 ·cases hj
theorem An {id id2:Nat} {o o2:Av.Obj} (ho:h.objs id=some o) (ho2:h.objs id2=some o2):(H.only (upd (upd az id (some o)) id2 (some o2)) [] h.n h.m).sub h:=by
 refine ⟨fun j o' hj=>?_,fun t ht=>by simp[H.only] at ht⟩
 simp only[H.only,upd,az] at hj
 split at hj
 ·rename_i e;subst e;rw[ho2];exact hj
 ·split at hj
  ·rename_i e;subst e;rw[ho];exact hj
  ·cases hj
theorem aJ.Co {f:FuncId} {args:List AV} {r:AV} {id:Nat} {o:Av.Obj} (ho:h.objs id=some o) (hc:∀h1:H,h1.objs=upd az id (some o)→h1.toks=[]→aJ Tryz.prog f args h1 r (h1.less id)):aJ Tryz.prog f args h r (h.less id):=by
 rw[←pZ (rJ ho) rfl rfl rfl (id:=id) (by simp[H.only,upd])]
 exact aJ.frame (rJ ho) rfl rfl (Nat.le_refl _) (Nat.le_refl _) (hc _ rfl rfl)
theorem aJ.Cp {f:FuncId} {args:List AV} {r:AV} {id id2 k:Nat} {o o2:Av.Obj} (ho:h.objs id=some o) (ho2:h.objs id2=some o2) (hk:k=id∨k=id2) (hc:∀h1:H,h1.objs id=some o→h1.objs id2=some o2→h1.toks=[]→aJ Tryz.prog f args h1 r (h1.less k)):aJ Tryz.prog f args h r (h.less k):=by
 have q1:(upd (upd az id (some o)) id2 (some o2):Nat→Option Av.Obj) id2=some o2:=by simp[upd]
 have q2:(upd (upd az id (some o)) id2 (some o2):Nat→Option Av.Obj) id=some o:=by
  simp only[upd]
  by_cases e:id=id2
  ·subst e;have e2:o2=o:=Option.some.inj (ho2.symm.trans ho);simp[e2]
  ·rw[if_neg e];simp
 have hs:=An ho ho2
 rw[←pZ hs rfl rfl rfl (id:=k) (by
  show ((upd (upd az id (some o)) id2 (some o2):Nat→Option Av.Obj) k).isSome=true
  rcases hk with rfl|rfl
  ·rw[q2];rfl
  ·rw[q1];rfl)]
 exact aJ.frame hs rfl rfl (Nat.le_refl _) (Nat.le_refl _) (hc _ q2 q1 rfl)
def Cq (h h':H) (P:Nat→Prop):Prop:=h'.n=h.n∧h'.m=h.m∧h'.toks=h.toks∧∃a,P a∧∀j,h'.objs j=if j=a then none else h.objs j
theorem qa {f:FuncId} {args:List AV} {r:AV} {k:Nat} {P:Nat→Prop} (hc:aJ Tryz.prog f args h r (h.less k)) (hp:P k):aI Tryz.prog f args h fun q h'=>q=r∧Cq h h' P:=
 ⟨r,_,hc,Nat.le_refl _,Nat.le_refl _,rfl,rfl,rfl,rfl,k,hp,fun j=>rfl⟩
theorem Ao (l:List (List UInt8)) (i:Nat) (x:List UInt8) (hi:i≤l.length) (hl:l.length<1099511627776) {K:AV} {n0 c id2:Nat} (r:dz h n0 K (strs l) c) (ho2:h.objs id2=some (.cells [.str x])) (h3:∀a,K= .tsl 1 a 0 l.length none→a≠id2):
  aI Tryz.prog 88 [K,.int .i64 i,.tsl 1 id2 0 1 none] h fun q h'=>q= .sl 1 (strs (l.take i++x::l.drop i)) .any∧Cq h h' fun a=>K= .tsl 1 a 0 l.length none∨a=id2:=by
 rcases r with ⟨k1,rfl⟩|⟨a,rfl,k2,k3,k4,k5,k6⟩
 ·have e:l=[]:=List.map_eq_nil_iff.1 k1
  subst e
  have e2:i=0:=by simpa using hi
  subst e2
  exact qa (aJ.Co ho2 fun hx e1 e2=>uz x (by rw[e1];simp[upd]) e2) (.inr rfl)
 ·have e:(strs l).length=l.length:=by simp[strs]
  rw[e] at k6 ⊢
  exact qa (aJ.Cp k2 ho2 (.inl rfl) fun hx e1 e2 e3=>ux l i x hi hl k6 (h3 a (by rw[e])) e1 e2 e3) (.inl rfl)
theorem Ap (l:List Int) (i:Nat) (x:Int) (hi:i≤l.length) (hl:l.length<1099511627776) (hp:0<l.length) {c id2:Nat} (ho:h.objs c=some (.cells (ints l))) (ho2:h.objs id2=some (.cells [.int .i64 x])) (h3:c≠id2):
  aI Tryz.prog 89 [.tsl 1 c 0 l.length none,.int .i64 i,.tsl 1 id2 0 1 none] h fun q h'=>q= .sl 1 (ints (l.take i++x::l.drop i)) .any∧Cq h h' fun a=>a=c:=
 qa (aJ.Cp ho ho2 (.inl rfl) fun hx e1 e2 e3=>zW l i x hi hl hp h3 e1 e2 e3) rfl
theorem Aq (l:List (List UInt8)) (i:Nat) (hi:i<l.length) (hl:l.length<1099511627776) {K:AV} {n0 c:Nat} (r:dz h n0 K (strs l) c):
  aI Tryz.prog 80 [K,.int .i64 i,.int .i64 ((i+1:Nat):Int)] h fun q h'=>q= .sl 1 (strs (l.take i++l.drop (i+1))) .any∧Cq h h' fun a=>K= .tsl 1 a 0 l.length none:=by
 rcases r with ⟨k1,rfl⟩|⟨a,rfl,k2,k3,k4,k5,k6⟩
 ·have e:l=[]:=List.map_eq_nil_iff.1 k1
  subst e
  cases hi
 ·have e:(strs l).length=l.length:=by simp[strs]
  rw[e]
  exact qa (aJ.Co k2 fun hx e1 e2=>uy l i hi hl (by rw[e1];simp[upd]) e2) rfl
theorem Ar (l:List Int) (i:Nat) (hi:i<l.length) (hl:l.length<1099511627776) {c:Nat} (ho:h.objs c=some (.cells (ints l))):
  aI Tryz.prog 79 [.tsl 1 c 0 l.length none,.int .i64 i,.int .i64 ((i+1:Nat):Int)] h fun q h'=>q= .sl 1 (ints (l.take i++l.drop (i+1))) .any∧Cq h h' fun a=>a=c:=
 qa (aJ.Co ho fun hx e1 e2=>zY l i hi hl (by rw[e1];simp[upd]) e2) rfl
end
end Go.Proofs.YtbgmofhgfnmaiaaGreat.Tree
end
section
set_option maxRecDepth 100000
namespace Go.Proofs.YtbgmofhgfnmaiaaGreat.Tree
open Go Go.Av Go.Proofs Go.Proofs.YtbgmofhgfnmaiaaGreat.C Go.Proofs.YtbgmofhgfnmaiaaGreat.Page
open Go.Proofs.YtbgmofhgfnmaiaaGreat.Batch (Bs Pr prs aW)
section
variable {x:PgI} {s:PgS} {T:List Nat} {h:H}
theorem Cr {tid i d:Nat} {r:Int} (g:PgH x s T h) (ok:cd s) (ht:h.objs tid=some (trO x r)) (hi:i<s.np) (hs:s.st.getD i 0≠0) (hp:s.p.length<900000) (hd:d≤20) (hr:lj (pgB s.p s.d i 8)=0) (hlf:(fC (pgB s.p s.d i 8)).leaf=false):
  aI Tryz.prog 41 [.ptr tid 0,.int .i64 (i:Int),.int .i64 (d:Int)] h fun q h'=>∃K c,q= .agg [.bool false,K,.sl 1 [] (.exact 0),.tsl 1 c 0 (fC (pgB s.p s.d i 8)).kids.length none]∧h'.objs c=some (.cells (ints (fC (pgB s.p s.d i 8)).kids))∧dz h' h.n K (strs (fC (pgB s.p s.d i 8)).keys) c∧h.n≤c∧c<h'.n∧PgH x s T h'∧Kept h h'∧aq h h':=by
 refine f41.bu af ?_
 unfold c41 zz
 have hlt:tid<h.n:=by
  rcases Nat.lt_or_ge tid h.n with q|q
  ·exact q
  ·rw[g.fresh _ q] at ht;cases ht
 have d1:decide ((20:Int)<(d:Int))=false:=decide_eq_false ab
 obtain ⟨o0,ho0⟩:∃o0:Av.Obj,o0= .cells [.bool false,.sl 1 [] (.exact 0),.sl 1 [] (.exact 0),.sl 1 [] (.exact 0)]:=⟨_,rfl⟩
 have ht1:=(aL (o:=o0) hlt).trans ht
 have hn1:=bU (h:=h) (o:=o0)
 have g1:=g.new o0
 have k1:Kept h (H.new h o0):=fun j hj=>aL hj
 have no1:=bN (h:=h) (o:=o0)
 have ln:h.n+1≤(H.new h o0).n:=Nat.le_refl _
 have lm:(H.new h o0).m=h.m:=rfl
 refine rf0 d1 ?_
 refine Wp.le (s':=⟨tm [(0,.ptr tid 0),(1,.int .i64 i),(6,.ptr h.n 0)],H.new h o0⟩) (aK.of (bp ?_) ?_ (fun y hy=>hy) (Nat.le_refl _) (Nat.le_refl _)) ?_
 ·exact xSb
 ·rw[ho0];exact OLe.refl _
 generalize H.new h o0=h1 at*
 unfold trO at ht1
 refine rf0 ht1 ?_
 refine an.aT ae xA4 (xX g1 ok hi hs hp) fun q h2 ⟨hq,g2,o2⟩ n2 m2=>?_
 subst hq
 have c2:aJ Tryz.prog 47 [.int .i64 0] h2 (.tup []) h2:=eS
 refine an.evF xAc ?_
 refine an.nil ?_
 refine rg1 @and_self c2 ?_
 refine an.aT ae xA4 (Fy (h:=h2) (g2.fresh) hr hlf) fun q h3 ⟨K,c,hq,oc,rK,hc1,hc2,k3,no3,tk3,f3⟩ n3 m3=>?_
 subst hq
 generalize fC (pgB s.p s.d i 8)=nd at*
 have hKc:=rK.cell
 have hKc2:=hKc
 unfold aO at hKc
 have nK:h2.n+3≤h3.n:=by omega
 obtain ⟨o4,ho4⟩:∃o4:Av.Obj,o4= .cells [.bool false,K,.sl 1 [] (.exact 0),.tsl 1 c 0 nd.kids.length none]:=⟨_,rfl⟩
 have g3:PgH x s T h3:=g2.keep k3 n3 f3 tk3 m3
 have g4:=g3.new o4
 have hn4:=bU (h:=h3) (o:=o4)
 have hn0:(H.new h3 o4).objs h.n=some o0:=(aL ab).trans ((k3 _ ab).trans ((by rw[o2]:h2.objs h.n=h1.objs h.n).trans hn1))
 have c3:aJ Tryz.prog 47 [.int .i64 0] (H.new h3 o4) (.tup []) (H.new h3 o4):=eS
 have rK4:dz (H.new h3 o4) (h2.n+3) K (strs nd.keys) c:=rK.keep (Nat.le_succ _) (fun j a b _=>aL b) (fun a _ h=>h)
 have oc4:(H.new h3 o4).objs c=some (.cells (ints nd.kids)):=(aL hc2).trans oc
 have ln4:(H.new h3 o4).n=h3.n+1:=rfl
 have lm4:(H.new h3 o4).m=h3.m:=rfl
 have c4:=c3
 rw[ho4] at c4
 unfold H.new at c4
 refine an.evF (xAd hKc) ?_
 rw[bn]
 refine an.nil ?_
 refine rf0 @and_self ?_
 refine an.cF xA2 xAb (by exact ⟨Nat.le_refl _,Nat.le_refl _⟩) (c4) ?_
 refine an.nil ?_
 have k4:∀j,j<h3.n→(H.new h3 o4).objs j=h3.objs j:=fun j hj=>aL hj
 have f4:∀j,h3.n+1≤j→(H.new h3 o4).objs j=none:=g4.fresh
 have t4:(H.new h3 o4).toks=h3.toks:=rfl
 refine Wp.le (s':=⟨tm [(6,.ptr h.n 0),(9,.ptr h3.n 0)],H.new h3 o4⟩) (aK.of (bp ?_) (by rw[ho4];exact OLe.refl _) (fun y hy=>hy) (Nat.le_refl _) (Nat.le_refl _)) ?_
 ·exact xSb
 clear c3 c4 c2
 generalize H.new h3 o4=h4 at*
 have hne:¬(h.n=h3.n):=by omega
 rw[ho0] at hn0
 rw[ho4] at hn4
 refine rf0 (cj4 hn4 hn0 hne hKc) ?_
 have q:∀j,j≠h.n→(upd h4.objs h.n (some o4):Nat→Option Av.Obj) j=h4.objs j:=fun j hj=>by simp only[upd];rw[if_neg hj]
 rw[←ho4]
 refine Wp.ret ?_
 refine ⟨trivial,.agg [.bool false,K,.sl 1 [] (.exact 0),.tsl 1 c 0 nd.kids.length none],?_,K,c,rfl,(q _ ab).trans oc4,?_,ab,by show c<h4.n;omega,?_,fun j hj=>?_,fun j hj=>?_⟩
 ·rw[ho4]
  simp[de,rvs,rv,tm,upd,Av.part,shaped,hKc2,aO]
 ·rcases rK4 with r|⟨a,r1,r2,r3,r4,r5,r6⟩
  ·exact .inl r
  ·exact .inr ⟨a,r1,(q _ ab).trans r2,ab,r4,r5,r6⟩
 ·refine g.keep (fun j hj=>?_) (show h.n≤h4.n by omega) (fun j hj=>?_) (show h4.toks=h.toks by rw[t4,tk3,g2.toks,g.toks]) (show h.m≤h4.m by omega)
  ·exact (q _ ab).trans ((k4 j ab).trans ((k3 j ab).trans ((by rw[o2]:h2.objs j=h1.objs j).trans (k1 j hj))))
  ·exact (q _ (by simp only at hj;omega)).trans (g4.fresh j hj)
 ·exact (q _ ab).trans ((k4 j ab).trans ((k3 j ab).trans ((by rw[o2]:h2.objs j=h1.objs j).trans (k1 j hj))))
 ·have hj:((upd h4.objs h.n (some o4):Nat→Option Av.Obj) j).isSome=true:=hj
  by_cases e:j<h.n
  ·left
   rw[q _ ab,k4 j ab,k3 j ab,o2,k1 j e] at hj
   exact hj
  ·right
   refine ⟨ab,?_⟩
   show j<h4.n
   rcases Nat.lt_or_ge j h4.n with e2|e2
   ·exact e2
   ·rw[q _ ab,g4.fresh j e2] at hj;cases hj
end
end Go.Proofs.YtbgmofhgfnmaiaaGreat.Tree
end
section
set_option maxRecDepth 100000
namespace Go.Proofs.YtbgmofhgfnmaiaaGreat.Tree
open Go Go.Av Go.Proofs Go.Proofs.YtbgmofhgfnmaiaaGreat.C Go.Proofs.YtbgmofhgfnmaiaaGreat.Page
open Go.Proofs.YtbgmofhgfnmaiaaGreat.Batch (Bs Pr prs aW)
abbrev Lt (a b:Bs):Prop:=Op.bytesLess a b=true
abbrev Le (a b:Bs):Prop:=Op.bytesLess b a=false
theorem rL {a b c:Bs} (h:Lt a b) (h2:Lt b c):Lt a c:=dt h h2
theorem lr {a b:Bs} (h:Lt a b):Le a b:=gW h
theorem mU {a b c:Bs} (h:Le a b) (h2:Lt b c):Lt a c:=by
 rcases du a b with q|q|q
 ·exact rL q h2
 ·exact q▸h2
 ·rw[h] at q;cases q
theorem uQ {a b c:Bs} (h:Lt a b) (h2:Le b c):Lt a c:=by
 rcases du b c with q|q|q
 ·exact rL h q
 ·exact q▸h
 ·rw[h2] at q;cases q
theorem x6 {a b c:Bs} (h:Le a b) (h2:Le b c):Le a c:=by
 rcases du b c with q|q|q
 ·exact lr (mU h q)
 ·exact q▸h
 ·rw[h2] at q;cases q
theorem le_rfl {a:Bs}:Le a a:=cL a
def inB (lo:Bs) (hi:Option Bs) (k:Bs):Prop:=Le lo k∧∀h,hi=some h→Lt k h
def wR (a b:Option Bs):Prop:=∀h,b=some h→∃h',a=some h'∧Le h' h
theorem wR.refl (a:Option Bs):wR a a:=fun h e=>⟨h,e,le_rfl⟩
theorem inB.wide {lo lo':Bs} {hi hi':Option Bs} {k:Bs} (h:inB lo hi k) (h1:Le lo' lo) (h2:wR hi hi'):inB lo' hi' k:=
 ⟨x6 h1 h.1,fun x e=>by obtain ⟨y,e1,e2⟩:=h2 x e;exact uQ (h.2 y e1) e2⟩
section
variable {α:Type} {W:Bs→Option Bs→α→Prop}
def bF (W:Bs→Option Bs→α→Prop):Bs→Option Bs→List Bs→List α→Prop
 |lo,hi,[],[u]=>W lo hi u
 |lo,hi,k::ks,u::us=>W lo (some k) u∧bF W k hi ks us
 |_,_,_,_=>False
structure Eg (W:Bs→Option Bs→α→Prop):Prop where
 ne:∀lo hi u,W lo hi u→∃k,inB lo hi k
 wide:∀lo hi lo' hi' u,W lo hi u→Le lo' lo→wR hi hi'→W lo' hi' u
theorem bF.len:∀{lo:Bs} {hi:Option Bs} {ks:List Bs} {us:List α},bF W lo hi ks us→us.length=ks.length+1
 |_,_,[],[],h=>by cases h
 |_,_,[],[_],_=>rfl
 |_,_,[],_::_::_,h=>by cases h
 |_,_,_::_,[],h=>by cases h
 |_,_,_::_,_::_,h=>by simp[bF.len h.2]
theorem bF.keys (hW:Eg W):∀{lo:Bs} {hi:Option Bs} {ks:List Bs} {us:List α},bF W lo hi ks us→(ks.Pairwise Lt∧∀k∈ks,Lt lo k∧∀h,hi=some h→Lt k h)∧∃k,inB lo hi k
 |lo,hi,[],[u],h=>⟨⟨List.Pairwise.nil,by simp⟩,hW.ne _ _ _ h⟩
 |_,_,[],[],h=>by cases h
 |_,_,[],_::_::_,h=>by cases h
 |_,_,_::_,[],h=>by cases h
 |lo,hi,k::ks,u::us,h=>by
  obtain ⟨q,hq⟩:=hW.ne _ _ _ h.1
  have hk:Lt lo k:=mU hq.1 (hq.2 k rfl)
  obtain ⟨⟨h1,h2⟩,z,hz⟩:=bF.keys hW h.2
  refine ⟨⟨List.pairwise_cons.2 ⟨fun a ha=>(h2 a ha).1,h1⟩,fun a ha=>?_⟩,z,x6 (lr hk) hz.1,hz.2⟩
  rcases List.mem_cons.1 ha with rfl|ha
  ·exact ⟨hk,fun b hb=>mU hz.1 (hz.2 b hb)⟩
  ·exact ⟨rL hk (h2 a ha).1,(h2 a ha).2⟩
theorem bF.wide (hW:Eg W):∀{lo lo':Bs} {hi hi':Option Bs} {ks:List Bs} {us:List α},bF W lo hi ks us→Le lo' lo→wR hi hi'→bF W lo' hi' ks us
 |_,_,_,_,[],[u],h,a,b=>hW.wide _ _ _ _ _ h a b
 |_,_,_,_,[],[],h,_,_=>by cases h
 |_,_,_,_,[],_::_::_,h,_,_=>by cases h
 |_,_,_,_,_::_,[],h,_,_=>by cases h
 |_,_,_,_,k::ks,u::us,h,a,b=>⟨hW.wide _ _ _ _ _ h.1 a (wR.refl _),bF.wide hW h.2 le_rfl b⟩
theorem bF.app:∀{lo k:Bs} {hi:Option Bs} {ks ks':List Bs} {us us':List α},bF W lo (some k) ks us→bF W k hi ks' us'→bF W lo hi (ks++k::ks') (us++us')
 |_,_,_,[],_,[u],_,h,h'=>⟨h,h'⟩
 |_,_,_,[],_,[],_,h,_=>by cases h
 |_,_,_,[],_,_::_::_,_,h,_=>by cases h
 |_,_,_,_::_,_,[],_,h,_=>by cases h
 |_,_,_,k::ks,_,u::us,_,h,h'=>⟨h.1,bF.app h.2 h'⟩
theorem bF.cut:∀{lo k:Bs} {hi:Option Bs} {ks ks':List Bs} {us us':List α},us.length=ks.length+1→bF W lo hi (ks++k::ks') (us++us')→bF W lo (some k) ks us∧bF W k hi ks' us'
 |_,_,_,[],_,[u],_,_,h=>⟨h.1,h.2⟩
 |_,_,_,[],_,[],_,h,_=>by cases h
 |_,_,_,[],_,_::_::_,_,h,_=>by simp at h
 |_,_,_,_::_,_,[],_,h,_=>by simp at h
 |_,_,_,k::ks,_,u::us,_,hl,h=>by
  obtain ⟨h1,h2⟩:=bF.cut (ks:=ks) (us:=us) (by simpa using hl) h.2
  exact ⟨⟨h.1,h1⟩,h2⟩
def dK (lo:Bs) (ks:List Bs) (j:Nat):Bs:=if j=0 then lo else ks.getD (j - 1) []
def eU (hi:Option Bs) (ks:List Bs) (j:Nat):Option Bs:=if j<ks.length then some (ks.getD j []) else hi
theorem bF.at:∀{lo:Bs} {hi:Option Bs} {ks:List Bs} {us:List α} {j:Nat},bF W lo hi ks us→j≤ks.length→∃u,us[j]? =some u∧W (dK lo ks j) (eU hi ks j) u∧
  ∀ks' us',bF W (dK lo ks j) (eU hi ks j) ks' us'→bF W lo hi (ks.take j++(ks'++ks.drop j)) (us.take j++(us'++us.drop (j+1)))
 |lo,hi,[],[u],j,h,hj=>by
  obtain rfl:j=0:=by simpa using hj
  exact ⟨u,rfl,h,fun ks' us' h'=>by simpa [dK,eU] using h'⟩
 |_,_,[],[],_,h,_=>by cases h
 |_,_,[],_::_::_,_,h,_=>by cases h
 |_,_,_::_,[],_,h,_=>by cases h
 |lo,hi,k::ks,u::us,0,h,hj=>by
  refine ⟨u,rfl,by simpa [dK,eU] using h.1,fun ks' us' h'=>?_⟩
  have h':bF W lo (some k) ks' us':=by simpa [dK,eU] using h'
  simpa using h'.app h.2
 |lo,hi,k::ks,u::us,j+1,h,hj=>by
  obtain ⟨u',h1,h2,h3⟩:=bF.at (j:=j) h.2 (by simpa using hj)
  have e1:dK lo (k::ks) (j+1)=dK k ks j:=by
   unfold dK
   cases j<;>simp
  have e2:eU hi (k::ks) (j+1)=eU hi ks j:=by
   unfold eU
   simp
  rw[e1,e2]
  exact ⟨u',by simpa using h1,h2,fun ks' us' h'=>⟨h.1,h3 ks' us' h'⟩⟩
theorem bF.del (hW:Eg W):∀{lo:Bs} {hi:Option Bs} {ks:List Bs} {us:List α} {j:Nat},bF W lo hi ks us→j<us.length→0<ks.length→bF W lo hi (ks.take (j - 1)++ks.drop (j - 1+1)) (us.take j++us.drop (j+1))
 |_,_,[],_,_,_,_,h=>by simp at h
 |_,_,_::_,[],_,h,_,_=>by cases h
 |lo,hi,k::ks,u::us,0,h,_,_=>by
  have hk:Lt lo k:=by
   obtain ⟨q,hq⟩:=hW.ne _ _ _ h.1
   exact mU hq.1 (hq.2 k rfl)
  simpa using h.2.wide hW (lr hk) (wR.refl _)
 |lo,hi,k::ks,[u],1,h,hj,_=>by simp at hj
 |lo,hi,k::ks,u::v::us,1,h,_,_=>by
  cases ks with
  |nil=>
   obtain ⟨h1,h2⟩:=h
   cases us with
   |nil=>
    obtain ⟨q,hq⟩:=hW.ne _ _ _ h2
    have:W lo hi u:=hW.wide _ _ _ _ _ h1 le_rfl fun x e=>⟨k,rfl,lr (mU hq.1 (hq.2 x e))⟩
    simpa [bF] using this
   |cons w us=>cases h2
  |cons k' ks=>
   obtain ⟨h1,h2,h3⟩:=h
   obtain ⟨q,hq⟩:=hW.ne _ _ _ h2
   have:W lo (some k') u:=hW.wide _ _ _ _ _ h1 le_rfl fun x e=>⟨k,rfl,by cases e;exact lr (mU hq.1 (hq.2 _ rfl))⟩
   simpa [bF] using And.intro this h3
 |lo,hi,k::ks,u::us,j+2,h,hj,_=>by
  have hl:=bF.len h.2
  have h0:0<ks.length:=by simp at hj;omega
  have:=bF.del hW (j:=j+1) h.2 (by simp at hj;omega) h0
  simp only[Nat.add_sub_cancel] at this ⊢
  have e:j+2 - 1=j+1:=by omega
  rw[e]
  exact ⟨h.1,this⟩
end
end Go.Proofs.YtbgmofhgfnmaiaaGreat.Tree
end
