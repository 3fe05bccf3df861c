/- Parts of a proof: a layer of abstract values over the model, the functions' walks, plain laws. -/
import Derived.Deep.CondSized
import Derived.Defers
import Derived.IntWalk
import Derived.KernelRfl
import Derived.Laws.Append
import Derived.Laws.AppendOwn
import Derived.Laws.BytesArg
import Derived.Laws.ComplexArith
import Derived.Laws.Cover3
import Derived.Laws.Entries
import Derived.Laws.IdiomCopy
import Derived.Laws.IdiomStrings
import Derived.Laws.Pointers
import Derived.Laws.Small
import Derived.Laws.Strings
import Derived.Laws.StructEq
import Derived.MapKept
import Derived.OpenShut
import Derived.Orders
import Derived.OrdersIn
import Derived.ProofKit
import Derived.RangeFuncRecord
import Derived.RangeFuncSeq
import Derived.ReadAgain
import Derived.Recover
import Derived.Scope
import Derived.Shelf.Slices.Cells
import Derived.Shelf.Slices.Clone
import Derived.Shelf.Slices.Delete
import Derived.Shelf.Spec.SlicesInsertGrow
import Derived.SizedLaws
import Derived.Tactics
import Derived.Tactics2
import Derived.Test.YtbgmofhgfnmaiaaGreatProg
import Derived.Test.YtbgmofhgfnmaiaaGreatRows
import Derived.WalkSmall
import Derived.Test.YtbgmofhgfnmaiaaGreatZElD
set_option linter.unusedSimpArgs false
set_option linter.unusedVariables false
section
set_option maxRecDepth 100000
namespace Go.Proofs.YtbgmofhgfnmaiaaGreat.Tree
open Go Go.Av Go.Proofs Go.Proofs.YtbgmofhgfnmaiaaGreat.C Go.Proofs.YtbgmofhgfnmaiaaGreat.Page
open Go.Proofs.YtbgmofhgfnmaiaaGreat.Batch (Bs Pr prs aW)
structure Nd (α:Type) where
 pg:Nat
 ks:List Bs
 kids:List α
def Kid:Nat→Type
 |0=>Bs
 |L+1=>Nd (Kid L)
abbrev Tr (L:Nat):=Nd (Kid L)
def lX:(L:Nat)→List Bs→List (Kid L)→List Pr
 |0=>fun ks (vs:List Bs)=>List.zipWith Pr.mk ks vs
 |L+1=>fun _ (us:List (Tr L))=>(us.map fun u:Tr L=>lX L u.ks u.kids).flatten
def aN (L:Nat) (t:Tr L):List Pr:=lX L t.ks t.kids
def ba:(L:Nat)→List (Kid L)→List Nat
 |0=>fun _=>[]
 |L+1=>fun (us:List (Tr L))=>(us.map fun u:Tr L=>u.pg::ba L u.kids).flatten
def bc (L:Nat) (t:Tr L):List Nat:=t.pg::ba L t.kids
def aB (ks vs:List Bs):Page.Node:=⟨true,ks,vs,[]⟩
def au (L:Nat) (ks:List Bs) (us:List (Tr L)):Page.Node:=⟨false,ks,[],us.map fun u=>((u.pg:Nat):Int)⟩
def bD:(L:Nat)→List Bs→List (Kid L)→Page.Node
 |0=>fun ks (vs:List Bs)=>aB ks vs
 |L+1=>fun ks (us:List (Tr L))=>au L ks us
def WC:(L:Nat)→Bs→Option Bs→List Bs→List (Kid L)→Prop
 |0=>fun lo hi ks _=>0<ks.length∧∀k∈ks,inB lo hi k
 |L+1=>fun lo hi ks (us:List (Tr L))=>bF (fun lo hi (u:Tr L)=>right (bD L u.ks u.kids)=true∧size (bD L u.ks u.kids)≤1024∧WC L lo hi u.ks u.kids) lo hi ks us
def WF (L:Nat) (lo:Bs) (hi:Option Bs) (t:Tr L):Prop:=right (bD L t.ks t.kids)=true∧size (bD L t.ks t.kids)≤1024∧WC L lo hi t.ks t.kids
theorem eK (L:Nat) (us:List (Tr L)):ba (L+1) us=(us.map (bc L)).flatten:=rfl
theorem mV {L:Nat} {lo:Bs} {hi:Option Bs} {ks:List Bs} {us:List (Tr L)}:WC (L+1) lo hi ks us↔bF (WF L) lo hi ks us:=Iff.rfl
theorem nice:∀L,Eg (WF L)
 |0=>⟨fun lo hi (t:Nd Bs) h=>by
   obtain ⟨-,-,h0,h1⟩:=h
   exact ⟨_,h1 _ (List.getElem_mem h0)⟩,fun lo hi lo' hi' (t:Nd Bs) h a b=>by
   obtain ⟨h1,h2,h3,h4⟩:=h
   exact ⟨h1,h2,h3,fun k hk=>(h4 k hk).wide a b⟩⟩
 |L+1=>⟨fun lo hi (t:Nd (Tr L)) h=>(bF.keys (nice L) (mV.1 h.2.2)).2,fun lo hi lo' hi' (t:Nd (Tr L)) h a b=>⟨h.1,h.2.1,mV.2 ((mV.1 h.2.2).wide (nice L) a b)⟩⟩
abbrev kLt (a b:Pr):Prop:=Lt a.k b.k
theorem kx {α:Type} {W:Bs→Option Bs→α→Prop} {f:α→List Pr} (hP:∀lo hi u,W lo hi u→(∀p∈f u,inB lo hi p.k)∧f u≠[]∧(f u).Pairwise kLt):
  ∀{lo:Bs} {hi:Option Bs} {ks:List Bs} {us:List α},bF W lo hi ks us→(∀p∈(us.map f).flatten,inB lo hi p.k)∧(us.map f).flatten≠[]∧(us.map f).flatten.Pairwise kLt
 |lo,hi,[],[u],h=>by simpa using hP _ _ _ h
 |_,_,[],[],h=>by cases h
 |_,_,[],_::_::_,h=>by cases h
 |_,_,_::_,[],h=>by cases h
 |lo,hi,k::ks,u::us,h=>by
  obtain ⟨a1,a2,a3⟩:=hP _ _ _ h.1
  obtain ⟨b1,b2,b3⟩:=kx hP h.2
  obtain ⟨p,hp⟩:=List.exists_mem_of_ne_nil _ a2
  obtain ⟨q,hq⟩:=List.exists_mem_of_ne_nil _ b2
  have hk:Lt lo k:=mU (a1 p hp).1 ((a1 p hp).2 k rfl)
  refine ⟨fun x hx=>?_,by simp[a2],?_⟩
  ·simp only[List.map_cons,List.flatten_cons,List.mem_append] at hx
   rcases hx with hx|hx
   ·exact ⟨(a1 x hx).1,fun y hy=>rL ((a1 x hx).2 k rfl) (mU (b1 q hq).1 ((b1 q hq).2 y hy))⟩
   ·exact ⟨x6 (lr hk) (b1 x hx).1,(b1 x hx).2⟩
  ·simp only[List.map_cons,List.flatten_cons]
   rw[List.pairwise_append]
   exact ⟨a3,b3,fun x hx y hy=>uQ ((a1 x hx).2 k rfl) (b1 y hy).1⟩
theorem eC {ks vs:List Bs} {p:Pr} (h:p∈List.zipWith Pr.mk ks vs):p.k∈ks:=by
 induction ks generalizing vs with
 |nil=>simp at h
 |cons k ks ih=>
  cases vs with
  |nil=>simp at h
  |cons v vs=>
   simp only[List.zipWith_cons_cons,List.mem_cons] at h
   rcases h with rfl|h
   ·simp
   ·exact List.mem_cons_of_mem _ (ih h)
theorem Cs {ks vs:List Bs} (h:ks.Pairwise Lt):(List.zipWith Pr.mk ks vs).Pairwise kLt:=by
 induction ks generalizing vs with
 |nil=>simp
 |cons k ks ih=>
  cases vs with
  |nil=>simp
  |cons v vs=>
   simp only[List.zipWith_cons_cons]
   rw[List.pairwise_cons] at h ⊢
   exact ⟨fun p hp=>h.1 _ (eC hp),ih h.2⟩
theorem wS {lo:Bs} {hi:Option Bs} {ks vs:List Bs} (h1:right (aB ks vs)=true) (h3:0<ks.length) (h4:∀k∈ks,inB lo hi k):(∀p∈List.zipWith Pr.mk ks vs,inB lo hi p.k)∧List.zipWith Pr.mk ks vs≠[]∧(List.zipWith Pr.mk ks vs).Pairwise kLt:=by
 obtain ⟨r1,r2,-⟩:=(bq (n:=aB ks vs) rfl).1 h1
 have r2:vs.length=ks.length:=r2
 refine ⟨fun p hp=>h4 _ (eC hp),?_,Cs r1.2⟩
 intro e
 have:=congrArg List.length e
 rw[List.length_zipWith,List.length_nil] at this
 omega
theorem jo:∀(L:Nat) (lo:Bs) (hi:Option Bs) (t:Tr L),WF L lo hi t→(∀p∈aN L t,inB lo hi p.k)∧aN L t≠[]∧(aN L t).Pairwise kLt
 |0,lo,hi,t,h=>wS h.1 h.2.2.1 h.2.2.2
 |L+1,lo,hi,t,h=>kx (jo L) (mV.1 h.2.2)
def fS (l:List Pr) (k v:Bs):List Pr:=l.filter (fun p=>Op.bytesLess p.k k)++⟨k,v⟩::l.filter (fun p=>Op.bytesLess k p.k)
def ep (l:List Pr) (k:Bs):List Pr:=l.filter (fun p=> !decide (p.k=k))
theorem filter_all {l:List Pr} {f:Pr→Bool} (h:∀p∈l,f p=true):l.filter f=l:=List.filter_eq_self.2 h
theorem gJ {l:List Pr} {f:Pr→Bool} (h:∀p∈l,f p=false):l.filter f=[]:=by
 rw[List.filter_eq_nil_iff]
 intro p hp
 simp[h p hp]
theorem qb {a b c:List Pr} {k v:Bs} (ha:∀p∈a,Lt p.k k) (hc:∀p∈c,Lt k p.k):fS (a++(b++c)) k v=a++(fS b k v++c):=by
 unfold fS
 simp only[List.filter_append]
 rw[filter_all (l:=a) ha,filter_all (l:=c) hc,gJ (l:=a) fun p hp=>gW (ha p hp),gJ (l:=c) fun p hp=>gW (hc p hp)]
 simp
theorem ne_of_lt {a b:Bs} (h:Lt a b):a≠b:=fun e=>by rw[e,Lt,cL] at h;cases h
theorem rM {a b c:List Pr} {k:Bs} (ha:∀p∈a,Lt p.k k) (hc:∀p∈c,Lt k p.k):ep (a++(b++c)) k=a++(ep b k++c):=by
 unfold ep
 simp only[List.filter_append]
 rw[filter_all (l:=a) fun p hp=>by simpa using ne_of_lt (ha p hp),filter_all (l:=c) fun p hp=>by simpa using (ne_of_lt (hc p hp)).symm]
theorem oR {α:Type} {l:List α} {i j:Nat} (h:i<l.length) (hj:i<j):l[i]∈l.take j:=List.mem_iff_getElem.2 ⟨i,by simp;omega,by simp⟩
theorem x7 {α:Type} {l:List α} {i j:Nat} (h:i<l.length) (hj:j≤i):l[i]∈l.drop j:=List.mem_iff_getElem.2 ⟨i - j,by simp;omega,by simp[show j+(i - j)=i by omega]⟩
theorem iI {L:Nat} {lo:Bs} {hi:Option Bs} {ks:List Bs} {us:List (Tr L)} {key:Bs} (h:bF (WF L) lo hi ks us) (hk:inB lo hi key) (j:Nat) (hj:j≤ks.length) (h1:∀k∈ks.take j,Le k key) (h2:∀k∈ks.drop j,Lt key k):
  (∀p∈((us.take j).map (aN L)).flatten,Lt p.k key)∧(∀p∈((us.drop (j+1)).map (aN L)).flatten,Lt key p.k)∧inB (dK lo ks j) (eU hi ks j) key:=by
 have hl:=h.len
 refine ⟨?_,?_,?_,?_⟩
 ·cases j with
  |zero=>simp
  |succ i=>
   have e:ks=ks.take i++ks[i]::ks.drop (i+1):=by rw[←List.drop_eq_getElem_cons ab,List.take_append_drop]
   have c:=h
   rw[e,←List.take_append_drop (i+1) us] at c
   obtain ⟨c1,-⟩:=c.cut ak
   intro p hp
   have q:=(kx (jo L) c1).1 p hp
   exact uQ (q.2 _ rfl) (h1 _ (oR _ (Nat.lt_succ_self _)))
 ·by_cases hj2:j<ks.length
  ·have e:ks=ks.take j++ks[j]::ks.drop (j+1):=by rw[←List.drop_eq_getElem_cons ab,List.take_append_drop]
   have c:=h
   rw[e,←List.take_append_drop (j+1) us] at c
   obtain ⟨-,c1⟩:=c.cut ak
   intro p hp
   have q:=(kx (jo L) c1).1 p hp
   exact uQ (h2 _ (x7 hj2 (Nat.le_refl _))) q.1
  ·rw[List.drop_eq_nil_of_le ab]
   simp
 ·unfold dK
  split
  ·exact hk.1
  ·refine h1 _ ?_
   rw[List.getD_eq_getElem?_getD,List.getElem?_eq_getElem ab]
   exact oR _ ab
 ·unfold eU
  intro x hx
  split at hx
  ·cases hx
   refine h2 _ ?_
   rw[List.getD_eq_getElem?_getD,List.getElem?_eq_getElem ‹_›]
   exact x7 ‹_› (Nat.le_refl _)
  ·exact hk.2 x hx
theorem mW {α β:Type} {f:α→List β} {us:List α} {j:Nat} {u:α} (h:us[j]? =some u):(us.map f).flatten=((us.take j).map f).flatten++(f u++((us.drop (j+1)).map f).flatten):=by
 obtain ⟨hj,rfl⟩:=List.getElem?_eq_some_iff.1 h
 have e:us=us.take j++us[j]::us.drop (j+1):=by rw[←List.drop_eq_getElem_cons hj,List.take_append_drop]
 conv=>lhs;rw[e]
 rw[List.map_append,List.flatten_append,List.map_cons,List.flatten_cons]
theorem mX {a b c d:List Bs} {k v:Bs} (h:a.length=c.length):List.zipWith Pr.mk (a++k::b) (c++v::d)=List.zipWith Pr.mk a c++⟨k,v⟩::List.zipWith Pr.mk b d:=by
 rw[List.zipWith_append h];rfl
theorem jq {ks vs:List Bs} (h:right (aB ks vs)=true) (key:Bs):(∀k∈ks.take (place (aB ks vs) key),Lt k key)∧(∀k∈ks.drop (place (aB ks vs) key),Le key k)∧place (aB ks vs) key≤ks.length:=by
 obtain ⟨r1,-⟩:=(bq (n:=aB ks vs) rfl).1 h
 obtain ⟨p1,p2,p3⟩:=lT (n:=aB ks vs) rfl key
 simp only[aB] at r1 p1 p2 p3 ⊢
 generalize place _ key=i at*
 refine ⟨fun k hk=>?_,fun k hk=>?_,p1⟩
 ·obtain ⟨j,h1,h2,rfl⟩:=km hk
  exact p2 j h1
 ·obtain ⟨j,h1,h2,rfl⟩:=iH hk
  have q:=p3 ab
  by_cases e:i=j
  ·subst e;exact q
  ·have:=List.pairwise_iff_getElem.1 r1.2 i j ab h2 ab
   rw[bA ab] at q
   rw[bA h2]
   exact x6 (b:=ks[i]) q (lr this)
theorem nG {ks:List Bs} (h:ks.Pairwise Lt) {i:Nat} (hi:i<ks.length):∀k∈ks.drop (i+1),Lt ks[i] k:=by
 rw[←List.take_append_drop i ks,List.drop_eq_getElem_cons hi,List.pairwise_append,List.pairwise_cons] at h
 exact h.2.1.1
theorem mY (ks vs:List Bs) (i:Nat):List.zipWith Pr.mk ks vs=List.zipWith Pr.mk (ks.take i) (vs.take i)++List.zipWith Pr.mk (ks.drop i) (vs.drop i):=by
 rw[←List.take_zipWith,←List.drop_zipWith,List.take_append_drop]
theorem wT {a b:List Pr} {k v:Bs} (ha:∀p∈a,Lt p.k k) (hb:∀p∈b,Lt k p.k):fS (a++b) k v=a++⟨k,v⟩::b:=by
 have:=qb (b:=[]) (v:=v) ha hb
 simpa [fS] using this
theorem As {a b:List Pr} {k v w:Bs} (ha:∀p∈a,Lt p.k k) (hb:∀p∈b,Lt k p.k):fS (a++⟨k,w⟩::b) k v=a++⟨k,v⟩::b:=by
 have:=qb (b:=[⟨k,w⟩]) (v:=v) ha hb
 simpa [fS,cL] using this
theorem wU {a b:List Pr} {k w:Bs} (ha:∀p∈a,Lt p.k k) (hb:∀p∈b,Lt k p.k):ep (a++⟨k,w⟩::b) k=a++b:=by
 have:=rM (b:=[⟨k,w⟩]) ha hb
 simpa [ep] using this
theorem At {ks vs:List Bs} (h:right (aB ks vs)=true) {key:Bs} (hf:bC (aB ks vs) key=false):∀k∈ks.drop (place (aB ks vs) key),Lt key k:=by
 obtain ⟨r1,-⟩:=(bq (n:=aB ks vs) rfl).1 h
 obtain ⟨-,p2,p3⟩:=jq h key
 intro k hk
 have q:=p2 k hk
 rcases du key k with a|a|a
 ·exact a
 ·exfalso
  obtain ⟨j,h1,h2,rfl⟩:=iH hk
  have:=(uD (n:=aB ks vs) rfl h (i:=j) h2 a.symm).2
  rw[hf] at this;cases this
 ·rw[q] at a;cases a
theorem Ct {ks vs:List Bs} {key val:Bs} (h:right (aB ks vs)=true) (hk:key.length≤128) (hv:val.length≤200):
  ∃ks' vs',mN (aB ks vs) key val=aB ks' vs'∧Page.uC (aB ks vs) key val=0∧right (aB ks' vs')=true∧size (aB ks' vs')≤size (aB ks vs)+331∧0<ks'.length∧(∀k∈ks',k=key∨k∈ks)∧List.zipWith Pr.mk ks' vs'=fS (List.zipWith Pr.mk ks vs) key val:=by
 have ho:fG (aB ks vs) key val=true:=by simp[fG,h,hk,hv];rfl
 have hr:=Ab ho
 have hs:=gN ho
 obtain ⟨r1,r2,-⟩:=(bq (n:=aB ks vs) rfl).1 h
 obtain ⟨p1,p2,p3⟩:=jq h key
 have he:Page.uC (aB ks vs) key val=0:=by unfold Page.uC;rw[if_pos ho]
 have hN:mN (aB ks vs) key val=if bC (aB ks vs) key then uA (aB ks vs) (place (aB ks vs) key) val else uB (aB ks vs) (place (aB ks vs) key) key val:=by unfold mN;rw[if_pos ho]
 rw[hN] at hr hs ⊢
 cases hf:bC (aB ks vs) key with
 |true=>
  obtain ⟨-,-,f1,f2,f3⟩:=dV hf
  have f1:place (aB ks vs) key<ks.length:=f1
  have f3:ks.getD (place (aB ks vs) key) []=key:=f3
  simp only[aB] at f2 r1 r2
  rw[hf] at hr hs
  simp only[if_true] at hr hs ⊢
  generalize place (aB ks vs) key=i at*
  have hkk:ks[i]=key:=by rw[←f3,bA f1]
  have hd:=nG r1.2 f1
  rw[hkk] at hd
  refine ⟨ks,vs.take i++val::vs.drop (i+1),rfl,he,hr,hs,ab,fun k hk=> .inr hk,?_⟩
  have e1:ks=ks.take i++key::ks.drop (i+1):=by rw[←hkk,←List.drop_eq_getElem_cons f1,List.take_append_drop]
  have e2:vs=vs.take i++vs[i]::vs.drop (i+1):=by rw[←List.drop_eq_getElem_cons,List.take_append_drop]
  have e3:List.zipWith Pr.mk ks vs=List.zipWith Pr.mk (ks.take i) (vs.take i)++⟨key,vs[i]⟩::List.zipWith Pr.mk (ks.drop (i+1)) (vs.drop (i+1)):=by
   conv=>lhs;rw[e1,e2]
   exact mX ak
  rw[e3,As (fun p hp=>p1 _ (eC hp)) (fun p hp=>hd _ (eC hp))]
  conv=>lhs;rw[e1]
  exact mX ak
 |false=>
  have hd:=At h hf
  rw[hf] at hr hs
  simp only[Bool.false_eq_true,if_false] at hr hs ⊢
  simp only[aB] at r1 r2
  have p3:place (aB ks vs) key≤ks.length:=p3
  generalize place (aB ks vs) key=i at*
  refine ⟨ks.take i++key::ks.drop i,vs.take i++val::vs.drop i,rfl,he,hr,hs,by simp;omega,fun k hk=>?_,?_⟩
  ·simp only[List.mem_append,List.mem_cons] at hk
   rcases hk with hk|hk|hk
   ·exact .inr (List.mem_of_mem_take hk)
   ·exact .inl hk
   ·exact .inr (List.mem_of_mem_drop hk)
  ·rw[mX ak,mY ks vs i,wT (fun p hp=>p1 _ (eC hp)) (fun p hp=>hd _ (eC hp))]
theorem Au {ks vs:List Bs} {key:Bs} (h:right (aB ks vs)=true) (hf:bC (aB ks vs) key=true):
  ∃ks' vs',og (aB ks vs) key=aB ks' vs'∧right (aB ks' vs')=true∧size (aB ks' vs')≤size (aB ks vs)∧(∀k∈ks',k∈ks)∧List.zipWith Pr.mk ks' vs'=ep (List.zipWith Pr.mk ks vs) key∧ks'.length+1=ks.length:=by
 obtain ⟨r1,r2,-⟩:=(bq (n:=aB ks vs) rfl).1 h
 obtain ⟨p1,p2,p3⟩:=jq h key
 obtain ⟨-,-,f1,f2,f3⟩:=dV hf
 have hr:=zZ (n:=aB ks vs) rfl h f1
 have hN:og (aB ks vs) key=zU (aB ks vs) (place (aB ks vs) key):=by unfold og;rw[if_pos hf]
 rw[hN]
 have f1:place (aB ks vs) key<ks.length:=f1
 have f3:ks.getD (place (aB ks vs) key) []=key:=f3
 simp only[aB] at f2 r1 r2
 generalize place (aB ks vs) key=i at*
 have hkk:ks[i]=key:=by rw[←f3,bA f1]
 have hd:=nG r1.2 f1
 rw[hkk] at hd
 have s1:=sV (fE ks i)
 have s2:=sV (fE vs i)
 refine ⟨ks.take i++ks.drop (i+1),vs.take i++vs.drop (i+1),rfl,hr,?_,fun k hk=>(fE ks i).subset hk,?_,by simp;omega⟩
 ·rw[size_leaf rfl,size_leaf rfl]
  simp only[aB,List.length_append,List.length_take,List.length_drop]
  omega
 ·have e1:ks=ks.take i++key::ks.drop (i+1):=by rw[←hkk,←List.drop_eq_getElem_cons f1,List.take_append_drop]
  have e2:vs=vs.take i++vs[i]::vs.drop (i+1):=by rw[←List.drop_eq_getElem_cons,List.take_append_drop]
  have e3:List.zipWith Pr.mk ks vs=List.zipWith Pr.mk (ks.take i) (vs.take i)++⟨key,vs[i]⟩::List.zipWith Pr.mk (ks.drop (i+1)) (vs.drop (i+1)):=by
   conv=>lhs;rw[e1,e2]
   exact mX ak
  rw[e3,wU (fun p hp=>p1 _ (eC hp)) (fun p hp=>hd _ (eC hp)),List.zipWith_append ak]
theorem qc {ks vs:List Bs} {key:Bs} (h:right (aB ks vs)=true):bC (aB ks vs) key=true↔∃p∈List.zipWith Pr.mk ks vs,p.k=key:=by
 obtain ⟨r1,r2,-⟩:=(bq (n:=aB ks vs) rfl).1 h
 simp only[aB] at r1 r2
 constructor
 ·intro hf
  obtain ⟨-,-,f1,f2,f3⟩:=dV hf
  have f1:place (aB ks vs) key<ks.length:=f1
  have f3:ks.getD (place (aB ks vs) key) []=key:=f3
  refine ⟨(List.zipWith Pr.mk ks vs)[place (aB ks vs) key]'(by rw[List.length_zipWith];omega),List.getElem_mem _,?_⟩
  simp only[List.getElem_zipWith]
  rw[bA f1] at f3
  exact f3
 ·rintro ⟨p,hp,rfl⟩
  obtain ⟨j,hj,e⟩:=List.getElem_of_mem (eC hp)
  exact (uD (n:=aB ks vs) rfl h (i:=j) hj (by show ks.getD j []=_;rw[bA hj];exact e)).2
def lim (L:Nat):Nat:=if L=0 then 1355 else 1157
structure wV (L:Nat) (lo:Bs) (hi:Option Bs) (ks:List Bs) (kids:List (Kid L)) (ks1:List Bs) (kids1:List (Kid L)) (key:Bs) (ks2:List Bs) (kids2:List (Kid L)):Prop where
 eq:split (bD L ks kids)=⟨bD L ks1 kids1,key,bD L ks2 kids2,true⟩
 r1:right (bD L ks1 kids1)=true
 z1:size (bD L ks1 kids1)≤1024
 w1:WC L lo (some key) ks1 kids1
 r2:right (bD L ks2 kids2)=true
 z2:size (bD L ks2 kids2)≤1024
 w2:WC L key hi ks2 kids2
 k1:Lt lo key
 k2:∀h,hi=some h→Lt key h
 kl:key.length≤128
 ps:lX L ks1 kids1++lX L ks2 kids2=lX L ks kids
 kd:kids1++kids2=kids
 cn:0<L→2≤kids1.length∧2≤kids2.length∧9≤kids1.length+kids2.length
theorem ig {L:Nat} {lo:Bs} {hi:Option Bs} {ks:List Bs} {us:List (Tr L)} (h:bF (WF L) lo hi ks us) (hk:∀k∈ks,k.length≤128) (hp:∀u∈us,u.pg<16384):right (au L ks us)=true:=by
 refine (cM (n:=au L ks us) rfl).2 ⟨⟨hk,(h.keys (nice L)).1.1⟩,rfl,by simp[au,h.len],fun k hk=>?_⟩
 obtain ⟨u,hu,rfl⟩:=List.mem_map.1 hk
 have:=hp u hu
 omega
theorem wW {lo:Bs} {hi:Option Bs} {ks vs:List Bs} (hr:right (aB ks vs)=true) (hz:¬size (aB ks vs)≤1024) (hb:size (aB ks vs)≤1355) (hw:∀k∈ks,inB lo hi k):
  ∃ks1 vs1 key ks2 vs2,wV 0 lo hi ks vs ks1 vs1 key ks2 vs2:=by
 have hm:2≤ks.length:=by
  rcases Nat.lt_or_ge ks.length 2 with h|h
  ·exact absurd (Ac (m:=aB ks vs) rfl hr h) hz
  ·exact h
 have hbt:bet (aB ks vs)=0:=rfl
 have hmost:most (aB ks vs)+1=ks.length:=by unfold most;rw[hbt];show ks.length - 1 - 0+1=_;omega
 obtain ⟨c1,c2⟩:=pK (n:=aB ks vs) ab
 obtain ⟨h1,h2⟩:=uE (m:=aB ks vs) rfl hr ab hb
 obtain ⟨r1,r2,-⟩:=(bq (n:=aB ks vs) rfl).1 hr
 have r2:vs.length=ks.length:=r2
 have r1:mH ks:=r1
 have hsp:splits (aB ks vs)=true:=by unfold splits;rw[hr,decide_eq_true ab];rfl
 have p1:Page.part (aB ks vs) 0 (cut (aB ks vs))=aB (ks.take (cut (aB ks vs))) (vs.take (cut (aB ks vs))):=rfl
 have p2:Page.part (aB ks vs) (cut (aB ks vs)+bet (aB ks vs)) ks.length=aB (ks.drop (cut (aB ks vs))) (vs.drop (cut (aB ks vs))):=by
  unfold Page.part aB
  simp only[if_true]
  rw[List.take_length,←r2,List.take_length]
  rfl
 have g1:=jM hr 0 (cut (aB ks vs)) (Nat.zero_le _) (show _≤ks.length by omega)
 have g2:=jM hr (cut (aB ks vs)+bet (aB ks vs)) ks.length (by rw[hbt];omega) (Nat.le_refl _)
 have h2:size (Page.part (aB ks vs) (cut (aB ks vs)+bet (aB ks vs)) ks.length)≤1024:=h2
 have es:split (aB ks vs)=⟨Page.part (aB ks vs) 0 (cut (aB ks vs)),ks.getD (cut (aB ks vs)) [],Page.part (aB ks vs) (cut (aB ks vs)+bet (aB ks vs)) ks.length,true⟩:=by
  unfold split;rw[if_pos hsp];rfl
 rw[p1,p2] at es
 rw[p1] at h1 g1
 rw[p2] at h2 g2
 generalize cut (aB ks vs)=c at*
 have hc:c<ks.length:=by omega
 have hk:ks.getD c []=ks[c]:=bA hc
 have e1:ks=ks.take c++ks[c]::ks.drop (c+1):=by rw[←List.drop_eq_getElem_cons hc,List.take_append_drop]
 have hrise:=r1.2
 rw[e1,List.pairwise_append] at hrise
 refine ⟨ks.take c,vs.take c,ks[c],ks.drop c,vs.drop c,⟨by rw[←hk];exact es,g1,h1,⟨by simp;omega,fun k hk2=>⟨(hw k (List.mem_of_mem_take hk2)).1,fun x hx=>by cases hx;exact hrise.2.2 k hk2 _ (List.mem_cons_self ..)⟩⟩,g2,h2,⟨by simp;omega,fun k hk2=>⟨?_,(hw k (List.mem_of_mem_drop hk2)).2⟩⟩,?_,fun x hx=>(hw _ (List.getElem_mem hc)).2 x hx,r1.1 _ (List.getElem_mem hc),?_,List.take_append_drop _ _,fun h=>absurd h (Nat.lt_irrefl _)⟩⟩
 ·rw[List.drop_eq_getElem_cons hc] at hk2
  rcases List.mem_cons.1 hk2 with rfl|hk2
  ·exact le_rfl
  ·exact lr ((List.pairwise_cons.1 hrise.2.1).1 _ hk2)
 ·have h0:0<ks.length:=by omega
  exact mU (hw _ (List.getElem_mem h0)).1 (hrise.2.2 _ (oR h0 ab) _ (List.mem_cons_self ..))
 ·exact (mY ks vs c).symm
theorem uR {L:Nat} {lo:Bs} {hi:Option Bs} {ks:List Bs} {us:List (Tr L)} (hr:right (au L ks us)=true) (hz:¬size (au L ks us)≤1024) (hb:size (au L ks us)≤1157) (hw:bF (WF L) lo hi ks us):
  ∃ks1 us1 key ks2 us2,wV (L+1) lo hi ks us ks1 us1 key ks2 us2:=by
 have hul:=hw.len
 have hbt:bet (au L ks us)=1:=rfl
 obtain ⟨r1,-,-,-⟩:=(cM (n:=au L ks us) rfl).1 hr
 have r1:mH ks:=r1
 have hsz:size (au L ks us)=7+5*ks.length+tot ks:=rfl
 have ht:=DT (l:=ks) (c:=128) r1.1
 have hm:8≤ks.length:=by omega
 have hmost:most (au L ks us)+2=ks.length:=by unfold most;rw[hbt];show ks.length - 1 - 1+2=_;omega
 obtain ⟨c1,c2⟩:=pK (n:=au L ks us) ab
 obtain ⟨h1,h2⟩:=sP (m:=au L ks us) rfl hr ab hb
 have hsp:splits (au L ks us)=true:=by unfold splits;rw[hr,decide_eq_true ab];rfl
 have p1:Page.part (au L ks us) 0 (cut (au L ks us))=au L (ks.take (cut (au L ks us))) (us.take (cut (au L ks us)+1)):=by
  unfold Page.part au
  simp
 have p2:Page.part (au L ks us) (cut (au L ks us)+bet (au L ks us)) ks.length=au L (ks.drop (cut (au L ks us)+1)) (us.drop (cut (au L ks us)+1)):=by
  rw[hbt]
  generalize cut (au L ks us)=c
  unfold au Page.part
  simp only[Bool.false_eq_true,if_false]
  rw[List.take_length,←hul,List.map_drop,List.take_of_length_le (l:=List.map _ us) af]
 have g1:=jM hr 0 (cut (au L ks us)) (Nat.zero_le _) (show _≤ks.length by omega)
 have g2:=jM hr (cut (au L ks us)+bet (au L ks us)) ks.length (by rw[hbt];omega) (Nat.le_refl _)
 have h2:size (Page.part (au L ks us) (cut (au L ks us)+bet (au L ks us)) ks.length)≤1024:=h2
 have es:split (au L ks us)=⟨Page.part (au L ks us) 0 (cut (au L ks us)),ks.getD (cut (au L ks us)) [],Page.part (au L ks us) (cut (au L ks us)+bet (au L ks us)) ks.length,true⟩:=by
  unfold split;rw[if_pos hsp];rfl
 rw[p1,p2] at es
 rw[p1] at h1 g1
 rw[p2] at h2 g2
 generalize cut (au L ks us)=c at*
 have hc:c<ks.length:=by omega
 have hk:ks.getD c []=ks[c]:=bA hc
 have e1:ks=ks.take c++ks[c]::ks.drop (c+1):=by rw[←List.drop_eq_getElem_cons hc,List.take_append_drop]
 have hw2:=hw
 rw[e1,←List.take_append_drop (c+1) us] at hw2
 obtain ⟨w1,w2⟩:=hw2.cut ak
 have kk:=(hw.keys (nice L)).1.2 _ (List.getElem_mem hc)
 have ps:((us.take (c+1)).map (aN L)).flatten++((us.drop (c+1)).map (aN L)).flatten=(us.map (aN L)).flatten:=by
  rw[←List.flatten_append,←List.map_append,List.take_append_drop]
 have cn:2≤(us.take (c+1)).length∧2≤(us.drop (c+1)).length∧9≤(us.take (c+1)).length+(us.drop (c+1)).length:=by
  rw[List.length_take,List.length_drop];omega
 refine ⟨ks.take c,us.take (c+1),ks[c],ks.drop (c+1),us.drop (c+1),⟨by rw[←hk];exact es,g1,h1,w1,g2,h2,w2,kk.1,kk.2,r1.1 _ (List.getElem_mem hc),ps,List.take_append_drop _ _,fun _=>cn⟩⟩
theorem Eh:∀{L:Nat} {lo:Bs} {hi:Option Bs} {ks:List Bs} {kids:List (Kid L)},right (bD L ks kids)=true→¬size (bD L ks kids)≤1024→size (bD L ks kids)≤lim L→WC L lo hi ks kids→∃ks1 kids1 key ks2 kids2,wV L lo hi ks kids ks1 kids1 key ks2 kids2
 |0,_,_,_,_,a,b,c,d=>wW a b c d.2
 |L+1,_,_,_,_,a,b,c,d=>uR a b c (mV.1 d)
theorem wX {L:Nat} (a b:List (Tr L)):ba (L+1) (a++b)=ba (L+1) a++ba (L+1) b:=by
 rw[eK,eK,eK,List.map_append,List.flatten_append]
theorem Aw:∀(L:Nat) (a b:List (Kid L)),ba L (a++b)=ba L a++ba L b
 |0,_,_=>rfl
 |L+1,a,b=>wX a b
theorem cb {L:Nat} {ks:List Bs} {kids:List (Kid L)} (hr:right (bD L ks kids)=true) (hz:size (bD L ks kids)≤1355):Nb (bD L ks kids)∧Ns (bD L ks kids):=by
 cases L with
 |zero=>
  have hr:right (aB ks kids)=true:=hr
  obtain ⟨r1,r2,r3,r4⟩:=(bq (n:=aB ks kids) rfl).1 hr
  have hz:size (aB ks kids)≤1355:=hz
  rw[size_leaf rfl] at hz
  have r2:List.length (α:=Bs) kids=ks.length:=r2
  have hz:3+3*ks.length+tot ks+tot kids≤1355:=hz
  exact ⟨⟨by show ks.length≤_;omega,by show List.length (α:=Bs) kids≤_;omega,by show 0≤_;omega,by show tot ks≤_;omega,by show tot kids≤_;omega⟩,⟨by show ks.length≤_;omega,by show List.length (α:=Bs) kids≤_;omega,by show 0≤_;omega⟩⟩
 |succ L=>
  have hr:right (au L ks kids)=true:=hr
  obtain ⟨r1,r2,r3,r4⟩:=(cM (n:=au L ks kids) rfl).1 hr
  have hz:7+5*ks.length+tot ks≤1355:=hz
  have r3:(List.map (fun u:Tr L=>((u.pg:Nat):Int)) kids).length=ks.length+1:=r3
  exact ⟨⟨by show ks.length≤_;omega,by show 0≤_;omega,by show (List.map (fun u:Tr L=>((u.pg:Nat):Int)) kids).length≤_;omega,by show tot ks≤_;omega,by show 0≤_;omega⟩,⟨by show ks.length≤_;omega,by show 0≤_;omega,by show (List.map (fun u:Tr L=>((u.pg:Nat):Int)) kids).length≤_;omega⟩⟩
end Go.Proofs.YtbgmofhgfnmaiaaGreat.Tree
end
section
set_option maxRecDepth 100000
namespace Go.Proofs.YtbgmofhgfnmaiaaGreat.Tree
open Go Go.Av Go.Proofs Go.Proofs.YtbgmofhgfnmaiaaGreat.C Go.Proofs.YtbgmofhgfnmaiaaGreat.Page
open Go.Proofs.YtbgmofhgfnmaiaaGreat.Batch (Bs Pr prs aW)
def Has (s:PgS) (i:Nat) (n:Page.Node):Prop:=lj (pgB s.p s.d i 8)=0∧fC (pgB s.p s.d i 8)=n
def OnC (s:PgS):(L:Nat)→List (Kid L)→Prop
 |0=>fun _=>True
 |L+1=>fun (us:List (Tr L))=>∀u∈us,Has s u.pg (bD L u.ks u.kids)∧OnC s L u.kids
def On (s:PgS) (L:Nat) (t:Tr L):Prop:=Has s t.pg (bD L t.ks t.kids)∧OnC s L t.kids
theorem dR {s:PgS} {L:Nat} {us:List (Tr L)}:OnC s (L+1) us↔∀u∈us,On s L u:=Iff.rfl
def stt (s:PgS) (j:Nat):Nat:=s.st.getD j 0
def bts (s:PgS) (j:Nat):List UInt8:=pgB s.p s.d j 8
theorem Has.congr {s s':PgS} {i:Nat} {n:Page.Node} (h:Has s i n) (e:bts s' i=bts s i):Has s' i n:=by
 unfold Has at h ⊢
 unfold bts at e
 rw[e];exact h
theorem rN {s s':PgS}:∀{L:Nat} {ks:List (Kid L)},OnC s L ks→(∀j∈ba L ks,bts s' j=bts s j)→OnC s' L ks
 |0,_,_,_=>trivial
 |L+1,us,h,e=>fun u hu=>by
  have hp:∀j∈bc L u,j∈ba (L+1) us:=fun j hj=>List.mem_flatten.2 ⟨_,List.mem_map.2 ⟨u,hu,rfl⟩,hj⟩
  exact ⟨(h u hu).1.congr (e _ (hp _ (List.mem_cons_self ..))),rN (h u hu).2 fun j hj=>e j (hp _ (List.mem_cons_of_mem _ hj))⟩
theorem On.congr {s s':PgS} {L:Nat} {t:Tr L} (h:On s L t) (e:∀j∈bc L t,bts s' j=bts s j):On s' L t:=
 ⟨h.1.congr (e _ (List.mem_cons_self ..)),rN h.2 fun j hj=>e j (List.mem_cons_of_mem _ hj)⟩
structure Mv (s s':PgS) (P P':Nat→Prop):Prop where
 np:s'.np=s.np
 d:s'.d=s.d
 off:∀j,¬P j→¬P' j→stt s' j=stt s j∧(stt s j≠0→bts s' j=bts s j)
 new:∀j,P' j→¬P j→stt s j=0∧stt s' j=2∧j<s.np
 stay:∀j,P' j→P j→stt s' j=stt s j
 gone:∀j,P j→¬P' j→(stt s j=1∧stt s' j=3)∨(stt s j=2∧stt s' j=0)
 keep:∀j,stt s j=1∨stt s j=3→bts s' j=bts s j
 pend:∀w∈s'.p,w∈s.p∨(stt s (w.1/8)≠1∧stt s (w.1/8)≠3)
section
variable {s s1 s':PgS} {P P1 P' Q:Nat→Prop}
theorem Mv.k13 (m:Mv s s' P P') (j:Nat):(stt s' j=1∨stt s' j=3)↔(stt s j=1∨stt s j=3):=by
 by_cases a:P j<;>by_cases b:P' j
 ·rw[m.stay j b a]
 ·have:=m.gone j a b;omega
 ·have:=m.new j b a;omega
 ·rw[(m.off j a b).1]
theorem Mv.trans (m:Mv s s1 P P1) (m2:Mv s1 s' P1 P'):Mv s s' P P' where
 np:=m2.np.trans m.np
 d:=m2.d.trans m.d
 off j a b:=by
  by_cases c:P1 j
  ·have q:=m.new j c a
   have r:=m2.gone j c b
   exact ⟨ab,fun x=>absurd q.1 x⟩
  ·have q:=m.off j a c
   have r:=m2.off j c b
   exact ⟨r.1.trans q.1,fun x=>(r.2 (by rw[q.1];exact x)).trans (q.2 x)⟩
 new j a b:=by
  by_cases c:P1 j
  ·have q:=m.new j c b
   have r:=m2.stay j a c
   exact ⟨q.1,ab,q.2.2⟩
  ·have q:=m.off j b c
   have r:=m2.new j a c
   have:=m.np
   exact ⟨ab,r.2.1,ab⟩
 stay j a b:=by
  by_cases c:P1 j
  ·exact (m2.stay j a c).trans (m.stay j c b)
  ·have q:=m.gone j b c
   have r:=m2.new j a c
   omega
 gone j a b:=by
  by_cases c:P1 j
  ·have q:=m.stay j c a
   have r:=m2.gone j c b
   omega
  ·have q:=m.gone j a c
   have r:=(m2.off j c b).1
   omega
 keep j a:=(m2.keep j ((m.k13 j).2 a)).trans (m.keep j a)
 pend w hw:=by
  rcases m2.pend w hw with a|a
  ·exact m.pend w a
  ·right
   have:=m.k13 (w.1/8)
   omega
theorem Mv.ext (m:Mv s s' P P') (hd:∀j,Q j→¬P j) (hq:∀j,Q j→stt s j≠0):Mv s s' (fun j=>P j∨Q j) (fun j=>P' j∨Q j) where
 np:=m.np
 d:=m.d
 off j a b:=m.off j (fun x=>a (.inl x)) (fun x=>b (.inl x))
 new j a b:=m.new j (a.resolve_right fun x=>b (.inr x)) (fun x=>b (.inl x))
 stay j a b:=by
  by_cases c:Q j
  ·by_cases e:P' j
   ·exact absurd (m.new j e (hd j c)).1 (hq j c)
   ·exact (m.off j (hd j c) e).1
  ·exact m.stay j (a.resolve_right c) (b.resolve_right c)
 gone j a b:=m.gone j (a.resolve_right fun x=>b (.inr x)) (fun x=>b (.inl x))
 keep:=m.keep
 pend:=m.pend
theorem Mv.congr (m:Mv s s' P P') {A A':Nat→Prop} (a:∀j,A j↔P j) (b:∀j,A' j↔P' j):Mv s s' A A':=by
 have ea:A=P:=funext fun j=>propext (a j)
 have eb:A'=P':=funext fun j=>propext (b j)
 rw[ea,eb];exact m
theorem Mv.apart (m:Mv s s' P P') (hd:∀j,Q j→¬P j) (hq:∀j,Q j→stt s j≠0):∀j,Q j→¬P' j∧stt s' j=stt s j∧bts s' j=bts s j:=fun j c=>by
 have e:¬P' j:=fun e=>hq j c (m.new j e (hd j c)).1
 have r:=m.off j (hd j c) e
 exact ⟨e,r.1,r.2 (hq j c)⟩
theorem Mv.same (h1:s'.np=s.np) (h2:s'.d=s.d) (h3:s'.st=s.st) (h4:s'.p=s.p):Mv s s' P P:=by
 have e1:∀j,stt s' j=stt s j:=fun j=>by unfold stt;rw[h3]
 have e2:∀j,bts s' j=bts s j:=fun j=>by unfold bts;rw[h2,h4]
 exact ⟨h1,h2,fun j _ _=>⟨e1 j,fun _=>e2 j⟩,fun j a b=>absurd a b,fun j _ _=>e1 j,fun j a b=>absurd a b,fun j _=>e2 j,fun w hw=> .inl (h4▸hw)⟩
theorem Cu {i:Nat} {l:List UInt8} {w:Nat × List UInt8} (h:w∈wrs i l 8):w.1/8=i:=by
 obtain ⟨k,hk,rfl⟩:=List.mem_map.1 h
 have:=List.mem_range.1 hk
 simp only
 omega
theorem ef {st:List Nat} {i j z:Nat} (hi:i<st.length):(st.set i z).getD j 0=if j=i then z else st.getD j 0:=by
 rw[List.getD_eq_getElem?_getD,List.getElem?_set]
 by_cases e:i=j
 ·subst e;simp[hi]
 ·rw[if_neg e,if_neg (Ne.symm e),←List.getD_eq_getElem?_getD]
theorem Cv {i:Nat} {l:List UInt8} {tk:Option Nat} (h:stt s i=2):Mv s {s with p:=s.p++wrs i l 8,tk:=tk} (fun j=>j=i) (fun j=>j=i) where
 np:=rfl
 d:=rfl
 off j a _:=⟨rfl,fun _=>jO a⟩
 new j a b:=absurd a b
 stay j _ _:=rfl
 gone j a b:=absurd a b
 keep j a:=jO (by rintro rfl;omega)
 pend w hw:=by
  rcases List.mem_append.1 hw with a|a
  ·exact .inl a
  ·right;rw[Cu a];omega
theorem Cw {k:Nat} {l:List UInt8} {tk:Option Nat} {ws:List W} (h:stt s k=0) (hk:k<s.np) (hl:s.st.length=s.np):Mv s {s with ws:=ws,st:=s.st.set k 2,p:=s.p++wrs k l 8,tk:=tk} (fun _=>False) (fun j=>j=k) where
 np:=rfl
 d:=rfl
 off j _ a:=⟨by show (s.st.set k 2).getD j 0=_;rw[ef ab,if_neg a];rfl,fun _=>jO a⟩
 new j a _:=by subst a;exact ⟨h,by show (s.st.set j 2).getD j 0=_;rw[ef ab,if_pos rfl],hk⟩
 stay j _ a:=a.elim
 gone j a _:=a.elim
 keep j a:=jO (by rintro rfl;omega)
 pend w hw:=by
  rcases List.mem_append.1 hw with a|a
  ·exact .inl a
  ·right;rw[Cu a];omega
theorem Cx {i:Nat} (h:stt s i=1) (hi:i<s.st.length):Mv s {s with st:=s.st.set i 3} (fun j=>j=i) (fun _=>False) where
 np:=rfl
 d:=rfl
 off j a _:=⟨by show (s.st.set i 3).getD j 0=_;rw[ef hi,if_neg a];rfl,fun _=>rfl⟩
 new j a _:=a.elim
 stay j a _:=a.elim
 gone j a _:= .inl (by subst a;exact ⟨h,by show (s.st.set j 3).getD j 0=_;rw[ef hi,if_pos rfl]⟩)
 keep j _:=rfl
 pend w hw:= .inl hw
theorem Ei {i:Nat} {ws:List W} (h:stt s i=2) (hi:i<s.st.length):Mv s {s with ws:=ws,st:=s.st.set i 0} (fun j=>j=i) (fun _=>False) where
 np:=rfl
 d:=rfl
 off j a _:=⟨by show (s.st.set i 0).getD j 0=_;rw[ef hi,if_neg a];rfl,fun _=>rfl⟩
 new j a _:=a.elim
 stay j a _:=a.elim
 gone j a _:= .inr (by subst a;exact ⟨h,by show (s.st.set j 0).getD j 0=_;rw[ef hi,if_pos rfl]⟩)
 keep j _:=rfl
 pend w hw:= .inl hw
end
def free (s:PgS):Nat:=dQ (fun j=>decide (stt s j=0)) s.np
theorem uS {f g:Nat→Bool} {k:Nat}:∀{n:Nat},k<n→(∀j,j≠k→f j=g j)→f k=true→g k=false→dQ f n=dQ g n+1
 |0,h,_,_,_=>absurd h (Nat.not_lt_zero _)
 |n+1,h,e,a,b=>by
  rw[dQ,dQ]
  by_cases q:k=n
  ·subst q
   rw[a,b,fR k fun i hi=>e i ab]
   rfl
  ·rw[uS (n:=n) ab e a b,e n (Ne.symm q)]
   omega
theorem x8 {f g:Nat→Bool}:∀{n:Nat},(∀j,j<n→f j=true→g j=true)→dQ f n≤dQ g n
 |0,_=>Nat.le_refl _
 |n+1,h=>by
  rw[dQ,dQ]
  have h1:=x8 (f:=f) (g:=g) (n:=n) fun j hj=>h j ab
  have h2:=h n ab
  cases hf:f n<;>cases hg:g n<;>simp_all<;>omega
theorem rO {s:PgS} (ok:cd s) (h:0<free s):∃k,kr s.ws s.np=some k∧k<s.np∧stt s k=0:=by
 cases hf:kr s.ws s.np with
 |some k=>
  have q:=pY hf
  refine ⟨k,rfl,q.1,?_⟩
  have:=ok.bit k
  rw[q.2,decide_eq_true q.1] at this
  simpa [stt] using this
 |none=>
  have q:=List.find?_range_eq_none.1 hf
  exfalso
  have:free s=0:=by
   unfold free
   refine nF _ fun j hj=>?_
   have b:=q j hj
   have c:=ok.bit j
   rw[decide_eq_true hj] at c
   simp only[Bool.not_eq_true',Bool.not_eq_false] at b
   have b:eJ s.ws j=true:=by simpa using b
   rw[b] at c
   simpa [stt] using c.symm
  omega
theorem rP {s s':PgS} {k:Nat} (hn:s'.np=s.np) (hk:k<s.np) (h0:stt s k=0) (h1:stt s' k≠0) (h2:∀j,j≠k→stt s' j=stt s j):free s=free s'+1:=by
 unfold free
 rw[hn]
 exact uS hk (fun j hj=>by rw[h2 j hj]) (by simpa using h0) (by simpa using h1)
theorem rQ {s s':PgS} (hn:s'.np=s.np) (h:∀j,stt s j=0↔stt s' j=0):free s'=free s:=by
 unfold free
 rw[hn]
 exact fR _ fun j _=>by simp only[h j]
theorem tr {s:PgS} {i:Nat} {n:Page.Node} {p:List (Nat × List UInt8)} (h:check n=0) (hp:s.p=p++wrs i (bB n) 8):Has s i n:=by
 have e:bB n=bytesOf n:=by unfold bB;rw[if_pos h]
 have hl:=fD h
 obtain ⟨b1,b2⟩:=zT h
 unfold Has
 rw[hp,e,Cj hl]
 unfold lj fC
 rw[if_pos b1,if_pos b1]
 exact ⟨rfl,b2⟩
end Go.Proofs.YtbgmofhgfnmaiaaGreat.Tree
end
section
set_option maxRecDepth 100000
namespace Go.Proofs.YtbgmofhgfnmaiaaGreat.Tree
open Go Go.Av Go.Proofs Go.Proofs.YtbgmofhgfnmaiaaGreat.C Go.Proofs.YtbgmofhgfnmaiaaGreat.Page
open Go.Proofs.YtbgmofhgfnmaiaaGreat.Batch (Bs Pr prs aW)
section
variable {x:PgI} {s:PgS} {T:List Nat} {h:H}
structure Stp (x:PgI) (T:List Nat) (s:PgS) (h:H) (P P':Nat→Prop) (c:Nat) (s':PgS) (h':H):Prop where
 pg:PgH x s' T h'
 ok:cd s'
 mv:Mv s s' P P'
 fr:free s≤free s'+c
 pl:s'.p.length≤s.p.length+8*c
 sm:cD x h h'
 no:aq h h'
 ln:h.n≤h'.n
theorem x9 {n:Page.Node} (hc:check n=0):(bB n).length=1024:=by
 have e:bB n=bytesOf n:=by unfold bB;rw[if_pos hc]
 rw[e];exact fD hc
theorem tw (i:Nat) (l:List UInt8):(wrs i l 8).length=8:=by simp[wrs]
theorem tz {tid:Nat} {r:Int} {n:Page.Node} (g:PgH x s T h) (ok:cd s) (ht:h.objs tid=some (trO x r)) (hn:Nb n) (hc:check n=0) (hf:0<free s) (hp:s.p.length<900000):
  aI Tryz.prog 55 [.ptr tid 0,aD n] h fun q h'=>∃s' k,q= .int .i64 (k:Nat)∧Stp x T s h (fun _=>False) (fun j=>j=k) 1 s' h'∧Has s' k n:=by
 obtain ⟨k,hk,k1,k2⟩:=rO ok hf
 have hl:=x9 hc
 obtain ⟨q,h',ca,n1,m1,rfl,⟨tk,g2⟩,sm,no⟩:=x5 g ok ht hn hc hl hk hp
 refine ⟨_,h',ca,n1,m1,_,k,rfl,⟨g2,(ok.take k1 ah ah).more (s9 hl k1),Cw k2 k1 ok.st,?_,?_,sm,no,n1⟩,tr hc rfl⟩
 ·refine Nat.le_of_eq (rP (k:=k) rfl k1 k2 ?_ fun j hj=>?_)
  ·show (s.st.set k 2).getD k 0≠0
   rw[ef (by rw[ok.st];exact k1),if_pos rfl];decide
  ·show (s.st.set k 2).getD j 0=_
   rw[ef (by rw[ok.st];exact k1),if_neg hj];rfl
 ·show (s.p++wrs k (bB n) 8).length≤_
  rw[List.length_append,tw];omega
abbrev Tid (x:PgI) (tid:Nat):Prop:=tid≠x.P∧tid≠x.A∧tid≠x.U∧tid≠x.D∧tid≠x.K∧tid≠x.I
theorem tA {tid i:Nat} {r:Int} {n:Page.Node} (g:PgH x s T h) (ok:cd s) (ht:h.objs tid=some (trO x r)) (htx:Tid x tid) (hn:Nb n) (hc:check n=0) (hi:i<s.np) (hs:stt s i=1∨stt s i=2) (hf:0<free s) (hp:s.p.length<900000):
  aI Tryz.prog 78 [.ptr tid 0,.int .i64 (i:Int),aD n] h fun q h'=>∃s' k,q= .int .i64 (k:Nat)∧Stp x T s h (fun j=>j=i) (fun j=>j=k) 1 s' h'∧Has s' k n:=by
 have hl:=x9 hc
 rcases hs with hs|hs
 ·obtain ⟨k,hk,k1,k2⟩:=rO ok hf
  obtain ⟨q,h',ca,n1,m1,rfl,⟨tk,g2⟩,sm,no⟩:=tp g ok ht htx hn hc hl hi hs hk hp
  have ki:i≠k:=by rintro rfl;omega
  have si:i<s.st.length:=by rw[ok.st];exact hi
  have sk:k<s.st.length:=by rw[ok.st];exact k1
  have o2:=(ok.take k1 (z:=2) ah ah).more (p:=wrs k (bB n) 8) (tk:=tk) (s9 hl k1)
  have e2:(s.st.set k 2).getD i 0=1:=by rw[ef sk,if_neg ki];exact hs
  have m2:Mv s {s with ws:=setW s.ws k true,st:=s.st.set k 2,p:=s.p++wrs k (bB n) 8,tk:=tk} (fun j=>False∨j=i) (fun j=>j=k∨j=i):=(Cw k2 k1 ok.st).ext (Q:=fun j=>j=i) (fun j _=>id) (fun j hj=>by subst hj;omega)
  have m3:=(Cx (s:={s with ws:=setW s.ws k true,st:=s.st.set k 2,p:=s.p++wrs k (bB n) 8,tk:=tk}) (i:=i) e2 (by simpa using si)).ext (Q:=fun j=>j=k) (fun j a b=>ki (b▸a)) (fun j hj=>by
   subst hj
   show (s.st.set j 2).getD j 0≠0
   rw[ef sk,if_pos rfl];decide)
  have mm:=Mv.trans (m2.congr (A:=fun j=>j=i) (A':=fun j=>j=i∨j=k) (fun j=>by simp) (fun j=>Or.comm)) m3
  refine ⟨_,h',ca,n1,m1,_,k,rfl,⟨g2,o2.set hi ah ah (by rw[show ({s with ws:=setW s.ws k true,st:=s.st.set k 2,p:=s.p++wrs k (bB n) 8,tk:=tk}:PgS).st=s.st.set k 2 from rfl,e2];decide),mm.congr (fun j=>Iff.rfl) (fun j=>by simp),?_,?_,sm,no,n1⟩,tr hc rfl⟩
  ·have f1:free s=free {s with ws:=setW s.ws k true,st:=s.st.set k 2,p:=s.p++wrs k (bB n) 8,tk:=tk}+1:=rP (k:=k) rfl k1 k2 (by
    show (s.st.set k 2).getD k 0≠0
    rw[ef sk,if_pos rfl];decide) fun j hj=>by
    show (s.st.set k 2).getD j 0=_
    rw[ef sk,if_neg hj];rfl
   refine Nat.le_of_eq (f1.trans (congrArg (· +1) (Eq.symm (rQ (s:={s with ws:=setW s.ws k true,st:=s.st.set k 2,p:=s.p++wrs k (bB n) 8,tk:=tk}) (s':={s with ws:=setW s.ws k true,st:=(s.st.set k 2).set i 3,p:=s.p++wrs k (bB n) 8,tk:=tk}) rfl fun j=>?_))))
   show (s.st.set k 2).getD j 0=0↔((s.st.set k 2).set i 3).getD j 0=0
   rw[ef (st:=s.st.set k 2) (by simpa using si)]
   by_cases e:j=i
   ·subst e;rw[e2,if_pos rfl];decide
   ·rw[if_neg e]
  ·show (s.p++wrs k (bB n) 8).length≤_
   rw[List.length_append,tw];omega
 ·obtain ⟨q,h',ca,n1,m1,rfl,⟨tk,g2⟩,sm,no⟩:=wP g ok ht hn hc hl hi hs hp
  refine ⟨_,h',ca,n1,m1,_,i,rfl,⟨g2,ok.more (s9 hl hi),Cv hs,Nat.le_succ_of_le (Nat.le_of_eq rfl),?_,sm,no,n1⟩,tr hc rfl⟩
  show (s.p++wrs i (bB n) 8).length≤_
  rw[List.length_append,tw];omega
end
end Go.Proofs.YtbgmofhgfnmaiaaGreat.Tree
end
section
set_option maxRecDepth 100000
namespace Go.Proofs.YtbgmofhgfnmaiaaGreat.Tree
open Go Go.Av Go.Proofs Go.Proofs.YtbgmofhgfnmaiaaGreat.C Go.Proofs.YtbgmofhgfnmaiaaGreat.Page
open Go.Proofs.YtbgmofhgfnmaiaaGreat.Batch (Bs Pr prs aW)
abbrev Res (L:Nat):=Tr L × Option (Bs × Tr L)
def spK {L:Nat}:Option (Bs × Tr L)→Bs
 |none=>[]
 |some q=>q.1
def spP {L:Nat}:Option (Bs × Tr L)→Int
 |none=> -1
 |some q=>(q.2.pg:Nat)
def Cy {L:Nat} (o:Option (Bs × Tr L)):AV:= .agg [.str (spK o),.int .i64 (spP o)]
def lx {L:Nat} (R:Res L):AV:= .tup [.int .i64 (R.1.pg:Nat),Cy R.2]
def more {L:Nat} {α:Type} (f:Tr L→List α):Option (Bs × Tr L)→List α
 |none=>[]
 |some q=>f q.2
def cq (L:Nat) (R:Res L):List Nat:=bc L R.1++more (bc L) R.2
def ky (L:Nat) (R:Res L):List Pr:=aN L R.1++more (aN L) R.2
def qd (L:Nat) (lo:Bs) (hi:Option Bs) (R:Res L):Prop:=
 match R.2 with
 |none=>WF L lo hi R.1
 |some q=>WF L lo (some q.1) R.1∧WF L q.1 hi q.2∧Lt lo q.1∧(∀h,hi=some h→Lt q.1 h)∧q.1.length≤128
def top {L:Nat} (R:Res L) (j:Nat):Prop:=j=R.1.pg∨∃q,R.2=some q∧j=q.2.pg
section
variable {x:PgI} {s:PgS} {T:List Nat} {h:H}
structure Std (L:Nat) (lo:Bs) (hi:Option Bs) (ks:List Bs) (kids:List (Kid L)) (s':PgS) (R:Res L):Prop where
 h1:Has s' R.1.pg (bD L R.1.ks R.1.kids)
 h2:∀q,R.2=some q→Has s' q.2.pg (bD L q.2.ks q.2.kids)∧R.1.pg≠q.2.pg
 wf:qd L lo hi R
 ps:ky L R=lX L ks kids
 kd:R.1.kids++more Nd.kids R.2=kids
 n0:R.2=none→R.1.ks=ks
 nf:∀q,R.2=some q→¬size (bD L ks kids)≤1024
 cn:∀q,R.2=some q→0<L→2≤R.1.kids.length∧2≤q.2.kids.length∧9≤R.1.kids.length+q.2.kids.length
theorem lY {n:Page.Node} (hr:right n=true) (hz:size n≤1024):check n=0:=by
 unfold check;rw[if_pos hr,if_pos hz]
theorem Cz (L:Nat):lim L≤1355:=by unfold lim;split<;>omega
theorem ya {L tid i:Nat} {r:Int} {lo:Bs} {hi:Option Bs} {ks:List Bs} {kids:List (Kid L)} (g:PgH x s T h) (ok:cd s) (ht:h.objs tid=some (trO x r)) (htx:Tid x tid) (hi':i<s.np) (hs:stt s i=1∨stt s i=2) (hr:right (bD L ks kids)=true) (hz:size (bD L ks kids)≤lim L) (hw:WC L lo hi ks kids) (hf:2≤free s) (hp:s.p.length+16<900000):
  aI Tryz.prog 86 [.ptr tid 0,.int .i64 (i:Int),aD (bD L ks kids)] h fun q h'=>∃s' R,q=lx R∧Stp x T s h (fun j=>j=i) (top R) 2 s' h'∧Std L lo hi ks kids s' R:=by
 have hsm:=cb hr (Nat.le_trans hz (Cz L))
 by_cases hfit:size (bD L ks kids)≤1024
 ·obtain ⟨q,h',ca,n1,m1,s',k,rfl,g',⟨o1,o2,o3,o4,o5⟩,sm,no⟩:=wQ (Q:=fun s' k=>cd s'∧Mv s s' (fun j=>j=i) (fun j=>j=k)∧free s≤free s'+1∧s'.p.length≤s.p.length+8∧Has s' k (bD L ks kids)) g ht hsm.1 hfit fun h1 g1 ht1=>
   (tA g1 ok ht1 htx hsm.1 (lY hr hfit) hi' hs ab ab).mono fun q h2 ⟨s',k,e,st,hh⟩=>⟨s',k,e,st.pg,⟨st.ok,st.mv,st.fr,st.pl,hh⟩,st.sm,st.no⟩
  refine ⟨_,h',ca,n1,m1,s',(⟨k,ks,kids⟩,none),rfl,⟨g',o1,o2.congr (fun j=>Iff.rfl) (fun j=>by simp[top]),ab,ab,sm,no,n1⟩,⟨o5,fun q hq=>(by cases hq),⟨hr,hfit,hw⟩,by simp[ky,more,aN],by simp[more],fun _=>rfl,fun q hq=>(by cases hq),fun q hq=>(by cases hq)⟩⟩
 ·obtain ⟨ks1,kids1,key,ks2,kids2,S⟩:=Eh hr hfit hz hw
  have q1:=cb S.r1 (by have:=S.z1;omega)
  have q2:=cb S.r2 (by have:=S.z2;omega)
  have el:(split (bD L ks kids)).l=bD L ks1 kids1:=by rw[S.eq]
  have er:(split (bD L ks kids)).r=bD L ks2 kids2:=by rw[S.eq]
  have ek:(split (bD L ks kids)).k=key:=by rw[S.eq]
  obtain ⟨q,h',ca,n1,m1,s1,k,s2,k2,e,⟨o1,o2,o3,o4,o5⟩,g',⟨u1,u2,u3,u4,u5⟩,sm,no⟩:=tq (Q:=fun s' k=>cd s'∧Mv s s' (fun j=>j=i) (fun j=>j=k)∧free s≤free s'+1∧s'.p.length≤s.p.length+8∧Has s' k (bD L ks1 kids1))
   (Q2:=fun s1 k s2 k2=>cd s2∧Mv s1 s2 (fun _=>False) (fun j=>j=k2)∧free s1≤free s2+1∧s2.p.length≤s1.p.length+8∧Has s2 k2 (bD L ks2 kids2)) g ht htx hsm.1 hsm.2 hfit (by have:=Cz L;omega) (fun h1 g1 ht1=>by
    rw[el]
    exact (tA g1 ok ht1 htx q1.1 (lY S.r1 S.z1) hi' hs ab ab).mono fun q h2 ⟨s',k,e,st,hh⟩=>⟨s',k,e,st.pg,⟨st.ok,st.mv,st.fr,st.pl,hh⟩,st.sm,st.no⟩)
   (fun s1 k h1 o g1 ht1=>by
    rw[er]
    obtain ⟨o1,o2,o3,o4,o5⟩:=o
    exact (tz g1 o1 ht1 q2.1 (lY S.r2 S.z2) ab ab).mono fun q h2 ⟨s',k,e,st,hh⟩=>⟨s',k,e,st.pg,⟨st.ok,st.mv,st.fr,st.pl,hh⟩,st.sm,st.no⟩)
  rw[ek] at e
  subst e
  have hk0:stt s1 k≠0:=by
   by_cases c:k=i
   ·have:=o2.stay k rfl c;subst c;omega
   ·have:=(o2.new k rfl c).2.1;omega
  have hk2:k≠k2:=by
   rintro rfl
   exact hk0 (u2.new k rfl id).1
  have m2:=u2.ext (Q:=fun j=>j=k) (fun j _=>id) (fun j hj=>by subst hj;exact hk0)
  have ap:=u2.apart (Q:=fun j=>j=k) (fun j _=>id) (fun j hj=>by subst hj;exact hk0) k rfl
  have mm:=o2.trans (m2.congr (A:=fun j=>j=k) (A':=fun j=>j=k∨j=k2) (fun j=>by simp) (fun j=>Or.comm))
  refine ⟨_,h',ca,n1,m1,s2,(⟨k,ks1,kids1⟩,some (key,⟨k2,ks2,kids2⟩)),rfl,⟨g',u1,mm.congr (fun j=>Iff.rfl) (fun j=>by simp[top]),ab,ab,sm,no,n1⟩,⟨o5.congr ap.2.2,fun q hq=>(by cases hq;exact ⟨u5,hk2⟩),⟨⟨S.r1,S.z1,S.w1⟩,⟨S.r2,S.z2,S.w2⟩,S.k1,S.k2,S.kl⟩,S.ps,S.kd,fun hq=>(by cases hq),fun q hq=>hfit,fun q hq h0=>(by cases hq;exact S.cn h0)⟩⟩
end
end Go.Proofs.YtbgmofhgfnmaiaaGreat.Tree
end
section
set_option maxRecDepth 100000
namespace Go.Proofs.YtbgmofhgfnmaiaaGreat.Tree
open Go Go.Av Go.Proofs Go.Proofs.YtbgmofhgfnmaiaaGreat.C Go.Proofs.YtbgmofhgfnmaiaaGreat.Page
open Go.Proofs.YtbgmofhgfnmaiaaGreat.Batch (Bs Pr prs aW)
def eZ:(L:Nat)→Nat→Tr L→Nat
 |0,j=>fun _=>if j=0 then 1 else 0
 |L+1,j=>fun t:Nd (Tr L)=>if j=L+1 then 1 else (t.kids.map (eZ L j)).sum
def exT:(L:Nat)→Nat→Tr L→Nat
 |0,_=>fun _=>0
 |L+1,j=>fun t:Nd (Tr L)=>if j=L+1 then t.kids.length - 5 else (t.kids.map (exT L j)).sum
def iu {L:Nat} (f:Tr L→Nat) (R:Res L):Nat:=f R.1+(match R.2 with|none=>0|some q=>f q.2)
def Pot (L:Nat) (t:Tr L) (R:Res L):Prop:=∃e:Nat→Nat,(∀j,e j≤1)∧(R.2=none→e L=0)∧(∀q,R.2=some q→e L=1)∧(∀j,j≤L→iu (eZ L j) R≤eZ L j t+e j)∧(∀j,j<L→2*e (j+1)+iu (exT L (j+1)) R≤exT L (j+1) t+e j)
structure Ej (L:Nat) (lo:Bs) (hi:Option Bs) (t:Tr L) (ps:List Pr) (s':PgS) (R:Res L):Prop where
 on:On s' L R.1
 on2:∀q,R.2=some q→On s' L q.2
 wf:qd L lo hi R
 ps:ky L R=ps
 nd:(cq L R).Nodup
 pot:Pot L t R
section
variable {x:PgI} {s:PgS} {T:List Nat} {h:H}
theorem Stp.pre {P P':Nat→Prop} {c:Nat} {s':PgS} {h1 h2:H} (st:Stp x T s h1 P P' c s' h2) (sm:cD x h h1) (no:aq h h1) (ln:h.n≤h1.n):Stp x T s h P P' c s' h2:=
 ⟨st.pg,st.ok,st.mv,st.fr,st.pl,sm.trans st.sm ln,aq.trans no st.no ln st.ln,Nat.le_trans ln st.ln⟩
theorem Stp.put {P P':Nat→Prop} {c:Nat} {s':PgS} {h2:H} {j0:Nat} {o p:Av.Obj} (st:Stp x T s h P P' c s' h2) (g:PgH x s T h) (hp:h2.objs j0=some p) (h0:h.n≤j0) (h1:j0<h2.n):Stp x T s h P P' c s' {h2 with objs:=upd h2.objs j0 (some o)}:=by
 have lt:=g.lt
 refine ⟨st.pg.other h1 ab,st.ok,st.mv,st.fr,st.pl,fun j hj a1 a2 a3 a4 a5 a6=>?_,aq.trans st.no (aq.set hp) st.ln (Nat.le_refl _),st.ln⟩
 have e:(upd h2.objs j0 (some o):Nat→Option Av.Obj) j=h2.objs j:=by simp only[upd];rw[if_neg ab]
 exact e.trans (st.sm j hj a1 a2 a3 a4 a5 a6)
theorem pV {tid d:Nat} {r:Int} {lo:Bs} {hi:Option Bs} {i:Nat} {ks vs:List Bs} {key val:Bs} (g:PgH x s T h) (ok:cd s) (ht:h.objs tid=some (trO x r)) (htx:Tid x tid) (hi':i<s.np) (hs:stt s i=1∨stt s i=2) (hH:Has s i (aB ks vs)) (hr:right (aB ks vs)=true) (hz:size (aB ks vs)≤1024)
  (hw:∀k∈ks,inB lo hi k) (hkb:inB lo hi key) (hk:key.length≤128) (hv:val.length≤200) (hd:d≤20) (hf:2≤free s) (hp:s.p.length+16<900000):
  aI Tryz.prog 56 [.ptr tid 0,.int .i64 (i:Int),.int .i64 (d:Int),.str key,.str val] h fun q h'=>∃s' R,q=lx R∧Stp x T s h (fun j=>j=i) (top R) 2 s' h'∧Ej 0 lo hi ⟨i,ks,vs⟩ (fS (List.zipWith Pr.mk ks vs) key val) s' R:=by
 refine f56.bu af ?_
 unfold c56 zz
 have hlt:tid<h.n:=by
  rcases Nat.lt_or_ge tid h.n with q|q
  ·exact q
  ·rw[g.fresh _ q] at ht;cases ht
 obtain ⟨ks',vs',p1,p2,p3,p4,p5,p6,p7⟩:=Ct (val:=val) hr hk hv
 have hsm:=cb (L:=0) hr (by have:size (aB ks vs)≤1024:=hz;show size (aB ks vs)≤1355;omega)
 have cp:=Gt (aB ks vs) hsm.1 hsm.2 key val (by unfold Ls;omega)
 rw[p1,p2] at cp
 have hsm':=cb (L:=0) (ks:=ks') (kids:=vs') p3 (by show size (aB ks' vs')≤1355;omega)
 have ht1:=(aL (o:= .cells [.str [],.int .i64 0]) hlt).trans ht
 have hn1:=bU (h:=h) (o:= .cells [.str [],.int .i64 0])
 have g1:=g.new (.cells [.str [],.int .i64 0])
 have k1:Kept h (H.new h (.cells [.str [],.int .i64 0])):=fun j hj=>aL hj
 have no1:=bN (h:=h) (o:= .cells [.str [],.int .i64 0])
 have ln:(H.new h (.cells [.str [],.int .i64 0])).n=h.n+1:=rfl
 refine rf0 @and_self ?_
 change an _ _ _ _ (H.new h (.cells [.str [],.int .i64 0])) _
 generalize H.new h (.cells [.str [],.int .i64 0])=h1 at*
 have hnd:=jP g1 ok ht1 hi' (by show stt s i≠0;omega) ab hd hH.1
 rw[hH.2] at hnd
 refine an.aT (vals:=[.ptr tid 0,.int .i64 (i:Int),.int .i64 (d:Int)]) ae xA4 hnd fun q h2 ⟨hq,g2,k2,no2⟩ n2 _=>?_
 subst hq
 have ht2:=(k2 tid ab).trans ht1
 have hn2:=(k2 h.n ab).trans hn1
 have g3:=(g2.new (aC (aB ks vs))).new (aC (aB ks' vs'))
 have ln3:(H.new (H.new h2 (aC (aB ks vs))) (aC (aB ks' vs'))).n=h2.n+1+1:=rfl
 have ht3:(H.new (H.new h2 (aC (aB ks vs))) (aC (aB ks' vs'))).objs tid=some (trO x r):=(aL (Nat.lt_succ_of_lt ab)).trans ((aL ab).trans ht2)
 have hn3:(H.new (H.new h2 (aC (aB ks vs))) (aC (aB ks' vs'))).objs h.n=some (.cells [.str [],.int .i64 0]):=(aL (Nat.lt_succ_of_lt ab)).trans ((aL ab).trans hn2)
 have sm3:cD x h (H.new (H.new h2 (aC (aB ks vs))) (aC (aB ks' vs'))):=((ed k1).trans (ed k2) ab).trans (cN.trans cN (Nat.le_succ _)) ab
 have no3:aq h (H.new (H.new h2 (aC (aB ks vs))) (aC (aB ks' vs'))):=aq.trans (aq.trans no1 no2 ab ab) (aq.trans bN bN (Nat.le_succ _) (Nat.le_succ _)) ab ab
 have nn3:=bU (h:=H.new h2 (aC (aB ks vs))) (o:=aC (aB ks' vs'))
 unfold aD at cp
 unfold aD
 refine an.evF xAc ?_
 rw[bn]
 refine an.nil ?_
 refine rf1 @and_self cp ?_
 rw[bn]
 refine an.cF xA2 xAb (by exact ⟨Nat.le_refl _,Nat.le_refl _⟩) (eS) ?_
 refine an.nil ?_
 refine Wp.le (s':=⟨tm [(0,.ptr tid 0),(1,.int .i64 i),(11,.ptr h.n 0),(13,.ptr (h2.n+1) 0)],H.new (H.new h2 (aC (aB ks vs))) (aC (aB ks' vs'))⟩) (aK.of (bp ?_) (OLe.refl _) (fun y hy=>hy) (Nat.le_refl _) (Nat.le_refl _)) ?_
 ·exact xSb
 have nn3:(H.new (H.new h2 (aC (aB ks vs))) (aC (aB ks' vs'))).objs (h2.n+1)=some (aC (aB ks' vs')):=nn3
 generalize H.new (H.new h2 (aC (aB ks vs))) (aC (aB ks' vs'))=h3 at*
 unfold aC at nn3
 refine rf0 nn3 ?_
 have hst:=ya (L:=0) (lo:=lo) (hi:=hi) (ks:=ks') (kids:=vs') g3 ok ht3 htx hi' hs p3 (by show size (aB ks' vs')≤1355;omega) ⟨p5,fun k hk'=>by
  rcases p6 k hk' with rfl|q
  ·exact hkb
  ·exact hw k q⟩ hf hp
 have lt:=g.lt
 refine an.aT (vals:=[.ptr tid 0,.int .i64 (i:Int),aD (aB ks' vs')]) ae xA4 hst fun q h4 ⟨s',R,hq,st,sd⟩ n4 _=>?_
 subst hq
 have hn4:h4.objs h.n=some (.cells [.str [],.int .i64 0]):=(st.sm _ ab ab ab ab ab ab ab).trans hn3
 unfold lx Cy
 refine an.evF (xAd hn4) ?_
 refine an.nil ?_
 refine Wp.ret ?_
 refine ⟨trivial,.tup [.int .i64 (R.1.pg:Nat),.agg [.str (spK R.2),.int .i64 (spP R.2)]],?_,s',R,rfl,(st.pre sm3 no3 ab).put g hn4 (Nat.le_refl _) ab,?_⟩
 ·have e2:de [RV.tmp 10,RV.cell 11 (some 2)] (tm [(10,.int .i64 (R.1.pg:Nat)),(11,.ptr h.n 0)]) ⟨upd h4.objs h.n (some (.cells [.str (spK R.2),.int .i64 (spP R.2)])),h4.n,h4.toks,h4.m⟩=some (.tup [.int .i64 (R.1.pg:Nat),.agg [.str (spK R.2),.int .i64 (spP R.2)]]):=by
   simp[de,rvs,rv,tm,upd,Av.part,shaped,aO]
  exact e2
 ·obtain ⟨t1,o⟩:=R
  refine ⟨⟨sd.h1,trivial⟩,fun q hq=>⟨(sd.h2 q hq).1,trivial⟩,sd.wf,sd.ps.trans p7,?_,?_⟩
  ·cases o with
   |none=>show [t1.pg].Nodup;simp
   |some q=>
    have:=(sd.h2 q rfl).2
    show [t1.pg,q.2.pg].Nodup
    simpa using this
  ·refine ⟨fun j=>if j=0∧o.isSome then 1 else 0,fun j=>by simp only;split<;>omega,fun hn=>by simp only at hn;subst hn;rfl,fun q hq=>by simp only at hq;subst hq;rfl,fun j hj=>?_,fun j hj=>absurd hj (Nat.not_lt_zero _)⟩
   obtain rfl:j=0:=by omega
   cases o<;>simp[iu,eZ]
end
end Go.Proofs.YtbgmofhgfnmaiaaGreat.Tree
end
section
set_option maxRecDepth 100000
namespace Go.Proofs.YtbgmofhgfnmaiaaGreat.Tree
open Go Go.Av Go.Proofs Go.Proofs.YtbgmofhgfnmaiaaGreat.C Go.Proofs.YtbgmofhgfnmaiaaGreat.Page
open Go.Proofs.YtbgmofhgfnmaiaaGreat.Batch (Bs Pr prs aW)
def rk {L:Nat} (o:Option (Bs × Tr L)):List Bs:=match o with|none=>[]|some q=>[q.1]
def rt {L:Nat} (R:Res L):List (Tr L):=R.1::(match R.2 with|none=>[]|some q=>[q.2])
def nks {L:Nat} (ks:List Bs) (j:Nat) (R:Res L):List Bs:=ks.take j++(rk R.2++ks.drop j)
def nus {L:Nat} (us:List (Tr L)) (j:Nat) (R:Res L):List (Tr L):=us.take j++(rt R++us.drop (j+1))
def bK {L:Nat} (us:List (Tr L)):List Int:=us.map fun u=>((u.pg:Nat):Int)
theorem yb {L:Nat} {us:List (Tr L)} {j:Nat} {R:Res L} (h:R.2=none):(bK us).take j++((R.1.pg:Nat):Int)::(bK us).drop (j+1)=bK (nus us j R):=by
 unfold nus rt
 rw[h]
 simp[bK]
theorem Ek {L:Nat} {us:List (Tr L)} {j:Nat} {R:Res L} {q:Bs × Tr L} (h:R.2=some q) (hj:j<us.length):
  (((bK us).take j++((R.1.pg:Nat):Int)::(bK us).drop (j+1)).take (j+1)++((q.2.pg:Nat):Int)::((bK us).take j++((R.1.pg:Nat):Int)::(bK us).drop (j+1)).drop (j+1))=bK (nus us j R):=by
 unfold nus rt
 rw[h]
 have e:((bK us).take j).length=j:=by simp[bK];omega
 have e1:((bK us).take j++((R.1.pg:Nat):Int)::(bK us).drop (j+1)).take (j+1)=(bK us).take j++[((R.1.pg:Nat):Int)]:=by
  rw[List.take_append,e,List.take_of_length_le ab,show j+1 - j=1 by omega]
  simp
 have e2:((bK us).take j++((R.1.pg:Nat):Int)::(bK us).drop (j+1)).drop (j+1)=(bK us).drop (j+1):=by
  rw[List.drop_append,e,List.drop_eq_nil_of_le ab,show j+1 - j=1 by omega]
  simp
 rw[e1,e2]
 simp[bK]
end Go.Proofs.YtbgmofhgfnmaiaaGreat.Tree
end
section
set_option maxRecDepth 100000
namespace Go.Proofs.YtbgmofhgfnmaiaaGreat.Tree
open Go Go.Av Go.Proofs Go.Proofs.YtbgmofhgfnmaiaaGreat.C Go.Proofs.YtbgmofhgfnmaiaaGreat.Page
open Go.Proofs.YtbgmofhgfnmaiaaGreat.Batch (Bs Pr prs aW)
section
variable {x:PgI} {s:PgS} {T:List Nat} {h:H}
theorem dJ (g:PgH x s T h) {j:Nat} (hj:h.n≤j):Tid x j:=by
 have lt:=g.lt
 refine ⟨?_,?_,?_,?_,?_,?_⟩ <;>omega
theorem cx {h':H} (sm:cD x h h') {j:Nat} (hj:j<h.n) (a:Tid x j):h'.objs j=h.objs j:=sm j hj a.1 a.2.1 a.2.2.1 a.2.2.2.1 a.2.2.2.2.1 a.2.2.2.2.2
theorem dz.same {h':H} {n0 c:Nat} {K:AV} {xs:List AV} (r:dz h n0 K xs c) (sm:cD x h h') (hn:h.n≤h'.n) (ht:∀j,n0≤j→Tid x j):dz h' n0 K xs c:=
 r.keep hn (fun j a b _=>cx sm b (ht j a)) (fun a _ h=>h)
theorem CA {L:Nat} {ks:List Bs} {us:List (Tr L)} {K:AV} {n0 c:Nat} (rK:dz h n0 K (strs ks) c) (oc:h.objs c=some (.cells (ints (bK us)))) {rest:List AV}:
  ay (gR h (fun _=>true) [.agg [.bool false,K,.sl 1 [] (.exact 0),.tsl 1 c 0 us.length none]]) [aD (au L ks us)]:=by
 have hk2:us.length=(ints (bK us)).length:=by simp[ints,bK]
 have hT:av (unT h (fun _=>true) (.tsl 1 c 0 us.length none)) (.sl 1 (ints (bK us)) .any):=by
  rw[hk2];exact Cm oc
 unfold aD au
 simp only[gR]
 refine ay.cons ?_ ay.nil
 simp only[unT,gR]
 simp only[unT] at hT
 exact av.agg (ay.cons (av.refl _) (ay.cons rK.un (ay.cons av.cap (ay.cons hT ay.nil))))
theorem CB {L:Nat} {ks:List Bs} {us:List (Tr L)} {K:AV} {n0 c:Nat} {key:Bs} (rK:dz h n0 K (strs ks) c) (oc:h.objs c=some (.cells (ints (bK us)))) (hr:right (au L ks us)=true) (hn:Nb (au L ks us)):
  aJ Tryz.prog 42 [.agg [.bool false,K,.sl 1 [] (.exact 0),.tsl 1 c 0 us.length none],.str key] h (.tup [.int .i64 (place (au L ks us) key:Nat),.bool false]) h:=by
 have f:=nz (au L ks us) hn key
 have e1:dP (au L ks us) key=place (au L ks us) key:=by unfold dP;rw[if_pos hr]
 have e2:bC (au L ks us) key=false:=by unfold bC found;simp[au]
 rw[e1,e2] at f
 refine aZ.EG f ?_ (fun _ _ _ _ h=>by simpa [aw,aA] using h)
 have:=CA (rest:=[]) rK oc
 simp only[gR] at this ⊢
 exact ay.cons (by
  intro G w v hv
  have:=this G w [v] (by simp only[aA];exact ⟨v,[],rfl,hv,rfl⟩)
  simp only[aA] at this
  obtain ⟨v',us',e,h1,-⟩:=this
  have:v=v':=by simpa using (List.cons.inj e).1
  rw[this];exact h1) (ay.cons (by simp only[unT];exact av.refl _) ay.nil)
theorem PgH.at {h':H} (g:PgH x s T h) (q:∀j,¬Tid x j→h'.objs j=h.objs j) (hn:h.n≤h'.n) (hf:∀j,h'.n≤j→h'.objs j=none) (ht:h'.toks=h.toks) (hm:h.m≤h'.m):PgH x s T h' where
 oP:=(q _ (by simp[Tid])).trans g.oP
 oA:=(q _ (by simp[Tid])).trans g.oA
 oU:=(q _ (by simp[Tid])).trans g.oU
 oD:=(q _ (by simp[Tid])).trans g.oD
 oK:=(q _ (by simp[Tid])).trans g.oK
 oI:=(q _ (by simp[Tid])).trans g.oI
 lt:=by have:=g.lt;omega
 ne:=g.ne
 fresh:=hf
 toks:=ht.trans g.toks
 tm:=fun t h=>Nat.lt_of_lt_of_le (g.tm t h) hm
 tkm:=fun t h=>⟨Nat.lt_of_lt_of_le (g.tkm t h).1 hm,(g.tkm t h).2⟩
 tk0:=g.tk0
theorem dz.unD {n0 c:Nat} {K:AV} {xs:List AV} {d:Nat→Bool} (r:dz h n0 K xs c) (hd:∀a l c',K= .tsl 1 a 0 l c'→d a=true):av (unT h d K) (.sl 1 xs .any):=by
 rcases r with ⟨rfl,rfl⟩|⟨a,rfl,r2,-⟩
 ·simp only[unT];exact av.cap
 ·simp[unT,r2,hd a _ _ rfl];exact av.refl _
theorem yd {c:Nat} {xs:List AV} {d:Nat→Bool} (r2:h.objs c=some (.cells xs)) (hd:d c=true):av (unT h d (.tsl 1 c 0 xs.length none)) (.sl 1 xs .any):=by
 simp[unT,r2,hd];exact av.refl _
structure Ndy (x:PgI) (T:List Nat) (s1:PgS) (h:H) (tid:Nat) (r:Int) (d:Nat→Bool) (nid:Nat) (ks:List Bs) (is:List Int) (b:H × AV × AV):Prop where
 ob:b.1.objs nid=some (.cells [.bool false,b.2.1,.sl 1 [] (.exact 0),b.2.2])
 c1:aO b.2.1=true
 c2:aO b.2.2=true
 v1:av (unT b.1 d b.2.1) (.sl 1 (strs ks) .any)
 v2:av (unT b.1 d b.2.2) (.sl 1 (ints is) .any)
 pg:PgH x s1 T b.1
 ot:b.1.objs tid=some (trO x r)
 sm:cD x h b.1
 no:aq h b.1
 ln:nid<b.1.n
 l0:h.n≤b.1.n
theorem Ndy.go {s1:PgS} {tid nid:Nat} {r:Int} {d:Nat→Bool} {ks:List Bs} {is:List Int} {b:H × AV × AV} (o:Ndy x T s1 h tid r d nid ks is b) (g:PgH x s T h) (hd:∀k,d k=true→h.n≤k∧k<nid) (ht:tid<h.n) (hn:h.n≤nid) {l:List (Nat × AV)} (hl:aY (fun i=>unT b.1 d (tm l i)) l) {t:Tm} (hs:aY t l):
  ∃h8:H,aK ⟨t,b.1⟩ ⟨tm l,h8⟩∧h8.objs nid=some (aC ⟨false,ks,[],is⟩)∧PgH x s1 T h8∧h8.objs tid=some (trO x r)∧cD x h h8∧aq h h8∧h8.n=b.1.n∧(∀j,d j=false→j≠nid→h8.objs j=b.1.objs j):=by
 have hdn:d nid=false:=by
  cases e:d nid with
  |false=>rfl
  |true=>have:=hd _ e;omega
 have hdl:∀j,j<h.n→d j=false:=fun j hj=>by
  cases e:d j with
  |false=>rfl
  |true=>have:=hd _ e;omega
 have q:∀j,d j=false→j≠nid→(upd (b.1.drop d).objs nid (some (aC ⟨false,ks,[],is⟩)):Nat→Option Av.Obj) j=b.1.objs j:=fun j h1 h2=>by
  simp only[upd];rw[if_neg h2];simp[H.drop,h1]
 refine ⟨{b.1.drop d with objs:=upd (b.1.drop d).objs nid (some (aC ⟨false,ks,[],is⟩))},?_,by simp[upd],?_,(q tid (hdl _ ht) ab).trans o.ot,fun j hj a1 a2 a3 a4 a5 a6=>(q j (hdl j hj) ab).trans (o.sm j hj a1 a2 a3 a4 a5 a6),fun j hj=>?_,rfl,q⟩
 ·refine aK.trans (aK.tm hs) (aK.trans (aK.G7 _ _ d nid hdn o.ob) (aK.of ?_ ?_ (fun y hy=>hy) (Nat.le_refl _) (Nat.le_refl _)))
  ·exact bp hl
  ·refine OLe.upd (OLe.refl _) ?_
   simp only[dN,gR]
   exact ay.cons (by simp only[unT];exact av.refl _) (ay.cons o.v1 (ay.cons (by simp only[unT];exact av.cap) (ay.cons o.v2 ay.nil)))
 ·refine o.pg.at (fun j hj=>?_) (Nat.le_refl _) (fun j hj=>?_) rfl (Nat.le_refl _)
  ·have lt:=g.lt
   have hj2:j<h.n:=by
    rcases Nat.lt_or_ge j h.n with e|e
    ·exact e
    ·exact absurd (dJ g e) hj
   exact q j (hdl j hj2) ab
  ·have hj:b.1.n≤j:=hj
   have ln:=o.ln
   show (upd (b.1.drop d).objs nid (some (aC ⟨false,ks,[],is⟩)):Nat→Option Av.Obj) j=none
   simp only[upd];rw[if_neg ab]
   simp only[H.drop]
   split
   ·rfl
   ·exact o.pg.fresh j hj
 ·have hj:((upd (b.1.drop d).objs nid (some (aC ⟨false,ks,[],is⟩)):Nat→Option Av.Obj) j).isSome=true:=hj
  by_cases e:j=nid
  ·right;exact ⟨ab,by rw[e];exact o.ln⟩
  ·simp only[upd] at hj
   rw[if_neg e] at hj
   simp only[H.drop] at hj
   split at hj
   ·cases hj
   ·exact o.no j hj
set_option maxHeartbeats 2000000 in
theorem CC {L tid d i:Nat} {r:Int} {ks:List Bs} {us:List (Tr L)} {key val:Bs} {u:Tr L} {Q:PgS→Res L→Prop} {Q2:PgS→Res L→PgS→Res (L+1)→Prop}
  (g:PgH x s T h) (ok:cd s) (ht:h.objs tid=some (trO x r)) (htx:Tid x tid) (hi':i<s.np) (hs:stt s i=1∨stt s i=2) (hH:Has s i (au L ks us)) (hr:right (au L ks us)=true) (hz:size (au L ks us)≤1024)
  (hu:us[place (au L ks us) key]? =some u) (hj:place (au L ks us) key≤ks.length) (hd:d≤20) (hp:s.p.length<900000)
  (ih:∀h1,PgH x s T h1→h1.objs tid=some (trO x r)→aI Tryz.prog 56 [.ptr tid 0,.int .i64 (u.pg:Nat),.int .i64 ((d+1:Nat):Int),.str key,.str val] h1 fun q h'=>∃s1 R,q=lx R∧PgH x s1 T h'∧cD x h1 h'∧aq h1 h'∧Q s1 R)
  (hst:∀s1 (R:Res L) h1,Q s1 R→PgH x s1 T h1→h1.objs tid=some (trO x r)→¬(R.1.pg=u.pg∧R.2=none)→aI Tryz.prog 86 [.ptr tid 0,.int .i64 (i:Int),aD (au L (nks ks (place (au L ks us) key) R) (nus us (place (au L ks us) key) R))] h1 fun q h'=>∃s2 R2,q=lx R2∧PgH x s2 T h'∧cD x h1 h'∧aq h1 h'∧Q2 s1 R s2 R2):
  aI Tryz.prog 56 [.ptr tid 0,.int .i64 (i:Int),.int .i64 (d:Int),.str key,.str val] h fun q h'=>∃s1 R,Q s1 R∧cD x h h'∧aq h h'∧((q= .tup [.int .i64 (i:Int),.agg [.str [],.int .i64 (-1)]]∧R.1.pg=u.pg∧R.2=none∧PgH x s1 T h')∨(¬(R.1.pg=u.pg∧R.2=none)∧∃s2 R2,q=lx R2∧PgH x s2 T h'∧Q2 s1 R s2 R2)):=by
 refine f56.bu af ?_
 unfold c56 zz
 have hlt:tid<h.n:=by
  rcases Nat.lt_or_ge tid h.n with q|q
  ·exact q
  ·rw[g.fresh _ q] at ht;cases ht
 have hsm:=cb (L:=L+1) (ks:=ks) (kids:=us) hr (by show size (au L ks us)≤1355;omega)
 have ht1:=(aL (o:= .cells [.str [],.int .i64 0]) hlt).trans ht
 have hn1:=bU (h:=h) (o:= .cells [.str [],.int .i64 0])
 have g1:=g.new (.cells [.str [],.int .i64 0])
 have k1:Kept h (H.new h (.cells [.str [],.int .i64 0])):=fun j hj=>aL hj
 have no1:=bN (h:=h) (o:= .cells [.str [],.int .i64 0])
 have ln:(H.new h (.cells [.str [],.int .i64 0])).n=h.n+1:=rfl
 have hul:us.length=ks.length+1:=by
  have q:=((cM (n:=au L ks us) rfl).1 hr).2.2.1
  simpa [au] using q
 refine rf0 @and_self ?_
 change an _ _ _ _ (H.new h (.cells [.str [],.int .i64 0])) _
 generalize H.new h (.cells [.str [],.int .i64 0])=h1 at*
 have hnd:=Cr g1 ok ht1 hi' (by show stt s i≠0;omega) hp hd hH.1 (by rw[hH.2];rfl)
 rw[hH.2] at hnd
 refine an.aT (vals:=[.ptr tid 0,.int .i64 (i:Int),.int .i64 (d:Int)]) ae xA4 hnd fun q h2 ⟨K,c,hq,oc,rK,hc1,hc2,g2,k2,no2⟩ n2 _=>?_
 subst hq
 have hkl:(au L ks us).kids.length=us.length:=by simp[au]
 have hkk:(au L ks us).kids=bK us:=rfl
 have hks:(au L ks us).keys=ks:=rfl
 rw[hkl]
 rw[hkk] at oc
 rw[hks] at rK
 have ht2:=(k2 tid ab).trans ht1
 have hn2:=(k2 h.n ab).trans hn1
 have hKc:=rK.cell
 have hKc2:=hKc
 unfold aO at hKc
 obtain ⟨nO,hnO⟩:∃nO:Av.Obj,nO= .cells [.bool false,K,.sl 1 [] (.exact 0),.tsl 1 c 0 us.length none]:=⟨_,rfl⟩
 have g3:=g2.new nO
 have ln3:(H.new h2 nO).n=h2.n+1:=rfl
 have ht3:(H.new h2 nO).objs tid=some (trO x r):=(aL ab).trans ht2
 have hn3:(H.new h2 nO).objs h.n=some (.cells [.str [],.int .i64 0]):=(aL ab).trans hn2
 have nn3:=bU (h:=h2) (o:=nO)
 have oc3:(H.new h2 nO).objs c=some (.cells (ints (bK us))):=(aL hc2).trans oc
 have rK3:dz (H.new h2 nO) h1.n K (strs ks) c:=rK.keep (Nat.le_succ _) (fun j a b _=>aL b) (fun a _ h=>h)
 have sm3:cD x h (H.new h2 nO):=((ed k1).trans (ed k2) ab).trans cN ab
 have no3:aq h (H.new h2 nO):=aq.trans (aq.trans no1 no2 ab ab) bN ab ab
 refine an.evF (xAd hKc) ?_
 rw[bn]
 refine an.nil ?_
 refine Wp.le (s':=⟨tm [(0,.ptr tid 0),(1,.int .i64 i),(2,.int .i64 d),(3,.str key),(4,.str val),(11,.ptr h.n 0),(12,.ptr h2.n 0)],H.new h2 nO⟩) (aK.of (bp ?_) (by rw[hnO];exact OLe.refl _) (fun y hy=>hy) (Nat.le_refl _) (Nat.le_refl _)) ?_
 ·exact xSb
 generalize H.new h2 nO=h3 at*
 rw[hnO] at nn3
 have cf:=CB (key:=key) rK3 oc3 hr hsm.1
 generalize hJ:place (au L ks us) key=J at*
 have hJu:J<us.length:=by omega
 have hgk:(ints (bK us)).getD J .any= .int .i64 (u.pg:Nat):=by
  have:(bK us)[J]? =some ((u.pg:Nat):Int):=by simp[bK,hu]
  simp[ints,List.getD,this]
 have x1:(0:Int)≤(J:Int):=by omega
 have x2:(J:Int)<(us.length:Int):=by omega
 have wd:IntKind.i64.wrap ((d:Int)+1)=((d+1:Nat):Int):=by rw[IntWalk.i64_in _ ab];rfl
 have hgo:(ints (bK us))[J]? =some (.int .i64 (u.pg:Nat)):=by
  have:(bK us)[J]? =some ((u.pg:Nat):Int):=by simp[bK,hu]
  simp[ints,this]
 refine rg1 (oz nn3 x1 x2 oc3 hgo wd @Int.toNat_natCast @Nat.mul_one @Nat.zero_add @and_self) cf ?_
 refine an.aT (vals:=[.ptr tid 0,.int .i64 (u.pg:Nat),.int .i64 ((d+1:Nat):Int),.str key,.str val]) ae xA4 (ih h3 g3 ht3) fun q h4 ⟨s1,R,hq,g4,sm4,no4,hQ⟩ n4 _=>?_
 subst hq
 have tids:∀j,h.n≤j→Tid x j:=fun j hj=>dJ g hj
 have tid4:∀j,h1.n≤j→Tid x j:=fun j hj=>dJ g ab
 have nn4:=(cx sm4 ab (tids h2.n ab)).trans nn3
 have hn4:=(cx sm4 ab (tids h.n ab)).trans hn3
 have ht4:=(cx sm4 ab htx).trans ht3
 have oc4:=(cx sm4 ab (tids c ab)).trans oc3
 have rK4:=rK3.same sm4 n4 tid4
 obtain ⟨nS,hnS⟩:∃nS:Av.Obj,nS= .cells [.str (spK R.2),.int .i64 (spP R.2)]:=⟨_,rfl⟩
 have g5:=g4.new nS
 have ln5:(H.new h4 nS).n=h4.n+1:=rfl
 have nn5:(H.new h4 nS).objs h2.n=_:=(aL ab).trans nn4
 have hn5:(H.new h4 nS).objs h.n=_:=(aL ab).trans hn4
 have ht5:(H.new h4 nS).objs tid=_:=(aL ab).trans ht4
 have oc5:(H.new h4 nS).objs c=_:=(aL ab).trans oc4
 have rK5:dz (H.new h4 nS) h1.n K (strs ks) c:=rK4.keep (Nat.le_succ _) (fun j a b _=>aL b) (fun a _ h=>h)
 have ns5:=bU (h:=h4) (o:=nS)
 have sm5:cD x h (H.new h4 nS):=(sm3.trans sm4 ab).trans cN ab
 have no5:aq h (H.new h4 nS):=aq.trans (aq.trans no3 no4 ab ab) bN ab ab
 unfold lx Cy
 refine an.evF xAc ?_
 rw[bn]
 refine an.nil ?_
 refine Wp.le (s':=⟨tm [(0,.ptr tid 0),(1,.int .i64 i),(11,.ptr h.n 0),(12,.ptr h2.n 0),(15,.int .i64 J),(17,.int .i64 (R.1.pg:Nat)),(18,.ptr h4.n 0)],H.new h4 nS⟩) (aK.of (bp ?_) (by rw[hnS];exact OLe.refl _) (fun y hy=>hy) (Nat.le_refl _) (Nat.le_refl _)) ?_
 ·exact xSb
 have n5:h.n≤(H.new h4 nS).n:=by omega
 generalize H.new h4 nS=h5 at*
 rw[hnS] at ns5
 by_cases hA:R.1.pg=u.pg∧R.2=none
 ·obtain ⟨hA1,hA2⟩:=hA
  have e1:decide (((R.1.pg:Nat):Int)=((u.pg:Nat):Int))=true:=decide_eq_true ab
  have e2:decide (spP R.2<0)=true:=by rw[hA2];exact decide_eq_true (by simp[spP])
  refine rf0 (cP nn5 x1 x2 oc5 hgo ns5 e1 e2 @Int.toNat_natCast @Nat.mul_one @Nat.zero_add @and_self) ?_
  refine an.aT (vals:=[]) ae xA4 Cl fun q h6 ⟨hq,hh6⟩ n6 _=>?_
  subst hq
  have g6:PgH x s1 T h6:=by rw[hh6];exact g5.new _
  have sm6:cD x h h6:=by rw[hh6];exact sm5.trans cN n5
  have no6:aq h h6:=by rw[hh6];exact aq.trans no5 bN n5 (Nat.le_succ _)
  have hn6:h6.objs h.n=some (.cells [.str [],.int .i64 0]):=by rw[hh6];exact (aL ab).trans hn5
  refine an.evF (xAd hn6) ?_
  refine an.nil ?_
  refine Wp.ret ?_
  have lt:=g.lt
  refine ⟨trivial,.tup [.int .i64 (i:Int),.agg [.str [],.int .i64 (-1)]],?_,s1,R,hQ,?_,?_,.inl ⟨rfl,hA1,hA2,g6.other (j0:=h.n) ab ab⟩⟩
  ·simp[de,rvs,rv,tm,upd,Av.part,shaped,aO]
  ·intro j hj a1 a2 a3 a4 a5 a6
   have e:(upd h6.objs h.n (some (.cells [.str [],.int .i64 (-1)])):Nat→Option Av.Obj) j=h6.objs j:=by simp only[upd];rw[if_neg ab]
   exact e.trans (sm6 j hj a1 a2 a3 a4 a5 a6)
  ·exact aq.trans no6 (aq.set hn6) ab (Nat.le_refl _)
 ·refine Wp.jE ⟨tm [(0,.ptr tid 0),(1,.int .i64 i),(11,.ptr h.n 0),(12,.ptr h2.n 0),(15,.int .i64 J),(17,.int .i64 (R.1.pg:Nat)),(18,.ptr h4.n 0)],h5⟩ ?_ ?_
  ·by_cases hB:R.1.pg=u.pg
   ·have e1:decide (((R.1.pg:Nat):Int)=((u.pg:Nat):Int))=true:=decide_eq_true ab
    have e2:decide (spP R.2<0)=false:=by
     cases hR:R.2 with
     |none=>exact absurd ⟨hB,hR⟩ hA
     |some q=>exact decide_eq_false (by simp only[spP];omega)
    refine rf0 (cP nn5 x1 x2 oc5 hgo ns5 e1 e2 @Int.toNat_natCast @Nat.mul_one @Nat.zero_add @and_self) ?_
    exact aK.tm (by
     exact xSb
     )
   ·have e1:decide (((R.1.pg:Nat):Int)=((u.pg:Nat):Int))=false:=decide_eq_false ab
    refine rf0 (sE nn5 x1 x2 oc5 hgo ns5 e1 @Int.toNat_natCast @Nat.mul_one @Nat.zero_add @and_self) ?_
    exact aK.tm (by
     exact xSb
     )
  ·have hkL:(bK us).length=us.length:=by simp[bK]
   have x3:J+1≤us.length:=by omega
   refine Wp.bw (xAd (sE nn5 x1 x2 x3 hkL oc5 @Int.toNat_natCast @Nat.mul_one @Nat.zero_add @and_self @kv)) ?_
   refine an.nil ?_
   have hs1:List.take J (ints (bK us))++[AV.int IntKind.i64 ((R.1.pg:Nat):Int)]++List.drop (J+1) (ints (bK us))=ints ((bK us).take J++((R.1.pg:Nat):Int)::(bK us).drop (J+1)):=by simp[ints]
   rw[hs1]
   have hk1l:((bK us).take J++((R.1.pg:Nat):Int)::(bK us).drop (J+1)).length=us.length:=by simp[bK];omega
   have hkk1:∀q,R.2=some q→(((bK us).take J++((R.1.pg:Nat):Int)::(bK us).drop (J+1)).take (J+1)++((q.2.pg:Nat):Int)::((bK us).take J++((R.1.pg:Nat):Int)::(bK us).drop (J+1)).drop (J+1))=bK (nus us J R):=fun q hq=>Ek hq hJu
   have hkk0:R.2=none→(bK us).take J++((R.1.pg:Nat):Int)::(bK us).drop (J+1)=bK (nus us J R):=fun hq=>yb hq
   generalize (bK us).take J++((R.1.pg:Nat):Int)::(bK us).drop (J+1)=kI at*
   have hKd:∀a l c',K= .tsl 1 a 0 l c'→h1.n≤a∧a<h2.n∧a≠c:=by
    intro a l c' e
    rcases rK with ⟨-,k2⟩|⟨a',k1,-,k3,k4,k5,-⟩
    ·rw[e] at k2;cases k2
    ·rw[e] at k1;cases k1;exact ⟨k3,k4,k5⟩
   obtain ⟨h6,hh6⟩:∃h6:H,h6= {h5 with objs:=upd h5.objs c (some (.cells (ints kI)))}:=⟨_,rfl⟩
   have c1:∀j,j≠c→h6.objs j=h5.objs j:=fun j hj=>by rw[hh6];simp only[upd];rw[if_neg hj]
   have oc6:h6.objs c=some (.cells (ints kI)):=by rw[hh6];simp[upd]
   have n6:h6.n=h5.n:=by rw[hh6]
   have m6:h6.m=h5.m:=by rw[hh6]
   have g6:PgH x s1 T h6:=by
    rw[hh6]
    exact g5.other ab (by have:=tids c ab;simp only[Tid,ne_eq,eq_comm] at this ⊢;exact this)
   have sm6:cD x h h6:=fun j hj a1 a2 a3 a4 a5 a6=>(c1 j ab).trans (sm5 j hj a1 a2 a3 a4 a5 a6)
   have no6:aq h h6:=by rw[hh6];exact aq.trans no5 (aq.set oc5) n5 (Nat.le_refl _)
   have rK6:dz h6 h1.n K (strs ks) c:=rK5.keep ab (fun j _ _ hj=>c1 j hj) (fun a _ h=>h)
   have nn6:=(c1 h2.n ab).trans nn5
   have hn6:=(c1 h.n ab).trans hn5
   have ht6:=(c1 tid ab).trans ht5
   have ns6:=(c1 h4.n ab).trans ns5
   rw[←hh6]
   refine Wp.le (s':=⟨tm [(0,.ptr tid 0),(1,.int .i64 i),(11,.ptr h.n 0),(12,.ptr h2.n 0),(15,.int .i64 J),(18,.ptr h4.n 0)],h6⟩) (aK.of (bp ?_) (OLe.refl _) (fun y hy=>hy) (Nat.le_refl _) (Nat.le_refl _)) ?_
   ·exact xSb
   clear hh6 c1
   refine Wp.seq (Wp.ex (β:=H × AV × AV) (fun b=>⟨tm [(0,.ptr tid 0),(1,.int .i64 i),(11,.ptr h.n 0),(12,.ptr h2.n 0)],b.1⟩) (fun b=>Ndy x T s1 h tid r (fun k=>decide (h1.n≤k∧k<h2.n)) h2.n (nks ks J R) (bK (nus us J R)) b∧b.1.objs h.n=some (.cells [.str [],.int .i64 0])) ?_ ?_)
   ·cases hR:R.2 with
    |none=>
     have e3:decide (0≤spP R.2)=false:=by rw[hR];exact decide_eq_false (by simp[spP])
     refine rf0 (cj2 ns6 e3) ?_
     refine ⟨(h6,K,.tsl 1 c 0 us.length none),⟨⟨nn6,hKc2,rfl,?_,?_,g6,ht6,sm6,no6,by show h2.n<h6.n;omega,by show h.n≤h6.n;omega⟩,hn6⟩,aK.tm ?_⟩
     ·have e4:nks ks J R=ks:=by unfold nks rk;rw[hR];simp
      rw[e4]
      exact rK6.unD fun a l c' e=>by have:=hKd a l c' e;simpa using ⟨this.1,this.2.1⟩
     ·rw[←hkk0 hR]
      have e5:us.length=(ints kI).length:=by simp[ints,hk1l]
      rw[e5]
      exact yd oc6 (by simpa using ⟨hc1,hc2⟩)
     ·exact xSb
    |some q=>
     have e3:decide (0≤spP R.2)=true:=by rw[hR];exact decide_eq_true (by simp[spP])
     have hkl':ks.length≤1000:=hsm.2.k
     refine Wp.bw (xAd (cj2 ns6 e3)) ?_
     refine an.nil ?_
     refine Wp.cond_true (by simp only[go_sem,reduceIte,Nat.reduceEqDiff,Nat.reduceAdd,bx,e3]) ?_
     refine Wp.seq (Wp.DJ ?_)
     refine an.op1 ae (by simp only[go_sem,reduceIte,Nat.reduceEqDiff,Nat.reduceAdd,bx,ax,if_true,if_false,Nat.reduceMul,Nat.reduceLeDiff,nn6,ns6,hKc];exact rfl) ?_
     simp only[cg]
     refine an.op1 ae (by simp only[go_sem,reduceIte,Nat.reduceEqDiff,Nat.reduceAdd,bx,ax,if_true,if_false,Nat.reduceMul,Nat.reduceLeDiff,nn6,ns6,hKc];exact rfl) ?_
     simp only[cg]
     refine an.op1 ae (by simp only[go_sem,reduceIte,Nat.reduceEqDiff,Nat.reduceAdd,bx,ax,if_true,if_false,Nat.reduceMul,Nat.reduceLeDiff,nn6,ns6,hKc];exact rfl) ?_
     simp only[cg]
     refine an.op1 ae (by simp only[go_sem,reduceIte,Nat.reduceEqDiff,Nat.reduceAdd,bx,ax,if_true,if_false,Nat.reduceMul,Nat.reduceLeDiff,nn6,ns6,hKc];exact rfl) ?_
     simp only[cg]
     refine an.op1 ae (by simp only[go_sem,reduceIte,Nat.reduceEqDiff,Nat.reduceAdd,bx,ax,if_true,if_false,Nat.reduceMul,Nat.reduceLeDiff,nn6,ns6,hKc];exact rfl) ?_
     simp only[cg]
     refine an.opT ae (by simp only[gE,go_sem,reduceIte,Nat.reduceEqDiff,Nat.reduceAdd,bx];exact rfl) ?_
     simp only[cg]
     have q7:∀j,j≠h6.n→(upd h6.objs h6.n (some (.cells (List.flatMap cellsOf [AV.str (spK R.2)]))):Nat→Option Av.Obj) j=h6.objs j:=fun j hj=>by simp only[upd];rw[if_neg hj]
     refine an.aT (vals:=[K,.int .i64 (J:Int),.tsl 1 h6.n 0 1 none]) ae xA4 (Ao (c:=c) (n0:=h1.n) (K:=K) (id2:=h6.n) ks J (spK R.2) hj ab (rK6.keep (by simp only;omega) (fun j _ b _=>q7 j ab) (fun a _ h=>h)) (by simp[upd,cellsOf]) fun a e=>by have:=hKd a _ _ e;omega) fun w h7 ⟨hw,l1,l2,l3,a0,ha0,l4⟩ n7 m7=>?_
     subst hw
     simp only at l1 l2 l3
     have l4:∀j,h7.objs j=if j=a0 then none else (upd h6.objs h6.n (some (.cells (List.flatMap cellsOf [AV.str (spK R.2)]))):Nat→Option Av.Obj) j:=l4
     have p7:∀j,j<h6.n→(∀l c',K≠ .tsl 1 j 0 l c')→h7.objs j=h6.objs j:=fun j hj hn=>by
      rw[l4 j,if_neg,q7 j ab]
      rintro rfl
      rcases ha0 with e|e
      ·exact hn _ _ e
      ·omega
     have nn7:=(p7 h2.n ab (fun l c' e=>by have:=hKd _ _ _ e;omega)).trans nn6
     have ns7:=(p7 h4.n ab (fun l c' e=>by have:=hKd _ _ _ e;omega)).trans ns6
     have oc7:=(p7 c ab (fun l c' e=>by have:=hKd _ _ _ e;omega)).trans oc6
     have hn7:=(p7 h.n ab (fun l c' e=>by have:=hKd _ _ _ e;omega)).trans hn6
     have ht7:=(p7 tid ab (fun l c' e=>by have:=hKd _ _ _ e;omega)).trans ht6
     have f7:∀j,h7.n≤j→h7.objs j=none:=fun j hj=>by
      rw[l4 j]
      split
      ·rfl
      ·rw[q7 j ab];exact g6.fresh j ab
     have g7:PgH x s1 T h7:=g6.at (fun j hj=>by
      have hj2:j<h.n:=by
       rcases Nat.lt_or_ge j h.n with e|e
       ·exact e
       ·exact absurd (dJ g e) hj
      exact p7 j ab (fun l c' e=>by have:=hKd _ _ _ e;omega)) ab f7 l3 ab
     have o7:∀j,(h7.objs j).isSome=true→(h6.objs j).isSome=true∨j=h6.n:=fun j hj=>by
      rw[l4 j] at hj
      split at hj
      ·cases hj
      ·by_cases e:j=h6.n
       ·exact .inr e
       ·rw[q7 j e] at hj;exact .inl hj
     refine an.evF (xAd nn7) ?_
     refine an.nil ?_
     have hpk:ks.take J++spK R.2::ks.drop J=nks ks J R:=by unfold nks rk spK;rw[hR];rfl
     rw[hpk]
     obtain ⟨h8,hh8⟩:∃h8:H,h8= {h7 with objs:=upd h7.objs h2.n (some (.cells [.bool false,.sl 1 (strs (nks ks J R)) .any,.sl 1 [] (.exact 0),.tsl 1 c 0 us.length none]))}:=⟨_,rfl⟩
     have c8:∀j,j≠h2.n→h8.objs j=h7.objs j:=fun j hj=>by rw[hh8];simp only[upd];rw[if_neg hj]
     have nn8:h8.objs h2.n=some (.cells [.bool false,.sl 1 (strs (nks ks J R)) .any,.sl 1 [] (.exact 0),.tsl 1 c 0 us.length none]):=by rw[hh8];simp[upd]
     have n8:h8.n=h7.n:=by rw[hh8]
     have g8:PgH x s1 T h8:=by
      rw[hh8]
      exact g7.other ab (by have:=tids h2.n ab;simp only[Tid,ne_eq,eq_comm] at this ⊢;exact this)
     rw[←hh8]
     refine Wp.le (s':=⟨tm [(0,.ptr tid 0),(1,.int .i64 i),(11,.ptr h.n 0),(12,.ptr h2.n 0),(15,.int .i64 J),(18,.ptr h4.n 0)],h8⟩) (aK.of (bp ?_) (OLe.refl _) (fun y hy=>hy) (Nat.le_refl _) (Nat.le_refl _)) ?_
     ·exact xSb
     clear hh8
     have wJ:IntKind.i64.wrap ((J:Int)+1)=((J+1:Nat):Int):=by rw[IntWalk.i64_in _ ab];rfl
     have ns8:=(c8 h4.n ab).trans ns7
     refine Wp.DJ ?_
     refine an.op1 ae (by simp only[go_sem,reduceIte,Nat.reduceEqDiff,Nat.reduceAdd,bx,ax,if_true,if_false,Nat.reduceMul,Nat.reduceLeDiff,nn8,ns8,wJ];exact rfl) ?_
     simp only[cg]
     refine an.op1 ae (by simp only[go_sem,reduceIte,Nat.reduceEqDiff,Nat.reduceAdd,bx,ax,if_true,if_false,Nat.reduceMul,Nat.reduceLeDiff,nn8,ns8,wJ];exact rfl) ?_
     simp only[cg]
     refine an.op1 ae (by simp only[go_sem,reduceIte,Nat.reduceEqDiff,Nat.reduceAdd,bx,ax,if_true,if_false,Nat.reduceMul,Nat.reduceLeDiff,nn8,ns8,wJ];exact rfl) ?_
     simp only[cg]
     refine an.op1 ae (by simp only[go_sem,reduceIte,Nat.reduceEqDiff,Nat.reduceAdd,bx,ax,if_true,if_false,Nat.reduceMul,Nat.reduceLeDiff,nn8,ns8,wJ];exact rfl) ?_
     simp only[cg]
     refine an.op1 ae (by simp only[go_sem,reduceIte,Nat.reduceEqDiff,Nat.reduceAdd,bx,ax,if_true,if_false,Nat.reduceMul,Nat.reduceLeDiff,nn8,ns8,wJ];exact rfl) ?_
     simp only[cg]
     refine an.op1 ae (by simp only[go_sem,reduceIte,Nat.reduceEqDiff,Nat.reduceAdd,bx,ax,if_true,if_false,Nat.reduceMul,Nat.reduceLeDiff,nn8,ns8,wJ];exact rfl) ?_
     simp only[cg]
     refine an.opT ae (by simp only[gE,go_sem,reduceIte,Nat.reduceEqDiff,Nat.reduceAdd,bx];exact rfl) ?_
     simp only[cg]
     have q8:∀j,j≠h8.n→(upd h8.objs h8.n (some (.cells (List.flatMap cellsOf [AV.int .i64 (spP R.2)]))):Nat→Option Av.Obj) j=h8.objs j:=fun j hj=>by simp only[upd];rw[if_neg hj]
     have hio:=Ap (h:=⟨upd h8.objs h8.n (some (.cells (List.flatMap cellsOf [AV.int .i64 (spP R.2)]))),h8.n+1,h8.toks,h8.m⟩) (c:=c) (id2:=h8.n) kI (J+1) (spP R.2) ab ab ab ((q8 c ab).trans ((c8 c ab).trans oc7)) (by simp[upd,cellsOf]) ab
     rw[hk1l] at hio
     refine an.aT (vals:=[.tsl 1 c 0 us.length none,.int .i64 ((J+1:Nat):Int),.tsl 1 h8.n 0 1 none]) ae xA4 hio fun w h9 ⟨hw,l5,l6,l7,b0,hb0,l8⟩ n9 m9=>?_
     subst hw hb0
     simp only at l5 l6 l7
     have l8:∀j,h9.objs j=if j=b0 then none else (upd h8.objs h8.n (some (.cells (List.flatMap cellsOf [AV.int .i64 (spP R.2)]))):Nat→Option Av.Obj) j:=l8
     have p9:∀j,j<h8.n→j≠b0→h9.objs j=h8.objs j:=fun j hj hn=>by rw[l8 j,if_neg hn,q8 j ab]
     have nn9:=(p9 h2.n ab ab).trans nn8
     have f9:∀j,h9.n≤j→h9.objs j=none:=fun j hj=>by
      rw[l8 j]
      split
      ·rfl
      ·rw[q8 j ab];exact g8.fresh j ab
     have g9:PgH x s1 T h9:=g8.at (fun j hj=>by
      have hj2:j<h.n:=by
       rcases Nat.lt_or_ge j h.n with e|e
       ·exact e
       ·exact absurd (dJ g e) hj
      exact p9 j ab ab) ab f9 l7 ab
     refine an.evF (xAd nn9) ?_
     refine an.nil ?_
     have hpp:kI.take (J+1)++spP R.2::kI.drop (J+1)=bK (nus us J R):=by rw[←hkk1 q hR,hR];rfl
     rw[hpp]
     have cA:∀j,j≠h2.n→(upd h9.objs h2.n (some (.cells [.bool false,.sl 1 (strs (nks ks J R)) .any,.sl 1 [] (.exact 0),.sl 1 (ints (bK (nus us J R))) .any])):Nat→Option Av.Obj) j=h9.objs j:=fun j hj=>by simp only[upd];rw[if_neg hj]
     have pA:∀j,j<h1.n→j≠b0→(upd h9.objs h2.n (some (.cells [.bool false,.sl 1 (strs (nks ks J R)) .any,.sl 1 [] (.exact 0),.sl 1 (ints (bK (nus us J R))) .any])):Nat→Option Av.Obj) j=h6.objs j:=fun j hj hn=>(cA j ab).trans ((p9 j ab hn).trans ((c8 j ab).trans (p7 j ab (fun l c' e=>by have:=hKd _ _ _ e;omega))))
     refine ⟨(⟨upd h9.objs h2.n (some (.cells [.bool false,.sl 1 (strs (nks ks J R)) .any,.sl 1 [] (.exact 0),.sl 1 (ints (bK (nus us J R))) .any])),h9.n,h9.toks,h9.m⟩,.sl 1 (strs (nks ks J R)) .any,.sl 1 (ints (bK (nus us J R))) .any),⟨⟨by simp[upd],rfl,rfl,by simp only[unT];exact av.refl _,by simp only[unT];exact av.refl _,?_,(pA tid ab ab).trans ht6,?_,?_,by show h2.n<h9.n;omega,by show h.n≤h9.n;omega⟩,(pA h.n ab ab).trans hn6⟩,aK.tm ?_⟩
     ·exact g9.other ab (by have:=tids h2.n ab;simp only[Tid,ne_eq,eq_comm] at this ⊢;exact this)
     ·exact fun j hj a1 a2 a3 a4 a5 a6=>(pA j ab ab).trans (sm6 j hj a1 a2 a3 a4 a5 a6)
     ·refine aq.trans (fun j hj=>?_) (aq.set nn9) (show h.n≤h9.n by omega) (Nat.le_refl _)
      by_cases e1:j=h8.n
      ·exact .inr ⟨ab,ab⟩
      ·rw[l8 j] at hj
       split at hj
       ·cases hj
       ·rw[q8 j e1] at hj
        by_cases e2:j=h2.n
        ·exact .inr ⟨ab,ab⟩
        ·rw[c8 j e2] at hj
         rcases o7 j hj with e|e
         ·exact (no6 j e).imp id fun z=>⟨z.1,ab⟩
         ·exact .inr ⟨ab,ab⟩
     ·exact xSb
   ·rintro b s' ⟨nd,hnb⟩ le
    refine Wp.le le ?_
    have hdK:∀k,decide (h1.n≤k∧k<h2.n)=true→h.n≤k∧k<h2.n:=fun k hk=>by
     have:=of_decide_eq_true hk
     omega
    have d1:decide (h1.n≤tid∧tid<h2.n)=false:=decide_eq_false ab
    have d2:decide (h1.n≤h.n∧h.n<h2.n)=false:=decide_eq_false ab
    have d3:decide (h1.n≤h2.n∧h2.n<h2.n)=false:=decide_eq_false ab
    obtain ⟨h8,le8,nn8,g8,ht8,sm8,no8,n8,k8⟩:=nd.go (l:=[(0,.ptr tid 0),(1,.int .i64 i),(11,.ptr h.n 0),(12,.ptr h2.n 0)]) (t:=tm [(0,.ptr tid 0),(1,.int .i64 i),(11,.ptr h.n 0),(12,.ptr h2.n 0)]) g hdK hlt ab (by
     simp only[aY,go_sem,reduceIte,Nat.reduceEqDiff,unT,d1,d2,d3,Bool.false_eq_true,if_false]
     exact ⟨av.refl _,av.refl _,av.refl _,av.refl _,trivial⟩) (by
     exact xSb
     )
    refine Wp.le le8 ?_
    have hn8:h8.objs h.n=some (.cells [.str [],.int .i64 0]):=(k8 h.n (by simpa using d2) ab).trans hnb
    have nb:=nd.ln
    unfold aC at nn8
    refine rf0 nn8 ?_
    refine an.aT (vals:=[.ptr tid 0,.int .i64 (i:Int),aD (au L (nks ks J R) (nus us J R))]) ae xA4 (hst s1 R h8 hQ g8 ht8 hA) fun q h9 ⟨s2,R2,hq,g9,sm9,no9,hQ2⟩ n9 _=>?_
    subst hq
    have hn9:=(cx sm9 ab (tids h.n (Nat.le_refl _))).trans hn8
    unfold lx Cy
    refine an.evF (xAd hn9) ?_
    refine an.nil ?_
    refine Wp.ret ?_
    have lt:=g.lt
    refine ⟨trivial,.tup [.int .i64 (R2.1.pg:Nat),.agg [.str (spK R2.2),.int .i64 (spP R2.2)]],?_,s1,R,hQ,?_,?_,.inr ⟨hA,s2,R2,rfl,g9.other (j0:=h.n) ab ab,hQ2⟩⟩
    ·simp[de,rvs,rv,tm,upd,Av.part,shaped,aO]
    ·intro j hj a1 a2 a3 a4 a5 a6
     have e:(upd h9.objs h.n (some (.cells [.str (spK R2.2),.int .i64 (spP R2.2)])):Nat→Option Av.Obj) j=h9.objs j:=by simp only[upd];rw[if_neg ab]
     exact e.trans ((sm8.trans sm9 ab) j hj a1 a2 a3 a4 a5 a6)
    ·exact aq.trans (aq.trans no8 no9 ab n9) (aq.set hn9) ab (Nat.le_refl _)
end
end Go.Proofs.YtbgmofhgfnmaiaaGreat.Tree
end
section
set_option maxRecDepth 100000
namespace Go.Proofs.YtbgmofhgfnmaiaaGreat.Tree
open Go Go.Av Go.Proofs Go.Proofs.YtbgmofhgfnmaiaaGreat.C Go.Proofs.YtbgmofhgfnmaiaaGreat.Page
open Go.Proofs.YtbgmofhgfnmaiaaGreat.Batch (Bs Pr prs aW)
theorem gu {L:Nat} {ks:List Bs} {us:List (Tr L)} {key:Bs} (h:right (au L ks us)=true):(∀k∈ks.take (place (au L ks us) key),Le k key)∧(∀k∈ks.drop (place (au L ks us) key),Lt key k)∧place (au L ks us) key≤ks.length:=by
 obtain ⟨r1,-⟩:=(cM (n:=au L ks us) rfl).1 h
 have r1:mH ks:=r1
 have hp:place (au L ks us) key=ks.findIdx (iG key):=ur rfl key
 rw[hp]
 refine ⟨fun k hk=>?_,fun k hk=>?_,List.findIdx_le_length⟩
 ·obtain ⟨j,h1,h2,rfl⟩:=km hk
  rcases BR (jL h1) with e|e
  ·exact lr e
  ·rw[e];exact le_rfl
 ·obtain ⟨j,h1,h2,rfl⟩:=iH hk
  exact zM (pH (pI ((gX ks).2 r1) key) h1 h2)
theorem rR {L:Nat} {lo:Bs} {hi:Option Bs} {R:Res L} (h:qd L lo hi R):bF (WF L) lo hi (rk R.2) (rt R):=by
 unfold qd at h
 unfold rk rt
 cases hR:R.2 with
 |none=>rw[hR] at h;exact h
 |some q=>rw[hR] at h;exact ⟨h.1,h.2.1⟩
theorem El {L:Nat} {α:Type} (f:Tr L→List α) (R:Res L):((rt R).map f).flatten=f R.1++more f R.2:=by
 unfold rt more
 cases R.2<;>simp
theorem uT {L:Nat} {α:Type} (f:Tr L→List α) (us:List (Tr L)) (j:Nat) (R:Res L):((nus us j R).map f).flatten=((us.take j).map f).flatten++((f R.1++more f R.2)++((us.drop (j+1)).map f).flatten):=by
 unfold nus
 rw[List.map_append,List.flatten_append,List.map_append,List.flatten_append,El]
theorem nH {L:Nat} {lo:Bs} {hi:Option Bs} {ks:List Bs} {us:List (Tr L)} {j:Nat} {R:Res L} (hw:bF (WF L) lo hi ks us) (hr:right (au L ks us)=true) (hz:size (au L ks us)≤1024) (hj:j≤ks.length) (hR:qd L (dK lo ks j) (eU hi ks j) R) (hp:∀u∈us,u.pg<16384) (hp2:∀u∈rt R,u.pg<16384):
  bF (WF L) lo hi (nks ks j R) (nus us j R)∧right (au L (nks ks j R) (nus us j R))=true∧size (au L (nks ks j R) (nus us j R))≤1157∧(R.2=none→size (au L (nks ks j R) (nus us j R))≤1024):=by
 obtain ⟨u,-,-,hc⟩:=hw.at hj
 have c:=hc _ _ (rR hR)
 have hk128:∀q,R.2=some q→q.1.length≤128:=fun q hq=>by
  unfold qd at hR
  rw[hq] at hR
  exact hR.2.2.2.2
 obtain ⟨r1,-⟩:=(cM (n:=au L ks us) rfl).1 hr
 have r1:mH ks:=r1
 refine ⟨c,ig c (fun k hk=>?_) (fun v hv=>?_),?_,fun hn=>?_⟩
 ·unfold nks rk at hk
  simp only[List.mem_append] at hk
  rcases hk with hk|hk|hk
  ·exact r1.1 k (List.mem_of_mem_take hk)
  ·cases hq:R.2 with
   |none=>rw[hq] at hk;simp at hk
   |some q=>
    rw[hq] at hk
    simp only[List.mem_singleton] at hk
    subst hk
    exact hk128 q hq
  ·exact r1.1 k (List.mem_of_mem_drop hk)
 ·unfold nus at hv
  simp only[List.mem_append] at hv
  rcases hv with hv|hv|hv
  ·exact hp v (List.mem_of_mem_take hv)
  ·exact hp2 v hv
  ·exact hp v (List.mem_of_mem_drop hv)
 ·have e:size (au L (nks ks j R) (nus us j R))=7+5*(nks ks j R).length+tot (nks ks j R):=rfl
  have e0:size (au L ks us)=7+5*ks.length+tot ks:=rfl
  have e1:=fw ks j
  rw[e]
  unfold nks rk
  cases hq:R.2 with
  |none=>
   simp only[List.nil_append]
   rw[List.take_append_drop];omega
  |some q=>
   have:=hk128 q hq
   simp only[fo,List.length_append,List.length_take,List.length_drop,List.length_singleton]
   have e2:tot [q.1]=q.1.length:=by simp[tot]
   rw[e2]
   omega
 ·have e:size (au L (nks ks j R) (nus us j R))=7+5*(nks ks j R).length+tot (nks ks j R):=rfl
  have e0:size (au L ks us)=7+5*ks.length+tot ks:=rfl
  have e2:nks ks j R=ks:=by unfold nks rk;rw[hn];simp
  rw[e,e2,←e0];exact hz
theorem CD {α:Type} (f:α→Nat) {us:List α} {j:Nat} {u:α} (h:us[j]? =some u) (vs:List α):((us.take j++(vs++us.drop (j+1))).map f).sum+f u=(us.map f).sum+(vs.map f).sum:=by
 obtain ⟨hj,rfl⟩:=List.getElem?_eq_some_iff.1 h
 have e:us=us.take j++us[j]::us.drop (j+1):=by rw[←List.drop_eq_getElem_cons hj,List.take_append_drop]
 have e2:(us.map f).sum=((us.take j).map f).sum+(f us[j]+((us.drop (j+1)).map f).sum):=by
  conv=>lhs;rw[e]
  rw[List.map_append,List.sum_append,List.map_cons,List.sum_cons]
 rw[e2,List.map_append,List.sum_append,List.map_append,List.sum_append]
 omega
theorem Fz {L:Nat} (f:Tr L→Nat) (R:Res L):((rt R).map f).sum=iu f R:=by
 unfold rt iu
 cases R.2<;>simp
theorem ye {L:Nat} (f:Tr L→Nat) {us:List (Tr L)} {j:Nat} {u:Tr L} (h:us[j]? =some u) (R:Res L):((nus us j R).map f).sum+f u=(us.map f).sum+iu f R:=by
 unfold nus
 rw[CD f h,Fz]
theorem fh {L j:Nat} (t:Tr (L+1)):eZ (L+1) j t=if j=L+1 then 1 else ((t.kids:List (Tr L)).map (eZ L j)).sum:=rfl
theorem fX {L j:Nat} (t:Tr (L+1)):exT (L+1) j t=if j=L+1 then (t.kids:List (Tr L)).length - 5 else ((t.kids:List (Tr L)).map (exT L j)).sum:=rfl
theorem Em {α:Type} (a b:List α):(a++b).length=a.length+b.length:=by simp
theorem uU {α:Type} (f:α→Nat) (a b:List α):((a++b).map f).sum=(a.map f).sum+(b.map f).sum:=by simp
theorem rS {L:Nat} (f:Tr L→Nat) {R2:Res (L+1)} {us:List (Tr L)} (h:R2.1.kids++more Nd.kids R2.2=us):iu (fun t:Tr (L+1)=>((t.kids:List (Tr L)).map f).sum) R2=(us.map f).sum:=by
 rw[←h]
 obtain ⟨t1,o⟩:=R2
 cases o with
 |none=>simp[iu,more]
 |some q=>
  exact (uU f (α:=Tr L) t1.kids q.2.kids).symm
theorem CE {L:Nat} {ks:List Bs} {us:List (Tr L)} {i j:Nat} {u:Tr L} {R:Res L} {R2:Res (L+1)} (hu:us[j]? =some u) (hp:Pot L u R) (hk:R2.1.kids++more Nd.kids R2.2=nus us j R)
  (hc:∀q,R2.2=some q→R.2≠none∧2≤R2.1.kids.length∧2≤q.2.kids.length∧9≤R2.1.kids.length+q.2.kids.length):Pot (L+1) ⟨i,ks,us⟩ R2:=by
 obtain ⟨e,p0,p1,p2,p3,p4⟩:=hp
 have hju:j<us.length:=(List.getElem?_eq_some_iff.1 hu).1
 have hlen:(nus us j R).length=us.length+e L:=by
  unfold nus rt
  cases hR:R.2 with
  |none=>rw[p1 hR];simp;omega
  |some q=>rw[p2 q hR];simp;omega
 refine ⟨fun k=>if k=L+1 then (if R2.2.isSome then 1 else 0) else e k,fun k=>?_,fun hn=>?_,fun q hq=>?_,fun k hk'=>?_,fun k hk'=>?_⟩
 ·simp only
  split
  ·split<;>omega
  ·exact p0 k
 ·simp[hn]
 ·simp[hq]
 ·by_cases ek:k=L+1
  ·subst ek
   simp only[if_true]
   have:iu (eZ (L+1) (L+1)) R2=1+(if R2.2.isSome then 1 else 0):=by
    obtain ⟨t1,o⟩:=R2
    cases o<;>simp[iu,fh]
   rw[this,fh]
   simp
  ·have e1:iu (eZ (L+1) k) R2=iu (fun t:Tr (L+1)=>((t.kids:List (Tr L)).map (eZ L k)).sum) R2:=by
    obtain ⟨t1,o⟩:=R2
    cases o<;>simp[iu,fh,ek]
   rw[e1,rS _ hk,fh]
   simp only[ek,if_false]
   have:=ye (eZ L k) hu R
   have:=p3 k ab
   omega
 ·have h1:¬(k=L+1):=by omega
  simp only[h1,if_false]
  by_cases ek:k+1=L+1
  ·obtain rfl:k=L:=by omega
   simp only[if_true]
   have hl:R2.1.kids.length+(match R2.2 with|none=>0|some q=>q.2.kids.length)=us.length+e k:=by
    rw[←hlen,←hk]
    obtain ⟨t1,o⟩:=R2
    cases o with
    |none=>exact (congrArg (@List.length (Tr k)) (List.append_nil (α:=Tr k) t1.kids)).symm
    |some q=>exact (Em (α:=Tr k) t1.kids q.2.kids).symm
   have p0k:=p0 k
   rw[fX]
   simp only[if_true]
   obtain ⟨t1,o⟩:=R2
   cases o with
   |none=>
    simp only[iu,fX,if_true,Option.isSome_none,Bool.false_eq_true,if_false]
    have hl: @List.length (Kid (k+1)) t1.kids=us.length+e k:=hl
    show 2*0+(@List.length (Kid (k+1)) t1.kids - 5+0)≤us.length - 5+e k
    omega
   |some q=>
    obtain ⟨c1,c2,c3,c4⟩:=hc q rfl
    have ek1:e k=1:=by
     cases hR:R.2 with
     |none=>exact absurd hR c1
     |some q'=>exact p2 q' hR
    simp only[iu,fX,if_true,Option.isSome_some]
    have hl: @List.length (Kid (k+1)) t1.kids+ @List.length (Kid (k+1)) q.2.kids=us.length+e k:=hl
    have c2:2≤ @List.length (Kid (k+1)) t1.kids:=c2
    have c3:2≤ @List.length (Kid (k+1)) q.2.kids:=c3
    have c4:9≤ @List.length (Kid (k+1)) t1.kids+ @List.length (Kid (k+1)) q.2.kids:=c4
    show 2*1+(@List.length (Kid (k+1)) t1.kids - 5+(@List.length (Kid (k+1)) q.2.kids - 5))≤us.length - 5+e k
    omega
  ·have h2:¬(k+1=L+1):=ek
   have e1:iu (exT (L+1) (k+1)) R2=iu (fun t:Tr (L+1)=>((t.kids:List (Tr L)).map (exT L (k+1))).sum) R2:=by
    obtain ⟨t1,o⟩:=R2
    cases o<;>simp only[iu,fX,h2,if_false]
   rw[e1,rS _ hk,fX]
   simp only[h2,if_false]
   have:=ye (exT L (k+1)) hu R
   have:=p4 k ab
   omega
structure Live (s:PgS) (L:Nat) (lo:Bs) (hi:Option Bs) (t:Tr L):Prop where
 on:On s L t
 wf:WF L lo hi t
 nd:(bc L t).Nodup
 st:∀j∈bc L t,(stt s j=1∨stt s j=2)∧j<s.np
theorem CF {L:Nat} {R:Res L} {u:Tr L} (h:u∈rt R):u.pg∈cq L R:=by
 unfold rt at h
 unfold cq more
 obtain ⟨t1,o⟩:=R
 cases o with
 |none=>
  simp only[List.mem_singleton] at h
  subst h
  simp[bc]
 |some q=>
  simp only[List.mem_cons,List.not_mem_nil,or_false] at h
  rcases h with rfl|rfl
  ·simp[bc]
  ·simp[bc]
theorem FA {s:PgS} {L:Nat} {lo:Bs} {hi:Option Bs} {t:Tr L} {ps:List Pr} {R:Res L} (h:Ej L lo hi t ps s R):∀u∈rt R,On s L u:=by
 intro u hu
 unfold rt at hu
 have h1:=h.on
 have h2:=h.on2
 obtain ⟨t1,o⟩:=R
 cases o with
 |none=>simp only[List.mem_singleton] at hu;subst hu;exact h1
 |some q=>
  simp only[List.mem_cons,List.not_mem_nil,or_false] at hu
  rcases hu with rfl|rfl
  ·exact h1
  ·exact h2 q rfl
def mkT (L:Nat) (i:Nat) (ks:List Bs) (us:List (Tr L)):Tr (L+1):=Nd.mk (α:=Kid (L+1)) i ks us
theorem gL {L:Nat} {i:Nat} {ks:List Bs} {us:List (Tr L)} {k:Nat} {u:Tr L} (hu:us[k]? =some u):bc (L+1) (mkT L i ks us)=i::(((us.take k).map (bc L)).flatten++(bc L u++((us.drop (k+1)).map (bc L)).flatten)):=by
 show i::ba (L+1) us=_
 rw[eK,mW hu]
theorem En {L:Nat} {us:List (Tr L)} {k:Nat} {R:Res L}:ba (L+1) (nus us k R)=((us.take k).map (bc L)).flatten++(cq L R++((us.drop (k+1)).map (bc L)).flatten):=by
 rw[eK,uT];rfl
theorem gv {L:Nat} {us:List (Tr L)} {u:Tr L} (h:u∈us):∀j∈bc L u,j∈(us.map (bc L)).flatten:=fun j hj=>List.mem_flatten.2 ⟨_,List.mem_map.2 ⟨u,h,rfl⟩,hj⟩
structure Mid (s s1:PgS) (i:Nat) (A C P P':List Nat):Prop where
 mv:Mv s s1 (fun j=>j∈i::(A++(P++C))) (fun j=>j∈i::(A++(P'++C)))
 nd:(i::(A++(P'++C))).Nodup
 bt:∀j,j=i∨j∈A∨j∈C→stt s1 j=stt s j∧bts s1 j=bts s j
 st:∀j∈i::(A++(P'++C)),(stt s1 j=1∨stt s1 j=2)∧j<s.np
theorem nI {s s1:PgS} {i:Nat} {A C P P':List Nat} (m:Mv s s1 (fun j=>j∈P) (fun j=>j∈P')) (hn:(i::(A++(P++C))).Nodup) (hr:P'.Nodup) (hs:∀j∈i::(A++(P++C)),(stt s j=1∨stt s j=2)∧j<s.np):Mid s s1 i A C P P':=by
 have hd:∀j,(j=i∨j∈A∨j∈C)→¬j∈P:=by
  intro j hj hp
  simp only[List.nodup_cons,List.nodup_append,List.mem_append,not_or] at hn
  rcases hj with rfl|hj|hj
  ·exact hn.1.2.1 hp
  ·exact hn.2.2.2 j hj j (.inl hp) rfl
  ·exact hn.2.2.1.2.2 j hp j hj rfl
 have hq:∀j,(j=i∨j∈A∨j∈C)→stt s j≠0:=by
  intro j hj
  have:=hs j (by simp only[List.mem_cons,List.mem_append];rcases hj with a|a|a<;>simp[a])
  omega
 have ap:=m.apart (Q:=fun j=>j=i∨j∈A∨j∈C) hd hq
 have mm:=m.ext (Q:=fun j=>j=i∨j∈A∨j∈C) hd hq
 refine ⟨mm.congr (fun j=>?_) (fun j=>?_),?_,fun j hj=>(ap j hj).2,fun j hj=>?_⟩
 ·simp only[List.mem_cons,List.mem_append]
  constructor
  ·rintro (a|a|a|a)<;>simp[a]
  ·rintro (a|a|a|a)<;>simp[a]
 ·simp only[List.mem_cons,List.mem_append]
  constructor
  ·rintro (a|a|a|a)<;>simp[a]
  ·rintro (a|a|a|a)<;>simp[a]
 ·simp only[List.nodup_cons,List.nodup_append,List.mem_append,not_or] at hn ⊢
  refine ⟨⟨hn.1.1,(ap i (.inl rfl)).1,hn.1.2.2⟩,hn.2.1,⟨hr,hn.2.2.1.2.1,fun a ha b hb e=>?_⟩,fun a ha b hb e=>?_⟩
  ·subst e;exact (ap a (.inr (.inr hb))).1 ha
  ·subst e
   rcases hb with hb|hb
   ·exact (ap a (.inr (.inl ha))).1 hb
   ·exact hn.2.2.2 a ha a (.inr hb) rfl
 ·simp only[List.mem_cons,List.mem_append] at hj
  have key:(j=i∨j∈A∨j∈C)∨j∈P':=by
   rcases hj with a|a|a|a<;>simp[a]
  rcases key with a|a
  ·have q:=(ap j a).2.1
   have:=hs j (by simp only[List.mem_cons,List.mem_append];rcases a with a|a|a<;>simp[a])
   omega
  ·by_cases b:j∈P
   ·have q:=m.stay j a b
    have:=hs j (by simp[b])
    omega
   ·have q:=m.new j a b
    omega
end Go.Proofs.YtbgmofhgfnmaiaaGreat.Tree
end
section
set_option maxRecDepth 100000
namespace Go.Proofs.YtbgmofhgfnmaiaaGreat.Tree
open Go Go.Av Go.Proofs Go.Proofs.YtbgmofhgfnmaiaaGreat.C Go.Proofs.YtbgmofhgfnmaiaaGreat.Page
open Go.Proofs.YtbgmofhgfnmaiaaGreat.Batch (Bs Pr prs aW)
section
variable {x:PgI} {T:List Nat}
theorem uV {L:Nat} {us:List (Tr L)} {k:Nat} {u:Tr L} {R:Res L} (hu:us[k]? =some u) (h1:R.1.pg=u.pg) (h2:R.2=none) (ks:List Bs):au L ks (nus us k R)=au L ks us:=by
 obtain ⟨hk,rfl⟩:=List.getElem?_eq_some_iff.1 hu
 have e:us=us.take k++us[k]::us.drop (k+1):=by rw[←List.drop_eq_getElem_cons hk,List.take_append_drop]
 unfold au
 congr 1
 unfold nus rt
 rw[h2]
 conv=>rhs;rw[e]
 rw[List.map_append,List.map_append,List.map_append,List.map_cons,List.map_cons,h1]
 rfl
def CG (x:PgI) (T:List Nat) (L:Nat) (t:Tr L) (lo:Bs) (hi:Option Bs) (s:PgS) (h:H) (tid d:Nat) (r:Int) (key vl:Bs):Prop:=
 PgH x s T h→cd s→h.objs tid=some (trO x r)→Tid x tid→Live s L lo hi t→inB lo hi key→key.length≤128→vl.length≤200→d+L≤20→2*(L+1)≤free s→s.p.length+16*(L+1)<900000→
  aI Tryz.prog 56 [.ptr tid 0,.int .i64 (t.pg:Nat),.int .i64 (d:Nat),.str key,.str vl] h fun q h'=>∃s' R,q=lx R∧Stp x T s h (fun j=>j∈bc L t) (fun j=>j∈cq L R) (2*(L+1)) s' h'∧Ej L lo hi t (fS (aN L t) key vl) s' R
theorem Ax {L:Nat} {i:Nat} {ks:List Bs} {us:List (Tr L)} {lo:Bs} {hi:Option Bs} {s:PgS} {h:H} {tid d:Nat} {r:Int} {key vl:Bs} (ih:∀(u:Tr L) lo hi h,CG x T L u lo hi s h tid (d+1) r key vl):CG x T (L+1) (mkT L i ks us) lo hi s h tid d r key vl:=by
  intro g ok ht htx lv hb hk hv hd hf hp
  obtain ⟨hr,hz,hw⟩:=lv.wf
  have hw:bF (WF L) lo hi ks us:=hw
  have hr:right (au L ks us)=true:=hr
  have hz:size (au L ks us)≤1024:=hz
  obtain ⟨hs,hi'⟩:=lv.st i (by show i∈i::ba (L+1) us;simp)
  obtain ⟨pa1,pa2,pa3⟩:=gu (key:=key) hr
  obtain ⟨u,hu,wu,-⟩:=hw.at pa3
  obtain ⟨cp1,cp2,cp3⟩:=iI hw hb _ pa3 pa1 pa2
  have hum:u∈us:=List.mem_of_getElem? hu
  have hpg:=gL (i:=i) (ks:=ks) hu
  have hnd:=lv.nd
  have hst:=lv.st
  rw[hpg] at hnd hst
  have hpr:aN (L+1) (mkT L i ks us)=((us.take (place (au L ks us) key)).map (aN L)).flatten++(aN L u++((us.drop (place (au L ks us) key+1)).map (aN L)).flatten):=mW (f:=aN L) hu
  have hon:∀u∈us,On s L u:=dR.1 lv.on.2
  have lu:Live s L (dK lo ks (place (au L ks us) key)) (eU hi ks (place (au L ks us) key)) u:=by
   refine ⟨hon u hum,wu,?_,fun j hj=>hst j (by simp[hj])⟩
   simp only[List.nodup_cons,List.nodup_append] at hnd
   exact hnd.2.2.1.1
  have hpA:∀v∈us,v.pg<16384:=fun v hv=>by
   have:=(lv.st v.pg (by
    show v.pg∈i::ba (L+1) us
    exact List.mem_cons_of_mem _ (gv hv _ (by simp[bc])))).2
   have:=ok.np1
   omega
  have hH:Has s i (au L ks us):=lv.on.1
  have W:=CC (val:=vl) (Q:=fun s1 R=>cd s1∧Mv s s1 (fun j=>j∈bc L u) (fun j=>j∈cq L R)∧free s≤free s1+2*(L+1)∧s1.p.length≤s.p.length+8*(2*(L+1))∧Ej L (dK lo ks (place (au L ks us) key)) (eU hi ks (place (au L ks us) key)) u (fS (aN L u) key vl) s1 R)
   (Q2:=fun s1 R s2 R2=>cd s2∧Mv s1 s2 (fun j=>j=i) (top R2)∧free s1≤free s2+2∧s2.p.length≤s1.p.length+16∧Std (L+1) lo hi (nks ks (place (au L ks us) key) R) (nus us (place (au L ks us) key) R) s2 R2) g ok ht htx hi' hs hH hr hz hu pa3 ab ab
   (fun h1 g1 ht1=>(ih u _ _ h1 g1 ok ht1 htx lu cp3 hk hv ab ab ab).mono fun q h' ⟨s1,R,e,st,pr⟩=>⟨s1,R,e,st.pg,st.sm,st.no,st.ok,st.mv,st.fr,st.pl,pr⟩)
   (fun s1 R h1 ⟨o1,o2,o3,o4,o5⟩ g1 ht1 hne=>by
    have md:=nI o2 hnd o5.nd hst
    have hp2:∀v∈rt R,v.pg<16384:=fun v hv=>by
     have:=(md.st v.pg (by simp[CF hv])).2
     have:=ok.np1
     omega
    obtain ⟨c1,c2,c3,c4⟩:=nH hw hr hz pa3 o5.wf hpA hp2
    have e1:=(md.bt i (.inl rfl)).1
    have e2:=o2.np
    exact (ya (L:=L+1) (lo:=lo) (hi:=hi) (ks:=nks ks (place (au L ks us) key) R) (kids:=nus us (place (au L ks us) key) R) g1 o1 ht1 htx ab ab c2 c3 c1 ab ab).mono fun q h' ⟨s2,R2,e,st,sd⟩=>⟨s2,R2,e,st.pg,st.sm,st.no,st.ok,st.mv,st.fr,st.pl,sd⟩)
  obtain ⟨q,h',ca,n1,m1,s1,R,⟨o1,o2,o3,o4,o5⟩,sm,no,cs⟩:=W
  refine ⟨q,h',ca,n1,m1,?_⟩
  clear ca ih
  have md:=nI o2 hnd o5.nd hst
  have hp2:∀v∈rt R,v.pg<16384:=fun v hv=>by
   have:=(md.st v.pg (by simp[CF hv])).2
   have:=ok.np1
   omega
  obtain ⟨c1,c2,c3,c4⟩:=nH hw hr hz pa3 o5.wf hpA hp2
  have hps:((nus us (place (au L ks us) key) R).map (aN L)).flatten=fS (aN (L+1) (mkT L i ks us)) key vl:=by
   rw[hpr,qb cp1 cp2,uT,←o5.ps];rfl
  have hkA:∀v∈nus us (place (au L ks us) key) R,On s1 L v:=by
   intro v hv
   unfold nus at hv
   simp only[List.mem_append] at hv
   rcases hv with hv|hv|hv
   ·exact (hon v (List.mem_of_mem_take hv)).congr fun j hj=>(md.bt j (.inr (.inl (gv hv j hj)))).2
   ·exact FA o5 v hv
   ·exact (hon v (List.mem_of_mem_drop hv)).congr fun j hj=>(md.bt j (.inr (.inr (gv hv j hj)))).2
  have hpn:=En (us:=us) (k:=place (au L ks us) key) (R:=R)
  generalize hJ:place (au L ks us) key=J at*
  rcases cs with ⟨rfl,e1,e2,gp⟩|⟨hne,s2,R2,rfl,gp,u1,u2,u3,u4,sd⟩
  ·have hks:nks ks J R=ks:=by unfold nks rk;rw[e2];simp
   rw[hks] at c1 c2 c3 c4
   have hin:=uV hu e1 e2 ks
   refine ⟨s1,(mkT L i ks (nus us J R),none),rfl,⟨gp,o1,md.mv.congr (fun j=>by rw[hpg]) (fun j=>?_),ab,ab,sm,no,n1⟩,⟨?_,fun q hq=>(by cases hq),⟨c2,c4 e2,c1⟩,?_,?_,?_⟩⟩
   ·show j∈(i::ba (L+1) (nus us J R))++[]↔_
    rw[hpn,List.append_nil]
   ·refine ⟨?_,dR.2 hkA⟩
    show Has s1 i (au L ks (nus us J R))
    rw[hin]
    exact hH.congr (md.bt i (.inl rfl)).2
   ·show ((nus us J R).map (aN L)).flatten++[]=_
    rw[List.append_nil,hps]
   ·show ((i::ba (L+1) (nus us J R))++[]).Nodup
    rw[hpn,List.append_nil]
    exact md.nd
   ·exact CE hu o5.pot (List.append_nil (α:=Tr L) _) (fun q hq=>by cases hq)
  ·have hq0:∀j,j∈ba (L+1) (nus us J R)→¬j=i:=by
    intro j hj e
    rw[hpn] at hj
    subst e
    exact (List.nodup_cons.1 md.nd).1 hj
   have hq1:∀j,j∈ba (L+1) (nus us J R)→stt s1 j≠0:=by
    intro j hj
    rw[hpn] at hj
    have:=(md.st j (List.mem_cons_of_mem _ hj)).1
    omega
   have ap:=u2.apart (Q:=fun j=>j∈ba (L+1) (nus us J R)) hq0 hq1
   have mm:=u2.ext (Q:=fun j=>j∈ba (L+1) (nus us J R)) hq0 hq1
   have hkd:ba (L+1) R2.1.kids++more (fun t:Tr (L+1)=>ba (L+1) t.kids) R2.2=ba (L+1) (nus us J R):=by
    rw[←sd.kd,Aw]
    obtain ⟨t1,o⟩:=R2
    cases o<;>rfl
   have hmem:∀j,j∈cq (L+1) R2↔top R2 j∨j∈ba (L+1) (nus us J R):=by
    intro j
    rw[←hkd]
    obtain ⟨t1,o⟩:=R2
    unfold cq top
    cases o with
    |none=>
     show j∈(t1.pg::ba (L+1) t1.kids)++[]↔_
     simp[more]
    |some q=>
     show j∈(t1.pg::ba (L+1) t1.kids)++(q.2.pg::ba (L+1) q.2.kids)↔_
     simp only[more,List.mem_append,List.mem_cons,Option.some.injEq,exists_eq_left']
     constructor
     ·rintro ((a|a)|(a|a))<;>simp[a]
     ·rintro ((a|a)|(a|a))<;>simp[a]
   have m1':Mv s s1 (fun j=>j∈bc (L+1) (mkT L i ks us)) (fun j=>j=i∨j∈ba (L+1) (nus us J R)):=md.mv.congr (fun j=>by rw[hpg]) (fun j=>by rw[hpn];simp)
   have hnk:(ba (L+1) (nus us J R)).Nodup:=by rw[hpn];exact (List.nodup_cons.1 md.nd).2
   have hk2:∀v∈nus us J R,On s2 L v:=fun v hv=>(hkA v hv).congr fun j hj=>(ap j (by rw[eK];exact gv hv j hj)).2.2
   have hkk:∀v:Tr L,v∈(R2.1.kids:List (Tr L))→v∈nus us J R:=fun v hv=>by
    rw[←sd.kd]
    exact List.mem_append_left (α:=Tr L) _ hv
   refine ⟨s2,R2,rfl,⟨gp,u1,(m1'.trans mm).congr (fun j=>Iff.rfl) hmem,ab,ab,sm,no,n1⟩,⟨⟨sd.h1,dR.2 fun v hv=>hk2 v (hkk v hv)⟩,fun q hq=>⟨(sd.h2 q hq).1,dR.2 fun v hv=>hk2 v ?_⟩,sd.wf,?_,?_,?_⟩⟩
   ·rw[←sd.kd,hq]
    exact List.mem_append_right (α:=Tr L) _ hv
   ·rw[sd.ps,←hps];rfl
   ·rw[←hkd] at hnk ap
    have hh2:=sd.h2
    obtain ⟨t1,o⟩:=R2
    cases o with
    |none=>
     simp only[more,List.append_nil] at hnk ap
     show ((t1.pg::ba (L+1) t1.kids)++[]).Nodup
     rw[List.append_nil,List.nodup_cons]
     exact ⟨fun hm=>(ap _ hm).1 (.inl rfl),hnk⟩
    |some q=>
     simp only[more,List.nodup_append] at hnk
     have hne2:=(hh2 q rfl).2
     have ap:∀j,j∈ba (L+1) t1.kids∨j∈ba (L+1) q.2.kids→¬top (t1,some q) j:=fun j hj=>(ap j (by simpa [more] using hj)).1
     show ((t1.pg::ba (L+1) t1.kids)++(q.2.pg::ba (L+1) q.2.kids)).Nodup
     simp only[List.nodup_append,List.nodup_cons,List.mem_cons]
     refine ⟨⟨fun hm=>ap _ (.inl hm) (.inl rfl),hnk.1⟩,⟨fun hm=>ap _ (.inr hm) (.inr ⟨q,rfl,rfl⟩),hnk.2.1⟩,?_⟩
     rintro a (rfl|ha) b (rfl|hb) e
     ·exact hne2 e
     ·exact ap _ (.inr hb) (.inl e.symm)
     ·exact ap _ (.inl ha) (.inr ⟨q,rfl,e⟩)
     ·exact hnk.2.2 a ha b hb e
   ·refine CE hu o5.pot sd.kd fun q hq=>?_
    obtain ⟨n2,n3,n4⟩:=sd.cn q hq (Nat.succ_pos _)
    exact ⟨fun e=>sd.nf q hq (c4 e),n2,n3,n4⟩
theorem EL:∀(L:Nat) (t:Tr L) (lo:Bs) (hi:Option Bs) (s:PgS) (h:H) (tid d:Nat) (r:Int) (key vl:Bs),CG x T L t lo hi s h tid d r key vl
 |0,t,lo,hi,s,h,tid,d,r,key,vl=>fun g ok ht htx lv hb hk hv hd hf hp=>by
  obtain ⟨i,ks,vs⟩:=(t:Nd Bs)
  obtain ⟨h1,h2,h3,h4⟩:=lv.wf
  obtain ⟨hs,hi'⟩:=lv.st i (by simp[bc])
  refine (pV (lo:=lo) (hi:=hi) g ok ht htx hi' hs lv.on.1 h1 h2 h4 hb hk hv ab hf ab).mono ?_
  rintro q h' ⟨s',R,rfl,st,pr⟩
  refine ⟨s',R,rfl,⟨st.pg,st.ok,st.mv.congr (fun j=>?_) (fun j=>?_),st.fr,st.pl,st.sm,st.no,st.ln⟩,pr⟩
  ·simp[bc,ba]
  ·obtain ⟨t1,o⟩:=R
   cases o with
   |none=>simp[cq,more,bc,ba,top]
   |some q=>simp[cq,more,bc,ba,top]
 |L+1,t,lo,hi,s,h,tid,d,r,key,vl=>Ax (i:=t.pg) (ks:=t.ks) (us:=t.kids) fun u lo hi h=>EL L u lo hi s h tid (d+1) r key vl
end
end Go.Proofs.YtbgmofhgfnmaiaaGreat.Tree
end
section
set_option maxRecDepth 100000
namespace Go.Proofs.YtbgmofhgfnmaiaaGreat.Tree
open Go Go.Av Go.Proofs Go.Proofs.YtbgmofhgfnmaiaaGreat.C Go.Proofs.YtbgmofhgfnmaiaaGreat.Page
open Go.Proofs.YtbgmofhgfnmaiaaGreat.Batch (Bs Pr prs aW)
def opg {L:Nat}:Option (Tr L)→Int
 |none=> -1
 |some t=>(t.pg:Nat)
def fa (L:Nat):Option (Tr L)→List Nat
 |none=>[]
 |some t=>bc L t
structure yg (L:Nat) (lo:Bs) (hi:Option Bs) (t:Tr L) (key:Bs) (s':PgS) (o:Option (Tr L)):Prop where
 on:∀t',o=some t'→On s' L t'
 wf:∀t',o=some t'→WF L lo hi t'
 ps:(match o with|none=>[]|some t'=>aN L t')=ep (aN L t) key
 nd:(fa L o).Nodup
 cnt:∀t',o=some t'→∀j,eZ L j t'≤eZ L j t∧exT L j t'≤exT L j t
section
variable {x:PgI} {s:PgS} {T:List Nat} {h:H}
theorem cd.old (ok:cd s) {i:Nat} (hi:i<s.np) (h:stt s i=1):cd {s with st:=s.st.set i 3}:=ok.set hi ah ah (by unfold stt at h;omega)
theorem CH {i:Nat} (g:PgH x s T h) (ok:cd s) (hi:i<s.np) (hs:stt s i=1∨stt s i=2):
  aI Tryz.prog 48 [.ptr x.P 0,.int .i64 (i:Int)] h fun q h'=>q= .int .i64 0∧∃s',Stp x T s h (fun j=>j=i) (fun _=>False) 0 s' h':=by
 have si:i<s.st.length:=by rw[ok.st];exact hi
 rcases hs with hs|hs
 ·refine ⟨_,_,jS g ok hi hs,Nat.le_refl _,Nat.le_refl _,rfl,{s with st:=s.st.set i 3},g.nE af,ok.old hi hs,Cx hs si,?_,Nat.le_refl _,cD.nE,aq.set g.oI,Nat.le_refl _⟩
  refine Nat.le_of_eq (Eq.symm (rQ (s:=s) (s':={s with st:=s.st.set i 3}) rfl fun j=>?_))
  show stt s j=0↔(s.st.set i 3).getD j 0=0
  rw[ef si]
  by_cases e:j=i
  ·subst e;rw[if_pos rfl,hs];decide
  ·rw[if_neg e];rfl
 ·have g2:=g.sY (ws:=setW s.ws i false) (by simp[setW])
  have g3:=g2.nE (st:=s.st.set i 0) af
  refine ⟨_,_,qB g ok hi hs,Nat.le_refl _,Nat.le_refl _,rfl,_,g3,ok.drop hi,Ei hs si,?_,Nat.le_refl _,cD.sY.trans cD.nE (Nat.le_refl _),aq.trans (aq.set g.oU) (aq.set g2.oI) (Nat.le_refl _) (Nat.le_refl _),Nat.le_refl _⟩
  unfold free
  refine x8 fun j hj a=>?_
  show decide ((s.st.set i 0).getD j 0=0)=true
  rw[ef si]
  have a:=of_decide_eq_true a
  by_cases e:j=i
  ·simp[e]
  ·rw[if_neg e];exact decide_eq_true a
theorem Ay {tid d:Nat} {r:Int} {lo:Bs} {hi:Option Bs} {i:Nat} {ks vs:List Bs} {key:Bs} (g:PgH x s T h) (ok:cd s) (ht:h.objs tid=some (trO x r)) (htx:Tid x tid) (hi':i<s.np) (hs:stt s i=1∨stt s i=2) (hH:Has s i (aB ks vs)) (hr:right (aB ks vs)=true) (hz:size (aB ks vs)≤1024)
  (hw:∀k∈ks,inB lo hi k) (hfo:bC (aB ks vs) key=true) (hd:d≤20) (hf:1≤free s) (hp:s.p.length+16<900000):
  aI Tryz.prog 46 [.ptr tid 0,.int .i64 (i:Int),.int .i64 (d:Int),.str key] h fun q h'=>∃s' o,q= .int .i64 (opg o)∧Stp x T s h (fun j=>j=i) (fun j=>j∈fa 0 o) 1 s' h'∧yg 0 lo hi ⟨i,ks,vs⟩ key s' o:=by
 refine f46.bu af ?_
 unfold c46 zz
 have hlt:tid<h.n:=by
  rcases Nat.lt_or_ge tid h.n with q|q
  ·exact q
  ·rw[g.fresh _ q] at ht;cases ht
 obtain ⟨ks',vs',p1,p3,p4,p6,p7,p8⟩:=Au hr hfo
 have hsm:=cb (L:=0) hr (by have:size (aB ks vs)≤1024:=hz;show size (aB ks vs)≤1355;omega)
 have cp:=B0 (aB ks vs) hsm.1 hsm.2 key
 rw[p1,hfo] at cp
 have hsm':=cb (L:=0) (ks:=ks') (kids:=vs') p3 (by show size (aB ks' vs')≤1355;omega)
 have hnd:=jP g ok ht hi' (by show stt s i≠0;omega) ab hd hH.1
 rw[hH.2] at hnd
 refine rf0 @and_self ?_
 refine an.aT (vals:=[.ptr tid 0,.int .i64 (i:Int),.int .i64 (d:Int)]) ae xA4 hnd fun q h2 ⟨hq,g2,k2,no2⟩ n2 _=>?_
 subst hq
 have ht2:=(k2 tid ab).trans ht
 have g3:=(g2.new (aC (aB ks vs))).new (aC (aB ks' vs'))
 have ln3:(H.new (H.new h2 (aC (aB ks vs))) (aC (aB ks' vs'))).n=h2.n+1+1:=rfl
 have ht3:(H.new (H.new h2 (aC (aB ks vs))) (aC (aB ks' vs'))).objs tid=some (trO x r):=(aL (Nat.lt_succ_of_lt ab)).trans ((aL ab).trans ht2)
 have sm3:cD x h (H.new (H.new h2 (aC (aB ks vs))) (aC (aB ks' vs'))):=(ed k2).trans (cN.trans cN (Nat.le_succ _)) ab
 have no3:aq h (H.new (H.new h2 (aC (aB ks vs))) (aC (aB ks' vs'))):=aq.trans no2 (aq.trans bN bN (Nat.le_succ _) (Nat.le_succ _)) ab ab
 have nn3:=bU (h:=H.new h2 (aC (aB ks vs))) (o:=aC (aB ks' vs'))
 unfold aD at cp
 unfold aD
 refine an.evF xAc ?_
 rw[bn]
 refine an.nil ?_
 have lks:(strs (aB ks' vs').keys).length=ks'.length:=by simp[strs,aB]
 refine rf1 (cj3 @and_self @Bool.not_true lks) cp ?_
 rw[bn]
 refine Wp.le (s':=⟨tm [(0,.ptr tid 0),(1,.int .i64 i),(10,.ptr (h2.n+1) 0),(34,.bool (decide (((ks'.length:Nat):Int)=0)))],H.new (H.new h2 (aC (aB ks vs))) (aC (aB ks' vs'))⟩) (aK.of (bp ?_) (OLe.refl _) (fun y hy=>hy) (Nat.le_refl _) (Nat.le_refl _)) ?_
 ·exact xSb
 have nn3:(H.new (H.new h2 (aC (aB ks vs))) (aC (aB ks' vs'))).objs (h2.n+1)=some (aC (aB ks' vs')):=nn3
 generalize H.new (H.new h2 (aC (aB ks vs))) (aC (aB ks' vs'))=h3 at*
 by_cases hk0:ks'.length=0
 ·have d0:decide (((ks'.length:Nat):Int)=0)=true:=decide_eq_true ab
  have ht4:=ht3
  unfold trO at ht4
  refine rf0 (cj2 ht4 d0) ?_
  refine an.aT (vals:=[.ptr x.P 0,.int .i64 (i:Int)]) ae xA4 (CH g3 ok hi' hs) fun q h4 ⟨hq,s',st⟩ n4 _=>?_
  subst hq
  refine an.cF xA2 xAb (by exact ⟨Nat.le_refl _,Nat.le_refl _⟩) (eS) ?_
  refine an.nil ?_
  refine rf0 @and_self ?_
  refine Wp.ret ?_
  have st2:=st.pre sm3 no3 ab
  have e0:ks'=[]:=List.length_eq_zero_iff.1 hk0
  refine ⟨trivial,.int .i64 (-1),?_,s',none,rfl,⟨st2.pg,st2.ok,st2.mv.congr (fun j=>Iff.rfl) (fun j=>by simp[fa]),by have:=st2.fr;omega,by have:=st2.pl;omega,st2.sm,st2.no,st2.ln⟩,⟨fun t' e=>(by cases e),fun t' e=>(by cases e),?_,List.nodup_nil,fun t' e=>(by cases e)⟩⟩
  ·simp only[go_sem]
   exact rfl
  ·show []=ep (List.zipWith Pr.mk ks vs) key
   rw[←p7,e0];rfl
 ·have d0:decide (((ks'.length:Nat):Int)=0)=false:=decide_eq_false ab
  unfold aC at nn3
  refine rf0 (cj2 nn3 d0) ?_
  have hz':size (aB ks' vs')≤1024:=by omega
  refine an.aT (vals:=[.ptr tid 0,.int .i64 (i:Int),aD (aB ks' vs')]) ae xA4 (tA g3 ok ht3 htx hsm'.1 (lY p3 hz') hi' hs hf ab) fun q h4 ⟨s',k,hq,st,hh⟩ n4 _=>?_
  subst hq
  refine an.evF xAc ?_
  refine an.nil ?_
  refine Wp.ret ?_
  have st2:=st.pre sm3 no3 ab
  refine ⟨trivial,.int .i64 (k:Nat),?_,s',some ⟨k,ks',vs'⟩,rfl,⟨st2.pg,st2.ok,st2.mv.congr (fun j=>Iff.rfl) (fun j=>by simp[fa,bc,ba]),st2.fr,st2.pl,st2.sm,st2.no,st2.ln⟩,⟨fun t' e=>(by cases e;exact ⟨hh,trivial⟩),fun t' e=>(by cases e;exact ⟨p3,hz',by show 0<ks'.length;omega,fun k hk=>hw k (p6 k hk)⟩),?_,by simp[fa,bc,ba],fun t' e j=>(by cases e;exact ⟨Nat.le_refl _,Nat.le_refl _⟩)⟩⟩
  ·simp only[go_sem]
   exact rfl
  ·show List.zipWith Pr.mk ks' vs'=ep (List.zipWith Pr.mk ks vs) key
   exact p7
end
end Go.Proofs.YtbgmofhgfnmaiaaGreat.Tree
end
section
set_option maxRecDepth 100000
namespace Go.Proofs.YtbgmofhgfnmaiaaGreat.Tree
open Go Go.Av Go.Proofs Go.Proofs.YtbgmofhgfnmaiaaGreat.C Go.Proofs.YtbgmofhgfnmaiaaGreat.Page
open Go.Proofs.YtbgmofhgfnmaiaaGreat.Batch (Bs Pr prs aW)
def wo {α:Type} (l:List α) (j:Nat):List α:=l.take j++l.drop (j+1)
def dks {L:Nat} (ks:List Bs) (j:Nat):Option (Tr L)→List Bs
 |none=>wo ks (j - 1)
 |some _=>ks
def dus {L:Nat} (us:List (Tr L)) (j:Nat):Option (Tr L)→List (Tr L)
 |none=>wo us j
 |some t=>nus us j (t,none)
section
variable {x:PgI} {s:PgS} {T:List Nat} {h:H}
theorem dz.GI {h':H} {n0 c:Nat} {K:AV} {xs:List AV} (r:dz h n0 K xs c) (hn:h.n≤h'.n) (ho:∀a l c',K= .tsl 1 a 0 l c'→h'.objs a=h.objs a):dz h' n0 K xs c:=by
 rcases r with r|⟨a,r1,r2,r3,r4,r5,r6⟩
 ·exact .inl r
 ·exact .inr ⟨a,r1,(ho a _ _ r1).trans r2,r3,ab,r5,r6⟩
set_option maxHeartbeats 2000000 in
theorem Az {L tid d i:Nat} {r:Int} {ks:List Bs} {us:List (Tr L)} {key:Bs} {u:Tr L} {Q:PgS→Option (Tr L)→Prop} {Q2:PgS→Option (Tr L)→PgS→Nat→Prop} {Q3:PgS→PgS→Prop}
  (g:PgH x s T h) (ok:cd s) (ht:h.objs tid=some (trO x r)) (htx:Tid x tid) (hi':i<s.np) (hs:stt s i=1∨stt s i=2) (hH:Has s i (au L ks us)) (hr:right (au L ks us)=true) (hz:size (au L ks us)≤1024)
  (hu:us[place (au L ks us) key]? =some u) (hj:place (au L ks us) key≤ks.length) (hd:d≤20) (hp:s.p.length<900000)
  (ih:∀h1,PgH x s T h1→h1.objs tid=some (trO x r)→aI Tryz.prog 46 [.ptr tid 0,.int .i64 (u.pg:Nat),.int .i64 ((d+1:Nat):Int),.str key] h1 fun q h'=>∃s1 o,q= .int .i64 (opg o)∧PgH x s1 T h'∧cD x h1 h'∧aq h1 h'∧Q s1 o)
  (hov:∀s1 o h1,Q s1 o→PgH x s1 T h1→h1.objs tid=some (trO x r)→(∀t',o=some t'→t'.pg≠u.pg)→(o=none→2≤us.length)→aI Tryz.prog 78 [.ptr tid 0,.int .i64 (i:Int),aD (au L (dks ks (place (au L ks us) key) o) (dus us (place (au L ks us) key) o))] h1 fun q h'=>∃s2 k,q= .int .i64 (k:Nat)∧PgH x s2 T h'∧cD x h1 h'∧aq h1 h'∧Q2 s1 o s2 k)
  (hrel:∀s1 h1,Q s1 none→us.length=1→PgH x s1 T h1→aI Tryz.prog 48 [.ptr x.P 0,.int .i64 (i:Int)] h1 fun q h'=>q= .int .i64 0∧∃s2,PgH x s2 T h'∧cD x h1 h'∧aq h1 h'∧Q3 s1 s2):
  aI Tryz.prog 46 [.ptr tid 0,.int .i64 (i:Int),.int .i64 (d:Int),.str key] h fun q h'=>∃s1 o,Q s1 o∧cD x h h'∧aq h h'∧((q= .int .i64 (i:Int)∧(∃t',o=some t'∧t'.pg=u.pg)∧PgH x s1 T h')∨(q= .int .i64 (-1)∧o=none∧us.length=1∧∃s2,PgH x s2 T h'∧Q3 s1 s2)∨((∀t',o=some t'→t'.pg≠u.pg)∧(o=none→2≤us.length)∧∃s2 k,q= .int .i64 (k:Nat)∧PgH x s2 T h'∧Q2 s1 o s2 k)):=by
 refine f46.bu af ?_
 unfold c46 zz
 have hlt:tid<h.n:=by
  rcases Nat.lt_or_ge tid h.n with q|q
  ·exact q
  ·rw[g.fresh _ q] at ht;cases ht
 have hsm:=cb (L:=L+1) (ks:=ks) (kids:=us) hr (by show size (au L ks us)≤1355;omega)
 have hul:us.length=ks.length+1:=by
  have q:=((cM (n:=au L ks us) rfl).1 hr).2.2.1
  simpa [au] using q
 refine rf0 @and_self ?_
 have hnd:=Cr g ok ht hi' (by show stt s i≠0;omega) hp hd hH.1 (by rw[hH.2];rfl)
 rw[hH.2] at hnd
 refine an.aT (vals:=[.ptr tid 0,.int .i64 (i:Int),.int .i64 (d:Int)]) ae xA4 hnd fun q h2 ⟨K,c,hq,oc,rK,hc1,hc2,g2,k2,no2⟩ n2 _=>?_
 subst hq
 have hkl:(au L ks us).kids.length=us.length:=by simp[au]
 have hkk:(au L ks us).kids=bK us:=rfl
 have hks:(au L ks us).keys=ks:=rfl
 rw[hkl]
 rw[hkk] at oc
 rw[hks] at rK
 have ht2:=(k2 tid ab).trans ht
 have hKc:=rK.cell
 have hKc2:=hKc
 unfold aO at hKc
 obtain ⟨nO,hnO⟩:∃nO:Av.Obj,nO= .cells [.bool false,K,.sl 1 [] (.exact 0),.tsl 1 c 0 us.length none]:=⟨_,rfl⟩
 have g3:=g2.new nO
 have ln3:(H.new h2 nO).n=h2.n+1:=rfl
 have ht3:(H.new h2 nO).objs tid=some (trO x r):=(aL ab).trans ht2
 have nn3:=bU (h:=h2) (o:=nO)
 have oc3:(H.new h2 nO).objs c=some (.cells (ints (bK us))):=(aL hc2).trans oc
 have rK3:dz (H.new h2 nO) h.n K (strs ks) c:=rK.keep (Nat.le_succ _) (fun j a b _=>aL b) (fun a _ h=>h)
 have sm3:cD x h (H.new h2 nO):=(ed k2).trans cN ab
 have no3:aq h (H.new h2 nO):=aq.trans no2 bN ab ab
 have hKd:∀a l c',K= .tsl 1 a 0 l c'→h.n≤a∧a<h2.n∧a≠c:=by
  intro a l c' e
  rcases rK with ⟨-,k2⟩|⟨a',k1,-,k3,k4,k5,-⟩
  ·rw[e] at k2;cases k2
  ·rw[e] at k1;cases k1;exact ⟨k3,k4,k5⟩
 refine an.evF (xAd hKc) ?_
 rw[bn]
 refine an.nil ?_
 refine Wp.le (s':=⟨tm [(0,.ptr tid 0),(1,.int .i64 i),(2,.int .i64 d),(3,.str key),(9,.ptr h2.n 0)],H.new h2 nO⟩) (aK.of (bp ?_) (by rw[hnO];exact OLe.refl _) (fun y hy=>hy) (Nat.le_refl _) (Nat.le_refl _)) ?_
 ·exact xSb
 generalize H.new h2 nO=h3 at*
 rw[hnO] at nn3
 have cf:=CB (key:=key) rK3 oc3 hr hsm.1
 generalize hJ:place (au L ks us) key=J at*
 have hJu:J<us.length:=by omega
 have x1:(0:Int)≤(J:Int):=by omega
 have x2:(J:Int)<(us.length:Int):=by omega
 have wd:IntKind.i64.wrap ((d:Int)+1)=((d+1:Nat):Int):=by rw[IntWalk.i64_in _ ab];rfl
 have hgo:(ints (bK us))[J]? =some (.int .i64 (u.pg:Nat)):=by
  have:(bK us)[J]? =some ((u.pg:Nat):Int):=by simp[bK,hu]
  simp[ints,this]
 refine rg1 (oz nn3 x1 x2 oc3 hgo wd @Int.toNat_natCast @Nat.mul_one @Nat.zero_add @and_self) cf ?_
 refine an.aT (vals:=[.ptr tid 0,.int .i64 (u.pg:Nat),.int .i64 ((d+1:Nat):Int),.str key]) ae xA4 (ih h3 g3 ht3) fun q h4 ⟨s1,o,hq,g4,sm4,no4,hQ⟩ n4 _=>?_
 subst hq
 have tids:∀j,h.n≤j→Tid x j:=fun j hj=>dJ g hj
 have nn4:=(cx sm4 ab (tids h2.n ab)).trans nn3
 have ht4:=(cx sm4 ab htx).trans ht3
 have oc4:=(cx sm4 ab (tids c ab)).trans oc3
 have rK4:=rK3.same sm4 n4 tids
 have sm5:cD x h h4:=sm3.trans sm4 ab
 have no5:aq h h4:=aq.trans no3 no4 ab ab
 refine an.evF xAc ?_
 refine an.nil ?_
 refine Wp.le (s':=⟨tm [(0,.ptr tid 0),(1,.int .i64 i),(9,.ptr h2.n 0),(12,.int .i64 J),(14,.int .i64 (opg o))],h4⟩) (aK.of (bp ?_) (OLe.refl _) (fun y hy=>hy) (Nat.le_refl _) (Nat.le_refl _)) ?_
 ·exact xSb
 clear cf hnd
 by_cases hA:opg o=(u.pg:Nat)
 ·have e1:decide (opg o=((u.pg:Nat):Int))=true:=decide_eq_true hA
  refine rf0 (oz nn4 x1 x2 oc4 hgo e1 @Int.toNat_natCast @Nat.mul_one @Nat.zero_add @and_self) ?_
  refine Wp.ret ?_
  refine ⟨trivial,.int .i64 (i:Int),?_,s1,o,hQ,sm5,no5,.inl ⟨rfl,?_,g4⟩⟩
  ·simp only[go_sem]
   exact rfl
  ·cases o with
   |none=>simp[opg] at hA
   |some t'=>
    have hA:((t'.pg:Nat):Int)=((u.pg:Nat):Int):=hA
    exact ⟨t',rfl,ab⟩
 ·have e1:decide (opg o=((u.pg:Nat):Int))=false:=decide_eq_false hA
  have hkL:(bK us).length=us.length:=by simp[bK]
  have x3:J+1≤us.length:=by omega
  have hkl':ks.length≤1000:=hsm.2.k
  by_cases hC:o=none∧us.length=1
  ·obtain ⟨hC1,hC2⟩:=hC
   subst hC1
   have e2:decide ((0:Int)≤opg (none:Option (Tr L)))=false:=decide_eq_false (by simp[opg])
   have e3:decide (((us.length:Nat):Int)=1)=true:=decide_eq_true ab
   have ht5:=ht4
   unfold trO at ht5
   refine rf0 (cP nn4 x1 x2 oc4 hgo e1 e2 e3 ht5 @Int.toNat_natCast @Nat.mul_one (cj2 @Nat.zero_add @and_self)) ?_
   refine an.aT (vals:=[.ptr x.P 0,.int .i64 (i:Int)]) ae xA4 (hrel s1 h4 hQ hC2 g4) fun q h5 ⟨hq,s2,g5,sm5',no5',hQ3⟩ n5 _=>?_
   subst hq
   refine an.cF xA2 xAb (by exact ⟨Nat.le_refl _,Nat.le_refl _⟩) (eS) ?_
   refine an.nil ?_
   refine rf0 @and_self ?_
   refine Wp.ret ?_
   refine ⟨trivial,.int .i64 (-1),?_,s1,none,hQ,sm5.trans sm5' ab,aq.trans no5 no5' ab ab,.inr (.inl ⟨rfl,rfl,hC2,s2,g5,hQ3⟩)⟩
   simp only[go_sem]
   exact rfl
  ·have hne:∀t',o=some t'→t'.pg≠u.pg:=fun t' e e2=>hA (by rw[e,←e2];rfl)
   have hge:o=none→2≤us.length:=fun e=>by
    rcases Nat.lt_or_ge us.length 2 with a|a
    ·exact absurd ⟨e,ab⟩ hC
    ·exact a
   refine Wp.seq (Wp.ex (β:=H × AV × AV) (fun b=>⟨tm [(0,.ptr tid 0),(1,.int .i64 i),(9,.ptr h2.n 0)],b.1⟩) (fun b=>Ndy x T s1 h tid r (fun k=>decide (h.n≤k∧k<h2.n)) h2.n (dks ks J o) (bK (dus us J o)) b) ?_ ?_)
   ·cases o with
    |some t'=>
     have e2:decide ((0:Int)≤opg (some t'))=true:=decide_eq_true (by simp only[opg];omega)
     refine rf0 (cP nn4 x1 x2 x3 hkL oc4 hgo e1 e2 @Int.toNat_natCast @Nat.mul_one (cj3 @Nat.zero_add @and_self @kv)) ?_
     have hs1:List.take J (ints (bK us))++[AV.int IntKind.i64 (opg (some t'))]++List.drop (J+1) (ints (bK us))=ints (bK (nus us J (t',none))):=by
      rw[←yb (R:=(t',none)) rfl];simp[ints,opg]
     rw[hs1]
     have c1:∀j,j≠c→(upd h4.objs c (some (.cells (ints (bK (nus us J (t',none)))))):Nat→Option Av.Obj) j=h4.objs j:=fun j hj=>by simp only[upd];rw[if_neg hj]
     have hkn:us.length=(ints (bK (nus us J (t',none)))).length:=by simp[ints,bK,nus,rt];omega
     refine ⟨(⟨upd h4.objs c (some (.cells (ints (bK (nus us J (t',none)))))),h4.n,h4.toks,h4.m⟩,K,.tsl 1 c 0 us.length none),⟨(c1 h2.n ab).trans nn4,hKc2,rfl,?_,?_,?_,(c1 tid ab).trans ht4,fun j hj a1 a2 a3 a4 a5 a6=>(c1 j ab).trans (sm5 j hj a1 a2 a3 a4 a5 a6),?_,by show h2.n<h4.n;omega,by show h.n≤h4.n;omega⟩,aK.tm ?_⟩
     ·have rK5:dz ⟨upd h4.objs c (some (.cells (ints (bK (nus us J (t',none)))))),h4.n,h4.toks,h4.m⟩ h.n K (strs ks) c:=rK4.keep (Nat.le_refl _) (fun j _ _ hj=>c1 j hj) (fun a _ h=>h)
      exact rK5.unD fun a l c' e=>by have:=hKd a l c' e;simpa using ⟨this.1,this.2.1⟩
     ·show av (unT _ _ (.tsl 1 c 0 us.length none)) (.sl 1 (ints (bK (nus us J (t',none)))) .any)
      rw[hkn]
      exact yd (by simp[upd]) (by simpa using ⟨hc1,hc2⟩)
     ·exact g4.other ab (by have:=tids c ab;simp only[Tid,ne_eq,eq_comm] at this ⊢;exact this)
     ·exact aq.trans no5 (aq.set oc4) ab (Nat.le_refl _)
     ·exact xSb
    |none=>
     have e2:decide ((0:Int)≤opg (none:Option (Tr L)))=false:=decide_eq_false (by simp[opg])
     have e3:decide (((us.length:Nat):Int)=1)=false:=decide_eq_false (by have:=hge rfl;omega)
     have wJ:IntKind.i64.wrap ((J:Int)+1)=((J+1:Nat):Int):=by rw[IntWalk.i64_in _ ab];rfl
     have hg2:=hge rfl
     refine rf0 (cP nn4 x1 x2 oc4 hgo e1 e2 e3 wJ @Int.toNat_natCast @Nat.mul_one (cj2 @Nat.zero_add @and_self)) ?_
     have hdl:=Ar (h:=h4) (bK us) J ab ab oc4
     rw[hkL] at hdl
     refine an.aT (vals:=[.tsl 1 c 0 us.length none,.int .i64 (J:Int),.int .i64 ((J+1:Nat):Int)]) ae xA4 hdl fun w h7 ⟨hw,l1,l2,l3,a0,ha0,l4⟩ n7 m7=>?_
     subst hw ha0
     have hwk:(bK us).take J++(bK us).drop (J+1)=bK (wo us J):=by simp[bK,wo]
     rw[hwk]
     have p7:∀j,j≠a0→h7.objs j=h4.objs j:=fun j hn=>by rw[l4 j,if_neg hn]
     have nn7:=(p7 h2.n ab).trans nn4
     have f7:∀j,h7.n≤j→h7.objs j=none:=fun j hj=>by
      rw[l4 j]
      split
      ·rfl
      ·exact g4.fresh j ab
     have g7:PgH x s1 T h7:=g4.at (fun j hj=>by
      have hj2:j<h.n:=by
       rcases Nat.lt_or_ge j h.n with e|e
       ·exact e
       ·exact absurd (dJ g e) hj
      exact p7 j ab) ab f7 l3 ab
     have rK7:dz h7 h.n K (strs ks) a0:=rK4.keep ab (fun j _ _ hj=>p7 j hj) (fun a _ h=>h)
     refine an.evF (xAd nn7) ?_
     refine an.nil ?_
     obtain ⟨h8,hh8⟩:∃h8:H,h8= {h7 with objs:=upd h7.objs h2.n (some (.cells [.bool false,K,.sl 1 [] (.exact 0),.sl 1 (ints (bK (wo us J))) .any]))}:=⟨_,rfl⟩
     have c8:∀j,j≠h2.n→h8.objs j=h7.objs j:=fun j hj=>by rw[hh8];simp only[upd];rw[if_neg hj]
     have nn8:h8.objs h2.n=some (.cells [.bool false,K,.sl 1 [] (.exact 0),.sl 1 (ints (bK (wo us J))) .any]):=by rw[hh8];simp[upd]
     have n8:h8.n=h7.n:=by rw[hh8]
     have g8:PgH x s1 T h8:=by
      rw[hh8]
      exact g7.other ab (by have:=tids h2.n ab;simp only[Tid,ne_eq,eq_comm] at this ⊢;exact this)
     have rK8:dz h8 h.n K (strs ks) a0:=rK7.GI ab (fun a l c' e=>c8 a (by have:=hKd a l c' e;omega))
     rw[←hh8]
     refine Wp.le (s':=⟨tm [(0,.ptr tid 0),(1,.int .i64 i),(9,.ptr h2.n 0),(12,.int .i64 J)],h8⟩) (aK.of (bp ?_) (OLe.refl _) (fun y hy=>hy) (Nat.le_refl _) (Nat.le_refl _)) ?_
     ·exact xSb
     clear hh8
     have wm:IntKind.i64.wrap ((J:Int) - 1)=(J:Int) - 1:=IntWalk.i64_in _ ab
     have em:(if (0:Int)<(J:Int) - 1 then (J:Int) - 1 else 0)=((J - 1:Nat):Int):=by split<;>omega
     have wJ2:IntKind.i64.wrap (((J - 1:Nat):Int)+1)=((J - 1+1:Nat):Int):=by rw[IntWalk.i64_in _ ab];rfl
     refine rf0 (cj5 nn8 hKc wm em wJ2) ?_
     refine an.aT (vals:=[K,.int .i64 ((J - 1:Nat):Int),.int .i64 ((J - 1+1:Nat):Int)]) ae xA4 (Aq ks (J - 1) ab ab rK8) fun w h9 ⟨hw,l5,l6,l7,b0,hb0,l8⟩ n9 m9=>?_
     subst hw
     have hb:=hKd _ _ _ hb0
     have p9:∀j,j≠b0→h9.objs j=h8.objs j:=fun j hn=>by rw[l8 j,if_neg hn]
     have nn9:=(p9 h2.n ab).trans nn8
     have f9:∀j,h9.n≤j→h9.objs j=none:=fun j hj=>by
      rw[l8 j]
      split
      ·rfl
      ·exact g8.fresh j ab
     have g9:PgH x s1 T h9:=g8.at (fun j hj=>by
      have hj2:j<h.n:=by
       rcases Nat.lt_or_ge j h.n with e|e
       ·exact e
       ·exact absurd (dJ g e) hj
      exact p9 j ab) ab f9 l7 ab
     refine an.evF (xAd nn9) ?_
     refine an.nil ?_
     have cA:∀j,j≠h2.n→(upd h9.objs h2.n (some (.cells [.bool false,.sl 1 (strs (ks.take (J - 1)++ks.drop (J - 1+1))) .any,.sl 1 [] (.exact 0),.sl 1 (ints (bK (wo us J))) .any])):Nat→Option Av.Obj) j=h9.objs j:=fun j hj=>by simp only[upd];rw[if_neg hj]
     have pA:∀j,j≠h2.n→j≠a0→j≠b0→(upd h9.objs h2.n (some (.cells [.bool false,.sl 1 (strs (ks.take (J - 1)++ks.drop (J - 1+1))) .any,.sl 1 [] (.exact 0),.sl 1 (ints (bK (wo us J))) .any])):Nat→Option Av.Obj) j=h4.objs j:=fun j e1 e2 e3=>(cA j e1).trans ((p9 j e3).trans ((c8 j e1).trans (p7 j e2)))
     refine ⟨(⟨upd h9.objs h2.n (some (.cells [.bool false,.sl 1 (strs (ks.take (J - 1)++ks.drop (J - 1+1))) .any,.sl 1 [] (.exact 0),.sl 1 (ints (bK (wo us J))) .any])),h9.n,h9.toks,h9.m⟩,.sl 1 (strs (ks.take (J - 1)++ks.drop (J - 1+1))) .any,.sl 1 (ints (bK (wo us J))) .any),⟨by simp[upd],rfl,rfl,by simp only[unT];exact av.refl _,by simp only[unT];exact av.refl _,?_,(pA tid ab ab ab).trans ht4,?_,?_,by show h2.n<h9.n;omega,by show h.n≤h9.n;omega⟩,aK.tm ?_⟩
     ·exact g9.other ab (by have:=tids h2.n ab;simp only[Tid,ne_eq,eq_comm] at this ⊢;exact this)
     ·exact fun j hj a1 a2 a3 a4 a5 a6=>(pA j ab ab ab).trans (sm5 j hj a1 a2 a3 a4 a5 a6)
     ·refine aq.trans (fun j hj=>?_) (aq.set nn9) (show h.n≤h9.n by omega) (Nat.le_refl _)
      rw[l8 j] at hj
      split at hj
      ·cases hj
      ·by_cases e2:j=h2.n
       ·exact .inr ⟨ab,ab⟩
       ·rw[c8 j e2,l4 j] at hj
        split at hj
        ·cases hj
        ·exact (no5 j hj).imp id fun z=>⟨z.1,ab⟩
     ·exact xSb
   ·rintro b s' nd le
    refine Wp.le le ?_
    have hdK:∀k,decide (h.n≤k∧k<h2.n)=true→h.n≤k∧k<h2.n:=fun k hk=>of_decide_eq_true hk
    have d1:decide (h.n≤tid∧tid<h2.n)=false:=decide_eq_false ab
    have d3:decide (h.n≤h2.n∧h2.n<h2.n)=false:=decide_eq_false ab
    obtain ⟨h8,le8,nn8,g8,ht8,sm8,no8,n8,k8⟩:=nd.go (l:=[(0,.ptr tid 0),(1,.int .i64 i),(9,.ptr h2.n 0)]) (t:=tm [(0,.ptr tid 0),(1,.int .i64 i),(9,.ptr h2.n 0)]) g hdK hlt ab (by
     simp only[aY,go_sem,reduceIte,Nat.reduceEqDiff,unT,d1,d3,Bool.false_eq_true,if_false]
     exact ⟨av.refl _,av.refl _,av.refl _,trivial⟩) (by
     exact xSb
     )
    refine Wp.le le8 ?_
    have nb:=nd.ln
    unfold aC at nn8
    refine rf0 nn8 ?_
    refine an.aT (vals:=[.ptr tid 0,.int .i64 (i:Int),aD (au L (dks ks J o) (dus us J o))]) ae xA4 (hov s1 o h8 hQ g8 ht8 hne hge) fun q h9 ⟨s2,k,hq,g9,sm9,no9,hQ2⟩ n9 _=>?_
    subst hq
    refine an.evF xAc ?_
    refine an.nil ?_
    refine Wp.ret ?_
    refine ⟨trivial,.int .i64 (k:Nat),?_,s1,o,hQ,sm8.trans sm9 ab,aq.trans no8 no9 ab n9,.inr (.inr ⟨hne,hge,s2,k,rfl,g9,hQ2⟩)⟩
    simp only[go_sem]
    exact rfl
end
end Go.Proofs.YtbgmofhgfnmaiaaGreat.Tree
end
section
set_option maxRecDepth 100000
namespace Go.Proofs.YtbgmofhgfnmaiaaGreat.Tree
open Go Go.Av Go.Proofs Go.Proofs.YtbgmofhgfnmaiaaGreat.C Go.Proofs.YtbgmofhgfnmaiaaGreat.Page
open Go.Proofs.YtbgmofhgfnmaiaaGreat.Batch (Bs Pr prs aW)
def ol {L:Nat}:Option (Tr L)→List (Tr L)
 |none=>[]
 |some t=>[t]
def wY (L:Nat):Option (Tr L)→List Pr
 |none=>[]
 |some t=>aN L t
theorem qe {L:Nat} (us:List (Tr L)) (j:Nat) (o:Option (Tr L)):dus us j o=us.take j++(ol o++us.drop (j+1)):=by cases o<;>rfl
theorem uW {L:Nat} {α:Type} (f:Tr L→List α) (us:List (Tr L)) (j:Nat) (o:Option (Tr L)):((dus us j o).map f).flatten=((us.take j).map f).flatten++(((ol o).map f).flatten++((us.drop (j+1)).map f).flatten):=by
 rw[qe,List.map_append,List.flatten_append,List.map_append,List.flatten_append]
theorem CI {L:Nat} (o:Option (Tr L)):((ol o).map (bc L)).flatten=fa L o:=by cases o<;>simp[ol,fa]
theorem CJ {L:Nat} (o:Option (Tr L)):((ol o).map (aN L)).flatten=wY L o:=by cases o<;>simp[ol,wY]
theorem wZ {L:Nat} {lo:Bs} {hi:Option Bs} {ks:List Bs} {us:List (Tr L)} {j:Nat} {o:Option (Tr L)} (hw:bF (WF L) lo hi ks us) (hr:right (au L ks us)=true) (hz:size (au L ks us)≤1024) (hj:j≤ks.length) (ho:∀t,o=some t→WF L (dK lo ks j) (eU hi ks j) t) (hn:o=none→2≤us.length) (hp:∀u∈us,u.pg<16384) (hp2:∀u∈ol o,u.pg<16384):
  bF (WF L) lo hi (dks ks j o) (dus us j o)∧right (au L (dks ks j o) (dus us j o))=true∧size (au L (dks ks j o) (dus us j o))≤1024:=by
 have hul:=hw.len
 cases o with
 |some t=>
  obtain ⟨c1,c2,c3,c4⟩:=nH (R:=(t,none)) hw hr hz hj (ho t rfl) hp (fun u hu=>hp2 u (by simpa [rt,ol] using hu))
  have e:nks ks j ((t,none):Res L)=ks:=by unfold nks rk;simp
  rw[e] at c1 c2 c4
  exact ⟨c1,c2,c4 rfl⟩
 |none=>
  have h2:=hn rfl
  have c:=hw.del (nice L) (j:=j) ab ab
  obtain ⟨r1,-⟩:=(cM (n:=au L ks us) rfl).1 hr
  have r1:mH ks:=r1
  refine ⟨c,ig c (fun k hk=>r1.1 k ((fE ks (j - 1)).subset hk)) (fun v hv=>hp v ((fE us j).subset hv)),?_⟩
  have e0:size (au L ks us)=7+5*ks.length+tot ks:=rfl
  have e1:size (au L (dks ks j (none:Option (Tr L))) (dus us j none))=7+5*(ks.take (j - 1)++ks.drop (j - 1+1)).length+tot (ks.take (j - 1)++ks.drop (j - 1+1)):=rfl
  rw[e1]
  have s1:=sV (fE ks (j - 1))
  have s2:=(fE ks (j - 1)).length_le
  omega
theorem Eo {α:Type} {us:List α} {u:α} (h:us.length=1) {j:Nat} (hu:us[j]? =some u):us.take j=[]∧us.drop (j+1)=[]:=by
 obtain ⟨hj,-⟩:=List.getElem?_eq_some_iff.1 hu
 obtain rfl:j=0:=by omega
 exact ⟨rfl,List.drop_eq_nil_of_le ab⟩
theorem uX {L:Nat} {ks ks':List Bs} {us:List (Tr L)} {i k j:Nat} {u:Tr L} {o:Option (Tr L)} (hu:us[j]? =some u) (h:∀t,o=some t→∀j,eZ L j t≤eZ L j u∧exT L j t≤exT L j u) (jj:Nat):
  eZ (L+1) jj (mkT L k ks' (dus us j o))≤eZ (L+1) jj (mkT L i ks us)∧exT (L+1) jj (mkT L k ks' (dus us j o))≤exT (L+1) jj (mkT L i ks us):=by
 obtain ⟨hj,-⟩:=List.getElem?_eq_some_iff.1 hu
 have hlen:(dus us j o).length≤us.length:=by
  rw[qe]
  cases o<;>simp[ol] <;>omega
 have key:∀f:Tr L→Nat,(∀t,o=some t→f t≤f u)→((dus us j o).map f).sum≤(us.map f).sum:=by
  intro f hf
  have:=CD f hu (ol o)
  rw[qe]
  have h2:((ol o).map f).sum≤f u:=by
   cases o with
   |none=>simp[ol]
   |some t=>simpa [ol] using hf t rfl
  omega
 rw[fh,fh,fX,fX]
 constructor
 ·split
  ·exact Nat.le_refl _
  ·exact key _ fun t e=>(h t e jj).1
 ·split
  ·show (dus us j o).length - 5≤us.length - 5
   omega
  ·exact key _ fun t e=>(h t e jj).2
end Go.Proofs.YtbgmofhgfnmaiaaGreat.Tree
end
section
set_option maxRecDepth 100000
namespace Go.Proofs.YtbgmofhgfnmaiaaGreat.Tree
open Go Go.Av Go.Proofs Go.Proofs.YtbgmofhgfnmaiaaGreat.C Go.Proofs.YtbgmofhgfnmaiaaGreat.Page
open Go.Proofs.YtbgmofhgfnmaiaaGreat.Batch (Bs Pr prs aW)
section
variable {x:PgI} {T:List Nat}
def w5 (x:PgI) (T:List Nat) (L:Nat) (t:Tr L) (lo:Bs) (hi:Option Bs) (s:PgS) (h:H) (tid d:Nat) (r:Int) (key:Bs):Prop:=
 PgH x s T h→cd s→h.objs tid=some (trO x r)→Tid x tid→Live s L lo hi t→inB lo hi key→(∃p∈aN L t,p.k=key)→d+L≤20→L+1≤free s→s.p.length+16*(L+1)<900000→
  aI Tryz.prog 46 [.ptr tid 0,.int .i64 (t.pg:Nat),.int .i64 (d:Nat),.str key] h fun q h'=>∃s' o,q= .int .i64 (opg o)∧Stp x T s h (fun j=>j∈bc L t) (fun j=>j∈fa L o) (L+1) s' h'∧yg L lo hi t key s' o
theorem w6 {L:Nat} {i:Nat} {ks:List Bs} {us:List (Tr L)} {lo:Bs} {hi:Option Bs} {s:PgS} {h:H} {tid d:Nat} {r:Int} {key:Bs} (ih:∀(u:Tr L) lo hi h,w5 x T L u lo hi s h tid (d+1) r key):w5 x T (L+1) (mkT L i ks us) lo hi s h tid d r key:=by
  intro g ok ht htx lv hb hex hd hf hp
  obtain ⟨hr,hz,hw⟩:=lv.wf
  have hw:bF (WF L) lo hi ks us:=hw
  have hr:right (au L ks us)=true:=hr
  have hz:size (au L ks us)≤1024:=hz
  obtain ⟨hs,hi'⟩:=lv.st i (by show i∈i::ba (L+1) us;simp)
  obtain ⟨pa1,pa2,pa3⟩:=gu (key:=key) hr
  obtain ⟨u,hu,wu,-⟩:=hw.at pa3
  obtain ⟨cp1,cp2,cp3⟩:=iI hw hb _ pa3 pa1 pa2
  have hum:u∈us:=List.mem_of_getElem? hu
  have hpg:=gL (i:=i) (ks:=ks) hu
  have hnd:=lv.nd
  have hst:=lv.st
  rw[hpg] at hnd hst
  have hpr:aN (L+1) (mkT L i ks us)=((us.take (place (au L ks us) key)).map (aN L)).flatten++(aN L u++((us.drop (place (au L ks us) key+1)).map (aN L)).flatten):=mW (f:=aN L) hu
  have hexu:∃p∈aN L u,p.k=key:=by
   obtain ⟨p,hp,e⟩:=hex
   rw[hpr] at hp
   simp only[List.mem_append] at hp
   rcases hp with hp|hp|hp
   ·exact absurd e (ne_of_lt (cp1 p hp))
   ·exact ⟨p,hp,e⟩
   ·exact absurd e.symm (ne_of_lt (cp2 p hp))
  have hon:∀u∈us,On s L u:=dR.1 lv.on.2
  have lu:Live s L (dK lo ks (place (au L ks us) key)) (eU hi ks (place (au L ks us) key)) u:=by
   refine ⟨hon u hum,wu,?_,fun j hj=>hst j (by simp[hj])⟩
   simp only[List.nodup_cons,List.nodup_append] at hnd
   exact hnd.2.2.1.1
  have hpA:∀v∈us,v.pg<16384:=fun v hv=>by
   have:=(lv.st v.pg (by
    show v.pg∈i::ba (L+1) us
    exact List.mem_cons_of_mem _ (gv hv _ (by simp[bc])))).2
   have:=ok.np1
   omega
  have hH:Has s i (au L ks us):=lv.on.1
  have prep:∀s1 (o:Option (Tr L)),Mv s s1 (fun j=>j∈bc L u) (fun j=>j∈fa L o)→yg L (dK lo ks (place (au L ks us) key)) (eU hi ks (place (au L ks us) key)) u key s1 o→(o=none→2≤us.length)→
    bF (WF L) lo hi (dks ks (place (au L ks us) key) o) (dus us (place (au L ks us) key) o)∧right (au L (dks ks (place (au L ks us) key) o) (dus us (place (au L ks us) key) o))=true∧size (au L (dks ks (place (au L ks us) key) o) (dus us (place (au L ks us) key) o))≤1024:=by
   intro s1 o o2 o5 hn
   have md:=nI o2 hnd o5.nd hst
   refine wZ hw hr hz pa3 o5.wf hn hpA fun v hv=>?_
   cases o with
   |none=>simp[ol] at hv
   |some t=>
    simp only[ol,List.mem_singleton] at hv
    subst hv
    have:=(md.st v.pg (by simp[fa,bc])).2
    have:=ok.np1
    omega
  have W:=Az (Q:=fun s1 o=>cd s1∧Mv s s1 (fun j=>j∈bc L u) (fun j=>j∈fa L o)∧free s≤free s1+(L+1)∧s1.p.length≤s.p.length+8*(L+1)∧yg L (dK lo ks (place (au L ks us) key)) (eU hi ks (place (au L ks us) key)) u key s1 o)
   (Q2:=fun s1 o s2 k=>cd s2∧Mv s1 s2 (fun j=>j=i) (fun j=>j=k)∧free s1≤free s2+1∧s2.p.length≤s1.p.length+8∧Has s2 k (au L (dks ks (place (au L ks us) key) o) (dus us (place (au L ks us) key) o)))
   (Q3:=fun s1 s2=>cd s2∧Mv s1 s2 (fun j=>j=i) (fun _=>False)∧free s1≤free s2∧s2.p.length≤s1.p.length) g ok ht htx hi' hs hH hr hz hu pa3 ab ab
   (fun h1 g1 ht1=>(ih u _ _ h1 g1 ok ht1 htx lu cp3 hexu ab ab ab).mono fun q h' ⟨s1,o,e,st,pr⟩=>⟨s1,o,e,st.pg,st.sm,st.no,st.ok,st.mv,st.fr,st.pl,pr⟩)
   (fun s1 o h1 ⟨o1,o2,o3,o4,o5⟩ g1 ht1 hne hge=>by
    have md:=nI o2 hnd o5.nd hst
    obtain ⟨c1,c2,c3⟩:=prep s1 o o2 o5 hge
    have e1:=(md.bt i (.inl rfl)).1
    have e2:=o2.np
    have sm:=cb (L:=L+1) (ks:=dks ks (place (au L ks us) key) o) (kids:=dus us (place (au L ks us) key) o) c2 (by show size (au L _ _)≤1355;omega)
    exact (tA g1 o1 ht1 htx sm.1 (lY c2 c3) ab ab ab ab).mono fun q h' ⟨s2,k,e,st,hh⟩=>⟨s2,k,e,st.pg,st.sm,st.no,st.ok,st.mv,st.fr,st.pl,hh⟩)
   (fun s1 h1 ⟨o1,o2,o3,o4,o5⟩ h1' g1=>by
    have md:=nI o2 hnd o5.nd hst
    have e1:=(md.bt i (.inl rfl)).1
    have e2:=o2.np
    exact (CH g1 o1 (i:=i) ab ab).mono fun q h' ⟨e,s2,st⟩=>⟨e,s2,st.pg,st.sm,st.no,st.ok,st.mv,st.fr,by have:=st.pl;omega⟩)
  obtain ⟨q,h',ca,n1,m1,s1,o,⟨o1,o2,o3,o4,o5⟩,sm,no,cs⟩:=W
  refine ⟨q,h',ca,n1,m1,?_⟩
  clear ca ih
  have md:=nI o2 hnd o5.nd hst
  have hpo:wY L o=ep (aN L u) key:=by
   have:=o5.ps
   cases o<;>exact this
  have hps:((dus us (place (au L ks us) key) o).map (aN L)).flatten=ep (aN (L+1) (mkT L i ks us)) key:=by
   rw[hpr,rM cp1 cp2,uW,CJ,hpo]
  have hkA:∀v∈dus us (place (au L ks us) key) o,On s1 L v:=by
   intro v hv
   rw[qe] at hv
   simp only[List.mem_append] at hv
   rcases hv with hv|hv|hv
   ·exact (hon v (List.mem_of_mem_take hv)).congr fun j hj=>(md.bt j (.inr (.inl (gv hv j hj)))).2
   ·cases o with
    |none=>simp[ol] at hv
    |some t=>simp only[ol,List.mem_singleton] at hv;subst hv;exact o5.on v rfl
   ·exact (hon v (List.mem_of_mem_drop hv)).congr fun j hj=>(md.bt j (.inr (.inr (gv hv j hj)))).2
  have hpn:ba (L+1) (dus us (place (au L ks us) key) o)=((us.take (place (au L ks us) key)).map (bc L)).flatten++(fa L o++((us.drop (place (au L ks us) key+1)).map (bc L)).flatten):=by
   rw[eK,uW,CI]
  have prep2:=prep s1 o o2 o5
  clear prep
  generalize hJ:place (au L ks us) key=J at*
  rcases cs with ⟨rfl,⟨t',e1,e2⟩,gp⟩|⟨rfl,e1,e2,s2,gp,u1,u2,u3,u4⟩|⟨hne,hge,s2,k,rfl,gp,u1,u2,u3,u4,u5⟩
  ·subst e1
   obtain ⟨c1,c2,c3⟩:=prep2 (fun e=>by cases e)
   have hin:au L ks (dus us J (some t'))=au L ks us:=uV (R:=(t',none)) hu e2 rfl ks
   refine ⟨s1,some (mkT L i ks (dus us J (some t'))),rfl,⟨gp,o1,md.mv.congr (fun j=>by rw[hpg]) (fun j=>?_),ab,ab,sm,no,n1⟩,⟨fun t e=>?_,fun t e=>?_,?_,?_,fun t e j=>?_⟩⟩
   ·show j∈(i::ba (L+1) (dus us J (some t')))↔_
    rw[hpn]
   ·cases e
    refine ⟨?_,dR.2 hkA⟩
    show Has s1 i (au L ks (dus us J (some t')))
    rw[hin]
    exact hH.congr (md.bt i (.inl rfl)).2
   ·cases e
    exact ⟨c2,c3,c1⟩
   ·show ((dus us J (some t')).map (aN L)).flatten=_
    rw[hps]
   ·show (i::ba (L+1) (dus us J (some t'))).Nodup
    rw[hpn]
    exact md.nd
   ·cases e
    exact uX hu o5.cnt j
  ·subst e1
   obtain ⟨w1,w2⟩:=Eo e2 hu
   have hq0:∀j,j∈ba (L+1) (dus us J none)→¬j=i:=by
    intro j hj e
    rw[hpn] at hj
    subst e
    exact (List.nodup_cons.1 md.nd).1 hj
   have m1':Mv s s1 (fun j=>j∈bc (L+1) (mkT L i ks us)) (fun j=>j=i):=md.mv.congr (fun j=>by rw[hpg]) (fun j=>by rw[w1,w2];simp[fa])
   refine ⟨s2,none,rfl,⟨gp,u1,(m1'.trans u2).congr (fun j=>Iff.rfl) (fun j=>by simp[fa]),ab,ab,sm,no,n1⟩,⟨fun t e=>(by cases e),fun t e=>(by cases e),?_,List.nodup_nil,fun t e=>(by cases e)⟩⟩
   show []=_
   rw[←hps,qe,w1,w2]
   simp[ol]
  ·obtain ⟨c1,c2,c3⟩:=prep2 hge
   have hq0:∀j,j∈ba (L+1) (dus us J o)→¬j=i:=by
    intro j hj e
    rw[hpn] at hj
    subst e
    exact (List.nodup_cons.1 md.nd).1 hj
   have hq1:∀j,j∈ba (L+1) (dus us J o)→stt s1 j≠0:=by
    intro j hj
    rw[hpn] at hj
    have:=(md.st j (List.mem_cons_of_mem _ hj)).1
    omega
   have ap:=u2.apart (Q:=fun j=>j∈ba (L+1) (dus us J o)) hq0 hq1
   have mm:=u2.ext (Q:=fun j=>j∈ba (L+1) (dus us J o)) hq0 hq1
   have m1':Mv s s1 (fun j=>j∈bc (L+1) (mkT L i ks us)) (fun j=>j=i∨j∈ba (L+1) (dus us J o)):=md.mv.congr (fun j=>by rw[hpg]) (fun j=>by rw[hpn];simp)
   have hnk:(ba (L+1) (dus us J o)).Nodup:=by rw[hpn];exact (List.nodup_cons.1 md.nd).2
   have hk2:∀v∈dus us J o,On s2 L v:=fun v hv=>(hkA v hv).congr fun j hj=>(ap j (by rw[eK];exact gv hv j hj)).2.2
   refine ⟨s2,some (mkT L k (dks ks J o) (dus us J o)),rfl,⟨gp,u1,(m1'.trans mm).congr (fun j=>Iff.rfl) (fun j=>?_),ab,ab,sm,no,n1⟩,⟨fun t e=>?_,fun t e=>?_,?_,?_,fun t e j=>?_⟩⟩
   ·show j∈(k::ba (L+1) (dus us J o))↔_
    simp
   ·cases e
    exact ⟨u5,dR.2 hk2⟩
   ·cases e
    exact ⟨c2,c3,c1⟩
   ·show ((dus us J o).map (aN L)).flatten=_
    rw[hps]
   ·show (k::ba (L+1) (dus us J o)).Nodup
    exact List.nodup_cons.2 ⟨fun hm=>(ap _ hm).1 rfl,hnk⟩
   ·cases e
    exact uX hu o5.cnt j
theorem CL:∀(L:Nat) (t:Tr L) (lo:Bs) (hi:Option Bs) (s:PgS) (h:H) (tid d:Nat) (r:Int) (key:Bs),w5 x T L t lo hi s h tid d r key
 |0,t,lo,hi,s,h,tid,d,r,key=>fun g ok ht htx lv hb hex hd hf hp=>by
  obtain ⟨i,ks,vs⟩:=(t:Nd Bs)
  obtain ⟨h1,h2,h3,h4⟩:=lv.wf
  obtain ⟨hs,hi'⟩:=lv.st i (by simp[bc])
  refine (Ay (lo:=lo) (hi:=hi) g ok ht htx hi' hs lv.on.1 h1 h2 h4 ((qc h1).2 hex) ab hf ab).mono ?_
  rintro q h' ⟨s',o,rfl,st,pr⟩
  exact ⟨s',o,rfl,⟨st.pg,st.ok,st.mv.congr (fun j=>by simp[bc,ba]) (fun j=>Iff.rfl),st.fr,st.pl,st.sm,st.no,st.ln⟩,pr⟩
 |L+1,t,lo,hi,s,h,tid,d,r,key=>w6 (i:=t.pg) (ks:=t.ks) (us:=t.kids) fun u lo hi h=>CL L u lo hi s h tid (d+1) r key
end
end Go.Proofs.YtbgmofhgfnmaiaaGreat.Tree
end
section
set_option maxRecDepth 100000
namespace Go.Proofs.YtbgmofhgfnmaiaaGreat.Tree
open Go Go.Av Go.Proofs Go.Proofs.YtbgmofhgfnmaiaaGreat.C Go.Proofs.YtbgmofhgfnmaiaaGreat.Page
open Go.Proofs.YtbgmofhgfnmaiaaGreat.Batch (Bs Pr prs aW)
abbrev Rt:=Option ((L:Nat) × Tr L)
def rpg:Rt→Int
 |none=> -1
 |some ⟨_,t⟩=>(t.pg:Nat)
def cQ:Rt→List Nat
 |none=>[]
 |some ⟨L,t⟩=>bc L t
def aE:Rt→List Pr
 |none=>[]
 |some ⟨L,t⟩=>aN L t
def Bnd (L:Nat) (t:Tr L) (B:Nat):Prop:=∃c:Nat→Nat,c 0≤B∧(∀j,j≤L→eZ L j t≤c j)∧(∀j,j<L→2*c (j+1)+exT L (j+1) t≤c j)
def ROk (s:PgS) (B:Nat):Rt→Prop
 |none=>True
 |some ⟨L,t⟩=>Live s L [] none t∧Bnd L t B
theorem oS:∀(L:Nat) (t:Tr L),eZ L L t=1
 |0,_=>rfl
 |L+1,t=>by rw[fh];simp
theorem yh {L:Nat} {t:Tr L} {B:Nat} (h:Bnd L t B):2^L≤B:=by
 obtain ⟨c,h0,h1,h2⟩:=h
 have key:∀k,k≤L→2^k≤c (L - k):=by
  intro k hk
  induction k with
  |zero=>
   have:=h1 L (Nat.le_refl _)
   rw[oS] at this
   simpa using this
  |succ k ih=>
   have a:=ih ab
   have b:=h2 (L - (k+1)) ab
   rw[show L - (k+1)+1=L - k by omega] at b
   rw[Nat.pow_succ]
   omega
 have:=key L (Nat.le_refl _)
 rw[Nat.sub_self] at this
 omega
def gw (f:Nat→Nat):Nat→Nat
 |0=>0
 |n+1=>gw f n+f n
theorem uY (f g:Nat→Nat):∀n,gw (fun j=>f j+g j) n=gw f n+gw g n
 |0=>rfl
 |n+1=>by simp only[gw,uY f g n];omega
theorem qf {f g:Nat→Nat}:∀n,(∀j,j<n→f j=g j)→gw f n=gw g n
 |0,_=>rfl
 |n+1,h=>by rw[gw,gw,qf n fun j hj=>h j ab,h n ab]
theorem rT:∀n,gw (fun _=>0) n=0
 |0=>rfl
 |n+1=>by simp[gw,rT n]
theorem rU {L:Nat} (n:Nat):∀us:List (Tr L),gw (fun j=>(us.map (eZ L j)).sum) n=(us.map fun u=>gw (fun j=>eZ L j u) n).sum
 |[]=>rT n
 |u::us=>by
  have:=rU n us
  simp only[List.map_cons,List.sum_cons]
  rw[uY,this]
theorem CM {L:Nat} (ih:∀u:Tr L,(bc L u).length=gw (fun j=>eZ L j u) (L+1)) (us:List (Tr L)):((us.map (bc L)).flatten).length=gw (fun j=>(us.map (eZ L j)).sum) (L+1):=by
 rw[rU]
 induction us with
 |nil=>rfl
 |cons u us iv=>simp only[List.map_cons,List.flatten_cons,List.length_append,List.sum_cons,iv,ih u]
theorem rV:∀(L:Nat) (t:Tr L),(bc L t).length=gw (fun j=>eZ L j t) (L+1)
 |0,t=>by simp[bc,ba,gw,eZ]
 |L+1,t=>by
  have e:=CM (rV L) t.kids
  have e2:(bc (L+1) t).length=(ba (L+1) t.kids).length+1:=rfl
  have e3:(ba (L+1) t.kids).length=gw (fun j=>((t.kids:List (Tr L)).map (eZ L j)).sum) (L+1):=e
  rw[e2,e3]
  show _=gw (fun j=>eZ (L+1) j t) (L+1)+eZ (L+1) (L+1) t
  rw[oS]
  congr 1
  refine qf _ fun j hj=>?_
  rw[fh,if_neg ab]
theorem yi {c:Nat→Nat}:∀L,(∀j,j<L→2*c (j+1)≤c j)→gw c (L+1)+c L≤2*c 0
 |0,_=>by simp[gw];omega
 |L+1,h=>by
  have:=yi L fun j hj=>h j ab
  have h2:=h L ab
  rw[gw]
  omega
theorem yj {f g:Nat→Nat}:∀{n:Nat},(∀j,j<n→f j≤g j)→gw f n≤gw g n
 |0,_=>Nat.le_refl _
 |n+1,h=>by
  rw[gw,gw]
  have:=yj (n:=n) fun j hj=>h j ab
  have:=h n ab
  omega
theorem AA {L:Nat} {t:Tr L} {B:Nat} (h:Bnd L t B):(bc L t).length≤2*B:=by
 obtain ⟨c,h0,h1,h2⟩:=h
 rw[rV]
 have a:=yj (f:=fun j=>eZ L j t) (g:=c) (n:=L+1) fun j hj=>h1 j ab
 have b:=yi (c:=c) L fun j hj=>by have:=h2 j hj;omega
 omega
theorem Ep {L:Nat} {t:Tr L} {B:Nat} (h:Bnd L t B) (hB:B≤121):L≤6:=by
 have:=yh h
 rcases Nat.lt_or_ge L 7 with e|e
 ·omega
 ·have:=Nat.pow_le_pow_right (n:=2) ah e
  omega
section
variable {x:PgI} {s:PgS} {T:List Nat} {h:H}
theorem uZ {id g:Nat} {fn:Func} {caps:List AV} {Q:AV→H→Prop} (ho:oi h id) (hg:Tryz.prog.funcs[g]? =some fn) (hb:fn.body.isSome=true) (hn:fn.name≠ "runtime.NumGoroutine") (hc:aI Tryz.prog g caps h Q):
  aI Tryz.prog 34 [.ptr id 0,.clo (.func g) [] caps] h fun q h'=>q= .int .i64 0∧∃r,Q r h':=by
 obtain ⟨r,h',a,b,c,d⟩:=hc
 exact ⟨_,h',Fq (first:=[]) ho hg hb hn a,b,c,rfl,r,d⟩
theorem CN {id g:Nat} {fn:Func} {caps:List AV} {k:Int} {Q:H→Prop} (ho:oi h id) (hg:Tryz.prog.funcs[g]? =some fn) (hb:fn.body.isSome=true) (hn:fn.name≠ "runtime.NumGoroutine") (hc:∃h',eg Tryz.prog g caps h (kW k) h'∧h.n≤h'.n∧h.m≤h'.m∧Q h'):
  aI Tryz.prog 34 [.ptr id 0,.clo (.func g) [] caps] h fun q h'=>q= .int .i64 k∧Q h':=by
 obtain ⟨h',a,b,c,d⟩:=hc
 exact ⟨_,h',DZ (first:=[]) ho hg hb hn a,b,c,rfl,d⟩
end
end Go.Proofs.YtbgmofhgfnmaiaaGreat.Tree
end
section
set_option maxRecDepth 100000
namespace Go.Proofs.YtbgmofhgfnmaiaaGreat.Tree
open Go Go.Av Go.Proofs Go.Proofs.YtbgmofhgfnmaiaaGreat.C Go.Proofs.YtbgmofhgfnmaiaaGreat.Page
open Go.Proofs.YtbgmofhgfnmaiaaGreat.Batch (Bs Pr prs aW)
theorem CO {L:Nat} {t:Tr L} {R0:Res L} {B:Nat} (hp:Pot L t R0) (hb:Bnd L t B) (hn:R0.2=none):Bnd L R0.1 (B+1):=by
 obtain ⟨e,p0,p1,p2,p3,p4⟩:=hp
 obtain ⟨c,h0,h1,h2⟩:=hb
 have hs:∀f:Tr L→Nat,iu f R0=f R0.1:=fun f=>by unfold iu;rw[hn];rfl
 refine ⟨fun j=>c j+e j,by have:=p0 0;simp only;omega,fun j hj=>?_,fun j hj=>?_⟩
 ·have a:=p3 j hj
  have b:=h1 j hj
  rw[hs] at a
  simp only;omega
 ·have a:=p4 j hj
  have b:=h2 j hj
  rw[hs] at a
  simp only;omega
theorem CP {L:Nat} {t:Tr L} {R0:Res L} {B k:Nat} {q:Bs × Tr L} (hp:Pot L t R0) (hb:Bnd L t B) (hn:R0.2=some q):Bnd (L+1) (mkT L k [q.1] [R0.1,q.2]) (B+1):=by
 obtain ⟨e,p0,p1,p2,p3,p4⟩:=hp
 obtain ⟨c,h0,h1,h2⟩:=hb
 have hs:∀f:Tr L→Nat,iu f R0=(([R0.1,q.2]:List (Tr L)).map f).sum:=fun f=>by unfold iu;rw[hn];simp
 refine ⟨fun j=>if j=L+1 then 1 else c j+e j,by have:=p0 0;simp;omega,fun j hj=>?_,fun j hj=>?_⟩
 ·by_cases ej:j=L+1
  ·subst ej
   rw[oS];simp
  ·simp only[ej,if_false]
   have a:=p3 j ab
   have b:=h1 j ab
   rw[hs] at a
   have e2:eZ (L+1) j (mkT L k [q.1] [R0.1,q.2])=(([R0.1,q.2]:List (Tr L)).map (eZ L j)).sum:=by rw[fh,if_neg ej];rfl
   rw[e2];omega
 ·have n1:¬(j=L+1):=by omega
  simp only[n1,if_false]
  by_cases ej:j+1=L+1
  ·obtain rfl:j=L:=by omega
   simp only[if_true]
   have e2:exT (j+1) (j+1) (mkT j k [q.1] [R0.1,q.2])=0:=by rw[fX,if_pos rfl];rfl
   have b:=h1 j (Nat.le_refl _)
   rw[oS] at b
   have:=p2 q hn
   omega
  ·simp only[ej,if_false]
   have a:=p4 j ab
   have b:=h2 j ab
   rw[hs] at a
   have e2:exT (L+1) (j+1) (mkT L k [q.1] [R0.1,q.2])=(([R0.1,q.2]:List (Tr L)).map (exT L (j+1))).sum:=by rw[fX,if_neg ej];rfl
   rw[e2];omega
structure Ts (x:PgI) (T:List Nat) (tid:Nat) (s:PgS) (R:Rt) (B:Nat) (h:H):Prop where
 pg:PgH x s T h
 ok:cd s
 ot:h.objs tid=some (trO x (rpg R))
 tx:Tid x tid
 rk:ROk s B R
def eL (x:PgI) (tid:Nat) (h h':H):Prop:=∀j,j<h.n→Tid x j→j≠tid→h'.objs j=h.objs j
theorem eL.of {x:PgI} {tid:Nat} {h h':H} (a:cD x h h'):eL x tid h h':=fun j hj a1 _=>cx a hj a1
theorem eL.trans {x:PgI} {tid:Nat} {h h1 h':H} (a:eL x tid h h1) (b:eL x tid h1 h') (n:h.n≤h1.n):eL x tid h h':=fun j hj a1 a2=>(b j ab a1 a2).trans (a j hj a1 a2)
theorem eL.set {x:PgI} {tid:Nat} {h:H} {o:Option Av.Obj}:eL x tid h {h with objs:=upd h.objs tid o}:=fun j _ _ a2=>by simp only[upd];rw[if_neg a2]
theorem Ts.lt {x:PgI} {T:List Nat} {tid:Nat} {s:PgS} {R:Rt} {B:Nat} {h:H} (g:Ts x T tid s R B h):tid<h.n:=by
 rcases Nat.lt_or_ge tid h.n with q|q
 ·exact q
 ·have:=g.pg.fresh _ q;rw[g.ot] at this;cases this
theorem PgH.qg {x:PgI} {s:PgS} {T:List Nat} {h:H} (g:PgH x s T h) {tid:Nat} (tx:Tid x tid) (hl:tid<h.n) (o:Av.Obj):PgH x s T {h with objs:=upd h.objs tid (some o)}:=
 g.other hl (by simp only[Tid,ne_eq,eq_comm] at tx ⊢;exact tx)
theorem PgH.ltn {x:PgI} {s:PgS} {T:List Nat} {h:H} (g:PgH x s T h) {j:Nat} (hj:(h.objs j).isSome=true):j<h.n:=by
 rcases Nat.lt_or_ge j h.n with q|q
 ·exact q
 ·rw[g.fresh _ q] at hj;cases hj
structure eD (x:PgI) (T:List Nat) (tid:Nat) (s:PgS) (R:Rt) (h:H) (B:Nat) (s':PgS) (R':Rt) (h':H):Prop where
 ts:Ts x T tid s' R' B h'
 mv:Mv s s' (fun j=>j∈cQ R) (fun j=>j∈cQ R')
 pl:s'.p.length≤s.p.length+200
 sm:eL x tid h h'
 no:aq h h'
 ln:h.n≤h'.n
section
variable {x:PgI} {s:PgS} {T:List Nat} {h:H}
set_option maxHeartbeats 2000000 in
theorem AB {tid b0 b1 b2 B:Nat} {key vl:Bs} (g:Ts x T tid s none B h) (h0:h.objs b0=some (.cells [.ptr tid 0])) (h1:h.objs b1=some (.cells [.str key])) (h2:h.objs b2=some (.cells [.str vl])) (t0:Tid x b0)
  (hk:key.length≤128) (hv:vl.length≤200) (hf:1≤free s) (hp:s.p.length+200<900000):
  aI Tryz.prog 54 [.ptr b1 0,.ptr b2 0,.ptr b0 0] h fun q h'=>∃s' R',eD x T tid s none h (B+1) s' R' h'∧aE R'=fS [] key vl:=by
 refine f54.bu af ?_
 unfold c54 zz
 have d1:decide ((128:Int)<(key.length:Int))=false:=decide_eq_false ab
 have d2:decide ((200:Int)<(vl.length:Int))=false:=decide_eq_false ab
 have ot:h.objs tid=some (.cells [.ptr x.P 0,.int .i64 (-1)]):=g.ot
 have d3:decide ((-1:Int)<0)=true:=by decide
 have hr:right (aB [key] [vl])=true:=by
  refine (bq (n:=aB [key] [vl]) rfl).2 ⟨⟨fun k hk'=>?_,List.pairwise_singleton _ _⟩,rfl,rfl,fun v hv'=>?_⟩
  ·obtain rfl:=List.mem_singleton.1 hk';exact hk
  ·obtain rfl:=List.mem_singleton.1 hv';exact hv
 have hz:size (aB [key] [vl])≤1024:=by
  rw[size_leaf rfl]
  simp[aB,tot];omega
 have hsm:=cb (L:=0) (ks:=[key]) (kids:=[vl]) hr (by show size (aB [key] [vl])≤1355;omega)
 refine rf0 (cj7 h0 h1 h2 ot d1 d2 d3) ?_
 refine Wp.reg ?_
 refine ao.part 7 (xAd (cj5 h0 h1 h2 @and_self @decide_true)) ?_
 simp only[List.drop_succ_cons,List.drop_zero,List.drop_nil]
 have hc:=tz g.pg g.ok g.ot hsm.1 (lY hr hz) ab ab
 refine ao.Fa (b:=b0) (vals:=[.ptr tid 0,aD (aB [key] [vl])]) ae (by
  simp only[go_sem,reduceIte,Nat.reduceEqDiff,List.map]
  exact ay.cons (av.refl _) (ay.cons (av.bD (ks:=[key]) (vs:=[vl]) (is:=[])) ay.nil)) (fun j hj=>g.pg.ltn hj) (g.pg.ltn (by rw[h0];rfl)) hc (fun r h' ⟨s',k,e,st,hh⟩=>⟨st.no,cx st.sm (g.pg.ltn (by rw[h0];rfl)) t0⟩) fun r h3 ⟨s',k,e,st,hh⟩ n3 m3=>?_
 subst e
 have ot3:h3.objs tid=some (.cells [.ptr x.P 0,.int .i64 (-1)]):=(cx st.sm g.lt g.tx).trans ot
 refine ao.part 3 (xAe ot3) ?_
 simp only[List.drop_succ_cons,List.drop_zero,List.drop_nil]
 refine ao.nil ⟨by simp[bg,aS,apart,aV],?_⟩
 refine Wp.ret ?_
 have mk:=st.mv.new k rfl id
 refine ⟨trivial,.tup [],?_,s',some ⟨0,⟨k,[key],[vl]⟩⟩,⟨⟨st.pg.qg g.tx (by have:=g.lt;omega) _,st.ok,?_,g.tx,⟨⟨⟨hh,trivial⟩,⟨hr,hz,by show 0<1;decide,fun k' hk'=>?_⟩,by simp[bc,ba],fun j hj=>?_⟩,?_⟩⟩,st.mv.congr (fun j=>by simp[cQ]) (fun j=>by simp[cQ,bc,ba]),by have:=st.pl;omega,(eL.of st.sm).trans eL.set st.ln,aq.trans st.no (aq.set ot3) st.ln (Nat.le_refl _),st.ln⟩,?_⟩
 ·simp[de,rvs]
 ·simp[upd,trO,rpg]
 ·obtain rfl:=List.mem_singleton.1 hk'
  exact ⟨db _,fun _ e=>by cases e⟩
 ·have e:j=k:=by simpa [bc,ba] using hj
  subst e
  have:=st.mv.np
  exact ⟨.inr mk.2.1,ab⟩
 ·refine ⟨fun _=>1,by simp only;omega,fun j hj=>?_,fun j hj=>absurd hj (Nat.not_lt_zero _)⟩
  obtain rfl:j=0:=by omega
  exact Nat.le_refl _
 ·simp[aE,aN,lX,fS]
  rfl
end
end Go.Proofs.YtbgmofhgfnmaiaaGreat.Tree
end
section
set_option maxRecDepth 100000
namespace Go.Proofs.YtbgmofhgfnmaiaaGreat.Tree
open Go Go.Av Go.Proofs Go.Proofs.YtbgmofhgfnmaiaaGreat.C Go.Proofs.YtbgmofhgfnmaiaaGreat.Page
open Go.Proofs.YtbgmofhgfnmaiaaGreat.Batch (Bs Pr prs aW)
section
variable {x:PgI} {s:PgS} {T:List Nat} {h:H}
theorem CQ {L k:Nat} {t1 t2:Tr L} {key:Bs} (h:qd L [] none (t1,some (key,t2))) (hp1:t1.pg<16384) (hp2:t2.pg<16384):bF (WF L) [] none [key] [t1,t2]∧right (au L [key] [t1,t2])=true∧size (au L [key] [t1,t2])≤1024:=by
 have c:bF (WF L) [] none [key] [t1,t2]:=rR h
 have hl:key.length≤128:=h.2.2.2.2
 refine ⟨c,ig c (fun k hk=>?_) (fun u hu=>?_),?_⟩
 ·obtain rfl:=List.mem_singleton.1 hk;exact hl
 ·simp only[List.mem_cons,List.not_mem_nil,or_false] at hu
  rcases hu with rfl|rfl
  ·exact hp1
  ·exact hp2
 ·have e:size (au L [key] [t1,t2])=7+5*1+tot [key]:=rfl
  rw[e]
  simp[tot];omega
set_option maxHeartbeats 2000000 in
theorem AD {L tid b0 b1 b2 B:Nat} {t:Tr L} {key vl:Bs} (g:Ts x T tid s (some ⟨L,t⟩) B h) (h0:h.objs b0=some (.cells [.ptr tid 0])) (h1:h.objs b1=some (.cells [.str key])) (h2:h.objs b2=some (.cells [.str vl])) (t0:Tid x b0) (n0:b0≠tid)
  (hk:key.length≤128) (hv:vl.length≤200) (hL:L≤6) (hf:2*L+3≤free s) (hp:s.p.length+200<900000):
  aI Tryz.prog 54 [.ptr b1 0,.ptr b2 0,.ptr b0 0] h fun q h'=>∃s' R',eD x T tid s (some ⟨L,t⟩) h (B+1) s' R' h'∧aE R'=fS (aN L t) key vl:=by
 refine f54.bu af ?_
 unfold c54 zz
 have d1:decide ((128:Int)<(key.length:Int))=false:=decide_eq_false ab
 have d2:decide ((200:Int)<(vl.length:Int))=false:=decide_eq_false ab
 have ot:h.objs tid=some (.cells [.ptr x.P 0,.int .i64 ((t.pg:Nat):Int)]):=g.ot
 have d3:decide (((t.pg:Nat):Int)<0)=false:=decide_eq_false ab
 obtain ⟨lv,bd⟩:Live s L [] none t∧Bnd L t B:=g.rk
 refine rf0 (cj7 h0 h1 h2 ot d1 d2 d3) ?_
 refine Wp.reg ?_
 refine ao.part 7 (xAe (cj4 h0 h1 h2 ot)) ?_
 simp only[List.drop_succ_cons,List.drop_zero,List.drop_nil]
 have hc:=EL (x:=x) (T:=T) L t [] none s h tid 1 ((t.pg:Nat):Int) key vl g.pg g.ok g.ot g.tx lv ⟨db _,fun _ e=>by cases e⟩ hk hv ab ab ab
 refine ao.aT (vals:=[.ptr tid 0,.int .i64 (t.pg:Nat),.int .i64 ((1:Nat):Int),.str key,.str vl]) ae xA4 (fun j hj=>g.pg.ltn hj) hc (fun r h' ⟨s',R,e,st,hh⟩=>st.no) fun r h3 ⟨s1,R,e,st,pr⟩ n3 m3=>?_
 subst e
 have lt0:=g.pg.ltn (j:=b0) (by rw[h0];rfl)
 have lt1:=g.pg.ltn (j:=b1) (by rw[h1];rfl)
 have lt2:=g.pg.ltn (j:=b2) (by rw[h2];rfl)
 have ltt:=g.lt
 have ot3:h3.objs tid=some (.cells [.ptr x.P 0,.int .i64 ((t.pg:Nat):Int)]):=(cx st.sm g.lt g.tx).trans ot
 have h03:h3.objs b0=some (.cells [.ptr tid 0]):=(cx st.sm lt0 t0).trans h0
 unfold lx Cy
 refine ao.part 6 xA1 ?_
 simp only[List.drop_succ_cons,List.drop_zero,List.drop_nil]
 rw[bn]
 refine ao.nil ⟨by simp[bg,aS,apart,aV];exact ⟨ab,ab,ab,ab,fun id a=>by omega⟩,?_⟩
 obtain ⟨t1,o⟩:=R
 have g4:=st.pg.new (.cells [.str (spK o),.int .i64 (spP o)])
 have ln4:(H.new h3 (.cells [.str (spK o),.int .i64 (spP o)])).n=h3.n+1:=rfl
 have ot4:(H.new h3 (.cells [.str (spK o),.int .i64 (spP o)])).objs tid=_:=(aL ab).trans ot3
 have h04:(H.new h3 (.cells [.str (spK o),.int .i64 (spP o)])).objs b0=_:=(aL ab).trans h03
 have sm4:cD x h (H.new h3 (.cells [.str (spK o),.int .i64 (spP o)])):=st.sm.trans cN n3
 have no4:aq h (H.new h3 (.cells [.str (spK o),.int .i64 (spP o)])):=aq.trans st.no bN n3 (Nat.le_succ _)
 have nn4:=bU (h:=h3) (o:= .cells [.str (spK o),.int .i64 (spP o)])
 refine Wp.le (s':=⟨tm [(2,.ptr b0 0),(3,.int .i64 (t1.pg:Nat)),(4,.ptr h3.n 0)],H.new h3 (.cells [.str (spK o),.int .i64 (spP o)])⟩) (aK.of (bp ?_) (OLe.refl _) (fun y hy=>hy) (Nat.le_refl _) (Nat.le_refl _)) ?_
 ·exact xSb
 generalize H.new h3 (.cells [.str (spK o),.int .i64 (spP o)])=h4 at*
 have hps:=pr.ps
 have hin:∀j∈cq L (t1,o),(stt s1 j=1∨stt s1 j=2)∧j<s1.np:=by
  intro j hj
  have hnp:=st.mv.np
  by_cases hjt:j∈bc L t
  ·have q:=st.mv.stay j hj hjt
   have:=lv.st j hjt
   omega
  ·have q:=st.mv.new j hj hjt
   omega
 cases o with
 |none=>
  have e3:decide (0≤spP (none:Option (Bs × Tr L)))=false:=decide_eq_false (by simp[spP])
  refine rf0 (cj4 nn4 e3 h04 ot4) ?_
  refine ⟨trivial,.tup [],by simp[de,rvs],s1,some ⟨L,t1⟩,⟨⟨g4.qg g.tx ab _,st.ok,by simp[upd,trO,rpg],g.tx,⟨⟨pr.on,pr.wf,by have:=pr.nd;simpa [cq,more] using this,fun j hj=>hin j (by simpa [cq,more] using hj)⟩,CO pr.pot bd rfl⟩⟩,st.mv.congr (fun j=>Iff.rfl) (fun j=>by simp[cQ,cq,more]),by have:=st.pl;omega,(eL.of sm4).trans eL.set ab,aq.trans no4 (aq.set ot4) ab (Nat.le_refl _),by show h.n≤h4.n;omega⟩,?_⟩
  rw[←hps]
  simp[aE,ky,more]
 |some q=>
  have e3:decide (0≤spP (some q))=true:=decide_eq_true (by simp only[spP];omega)
  have np1:=st.ok.np1
  obtain ⟨c1,c2,c3⟩:=CQ (k:=0) (t1:=t1) (t2:=q.2) (key:=q.1) pr.wf (by have:=(hin t1.pg (by simp[cq,bc])).2;omega) (by have:=(hin q.2.pg (by simp[cq,more,bc])).2;omega)
  have hsm:=cb (L:=L+1) (ks:=[q.1]) (kids:=([t1,q.2]:List (Tr L))) c2 (by show size (au L [q.1] [t1,q.2])≤1355;omega)
  have fr:=st.fr
  have pl:=st.pl
  refine rf0 (cj6 nn4 e3 h04 ot4 @and_self @decide_true) ?_
  have hcf:=tz (n:=au L [q.1] [t1,q.2]) g4 st.ok ot4 hsm.1 (lY c2 c3) ab ab
  refine an.aT (vals:=[.ptr tid 0,aD (au L [q.1] [t1,q.2])]) ae (by
   simp only[go_sem,reduceIte,Nat.reduceEqDiff,List.map]
   exact ay.cons (av.refl _) (ay.cons (av.bD (ks:=[q.1]) (vs:=[]) (is:=[((t1.pg:Nat):Int),((q.2.pg:Nat):Int)])) ay.nil)) hcf fun r h5 ⟨s2,k,e,st2,hh⟩ n5 m5=>?_
  subst e
  have ot5:h5.objs tid=some (.cells [.ptr x.P 0,.int .i64 ((t.pg:Nat):Int)]):=(cx st2.sm ab g.tx).trans ot4
  have h05:h5.objs b0=some (.cells [.ptr tid 0]):=(cx st2.sm ab t0).trans h04
  refine an.evF xAc ?_
  refine an.nil ?_
  refine rf0 (cj2 h05 ot5) ?_
  have mk:=st2.mv.new k rfl id
  have hq0:∀j,j∈cq L (t1,some q)→stt s1 j≠0:=fun j hj=>by have:=(hin j hj).1;omega
  have ap:=st2.mv.apart (Q:=fun j=>j∈cq L (t1,some q)) (fun _ _=>id) hq0
  have mm:=st.mv.trans ((st2.mv.ext (Q:=fun j=>j∈cq L (t1,some q)) (fun _ _=>id) hq0).congr (A:=fun j=>j∈cq L (t1,some q)) (A':=fun j=>j=k∨j∈cq L (t1,some q)) (fun j=>by simp) (fun j=>Iff.rfl))
  have hpg:bc (L+1) (mkT L k [q.1] [t1,q.2])=k::cq L (t1,some q):=by
   show k::(([t1,q.2]:List (Tr L)).map (bc L)).flatten=_
   simp[cq,more]
  have hun:∀u∈([t1,q.2]:List (Tr L)),On s2 L u:=fun u hu=>by
   simp only[List.mem_cons,List.not_mem_nil,or_false] at hu
   rcases hu with rfl|rfl
   ·exact pr.on.congr fun j hj=>(ap j (by simp[cq,hj])).2.2
   ·exact (pr.on2 q rfl).congr fun j hj=>(ap j (by simp[cq,more,hj])).2.2
  have hpl2:=st2.pl
  have hnp2:=st2.mv.np
  refine ⟨trivial,.tup [],by simp[de,rvs],s2,some ⟨L+1,mkT L k [q.1] [t1,q.2]⟩,⟨⟨st2.pg.qg g.tx ab _,st2.ok,by simp[upd,trO,rpg,mkT],g.tx,⟨⟨⟨hh,(dR (us:=([t1,q.2]:List (Tr L)))).2 hun⟩,⟨c2,c3,c1⟩,?_,fun j hj=>?_⟩,CP pr.pot bd rfl⟩⟩,mm.congr (fun j=>Iff.rfl) (fun j=>?_),ab,(eL.of (sm4.trans st2.sm ab)).trans eL.set ab,aq.trans (aq.trans no4 st2.no ab ab) (aq.set ot5) ab (Nat.le_refl _),by show h.n≤h5.n;omega⟩,?_⟩
  ·rw[hpg]
   exact List.nodup_cons.2 ⟨fun hm=>(ap k hm).1 rfl,pr.nd⟩
  ·rw[hpg] at hj
   rcases List.mem_cons.1 hj with rfl|hj
   ·exact ⟨.inr mk.2.1,ab⟩
   ·have a:=ap j hj
    have b:=hin j hj
    omega
  ·show j∈bc (L+1) (mkT L k [q.1] [t1,q.2])↔_
   rw[hpg];simp
  ·rw[←hps]
   show (([t1,q.2]:List (Tr L)).map (aN L)).flatten=_
   simp[ky,more]
end
end Go.Proofs.YtbgmofhgfnmaiaaGreat.Tree
end
section
set_option maxRecDepth 100000
namespace Go.Proofs.YtbgmofhgfnmaiaaGreat.Tree
open Go Go.Av Go.Proofs Go.Proofs.YtbgmofhgfnmaiaaGreat.C Go.Proofs.YtbgmofhgfnmaiaaGreat.Page
open Go.Proofs.YtbgmofhgfnmaiaaGreat.Batch (Bs Pr prs aW)
section
variable {x:PgI} {s:PgS} {T:List Nat} {h:H}
theorem CR {b0 b1 b2:Nat} {key vl:Bs} (h1:h.objs b1=some (.cells [.str key])) (h2:h.objs b2=some (.cells [.str vl])) (hk:128<key.length∨200<vl.length):
  ∃h',eg Tryz.prog 54 [.ptr b1 0,.ptr b2 0,.ptr b0 0] h (kW 2) h'∧h.n≤h'.n∧h.m≤h'.m∧h'=h:=by
 obtain ⟨v,h',hc,⟨hn,hm⟩,rfl,rfl⟩:=aU.pE (Q:=fun v h'=>v=kW 2∧h'=h) (args:=[.ptr b1 0,.ptr b2 0,.ptr b0 0]) (h:=h) f54 af (by
  unfold c54 zz
  refine Wp.seq ?_
  by_cases ha:128<key.length
  ·have d1:decide ((128:Int)<(key.length:Int))=true:=decide_eq_true ab
   refine Wp.bw (by simp only[go_sem,reduceIte,Nat.reduceEqDiff,Nat.reduceAdd,bx,h1,h2,d1];exact rfl) ?_
   refine an.nil ?_
   refine Wp.cond_true (by simp only[go_sem,reduceIte,Nat.reduceEqDiff]) ?_
   refine Wp.vL (bL.eval (dO xA1) ?_)
   refine bL.here (R:=fun v h'=>∃v',aQ.panic v= .panic v'∧v'=kW 2∧h'=h) (en:=aV) rfl (bO _) (fun ops i o ho hit=>fP ho hit rfl rfl rfl) (fun l hl=>by cases hl) ?_
   exact ⟨_,rfl,rfl,rfl⟩
  ·have d1:decide ((128:Int)<(key.length:Int))=false:=decide_eq_false ab
   have d2:decide ((200:Int)<(vl.length:Int))=true:=decide_eq_true ab
   refine Wp.bw (by simp only[go_sem,reduceIte,Nat.reduceEqDiff,Nat.reduceAdd,bx,h1,h2,d1,d2];exact rfl) ?_
   refine an.nil ?_
   refine Wp.cond_true (by simp only[go_sem,reduceIte,Nat.reduceEqDiff]) ?_
   refine Wp.vL (bL.eval (dO xA1) ?_)
   refine bL.here (R:=fun v h'=>∃v',aQ.panic v= .panic v'∧v'=kW 2∧h'=h) (en:=aV) rfl (bO _) (fun ops i o ho hit=>fP ho hit rfl rfl rfl) (fun l hl=>by cases hl) ?_
   exact ⟨_,rfl,rfl,rfl⟩)
 exact ⟨_,hc,hn,hm,rfl⟩
theorem ROk.more {R:Rt} {B B':Nat} (h:ROk s B R) (hB:B≤B'):ROk s B' R:=by
 cases R with
 |none=>trivial
 |some r=>
  obtain ⟨L,t⟩:=r
  obtain ⟨lv,c,h0,h1,h2⟩:=h
  exact ⟨lv,c,ab,h1,h2⟩
theorem Ts.keep {tid:Nat} {R:Rt} {B B':Nat} {h':H} (g:Ts x T tid s R B h) (pg:PgH x s T h') (k:h'.objs tid=h.objs tid) (hB:B≤B'):Ts x T tid s R B' h':=⟨pg,g.ok,k.trans g.ot,g.tx,g.rk.more hB⟩
theorem eD.pre {tid:Nat} {R R':Rt} {B:Nat} {s':PgS} {h1 h':H} (m:eD x T tid s R h1 B s' R' h') (sm:eL x tid h h1) (no:aq h h1) (ln:h.n≤h1.n):eD x T tid s R h B s' R' h':=
 ⟨m.ts,m.mv,m.pl,sm.trans m.sm ln,aq.trans no m.no ln m.ln,Nat.le_trans ln m.ln⟩
theorem eD.none {tid:Nat} {R:Rt} {B:Nat} {h':H} (g:Ts x T tid s R B h') (sm:eL x tid h h') (no:aq h h') (ln:h.n≤h'.n):eD x T tid s R h B s R h':=
 ⟨g,Mv.same rfl rfl rfl rfl,ab,sm,no,ln⟩
theorem fT {tid:Nat} {R:Rt} {B:Nat} (g:Ts x T tid s R B h):oi h tid:=⟨_,_,_,g.ot⟩
structure fH (x:PgI) (T:List Nat) (tid:Nat) (s:PgS) (R:Rt) (B:Nat) (h h1:H):Prop where
 ts:Ts x T tid s R B h1
 sm:eL x tid h h1
 no:aq h h1
 ln:h.n≤h1.n
 kp:∀j,j<h.n→h1.objs j=h.objs j
theorem fH.refl {tid:Nat} {R:Rt} {B:Nat} (g:Ts x T tid s R B h):fH x T tid s R B h h:=⟨g,fun _ _ _ _=>rfl,aq.refl h,Nat.le_refl _,fun _ _=>rfl⟩
theorem fH.new {tid:Nat} {R:Rt} {B:Nat} {h1:H} (b:fH x T tid s R B h h1) (o:Av.Obj):fH x T tid s R B h (H.new h1 o):=
 ⟨b.ts.keep (b.ts.pg.new o) (aL b.ts.lt) (Nat.le_refl _),b.sm.trans (eL.of cN) b.ln,aq.trans b.no bN b.ln (Nat.le_succ _),Nat.le_succ_of_le b.ln,fun j hj=>(aL (Nat.lt_of_lt_of_le hj b.ln)).trans (b.kp j hj)⟩
set_option maxHeartbeats 1000000 in
theorem EM {tid B:Nat} {R:Rt} {key vl:Bs} (g:Ts x T tid s R B h) (hL:∀L t,R=some ⟨L,t⟩→L≤6) (hf:1≤free s∧∀L t,R=some ⟨L,t⟩→2*L+3≤free s) (hp:s.p.length+200<900000):
  aI Tryz.prog 24 [.ptr tid 0,.str key,.str vl] h fun q h'=>∃s' R',eD x T tid s R h (B+1) s' R' h'∧((key.length≤128∧vl.length≤200∧q= .int .i64 0∧aE R'=fS (aE R) key vl)∨((128<key.length∨200<vl.length)∧q= .int .i64 2∧R'=R∧s'=s)):=by
 refine f24.bu af ?_
 unfold c24 zz
 have bb:=(((fH.refl g).new (.cells [.ptr tid 0])).new (.cells [.str key])).new (.cells [.str vl])
 have lt:=g.lt
 have ln3:(H.new (H.new (H.new h (.cells [.ptr tid 0])) (.cells [.str key])) (.cells [.str vl])).n=h.n+1+1+1:=rfl
 have e0:(H.new (H.new (H.new h (.cells [.ptr tid 0])) (.cells [.str key])) (.cells [.str vl])).objs h.n=some (.cells [.ptr tid 0]):=(aL (Nat.lt_succ_of_lt (Nat.lt_succ_self _))).trans ((aL (Nat.lt_succ_self _)).trans bU)
 have e1:(H.new (H.new (H.new h (.cells [.ptr tid 0])) (.cells [.str key])) (.cells [.str vl])).objs (h.n+1)=some (.cells [.str key]):=(aL (Nat.lt_succ_self _)).trans (bU (h:=H.new h (.cells [.ptr tid 0])))
 have e2:(H.new (H.new (H.new h (.cells [.ptr tid 0])) (.cells [.str key])) (.cells [.str vl])).objs (h.n+1+1)=some (.cells [.str vl]):=bU (h:=H.new (H.new h (.cells [.ptr tid 0])) (.cells [.str key]))
 refine Wp.bw (xAd @and_self) ?_
 refine an.nil ?_
 refine Wp.le (s':=⟨tm [(3,.ptr h.n 0),(4,.ptr (h.n+1) 0),(5,.ptr (h.n+1+1) 0)],H.new (H.new (H.new h (.cells [.ptr tid 0])) (.cells [.str key])) (.cells [.str vl])⟩) (aK.of (bp ?_) (OLe.refl _) (fun y hy=>hy) (Nat.le_refl _) (Nat.le_refl _)) ?_
 ·exact xSb
 generalize H.new (H.new (H.new h (.cells [.ptr tid 0])) (.cells [.str key])) (.cells [.str vl])=h3 at*
 have key2:aI Tryz.prog 34 [.ptr tid 0,.clo (.func 54) [] [.ptr (h.n+1) 0,.ptr (h.n+1+1) 0,.ptr h.n 0]] h3 fun q h'=>∃s' R',eD x T tid s R h3 (B+1) s' R' h'∧((key.length≤128∧vl.length≤200∧q= .int .i64 0∧aE R'=fS (aE R) key vl)∨((128<key.length∨200<vl.length)∧q= .int .i64 2∧R'=R∧s'=s)):=by
  by_cases hs:key.length≤128∧vl.length≤200
  ·obtain ⟨hk,hv⟩:=hs
   have hc:aI Tryz.prog 54 [.ptr (h.n+1) 0,.ptr (h.n+1+1) 0,.ptr h.n 0] h3 fun q h'=>∃s' R',eD x T tid s R h3 (B+1) s' R' h'∧aE R'=fS (aE R) key vl:=by
    cases R with
    |none=>exact AB bb.ts e0 e1 e2 (dJ g.pg (Nat.le_refl _)) hk hv hf.1 hp
    |some r=>
     obtain ⟨L,t⟩:=r
     exact AD bb.ts e0 e1 e2 (dJ g.pg (Nat.le_refl _)) ab hk hv (hL L t rfl) (hf.2 L t rfl) hp
   refine (uZ (fT bb.ts) Tryz.func54 rfl (of_decide_eq_true (by kernel_rfl)) hc).mono ?_
   rintro q h' ⟨rfl,r,s',R',m,e⟩
   exact ⟨s',R',m,.inl ⟨hk,hv,rfl,e⟩⟩
  ·have hs2:128<key.length∨200<vl.length:=by omega
   refine (CN (Q:=fun h'=>h'=h3) (fT bb.ts) Tryz.func54 rfl (of_decide_eq_true (by kernel_rfl)) (CR e1 e2 hs2)).mono ?_
   rintro q h' ⟨rfl,rfl⟩
   exact ⟨s,R,eD.none (bb.ts.keep bb.ts.pg rfl (Nat.le_succ _)) (fun _ _ _ _=>rfl) (aq.refl _) (Nat.le_refl _),.inr ⟨hs2,rfl,rfl,rfl⟩⟩
 refine rf0 e0 ?_
 refine an.aT (vals:=[.ptr tid 0,.clo (.func 54) [] [.ptr (h.n+1) 0,.ptr (h.n+1+1) 0,.ptr h.n 0]]) ae xA4 key2 fun q h4 ⟨s',R',m,cs⟩ n4 _=>?_
 refine an.evF xAc ?_
 refine an.nil ?_
 refine rf0 @and_self ?_
 refine Wp.ret ?_
 refine ⟨trivial,q,?_,s',R',m.pre bb.sm bb.no bb.ln,cs⟩
 simp only[go_sem]
 exact rfl
end
end Go.Proofs.YtbgmofhgfnmaiaaGreat.Tree
end
section
set_option maxRecDepth 100000
namespace Go.Proofs.YtbgmofhgfnmaiaaGreat.Tree
open Go Go.Av Go.Proofs Go.Proofs.YtbgmofhgfnmaiaaGreat.C Go.Proofs.YtbgmofhgfnmaiaaGreat.Page
open Go.Proofs.YtbgmofhgfnmaiaaGreat.Batch (Bs Pr prs aW)
section
variable {x:PgI} {s:PgS} {T:List Nat}
def ow (x:PgI) (T:List Nat) (s:PgS) (f:FuncId) (args:List AV) (h:H) (k:Int):Prop:=∃h',eg Tryz.prog f args h (kW k) h'∧(h.n≤h'.n∧h.m≤h'.m)∧PgH x s T h'∧Kept h h'∧aq h h'
theorem w7 {L:Nat} {ks:List Bs} {us:List (Tr L)} {key:Bs} (hr:right (au L ks us)=true) (hn:Nb (au L ks us)):
  aZ Tryz.prog 42 [aD (au L ks us),.str key] (.tup [.int .i64 (place (au L ks us) key:Nat),.bool false]):=by
 have f:=nz (au L ks us) hn key
 have e1:dP (au L ks us) key=place (au L ks us) key:=by unfold dP;rw[if_pos hr]
 have e2:bC (au L ks us) key=false:=by unfold bC found;simp[au]
 rw[e1,e2] at f
 exact f
theorem u0:∀(L:Nat) (t:Tr L) (lo:Bs) (hi:Option Bs) (h:H) (tid d:Nat) (r:Int) (key:Bs),PgH x s T h→cd s→h.objs tid=some (trO x r)→Live s L lo hi t→inB lo hi key→(∀p∈aN L t,p.k≠key)→d+L≤20→s.p.length<900000→
  ow x T s 46 [.ptr tid 0,.int .i64 (t.pg:Nat),.int .i64 (d:Nat),.str key] h 7
 |0,t,lo,hi,h,tid,d,r,key,g,ok,ht,lv,hb,hno,hd,hp=>by
  obtain ⟨i,ks,vs⟩:=(t:Nd Bs)
  obtain ⟨hr,hz,h3,h4⟩:=lv.wf
  have hr:right (aB ks vs)=true:=hr
  have hz:size (aB ks vs)≤1024:=hz
  obtain ⟨hs,hi'⟩:=lv.st i (by simp[bc])
  have hH:Has s i (aB ks vs):=lv.on.1
  have hfo:bC (aB ks vs) key=false:=by
   cases e:bC (aB ks vs) key with
   |false=>rfl
   |true=>
    obtain ⟨p,hp,e2⟩:=(qc hr).1 e
    exact absurd e2 (hno p hp)
  have hsm:=cb (L:=0) hr (by show size (aB ks vs)≤1355;omega)
  have cp:=B0 (aB ks vs) hsm.1 hsm.2 key
  rw[hfo] at cp
  have e9:og (aB ks vs) key=hM:=by unfold og;rw[hfo];rfl
  rw[e9] at cp
  have hnd:=jP g ok ht hi' (by show stt s i≠0;omega) hp ab hH.1
  rw[hH.2] at hnd
  obtain ⟨v,h',hc,hn,rfl,hq⟩:=aU.pE (Q:=fun v h'=>v=kW 7∧PgH x s T h'∧Kept h h'∧aq h h') (args:=[.ptr tid 0,.int .i64 (i:Nat),.int .i64 (d:Nat),.str key]) (h:=h) f46 af (by
   unfold c46 zz
   refine rf0 @and_self ?_
   refine an.aT (vals:=[.ptr tid 0,.int .i64 (i:Int),.int .i64 (d:Int)]) ae xA4 hnd fun q h2 ⟨hq,g2,k2,no2⟩ n2 _=>?_
   subst hq
   have g3:=(g2.new (aC (aB ks vs))).new (aC hM)
   have k3:Kept h (H.new (H.new h2 (aC (aB ks vs))) (aC hM)):=fun j hj=>(aL (Nat.lt_succ_of_lt ab)).trans ((aL ab).trans (k2 j hj))
   have no3:aq h (H.new (H.new h2 (aC (aB ks vs))) (aC hM)):=aq.trans no2 (aq.trans bN bN (Nat.le_succ _) (Nat.le_succ _)) ab (Nat.le_add_right _ 2)
   unfold aD at cp
   unfold aD
   refine an.evF xAc ?_
   rw[bn]
   refine an.nil ?_
   have hlf:(aB ks vs).leaf=true:=rfl
   refine Wp.seq ?_
   refine Wp.bw (xAd hlf) ?_
   refine an.nil ?_
   refine Wp.cond_true (by simp only[go_sem,reduceIte,Nat.reduceEqDiff,Nat.reduceAdd,bx,hlf]) ?_
   refine Wp.bw (xAd @and_self) ?_
   refine an.bW ae xA4 cp ?_
   refine an.evF xAc ?_
   rw[bn]
   refine an.nil ?_
   refine Wp.le (s':=⟨tm [(11,.bool false)],H.new (H.new h2 (aC (aB ks vs))) (aC hM)⟩) (aK.of (bp ?_) (OLe.refl _) (fun y hy=>hy) (Nat.le_refl _) (Nat.le_refl _)) ?_
   ·exact xSb
   have ln3:(H.new (H.new h2 (aC (aB ks vs))) (aC hM)).n=h2.n+1+1:=rfl
   generalize H.new (H.new h2 (aC (aB ks vs))) (aC hM)=h3 at*
   refine Wp.seq (Wp.seq ?_)
   refine Wp.da (xAd @Bool.not_false) ?_
   refine an.nil ?_
   refine Wp.cond_true (by simp only[go_sem,reduceIte,Nat.reduceEqDiff,Nat.reduceAdd,bx,Bool.not_false]) ?_
   refine Wp.vL (bL.eval (dO xA1) ?_)
   refine bL.here (R:=fun v h'=>∃v',aQ.panic v= .panic v'∧v'=kW 7∧PgH x s T h'∧Kept h h'∧aq h h') (en:=aV) rfl (bO _) (fun ops i o ho hit=>fP ho hit rfl rfl rfl) (fun l hl=>by cases hl) ?_
   exact ⟨_,rfl,rfl,g3,k3,no3⟩)
  exact ⟨h',hc,hn,hq⟩
 |L+1,t,lo,hi,h,tid,d,r,key,g,ok,ht,lv,hb,hno,hd,hp=>by
  obtain ⟨i,ks,us'⟩:=t
  have key0:∀us:List (Tr L),Live s (L+1) lo hi (mkT L i ks us)→(∀p∈aN (L+1) (mkT L i ks us),p.k≠key)→ow x T s 46 [.ptr tid 0,.int .i64 (i:Nat),.int .i64 (d:Nat),.str key] h 7:=by
   intro us lv hno
   obtain ⟨hr,hz,hw⟩:=lv.wf
   have hw:bF (WF L) lo hi ks us:=hw
   have hr:right (au L ks us)=true:=hr
   have hz:size (au L ks us)≤1024:=hz
   obtain ⟨hs,hi'⟩:=lv.st i (by show i∈i::ba (L+1) us;simp)
   obtain ⟨pa1,pa2,pa3⟩:=gu (key:=key) hr
   obtain ⟨u,hu,wu,-⟩:=hw.at pa3
   obtain ⟨cp1,cp2,cp3⟩:=iI hw hb _ pa3 pa1 pa2
   have hum:u∈us:=List.mem_of_getElem? hu
   have hpg:=gL (i:=i) (ks:=ks) hu
   have hnd:=lv.nd
   have hst:=lv.st
   rw[hpg] at hnd hst
   have hpr:aN (L+1) (mkT L i ks us)=((us.take (place (au L ks us) key)).map (aN L)).flatten++(aN L u++((us.drop (place (au L ks us) key+1)).map (aN L)).flatten):=mW (f:=aN L) hu
   have hnu:∀p∈aN L u,p.k≠key:=fun p hp=>hno p (by rw[hpr];simp[hp])
   have lu:Live s L (dK lo ks (place (au L ks us) key)) (eU hi ks (place (au L ks us) key)) u:=by
    refine ⟨(dR.1 lv.on.2) u hum,wu,?_,fun j hj=>hst j (by simp[hj])⟩
    simp only[List.nodup_cons,List.nodup_append] at hnd
    exact hnd.2.2.1.1
   have hH:Has s i (au L ks us):=lv.on.1
   have hsm:=cb (L:=L+1) (ks:=ks) (kids:=us) hr (by show size (au L ks us)≤1355;omega)
   have cf:=w7 (key:=key) hr hsm.1
   have hnd2:=jP (d:=d) g ok ht hi' (by show stt s i≠0;omega) hp ab hH.1
   rw[hH.2] at hnd2
   have hul:us.length=ks.length+1:=hw.len
   generalize hJ:place (au L ks us) key=J at*
   obtain ⟨v,h',hc,hn,rfl,hq⟩:=aU.pE (Q:=fun v h'=>v=kW 7∧PgH x s T h'∧Kept h h'∧aq h h') (args:=[.ptr tid 0,.int .i64 (i:Nat),.int .i64 (d:Nat),.str key]) (h:=h) f46 af (by
    unfold c46 zz
    have hlt:tid<h.n:=g.ltn (by rw[ht];rfl)
    have x1:(0:Int)≤(J:Int):=by omega
    have x2:(J:Int)<((au L ks us).kids.length:Int):=by simp[au];omega
    have wd:IntKind.i64.wrap ((d:Int)+1)=((d+1:Nat):Int):=by rw[IntWalk.i64_in _ ab];rfl
    have hgo:(ints (au L ks us).kids).getD J .any= .int .i64 (u.pg:Nat):=by
     have:(bK us)[J]? =some ((u.pg:Nat):Int):=by simp[bK,hu]
     show (ints (bK us)).getD J .any=_
     simp[ints,List.getD,this]
    refine rf0 @and_self ?_
    refine an.aT (vals:=[.ptr tid 0,.int .i64 (i:Int),.int .i64 (d:Int)]) ae xA4 hnd2 fun q h2 ⟨hq,g2,k2,no2⟩ n2 _=>?_
    subst hq
    have g3:=g2.new (aC (au L ks us))
    have k3:Kept h (H.new h2 (aC (au L ks us))):=fun j hj=>(aL ab).trans (k2 j hj)
    have no3:aq h (H.new h2 (aC (au L ks us))):=aq.trans no2 bN ab (Nat.le_succ _)
    have nn3:=bU (h:=h2) (o:=aC (au L ks us))
    have ln3:(H.new h2 (aC (au L ks us))).n=h2.n+1:=rfl
    have ht3:(H.new h2 (aC (au L ks us))).objs tid=some (trO x r):=(k3 tid hlt).trans ht
    unfold aD at cf
    unfold aD
    refine an.evF xAc ?_
    rw[bn]
    refine an.nil ?_
    refine Wp.le (s':=⟨tm [(0,.ptr tid 0),(1,.int .i64 i),(2,.int .i64 d),(3,.str key),(9,.ptr h2.n 0)],H.new h2 (aC (au L ks us))⟩) (aK.of (bp ?_) (OLe.refl _) (fun y hy=>hy) (Nat.le_refl _) (Nat.le_refl _)) ?_
    ·exact xSb
    generalize H.new h2 (aC (au L ks us))=h3 at*
    obtain ⟨h4,hc4,hn4,g4,k4,no4⟩:=u0 L u _ _ h3 tid (d+1) r key g3 ok ht3 lu cp3 hnu ab hp
    unfold aC at nn3
    have hlf:(au L ks us).leaf=false:=rfl
    rw[hlf] at nn3 cf
    refine Wp.seq ?_
    refine Wp.bw (by simp only[go_sem,reduceIte,Nat.reduceEqDiff,Nat.reduceAdd,bx,nn3];exact rfl) ?_
    refine an.nil ?_
    refine Wp.cond_false (by simp only[go_sem,reduceIte,Nat.reduceEqDiff]) ?_
    refine Wp.skip ?_
    refine Wp.bw (by simp only[go_sem,reduceIte,Nat.reduceEqDiff,Nat.reduceAdd,bx,nn3];exact rfl) ?_
    refine an.bW ae xA4 cf ?_
    refine an.evF xAc ?_
    refine an.nil ?_
    refine Wp.uo (by simp only[go_sem,reduceIte,Nat.reduceEqDiff,Nat.reduceAdd,bx,nn3,x1,x2,hgo,wd,and_self,if_true,Int.toNat_natCast];exact rfl) xA4 hn4 hc4 ?_
    exact ⟨_,rfl,rfl,g4,fun j hj=>(k4 j ab).trans (k3 j hj),aq.trans no3 no4 ab hn4.1⟩)
   exact ⟨h',hc,hn,hq⟩
  exact key0 us' lv hno
end
end Go.Proofs.YtbgmofhgfnmaiaaGreat.Tree
end
section
set_option maxRecDepth 100000
namespace Go.Proofs.YtbgmofhgfnmaiaaGreat.Tree
open Go Go.Av Go.Proofs Go.Proofs.YtbgmofhgfnmaiaaGreat.C Go.Proofs.YtbgmofhgfnmaiaaGreat.Page
open Go.Proofs.YtbgmofhgfnmaiaaGreat.Batch (Bs Pr prs aW)
section
variable {x:PgI} {s:PgS} {T:List Nat} {h:H}
def lev:Rt→Nat
 |none=>0
 |some ⟨L,_⟩=>L
structure Dn (x:PgI) (T:List Nat) (tid:Nat) (s:PgS) (R0:Rt) (B:Nat) (h:H) (ps:List Pr) (R:Rt) (s1:PgS) (h1:H):Prop where
 pg:PgH x s1 T h1
 ok:cd s1
 ot:h1.objs tid=some (trO x (rpg R0))
 rk:ROk s1 B R
 ps:aE R=ps
 mv:Mv s s1 (fun j=>j∈cQ R0) (fun j=>j∈cQ R)
 pl:s1.p.length≤s.p.length+200
 sm:cD x h h1
 no:aq h h1
 ln:h.n≤h1.n
theorem Er {L:Nat} {B i:Nat} {ks:List Bs} {u:Tr L} (h:Bnd (L+1) (mkT L i ks [u]) B):Bnd L u B:=by
 obtain ⟨c,h0,h1,h2⟩:=h
 refine ⟨c,h0,fun j hj=>?_,fun j hj=>?_⟩
 ·have:=h1 j ab
  rw[fh,if_neg ab] at this
  have e:(((mkT L i ks [u]).kids:List (Tr L)).map (eZ L j)).sum=eZ L j u:=by
   show (([u]:List (Tr L)).map (eZ L j)).sum=_
   simp
  omega
 ·have:=h2 j ab
  rw[fX,if_neg ab] at this
  have e:(((mkT L i ks [u]).kids:List (Tr L)).map (exT L (j+1))).sum=exT L (j+1) u:=by
   show (([u]:List (Tr L)).map (exT L (j+1))).sum=_
   simp
  omega
set_option maxHeartbeats 2000000 in
theorem w8 {L tid b0 b1 B:Nat} {t:Tr L} {key:Bs} (g:Ts x T tid s (some ⟨L,t⟩) B h) (h0:h.objs b0=some (.cells [.ptr tid 0])) (h1:h.objs b1=some (.cells [.str key])) (t0:Tid x b0) (n0:b0≠tid)
  (hex:∃p∈aN L t,p.k=key) (hL:L≤6) (hf:L+1≤free s) (hp:s.p.length+200<900000):
  aI Tryz.prog 45 [.ptr b0 0,.ptr b1 0] h fun q h'=>∃s' R',eD x T tid s (some ⟨L,t⟩) h B s' R' h'∧aE R'=ep (aN L t) key:=by
 refine f45.bu af ?_
 unfold c45 zz
 have ot:h.objs tid=some (.cells [.ptr x.P 0,.int .i64 ((t.pg:Nat):Int)]):=g.ot
 have d3:decide (((t.pg:Nat):Int)<0)=false:=decide_eq_false ab
 obtain ⟨lv,bd⟩:Live s L [] none t∧Bnd L t B:=g.rk
 have lt0:=g.pg.ltn (j:=b0) (by rw[h0];rfl)
 have ltt:=g.lt
 refine rf0 (cj4 h0 h1 ot d3) ?_
 refine Wp.reg ?_
 refine ao.part 6 (xAe (cj3 h0 h1 ot)) ?_
 simp only[List.drop_succ_cons,List.drop_zero,List.drop_nil]
 have hc:=CL (x:=x) (T:=T) L t [] none s h tid 1 ((t.pg:Nat):Int) key g.pg g.ok g.ot g.tx lv ⟨db _,fun _ e=>by cases e⟩ hex ab ab ab
 refine ao.aT (vals:=[.ptr tid 0,.int .i64 (t.pg:Nat),.int .i64 ((1:Nat):Int),.str key]) ae xA4 (fun j hj=>g.pg.ltn hj) hc (fun r h' ⟨s',R,e,st,hh⟩=>st.no) fun r h3 ⟨s1,o,e,st,pr⟩ n3 m3=>?_
 subst e
 refine ao.part 1 xA1 ?_
 simp only[List.drop_succ_cons,List.drop_zero,List.drop_nil]
 refine ao.nil ⟨by simp[bg,aS,apart,aV],?_⟩
 have D0:∃R:Rt,rpg R=opg o∧lev R≤L∧Dn x T tid s (some ⟨L,t⟩) B h (ep (aN L t) key) R s1 h3:=by
  have hps:=pr.ps
  have hin:∀j∈fa L o,(stt s1 j=1∨stt s1 j=2)∧j<s1.np:=by
   intro j hj
   have hnp:=st.mv.np
   by_cases hjt:j∈bc L t
   ·have q:=st.mv.stay j hj hjt
    have:=lv.st j hjt
    omega
   ·have q:=st.mv.new j hj hjt
    omega
  cases o with
  |none=>exact ⟨none,rfl,Nat.zero_le _,st.pg,st.ok,(cx st.sm ltt g.tx).trans g.ot,trivial,hps,st.mv.congr (fun j=>Iff.rfl) (fun j=>by simp[cQ,fa]),by have:=st.pl;omega,st.sm,st.no,st.ln⟩
  |some t'=>
   obtain ⟨c,c0,c1,c2⟩:=bd
   refine ⟨some ⟨L,t'⟩,rfl,Nat.le_refl _,st.pg,st.ok,(cx st.sm ltt g.tx).trans g.ot,⟨⟨pr.on t' rfl,pr.wf t' rfl,pr.nd,hin⟩,c,c0,fun j hj=>Nat.le_trans (pr.cnt t' rfl j).1 (c1 j hj),fun j hj=>?_⟩,hps,st.mv,by have:=st.pl;omega,st.sm,st.no,st.ln⟩
   have:=(pr.cnt t' rfl (j+1)).2
   have:=c2 j hj
   omega
 obtain ⟨R0,e0,hlev,D0⟩:=D0
 rw[←e0]
 clear hc e0 pr st
 refine Wp.seq (Wp.ex (β:=Rt × PgS × H) (fun b=>⟨tm [(0,.ptr b0 0),(2,.int .i64 (rpg b.1))],b.2.2⟩) (fun b=>Dn x T tid s (some ⟨L,t⟩) B h (ep (aN L t) key) b.1 b.2.1 b.2.2) ?_ ?_)
 ·refine rf0 @and_self ?_
  refine Wp.eH [0] xA7 (fun b:Nat × Rt × PgS × H=>[(2,.int .i64 (rpg b.2.1)),(3,.int .i64 (b.1:Int))]) (fun b=>b.2.2.2) (fun b=>b.1+lev b.2.1≤7∧Dn x T tid s (some ⟨L,t⟩) B h (ep (aN L t) key) b.2.1 b.2.2.1 b.2.2.2) (fun b=>lev b.2.1) (1,R0,s1,h3) ⟨by simp only;omega,D0⟩ rfl ?_ ?_
  ·exact xSb
  clear D0 hlev
  rintro ⟨d,R,s2,h4⟩ ⟨hd,D⟩
  simp only at hd D
  have h04:h4.objs b0=some (.cells [.ptr tid 0]):=(cx D.sm lt0 t0).trans h0
  cases R with
  |none=>
   have e1:decide ((0:Int)≤rpg none)=false:=decide_eq_false (by simp[rpg])
   refine rf0 e1 ?_
   refine ⟨(none,s2,h4),D,aK.tm ?_⟩
   exact xSb
  |some q=>
   obtain ⟨L',t'⟩:=q
   have e1:decide ((0:Int)≤rpg (some ⟨L',t'⟩))=true:=decide_eq_true (by simp only[rpg];omega)
   obtain ⟨lv',bd'⟩:Live s2 L' [] none t'∧Bnd L' t' B:=D.rk
   obtain ⟨hs',hi'⟩:=lv'.st t'.pg (by simp[bc])
   have pl:=D.pl
   have hd':d+L'≤7:=hd
   have hnd:=jP (tid:=tid) (i:=t'.pg) (d:=d) D.pg D.ok D.ot hi' (by show stt s2 t'.pg≠0;omega) ab ab lv'.on.1.1
   rw[lv'.on.1.2] at hnd
   refine rf0 (cj2 e1 h04) ?_
   refine an.aT (vals:=[.ptr tid 0,.int .i64 (t'.pg:Nat),.int .i64 (d:Int)]) ae xA4 hnd fun q h5 ⟨hq,g5,k5,no5⟩ n5 _=>?_
   subst hq
   unfold aD
   refine an.evF xAc ?_
   rw[bn]
   refine an.nil ?_
   have g6:=g5.new (aC (bD L' t'.ks t'.kids))
   have k6:Kept h4 (H.new h5 (aC (bD L' t'.ks t'.kids))):=fun j hj=>(aL ab).trans (k5 j hj)
   have no6:aq h4 (H.new h5 (aC (bD L' t'.ks t'.kids))):=aq.trans no5 bN n5 (Nat.le_succ _)
   have nn6:=bU (h:=h5) (o:=aC (bD L' t'.ks t'.kids))
   have ln6:(H.new h5 (aC (bD L' t'.ks t'.kids))).n=h5.n+1:=rfl
   have ln4:=D.ln
   have D6:Dn x T tid s (some ⟨L,t⟩) B h (ep (aN L t) key) (some ⟨L',t'⟩) s2 (H.new h5 (aC (bD L' t'.ks t'.kids))):=
    ⟨g6,D.ok,(k6 tid (D.pg.ltn (by rw[D.ot];rfl))).trans D.ot,D.rk,D.ps,D.mv,D.pl,D.sm.trans (ed k6) ln4,aq.trans D.no no6 ln4 ab,ab⟩
   refine Wp.le (s':=⟨tm [(0,.ptr b0 0),(2,.int .i64 (t'.pg:Nat)),(3,.int .i64 (d:Int)),(4,.ptr h5.n 0)],H.new h5 (aC (bD L' t'.ks t'.kids))⟩) (aK.of (bp ?_) (OLe.refl _) (fun y hy=>hy) (Nat.le_refl _) (Nat.le_refl _)) ?_
   ·exact xSb
   clear D hnd
   generalize H.new h5 (aC (bD L' t'.ks t'.kids))=h6 at*
   have h06:h6.objs b0=some (.cells [.ptr tid 0]):=(cx D6.sm lt0 t0).trans h0
   cases L' with
   |zero=>
    have hlf:(bD 0 t'.ks t'.kids).leaf=true:=rfl
    unfold aC at nn6
    rw[hlf] at nn6
    refine rf0 nn6 ?_
    refine ⟨(some ⟨0,t'⟩,s2,h6),D6,aK.tm ?_⟩
    exact xSb
   |succ L'=>
    obtain ⟨i,ks,us'⟩:=t'
    obtain ⟨us,hus⟩:∃us:List (Tr L'),us=us':=⟨us',rfl⟩
    subst hus
    have D6:Dn x T tid s (some ⟨L,t⟩) B h (ep (aN L t) key) (some ⟨L'+1,mkT L' i ks us⟩) s2 h6:=D6
    have nn6:h6.objs h5.n=some (aC (au L' ks us)):=nn6
    have lv':Live s2 (L'+1) [] none (mkT L' i ks us):=lv'
    have bd':Bnd (L'+1) (mkT L' i ks us) B:=bd'
    have hs':stt s2 i=1∨stt s2 i=2:=hs'
    have hi':i<s2.np:=hi'
    obtain ⟨hr,hz,hw⟩:=lv'.wf
    have hw:bF (WF L') [] none ks us:=hw
    have hul:=hw.len
    have hlf:(au L' ks us).leaf=false:=rfl
    have hkl:(ints (au L' ks us).kids).length=us.length:=by simp[ints,au]
    unfold aC at nn6
    rw[hlf] at nn6
    by_cases h1u:us.length=1
    ·obtain ⟨u,hu⟩:=List.length_eq_one_iff.1 h1u
     subst hu
     have hk0:ks=[]:=List.length_eq_zero_iff.1 (by simp only[List.length_singleton] at hul;omega)
     subst hk0
     have e2:decide ((1:Int)<((([u]:List (Tr L')).length:Nat):Int))=false:=by simp
     have hgo:(ints (au L' [] [u]).kids).getD 0 .any= .int .i64 (u.pg:Nat):=by simp[ints,au]
     have ot6:h6.objs tid=some (.cells [.ptr x.P 0,.int .i64 ((t.pg:Nat):Int)]):=D6.ot
     refine rf0 (cj5 nn6 hkl e2 h06 ot6) ?_
     refine an.aT (vals:=[.ptr x.P 0,.int .i64 (i:Int)]) ae xA4 (CH D6.pg D6.ok hi' hs') fun q h7 ⟨hq,s3,st⟩ n7 _=>?_
     subst hq
     refine an.cF xA2 xAb (by exact ⟨Nat.le_refl _,Nat.le_refl _⟩) (eS) ?_
     refine an.nil ?_
     have nn7:=(cx st.sm ab (dJ g.pg (j:=h5.n) ab)).trans nn6
     have e3:IntKind.i64.wrap ((d:Int)+1)=((d+1:Nat):Int):=by rw[IntWalk.i64_in _ ab];rfl
     have y0:(0:Int)≤(0:Int):=by omega
     have y1:(0:Int)<(((au L' [] [u]).kids.length:Nat):Int):=by simp[au]
     refine rf0 (cj7 nn7 hgo e3 y0 y1 @and_self Int.toNat_zero) ?_
     have hpu:bc (L'+1) (mkT L' i [] [u])=i::bc L' u:=by
      show i::(([u]:List (Tr L')).map (bc L')).flatten=_
      simp
     have hnd':=lv'.nd
     have hst':=lv'.st
     rw[hpu] at hnd' hst'
     have hq0:∀j,j∈bc L' u→¬j=i:=fun j hj e=>by subst e;exact (List.nodup_cons.1 hnd').1 hj
     have hq1:∀j,j∈bc L' u→stt s2 j≠0:=fun j hj=>by have:=(hst' j (List.mem_cons_of_mem _ hj)).1;omega
     have ap:=st.mv.apart (Q:=fun j=>j∈bc L' u) hq0 hq1
     have mm:=D6.mv.trans ((st.mv.ext (Q:=fun j=>j∈bc L' u) hq0 hq1).congr (A:=fun j=>j∈cQ (some ⟨L'+1,mkT L' i [] [u]⟩)) (A':=fun j=>j∈bc L' u) (fun j=>by
      show j∈bc (L'+1) (mkT L' i [] [u])↔_
      rw[hpu];simp) (fun j=>by simp))
     have hps:=D6.ps
     have hpl:=D6.pl
     have hpl2:=st.pl
     have hnp:=st.mv.np
     have ln6:=D6.ln
     refine ⟨(d+1,some ⟨L',u⟩,s3,h7),⟨by show d+1+L'≤7;omega,⟨st.pg,st.ok,(cx st.sm ab g.tx).trans D6.ot,⟨⟨((dR (us:=([u]:List (Tr L')))).1 lv'.on.2 u af).congr fun j hj=>(ap j hj).2.2,hw,(List.nodup_cons.1 hnd').2,fun j hj=>?_⟩,Er bd'⟩,?_,mm,by show s3.p.length≤s.p.length+200;omega,D6.sm.trans st.sm ln6,aq.trans D6.no st.no ln6 n7,by show h.n≤h7.n;omega⟩⟩,by show L'<L'+1;omega,aK.tm ?_⟩
     ·have a:=ap j hj
      have b:=hst' j (List.mem_cons_of_mem _ hj)
      show (stt s3 j=1∨stt s3 j=2)∧j<s3.np
      omega
     ·rw[←hps]
      show aN L' u=(([u]:List (Tr L')).map (aN L')).flatten
      simp
     ·exact xSb
    ·have e2:decide ((1:Int)<((us.length:Nat):Int))=true:=decide_eq_true ab
     refine rf0 (cj3 nn6 hkl e2) ?_
     refine ⟨(some ⟨L'+1,mkT L' i ks us⟩,s2,h6),D6,aK.tm ?_⟩
     exact xSb
 ·rintro ⟨R,s2,h4⟩ s' D le
  refine Wp.le le ?_
  have D:Dn x T tid s (some ⟨L,t⟩) B h (ep (aN L t) key) R s2 h4:=D
  have h04:h4.objs b0=some (.cells [.ptr tid 0]):=(cx D.sm lt0 t0).trans h0
  have ot4:h4.objs tid=some (.cells [.ptr x.P 0,.int .i64 ((t.pg:Nat):Int)]):=D.ot
  have lt4:tid<h4.n:=D.pg.ltn (by rw[ot4];rfl)
  refine rf0 (cj2 h04 ot4) ?_
  refine ⟨trivial,.tup [],by simp[de,rvs],s2,R,⟨⟨D.pg.qg g.tx lt4 _,D.ok,by simp[upd,trO],g.tx,D.rk⟩,D.mv,D.pl,(eL.of D.sm).trans eL.set D.ln,aq.trans D.no (aq.set ot4) D.ln (Nat.le_refl _),D.ln⟩,D.ps⟩
end
end Go.Proofs.YtbgmofhgfnmaiaaGreat.Tree
end
section
set_option maxRecDepth 100000
namespace Go.Proofs.YtbgmofhgfnmaiaaGreat.Tree
open Go Go.Av Go.Proofs Go.Proofs.YtbgmofhgfnmaiaaGreat.C Go.Proofs.YtbgmofhgfnmaiaaGreat.Page
open Go.Proofs.YtbgmofhgfnmaiaaGreat.Batch (Bs Pr prs aW)
section
variable {x:PgI} {s:PgS} {T:List Nat} {h:H}
theorem xa {tid b0 b1:Nat} (g:PgH x s T h) (ot:h.objs tid=some (trO x (-1))) (h0:h.objs b0=some (.cells [.ptr tid 0])):
  ow x T s 45 [.ptr b0 0,.ptr b1 0] h 7:=by
 have ot:h.objs tid=some (.cells [.ptr x.P 0,.int .i64 (-1)]):=ot
 have d3:decide ((-1:Int)<0)=true:=by decide
 obtain ⟨v,h',hc,hn,rfl,rfl⟩:=aU.pE (Q:=fun v h'=>v=kW 7∧h'=h) (args:=[.ptr b0 0,.ptr b1 0]) (h:=h) f45 af (by
  unfold c45 zz
  refine Wp.seq (Wp.seq ?_)
  refine Wp.da (xAd (cj3 h0 ot d3)) ?_
  refine an.nil ?_
  refine Wp.cond_true (by simp only[go_sem,reduceIte,Nat.reduceEqDiff,Nat.reduceAdd,bx,d3]) ?_
  refine Wp.vL (bL.eval (dO xA1) ?_)
  refine bL.here (R:=fun v h'=>∃v',aQ.panic v= .panic v'∧v'=kW 7∧h'=h) (en:=aV) rfl (bO _) (fun ops i o ho hit=>fP ho hit rfl rfl rfl) (fun l hl=>by cases hl) ?_
  exact ⟨_,rfl,rfl,rfl⟩)
 exact ⟨_,hc,hn,g,fun _ _=>rfl,aq.refl _⟩
theorem AE {L tid b0 b1 B:Nat} {t:Tr L} {key:Bs} (g:Ts x T tid s (some ⟨L,t⟩) B h) (h0:h.objs b0=some (.cells [.ptr tid 0])) (h1:h.objs b1=some (.cells [.str key]))
  (hno:∀p∈aN L t,p.k≠key) (hL:L≤6) (hp:s.p.length<900000):
  ow x T s 45 [.ptr b0 0,.ptr b1 0] h 7:=by
 have ot:h.objs tid=some (.cells [.ptr x.P 0,.int .i64 ((t.pg:Nat):Int)]):=g.ot
 have d3:decide (((t.pg:Nat):Int)<0)=false:=decide_eq_false ab
 obtain ⟨lv,bd⟩:Live s L [] none t∧Bnd L t B:=g.rk
 obtain ⟨h2,hc2,hn2,g2,k2,no2⟩:=u0 (x:=x) (s:=s) (T:=T) L t [] none h tid 1 ((t.pg:Nat):Int) key g.pg g.ok g.ot lv ⟨db _,fun _ e=>by cases e⟩ hno ab hp
 obtain ⟨v,h',hc,hn,rfl,hq⟩:=aU.pE (Q:=fun v h'=>v=kW 7∧PgH x s T h'∧Kept h h'∧aq h h') (args:=[.ptr b0 0,.ptr b1 0]) (h:=h) f45 af (by
  unfold c45 zz
  refine Wp.seq (Wp.seq ?_)
  refine Wp.da (xAd (cj3 h0 ot d3)) ?_
  refine an.nil ?_
  refine Wp.cond_false (by simp only[go_sem,reduceIte,Nat.reduceEqDiff,d3]) ?_
  refine Wp.skip ?_
  refine Wp.seq ?_
  refine Wp.vL ?_
  refine bL.eval (dO (by simp only[go_sem,reduceIte,Nat.reduceEqDiff,Nat.reduceAdd,bx,h0,h1,ot];exact rfl)) ?_
  refine bL.E0 (vals:=[.ptr tid 0,.int .i64 (t.pg:Nat),.int .i64 ((1:Nat):Int),.str key]) xA4 (fun j hj=>g.pg.ltn hj) hn2 hc2 no2 (by simp only[mr,Bp,oJ,cy,bT,tmpsOf,List.filterMap_cons,List.filterMap_nil,List.contains_cons,List.contains_nil,List.any_cons,List.any_nil,List.elem_cons,List.elem_nil,Option.toList_some,Option.toList_none,List.singleton_append,Prod.mk.injEq,Nat.reduceBEq,Bool.or_false,Bool.false_or,Bool.true_or,Bool.or_true,Bool.and_true,Bool.true_and,Bool.not_true,Bool.not_false,go_sem,reduceIte,Nat.reduceEqDiff,Nat.reduceAdd];exact rfl) (by simp[aS,apart,aV]) (by simp[Bq,sy,aV]) ?_
  exact ⟨_,rfl,rfl,g2,k2,no2⟩)
 exact ⟨_,hc,hn,hq⟩
theorem fH.GJ {tid B:Nat} {R:Rt} {h1 h':H} (b:fH x T tid s R B h h1) (g:PgH x s T h') (k:Kept h1 h') (no:aq h1 h') (ln:h1.n≤h'.n):eD x T tid s R h B s R h':=
 eD.none (b.ts.keep g (k tid b.ts.lt) (Nat.le_refl _)) (b.sm.trans (eL.of (ed k)) b.ln) (aq.trans b.no no b.ln ln) (Nat.le_trans b.ln ln)
set_option maxHeartbeats 1000000 in
theorem CS {tid B:Nat} {R:Rt} {key:Bs} (g:Ts x T tid s R B h) (hL:∀L t,R=some ⟨L,t⟩→L≤6) (hf:∀L t,R=some ⟨L,t⟩→L+1≤free s) (hp:s.p.length+200<900000):
  aI Tryz.prog 20 [.ptr tid 0,.str key] h fun q h'=>∃s' R',eD x T tid s R h B s' R' h'∧(((∃p∈aE R,p.k=key)∧q= .int .i64 0∧aE R'=ep (aE R) key)∨((∀p∈aE R,p.k≠key)∧q= .int .i64 7∧R'=R∧s'=s)):=by
 refine f20.bu af ?_
 unfold c20 zz
 have bb:=((fH.refl g).new (.cells [.ptr tid 0])).new (.cells [.str key])
 have lt:=g.lt
 have ln3:(H.new (H.new h (.cells [.ptr tid 0])) (.cells [.str key])).n=h.n+1+1:=rfl
 have e0:(H.new (H.new h (.cells [.ptr tid 0])) (.cells [.str key])).objs h.n=some (.cells [.ptr tid 0]):=(aL (Nat.lt_succ_self _)).trans bU
 have e1:(H.new (H.new h (.cells [.ptr tid 0])) (.cells [.str key])).objs (h.n+1)=some (.cells [.str key]):=bU (h:=H.new h (.cells [.ptr tid 0]))
 refine Wp.bw (xAd @and_self) ?_
 refine an.nil ?_
 refine Wp.le (s':=⟨tm [(2,.ptr h.n 0),(3,.ptr (h.n+1) 0)],H.new (H.new h (.cells [.ptr tid 0])) (.cells [.str key])⟩) (aK.of (bp ?_) (OLe.refl _) (fun y hy=>hy) (Nat.le_refl _) (Nat.le_refl _)) ?_
 ·exact xSb
 generalize H.new (H.new h (.cells [.ptr tid 0])) (.cells [.str key])=h3 at*
 have key2:aI Tryz.prog 34 [.ptr tid 0,.clo (.func 45) [] [.ptr h.n 0,.ptr (h.n+1) 0]] h3 fun q h'=>∃s' R',eD x T tid s R h3 B s' R' h'∧(((∃p∈aE R,p.k=key)∧q= .int .i64 0∧aE R'=ep (aE R) key)∨((∀p∈aE R,p.k≠key)∧q= .int .i64 7∧R'=R∧s'=s)):=by
  have give:ow x T s 45 [.ptr h.n 0,.ptr (h.n+1) 0] h3 7→(∀p∈aE R,p.k≠key)→aI Tryz.prog 34 [.ptr tid 0,.clo (.func 45) [] [.ptr h.n 0,.ptr (h.n+1) 0]] h3 fun q h'=>∃s' R',eD x T tid s R h3 B s' R' h'∧(((∃p∈aE R,p.k=key)∧q= .int .i64 0∧aE R'=ep (aE R) key)∨((∀p∈aE R,p.k≠key)∧q= .int .i64 7∧R'=R∧s'=s)):=by
   rintro ⟨h',hc,hn,g',k',no'⟩ hno
   refine (CN (Q:=fun h'=>PgH x s T h'∧Kept h3 h'∧aq h3 h'∧h3.n≤h'.n) (fT bb.ts) Tryz.func45 rfl (of_decide_eq_true (by kernel_rfl)) ⟨h',hc,hn.1,hn.2,g',k',no',hn.1⟩).mono ?_
   rintro q h' ⟨rfl,g',k',no',ln'⟩
   exact ⟨s,R,(fH.refl bb.ts).GJ g' k' no' ln',.inr ⟨hno,rfl,rfl,rfl⟩⟩
  cases R with
  |none=>
   exact give (xa bb.ts.pg bb.ts.ot e0) (by simp[aE])
  |some r=>
   obtain ⟨L,t⟩:=r
   by_cases hex:∃p∈aN L t,p.k=key
   ·refine (uZ (fT bb.ts) Tryz.func45 rfl (of_decide_eq_true (by kernel_rfl)) (w8 bb.ts e0 e1 (dJ g.pg (Nat.le_refl _)) ab hex (hL L t rfl) (hf L t rfl) hp)).mono ?_
    rintro q h' ⟨rfl,r,s',R',m,e⟩
    exact ⟨s',R',m,.inl ⟨hex,rfl,e⟩⟩
   ·have hno:∀p∈aN L t,p.k≠key:=fun p hp e=>hex ⟨p,hp,e⟩
    exact give (AE bb.ts e0 e1 hno (hL L t rfl) ab) hno
 refine rf0 e0 ?_
 refine an.aT (vals:=[.ptr tid 0,.clo (.func 45) [] [.ptr h.n 0,.ptr (h.n+1) 0]]) ae xA4 key2 fun q h4 ⟨s',R',m,cs⟩ n4 _=>?_
 refine an.evF xAc ?_
 refine an.nil ?_
 refine rf0 @and_self ?_
 refine Wp.ret ?_
 refine ⟨trivial,q,?_,s',R',m.pre bb.sm bb.no bb.ln,cs⟩
 simp only[go_sem]
 exact rfl
end
end Go.Proofs.YtbgmofhgfnmaiaaGreat.Tree
end
section
set_option maxRecDepth 100000
namespace Go.Proofs.YtbgmofhgfnmaiaaGreat.Tree
open Go Go.Av Go.Proofs Go.Proofs.YtbgmofhgfnmaiaaGreat.C Go.Proofs.YtbgmofhgfnmaiaaGreat.Page
open Go.Proofs.YtbgmofhgfnmaiaaGreat.Batch (Bs Pr prs aW)
def tlC:AC→AC
 | .seq _ y=>y
 |c=>c
def fx (l:List Pr) (key:Bs):Option Pr:=l.find? fun p=>decide (p.k=key)
theorem qh {l:List Pr} {key:Bs} (h:∀p∈l,p.k≠key):fx l key=none:=by
 unfold fx
 rw[List.find?_eq_none]
 intro p hp
 simpa using h p hp
theorem rW {a b c:List Pr} {k:Bs} (ha:∀p∈a,Lt p.k k) (hc:∀p∈c,Lt k p.k):fx (a++(b++c)) k=fx b k:=by
 have h1:=qh fun p hp=>ne_of_lt (ha p hp)
 have h2:=qh fun p hp=>(ne_of_lt (hc p hp)).symm
 unfold fx at h1 h2 ⊢
 rw[List.find?_append,h1,List.find?_append,h2]
 simp
theorem rX {ks vs:List Bs} {key:Bs} (h:right (aB ks vs)=true):fx (List.zipWith Pr.mk ks vs) key=if bC (aB ks vs) key=true then some ⟨key,vs.getD (place (aB ks vs) key) []⟩ else none:=by
 split
 ·rename_i hf
  obtain ⟨r1,r2,-⟩:=(bq (n:=aB ks vs) rfl).1 h
  obtain ⟨p1,p2,p3⟩:=jq h key
  obtain ⟨-,-,f1,f2,f3⟩:=dV hf
  have f1:place (aB ks vs) key<ks.length:=f1
  have f3:ks.getD (place (aB ks vs) key) []=key:=f3
  have r2:vs.length=ks.length:=r2
  have r1:mH ks:=r1
  generalize place (aB ks vs) key=i at*
  have hkk:ks[i]=key:=by rw[←f3,bA f1]
  have hd:=nG r1.2 f1
  rw[hkk] at hd
  have e1:ks=ks.take i++key::ks.drop (i+1):=by rw[←hkk,←List.drop_eq_getElem_cons f1,List.take_append_drop]
  have e2:vs=vs.take i++vs[i]::vs.drop (i+1):=by rw[←List.drop_eq_getElem_cons,List.take_append_drop]
  have e3:List.zipWith Pr.mk ks vs=List.zipWith Pr.mk (ks.take i) (vs.take i)++([⟨key,vs[i]⟩]++List.zipWith Pr.mk (ks.drop (i+1)) (vs.drop (i+1))):=by
   conv=>lhs;rw[e1,e2]
   exact mX ak
  rw[e3,rW (fun p hp=>p1 _ (eC hp)) (fun p hp=>hd _ (eC hp)),bA ab]
  simp[fx]
 ·rename_i hf
  refine qh fun p hp e=>hf ((qc h).2 ⟨p,hp,e⟩)
section
variable {x:PgI} {s:PgS} {T:List Nat} {h:H}
set_option maxHeartbeats 2000000 in
theorem u6 {L tid b0 b1 b2 B:Nat} {t:Tr L} {key:Bs} {Q:aQ→St→Prop} (g:Ts x T tid s (some ⟨L,t⟩) B h) (h0:h.objs b0=some (.cells [.ptr tid 0])) (h1:h.objs b1=some (.cells [.str key])) (hL:L≤6) (hp:s.p.length<900000)
  (hK:∀(h':H) (nid i:Nat) (ks vs:List Bs),PgH x s T h'→Kept h h'→aq h h'→h.n≤h'.n→h'.objs nid=some (aC (aB ks vs))→right (aB ks vs)=true→size (aB ks vs)≤1024→fx (List.zipWith Pr.mk ks vs) key=fx (aN L t) key→h.n≤nid→Wp Tryz.prog 54 (tlC (tlC (tlC c40))) ⟨tm [(1,.ptr b1 0),(2,.ptr b2 0),(3,.ptr nid 0)],h'⟩ Q):
  Wp Tryz.prog 54 c40 ⟨gA [.ptr b0 0,.ptr b1 0,.ptr b2 0],h⟩ Q:=by
 unfold c40 at hK ⊢
 simp only[tlC] at hK
 have ot:h.objs tid=some (.cells [.ptr x.P 0,.int .i64 ((t.pg:Nat):Int)]):=g.ot
 have d3:decide (((t.pg:Nat):Int)<0)=false:=decide_eq_false ab
 obtain ⟨lv,bd⟩:Live s L [] none t∧Bnd L t B:=g.rk
 have lt0:=g.pg.ltn (j:=b0) (by rw[h0];rfl)
 have lt1:=g.pg.ltn (j:=b1) (by rw[h1];rfl)
 have ltt:=g.lt
 obtain ⟨hs,hi'⟩:=lv.st t.pg (by simp[bc])
 have hnd:=jP (tid:=tid) (i:=t.pg) (d:=1) g.pg g.ok g.ot hi' (by show stt s t.pg≠0;omega) ab ab lv.on.1.1
 rw[lv.on.1.2] at hnd
 refine Wp.seq (Wp.seq ?_)
 refine Wp.da (xAd (cj3 h0 ot d3)) ?_
 refine an.nil ?_
 refine Wp.cond_false (by simp only[go_sem,reduceIte,Nat.reduceEqDiff,d3]) ?_
 refine Wp.skip ?_
 refine Wp.seq (Wp.reg ?_)
 refine ao.part 5 (xAe (cj2 h0 ot)) ?_
 simp only[List.drop_succ_cons,List.drop_zero,List.drop_nil]
 refine ao.aT (vals:=[.ptr tid 0,.int .i64 (t.pg:Nat),.int .i64 ((1:Nat):Int)]) ae xA4 (fun j hj=>g.pg.ltn hj) hnd (fun r h' ⟨e,g',k',no'⟩=>no') fun q h2 ⟨hq,g2,k2,no2⟩ n2 _=>?_
 subst hq
 unfold aD
 refine ao.part 2 xA1 ?_
 simp only[List.drop_succ_cons,List.drop_zero,List.drop_nil]
 rw[bn]
 refine ao.nil ⟨by simp[bg,aS,apart,aV];exact ⟨ab,ab,fun id a=>by omega⟩,?_⟩
 have g3:=g2.new (aC (bD L t.ks t.kids))
 have k3:Kept h (H.new h2 (aC (bD L t.ks t.kids))):=fun j hj=>(aL ab).trans (k2 j hj)
 have no3:aq h (H.new h2 (aC (bD L t.ks t.kids))):=aq.trans no2 bN n2 (Nat.le_succ _)
 have nn3:=bU (h:=h2) (o:=aC (bD L t.ks t.kids))
 have ln3:(H.new h2 (aC (bD L t.ks t.kids))).n=h2.n+1:=rfl
 refine Wp.le (s':=⟨tm [(0,.ptr b0 0),(1,.ptr b1 0),(2,.ptr b2 0),(3,.ptr h2.n 0)],H.new h2 (aC (bD L t.ks t.kids))⟩) (aK.of (bp ?_) (OLe.refl _) (fun y hy=>hy) (Nat.le_refl _) (Nat.le_refl _)) ?_
 ·exact xSb
 generalize H.new h2 (aC (bD L t.ks t.kids))=h3 at*
 generalize hnid:h2.n=nid at*
 clear hnd
 refine rf0 @and_self ?_
 refine Wp.eH [0,1,2,3] xA7 (fun b:Nat × ((L':Nat) × Tr L') × H=>[(4,.int .i64 (b.1:Int))]) (fun b=>b.2.2) (fun b=>b.1+b.2.1.1≤9∧(∃lo hi,Live s b.2.1.1 lo hi b.2.1.2∧inB lo hi key)∧fx (aN b.2.1.1 b.2.1.2) key=fx (aN L t) key∧PgH x s T b.2.2∧Kept h b.2.2∧aq h b.2.2∧h.n≤b.2.2.n∧nid<b.2.2.n∧b.2.2.objs nid=some (aC (bD b.2.1.1 b.2.1.2.ks b.2.1.2.kids))) (fun b=>b.2.1.1) (2,⟨L,t⟩,h3) ⟨by simp only;omega,⟨[],none,lv,db _,fun _ e=>by cases e⟩,rfl,g3,k3,no3,by simp only;omega,by simp only;omega,nn3⟩ rfl ?_ ?_
 ·exact xSb
 clear g3 k3 no3 nn3
 rintro ⟨d,⟨L',t'⟩,h4⟩ ⟨hd,⟨lo,hi,lv',hb⟩,hf,g4,k4,no4,ln4,lnid,nn4⟩
 simp only at hd lv' hf g4 k4 no4 ln4 lnid nn4
 have h04:=(k4 b0 lt0).trans h0
 have h14:=(k4 b1 lt1).trans h1
 cases L' with
 |zero=>
  have hlf:(bD 0 t'.ks t'.kids).leaf=true:=rfl
  have nn5:=nn4
  unfold aC at nn4
  rw[hlf] at nn4
  refine Wp.seq (Wp.seq ?_)
  refine Wp.da (xAd (cj2 nn4 @Bool.not_true)) ?_
  refine an.nil ?_
  refine Wp.cond_false (by simp only[go_sem,reduceIte,Nat.reduceEqDiff]) ?_
  refine Wp.exit ?_
  have W:=hK h4 nid t'.pg t'.ks t'.kids g4 k4 no4 ln4 nn5 lv'.wf.1 lv'.wf.2.1 hf ab
  refine Wp.le (aK.tm ?_) W
  exact xSb
 |succ L'=>
  obtain ⟨i,ks,us'⟩:=t'
  obtain ⟨us,hus⟩:∃us:List (Tr L'),us=us':=⟨us',rfl⟩
  subst hus
  have nn4:h4.objs nid=some (aC (au L' ks us)):=nn4
  have lv':Live s (L'+1) lo hi (mkT L' i ks us):=lv'
  obtain ⟨hr,hz,hw⟩:=lv'.wf
  have hw:bF (WF L') lo hi ks us:=hw
  have hr:right (au L' ks us)=true:=hr
  have hz:size (au L' ks us)≤1024:=hz
  obtain ⟨pa1,pa2,pa3⟩:=gu (key:=key) hr
  obtain ⟨u,hu,wu,-⟩:=hw.at pa3
  obtain ⟨cp1,cp2,cp3⟩:=iI hw hb _ pa3 pa1 pa2
  have hum:u∈us:=List.mem_of_getElem? hu
  have hpg:=gL (i:=i) (ks:=ks) hu
  have hnd:=lv'.nd
  have hst:=lv'.st
  rw[hpg] at hnd hst
  have hpr:aN (L'+1) (mkT L' i ks us)=((us.take (place (au L' ks us) key)).map (aN L')).flatten++(aN L' u++((us.drop (place (au L' ks us) key+1)).map (aN L')).flatten):=mW (f:=aN L') hu
  have lu:Live s L' (dK lo ks (place (au L' ks us) key)) (eU hi ks (place (au L' ks us) key)) u:=by
   refine ⟨(dR.1 lv'.on.2) u hum,wu,?_,fun j hj=>hst j (by simp[hj])⟩
   simp only[List.nodup_cons,List.nodup_append] at hnd
   exact hnd.2.2.1.1
  have hsm:=cb (L:=L'+1) (ks:=ks) (kids:=us) hr (by show size (au L' ks us)≤1355;omega)
  have cf:=w7 (key:=key) hr hsm.1
  have hul:us.length=ks.length+1:=hw.len
  have hfu:fx (aN L' u) key=fx (aN L t) key:=by
   rw[←hf]
   show _=fx (aN (L'+1) (mkT L' i ks us)) key
   rw[hpr,rW cp1 cp2]
  obtain ⟨hs5,hi5⟩:=lu.st u.pg (by simp[bc])
  have ot4:=(k4 tid ltt).trans g.ot
  have hd:d+(L'+1)≤9:=hd
  have hn2:=jP (tid:=tid) (i:=u.pg) (d:=d) g4 g.ok ot4 hi5 (by show stt s u.pg≠0;omega) hp ab lu.on.1.1
  rw[lu.on.1.2] at hn2
  generalize hJ:place (au L' ks us) key=J at*
  have x1:(0:Int)≤(J:Int):=by omega
  have x2:(J:Int)<((au L' ks us).kids.length:Int):=by simp[au];omega
  have hgo:(ints (au L' ks us).kids).getD J .any= .int .i64 (u.pg:Nat):=by
   have:(bK us)[J]? =some ((u.pg:Nat):Int):=by simp[bK,hu]
   show (ints (bK us)).getD J .any=_
   simp[ints,List.getD,this]
  have e3:IntKind.i64.wrap ((d:Int)+1)=((d+1:Nat):Int):=by rw[IntWalk.i64_in _ ab];rfl
  have hlf:(au L' ks us).leaf=false:=rfl
  unfold aC at nn4
  unfold aD at cf
  rw[hlf] at nn4 cf
  refine rf1 (cj3 nn4 h14 @Bool.not_false) cf ?_
  refine Wp.reg ?_
  refine ao.part 7 (xAd (cj7 h04 nn4 hgo x1 x2 @and_self @Int.toNat_natCast)) ?_
  simp only[List.drop_succ_cons,List.drop_zero,List.drop_nil]
  refine ao.aT (vals:=[.ptr tid 0,.int .i64 (u.pg:Nat),.int .i64 (d:Int)]) ae xA4 (fun j hj=>g4.ltn hj) hn2 (fun r h' ⟨e,g',k',no'⟩=>no') fun q h5 ⟨hq,g5,k5,no5⟩ n5 _=>?_
  subst hq
  have nn5:=(k5 nid lnid).trans nn4
  unfold aD
  refine ao.part 1 (xAe nn5) ?_
  simp only[List.drop_succ_cons,List.drop_zero,List.drop_nil]
  refine ao.nil ⟨by simp[bg,aS,apart,aV],?_⟩
  refine rf0 e3 ?_
  have q:∀j,j≠nid→(upd h5.objs nid (some (aC (bD L' u.ks u.kids))):Nat→Option Av.Obj) j=h5.objs j:=fun j hj=>by simp only[upd];rw[if_neg hj]
  refine ⟨(d+1,⟨L',u⟩,⟨upd h5.objs nid (some (aC (bD L' u.ks u.kids))),h5.n,h5.toks,h5.m⟩),⟨by simp only;omega,⟨_,_,lu,cp3⟩,hfu,?_,fun j hj=>(q j ab).trans ((k5 j ab).trans (k4 j hj)),aq.trans (aq.trans no4 no5 ln4 n5) (aq.set nn5) ab (Nat.le_refl _),by simp only;omega,by simp only;omega,by simp[upd]⟩,by show L'<L'+1;omega,aK.tm ?_⟩
  ·have:=dJ g.pg (j:=nid) ab
   exact g5.qg this ab _
  ·exact xSb
end
end Go.Proofs.YtbgmofhgfnmaiaaGreat.Tree
end
section
set_option maxRecDepth 100000
namespace Go.Proofs.YtbgmofhgfnmaiaaGreat.Tree
open Go Go.Av Go.Proofs Go.Proofs.YtbgmofhgfnmaiaaGreat.C Go.Proofs.YtbgmofhgfnmaiaaGreat.Page
open Go.Proofs.YtbgmofhgfnmaiaaGreat.Batch (Bs Pr prs aW)
section
variable {x:PgI} {s:PgS} {T:List Nat} {h:H}
theorem xb {ks vs:List Bs} {key:Bs} (hr:right (aB ks vs)=true) (hn:Nb (aB ks vs)):
  aZ Tryz.prog 42 [aD (aB ks vs),.str key] (.tup [.int .i64 (place (aB ks vs) key:Nat),.bool (bC (aB ks vs) key)]):=by
 have f:=nz (aB ks vs) hn key
 have e1:dP (aB ks vs) key=place (aB ks vs) key:=by unfold dP;rw[if_pos hr]
 rw[e1] at f
 exact f
theorem AF {tid b0 b1 b2:Nat} (g:PgH x s T h) (ot:h.objs tid=some (trO x (-1))) (h0:h.objs b0=some (.cells [.ptr tid 0])):
  ow x T s 40 [.ptr b0 0,.ptr b1 0,.ptr b2 0] h 7:=by
 have ot:h.objs tid=some (.cells [.ptr x.P 0,.int .i64 (-1)]):=ot
 have d3:decide ((-1:Int)<0)=true:=by decide
 obtain ⟨v,h',hc,hn,rfl,rfl⟩:=aU.pE (Q:=fun v h'=>v=kW 7∧h'=h) (args:=[.ptr b0 0,.ptr b1 0,.ptr b2 0]) (h:=h) f40 af (by
  unfold c40 zz
  refine Wp.seq (Wp.seq ?_)
  refine Wp.da (xAd (cj3 h0 ot d3)) ?_
  refine an.nil ?_
  refine Wp.cond_true (by simp only[go_sem,reduceIte,Nat.reduceEqDiff,Nat.reduceAdd,bx,d3]) ?_
  refine Wp.vL (bL.eval (dO xA1) ?_)
  refine bL.here (R:=fun v h'=>∃v',aQ.panic v= .panic v'∧v'=kW 7∧h'=h) (en:=aV) rfl (bO _) (fun ops i o ho hit=>fP ho hit rfl rfl rfl) (fun l hl=>by cases hl) ?_
  exact ⟨_,rfl,rfl,rfl⟩)
 exact ⟨_,hc,hn,g,fun _ _=>rfl,aq.refl _⟩
theorem CT {L tid b0 b1 b2 B:Nat} {t:Tr L} {key:Bs} (g:Ts x T tid s (some ⟨L,t⟩) B h) (h0:h.objs b0=some (.cells [.ptr tid 0])) (h1:h.objs b1=some (.cells [.str key])) (hL:L≤6) (hp:s.p.length<900000) (hf:fx (aN L t) key=none):
  ow x T s 40 [.ptr b0 0,.ptr b1 0,.ptr b2 0] h 7:=by
 have lt1:=g.pg.ltn (j:=b1) (by rw[h1];rfl)
 obtain ⟨v,h',hc,hn,rfl,hq⟩:=aU.pE (Q:=fun v h'=>v=kW 7∧PgH x s T h'∧Kept h h'∧aq h h') (args:=[.ptr b0 0,.ptr b1 0,.ptr b2 0]) (h:=h) f40 af (u6 g h0 h1 hL hp fun h4 nid i ks vs g4 k4 no4 ln4 nn4 hr hz hfl hnid=>by
  unfold c40 zz
  simp only[tlC]
  have hof:bC (aB ks vs) key=false:=by
   rw[rX hr,hf] at hfl
   split at hfl
   ·cases hfl
   ·rename_i hh;simpa using hh
  have hsm:=cb (L:=0) hr (by show size (aB ks vs)≤1355;omega)
  have cf:=xb (key:=key) hr hsm.1
  rw[hof] at cf
  have h14:=(k4 b1 lt1).trans h1
  unfold aC at nn4
  unfold aD at cf
  refine Wp.bw (xAd (cj2 nn4 h14)) ?_
  refine an.bW ae xA4 cf ?_
  refine an.evF xAc ?_
  refine an.nil ?_
  refine Wp.seq (Wp.seq ?_)
  refine Wp.da (xAd @Bool.not_false) ?_
  refine an.nil ?_
  refine Wp.cond_true (by simp only[go_sem,reduceIte,Nat.reduceEqDiff,Nat.reduceAdd,bx,Bool.not_false]) ?_
  refine Wp.vL (bL.eval (dO xA1) ?_)
  refine bL.here (R:=fun v h'=>∃v',aQ.panic v= .panic v'∧v'=kW 7∧PgH x s T h'∧Kept h h'∧aq h h') (en:=aV) rfl (bO _) (fun ops i o ho hit=>fP ho hit rfl rfl rfl) (fun l hl=>by cases hl) ?_
  exact ⟨_,rfl,rfl,g4,k4,no4⟩)
 exact ⟨_,hc,hn,hq⟩
theorem AG {L tid b0 b1 b2 B:Nat} {t:Tr L} {key:Bs} {p:Pr} (g:Ts x T tid s (some ⟨L,t⟩) B h) (h0:h.objs b0=some (.cells [.ptr tid 0])) (h1:h.objs b1=some (.cells [.str key])) (h2:h.objs b2=some (.cells [.str []])) (t2:Tid x b2) (hL:L≤6) (hp:s.p.length<900000) (hf:fx (aN L t) key=some p):
  aI Tryz.prog 40 [.ptr b0 0,.ptr b1 0,.ptr b2 0] h fun q h'=>PgH x s T h'∧(∀j,j<h.n→j≠b2→h'.objs j=h.objs j)∧aq h h'∧h'.objs b2=some (.cells [.str p.v])∧h.n≤h'.n:=by
 have lt1:=g.pg.ltn (j:=b1) (by rw[h1];rfl)
 have lt2:=g.pg.ltn (j:=b2) (by rw[h2];rfl)
 refine f40.bu af (u6 g h0 h1 hL hp fun h4 nid i ks vs g4 k4 no4 ln4 nn4 hr hz hfl hnid=>?_)
 unfold c40 zz
 simp only[tlC]
 rw[rX hr,hf] at hfl
 have hof:bC (aB ks vs) key=true:=by
  cases e:bC (aB ks vs) key with
  |true=>rfl
  |false=>rw[e] at hfl;simp at hfl
 rw[if_pos hof] at hfl
 obtain ⟨-,-,f1,f2,f3⟩:=dV hof
 have f1:place (aB ks vs) key<ks.length:=f1
 have f2:vs.length=ks.length:=f2
 have hsm:=cb (L:=0) hr (by show size (aB ks vs)≤1355;omega)
 have cf:=xb (key:=key) hr hsm.1
 rw[hof] at cf
 have h14:=(k4 b1 lt1).trans h1
 have h24:=(k4 b2 lt2).trans h2
 generalize place (aB ks vs) key=J at*
 have x1:(0:Int)≤(J:Int):=by omega
 have x2:(J:Int)<(((aB ks vs).vals.length:Nat):Int):=by simp[aB];omega
 have hgo:(strs (aB ks vs).vals).getD J .any= .str p.v:=by
  have e:p.v=vs.getD J []:=by rw[←Option.some.inj hfl]
  rw[e]
  show (strs vs).getD J .any=_
  simp[strs,List.getD,List.getElem?_eq_getElem (show J<vs.length by omega)]
 unfold aC at nn4
 unfold aD at cf
 refine rf1 (cj9 nn4 h14 h24 hgo x1 x2 @and_self @Bool.not_true @Int.toNat_natCast) cf ?_
 have q:∀j,j≠b2→(upd h4.objs b2 (some (.cells [.str p.v])):Nat→Option Av.Obj) j=h4.objs j:=fun j hj=>by simp only[upd];rw[if_neg hj]
 refine ⟨trivial,.tup [],by simp[de,rvs],g4.qg t2 ab _,fun j hj hn=>(q j hn).trans (k4 j hj),aq.trans no4 (aq.set h24) ln4 (Nat.le_refl _),by simp[upd],ln4⟩
def GK (x:PgI) (T:List Nat) (tid:Nat) (s:PgS) (R:Rt) (B:Nat) (h:H) (b:Nat) (key:Bs) (q:AV) (h':H):Prop:=fH x T tid s R B h h'∧∃v,h'.objs b=some (.cells [.str v])∧(match fx (aE R) key with|some p=>AV.tup [.str p.v,.int .i64 0]|none=> .tup [.str [],.int .i64 7])= .tup [.str v,q]∧aO q=true
set_option maxHeartbeats 1000000 in
theorem GL {tid B:Nat} {R:Rt} {key:Bs} (g:Ts x T tid s R B h) (hL:∀L t,R=some ⟨L,t⟩→L≤6) (hp:s.p.length<900000):
  aI Tryz.prog 14 [.ptr tid 0,.str key] h fun q h'=>fH x T tid s R B h h'∧q=(match fx (aE R) key with|some p=> .tup [.str p.v,.int .i64 0]|none=> .tup [.str [],.int .i64 7]):=by
 refine f14.bu af ?_
 unfold c14 zz
 have bb:=(((fH.refl g).new (.cells [.ptr tid 0])).new (.cells [.str key])).new (.cells [.str []])
 have lt:=g.lt
 have ln3:(H.new (H.new (H.new h (.cells [.ptr tid 0])) (.cells [.str key])) (.cells [.str []])).n=h.n+1+1+1:=rfl
 have e0:(H.new (H.new (H.new h (.cells [.ptr tid 0])) (.cells [.str key])) (.cells [.str []])).objs h.n=some (.cells [.ptr tid 0]):=(aL (Nat.lt_succ_of_lt (Nat.lt_succ_self _))).trans ((aL (Nat.lt_succ_self _)).trans bU)
 have e1:(H.new (H.new (H.new h (.cells [.ptr tid 0])) (.cells [.str key])) (.cells [.str []])).objs (h.n+1)=some (.cells [.str key]):=(aL (Nat.lt_succ_self _)).trans (bU (h:=H.new h (.cells [.ptr tid 0])))
 have e2:(H.new (H.new (H.new h (.cells [.ptr tid 0])) (.cells [.str key])) (.cells [.str []])).objs (h.n+1+1)=some (.cells [.str []]):=bU (h:=H.new (H.new h (.cells [.ptr tid 0])) (.cells [.str key]))
 refine Wp.bw (xAd @and_self) ?_
 refine an.nil ?_
 refine Wp.bw (xAd @and_self) ?_
 refine an.nil ?_
 rw[bn]
 refine Wp.le (s':=⟨tm [(2,.ptr h.n 0),(3,.ptr (h.n+1) 0),(6,.ptr (h.n+1+1) 0)],H.new (H.new (H.new h (.cells [.ptr tid 0])) (.cells [.str key])) (.cells [.str []])⟩) (aK.of (bp ?_) (OLe.refl _) (fun y hy=>hy) (Nat.le_refl _) (Nat.le_refl _)) ?_
 ·exact xSb
 generalize H.new (H.new (H.new h (.cells [.ptr tid 0])) (.cells [.str key])) (.cells [.str []])=h3 at*
 have key2:aI Tryz.prog 34 [.ptr tid 0,.clo (.func 40) [] [.ptr h.n 0,.ptr (h.n+1) 0,.ptr (h.n+1+1) 0]] h3 (GK x T tid s R B h (h.n+1+1) key):=by
  have give:ow x T s 40 [.ptr h.n 0,.ptr (h.n+1) 0,.ptr (h.n+1+1) 0] h3 7→fx (aE R) key=none→aI Tryz.prog 34 [.ptr tid 0,.clo (.func 40) [] [.ptr h.n 0,.ptr (h.n+1) 0,.ptr (h.n+1+1) 0]] h3 (GK x T tid s R B h (h.n+1+1) key):=by
   rintro ⟨h',hc,hn,g',k',no'⟩ hno
   refine (CN (Q:=fun h'=>PgH x s T h'∧Kept h3 h'∧aq h3 h'∧h3.n≤h'.n) (fT bb.ts) Tryz.func40 rfl (of_decide_eq_true (by kernel_rfl)) ⟨h',hc,hn.1,hn.2,g',k',no',hn.1⟩).mono ?_
   rintro q h' ⟨rfl,g',k',no',ln'⟩
   refine ⟨⟨bb.ts.keep g' (k' tid bb.ts.lt) (Nat.le_refl _),bb.sm.trans (eL.of (ed k')) bb.ln,aq.trans bb.no no' bb.ln ln',Nat.le_trans bb.ln ln',fun j hj=>(k' j ab).trans (bb.kp j hj)⟩,[],(k' _ ab).trans e2,?_,rfl⟩
   rw[hno]
  cases hR:fx (aE R) key with
  |none=>
   cases R with
   |none=>exact give (AF bb.ts.pg bb.ts.ot e0) rfl
   |some r=>
    obtain ⟨L,t⟩:=r
    exact give (CT bb.ts e0 e1 (hL L t rfl) hp hR) hR
  |some p=>
   cases R with
   |none=>cases hR
   |some r=>
    obtain ⟨L,t⟩:=r
    refine (uZ (fT bb.ts) Tryz.func40 rfl (of_decide_eq_true (by kernel_rfl)) (AG bb.ts e0 e1 e2 (dJ g.pg ab) (hL L t rfl) hp hR)).mono ?_
    rintro q h' ⟨rfl,r,g',k',no',hb,ln'⟩
    refine ⟨⟨bb.ts.keep g' (k' tid bb.ts.lt ab) (Nat.le_refl _),fun j hj a1 a2=>(k' j ab ab).trans (bb.kp j hj),aq.trans bb.no no' bb.ln ln',Nat.le_trans bb.ln ln',fun j hj=>(k' j ab ab).trans (bb.kp j hj)⟩,p.v,hb,?_,rfl⟩
    rw[hR]
 refine rf0 e0 ?_
 refine an.aT (vals:=[.ptr tid 0,.clo (.func 40) [] [.ptr h.n 0,.ptr (h.n+1) 0,.ptr (h.n+1+1) 0]]) ae xA4 key2 fun q h4 ⟨b4,v,hv,e,hqc⟩ n4 _=>?_
 rw[e]
 refine an.evF xAc ?_
 refine an.nil ?_
 refine rf0 hv ?_
 refine Wp.ret ?_
 refine ⟨trivial,.tup [.str v,q],?_,b4,rfl⟩
 simp only[go_sem]
 exact rfl
end
end Go.Proofs.YtbgmofhgfnmaiaaGreat.Tree
end
section
set_option maxRecDepth 100000
namespace Go.Av
section
variable {P:Program} {N:Nat}
theorem ao.FB {dst:Option Nat} {g:Option (Nat × Bool)} {f:FuncId} {fn:Func} {y:Opd} {l:List Opd} {its:List aP} {t:Tm} {h:H} {log:List Ent} {K:Tm→H→List Ent→Prop} {first caps vals:List AV} {Q:AV→H→Prop}
  (hg:guardOf t g=some true) (hy:ev t y= .clo (.func f) first caps) (hf:P.funcs[f]? =some fn) (hb:fn.body.isSome=true) (hn:fn.name≠ "runtime.NumGoroutine") (hs:ay (first++l.map (ev t)++caps) vals)
  (hl:∀j,(h.objs j).isSome=true→j<h.n) (hc:aI P f vals h Q) (no:∀r h',Q r h'→aq h h')
  (rest:∀r h',Q r h'→h.n≤h'.n→h.m≤h'.m→ao P N its (cg t dst r) h' (⟨[],List.range h'.n,h.toks++h'.toks⟩::log) K):ao P N (⟨dst,g,.callv y l⟩::its) t h log K:=by
 obtain ⟨r,h',hc,n1,m1,hq⟩:=hc
 exact ao.step (gl hl n1 m1 (no r h' hq)) (fun ops i o ho hit=>iC ho hit hg rfl hy hf hb hn hs hc) (fun h=>by simp[cy] at h) (rest r h' hq n1 m1)
end
end Go.Av
namespace Go.Proofs.YtbgmofhgfnmaiaaGreat.Tree
open Go Go.Av Go.Proofs Go.Proofs.YtbgmofhgfnmaiaaGreat.C Go.Proofs.YtbgmofhgfnmaiaaGreat.Page
open Go.Proofs.YtbgmofhgfnmaiaaGreat.Batch (Bs Pr prs aW)
def ik (to:Bs) (p:Pr):Bool:= !decide (to=[])&& !Op.bytesLess p.k to
def dT (to:Bs) (most:Int):List Pr→List Pr→List Pr × Bool
 |[],acc=>(acc,true)
 |p::l,acc=>if ik to p=true then (acc,false) else if ((acc.length+1:Nat):Int)=most then (acc++[p],false) else dT to most l (acc++[p])
theorem qi (to:Bs) (most:Int):∀(a b acc:List Pr),dT to most (a++b) acc=if (dT to most a acc).2=true then dT to most b (dT to most a acc).1 else dT to most a acc
 |[],b,acc=>by simp[dT]
 |p::a,b,acc=>by
  simp only[List.cons_append,dT]
  split
  ·simp
  ·split
   ·simp
   ·exact qi to most a b (acc++[p])
theorem qj (to:Bs) (most:Int):∀(l acc:List Pr),(dT to most l acc).1.length≤acc.length+l.length
 |[],acc=>by simp[dT]
 |p::l,acc=>by
  simp only[dT]
  split
  ·simp only[List.length_cons];omega
  ·split
   ·simp
   ·have:=qj to most l (acc++[p])
    simp at this ⊢
    omega
structure Sc (x:PgI) (s:PgS) (T:List Nat) (h0:H) (bo:Nat) (acc:List Pr) (h:H):Prop where
 pg:∃tk,PgH x s (tkT tk T) h∧h.objs bo=some (.cells [.sl 2 (prs acc) (tkC tk)])∧(tk=none→acc=[])∧∀t,tk=some t→t∉T
 kp:∀j,j<h0.n→j≠bo→h.objs j=h0.objs j
 no:aq h0 h
 ln:h0.n≤h.n
theorem Sc.fresh {x:PgI} {s:PgS} {T:List Nat} {h0 h:H} {bo:Nat} {acc:List Pr} (g:Sc x s T h0 bo acc h):∀j,(h.objs j).isSome=true→j<h.n:=by
 obtain ⟨tk,g,-⟩:=g.pg
 exact fun j hj=>g.ltn hj
def ly (bo:Nat) (h h':H):Prop:=∀j,j<h.n→j≠bo→h'.objs j=h.objs j
theorem PgH.grow {x:PgI} {s:PgS} {T T1:List Nat} {h:H} (g:PgH x s T1 h) {bo:Nat} (tb:Tid x bo) (hb:bo<h.n) (hT:∀t∈T,t∈T1) (o:Av.Obj):PgH x s (h.m::T) ⟨upd h.objs bo (some o),h.n,tkT s.tk (h.m::T),h.m+1⟩:=by
 have g2:=g.qg tb hb o
 exact {
  oP:=g2.oP,oA:=g2.oA,oU:=g2.oU,oD:=g2.oD,oK:=g2.oK,oI:=g2.oI,lt:=g2.lt,ne:=g2.ne,fresh:=g2.fresh,toks:=rfl
  tm:=fun t ht=>by
   rcases List.mem_cons.1 ht with rfl|ht
   ·exact Nat.lt_succ_self _
   ·exact Nat.lt_succ_of_lt (g.tm t (hT t ht))
  tkm:=fun t e=>⟨Nat.lt_succ_of_lt (g.tkm t e).1,fun a=>by
   rcases List.mem_cons.1 a with rfl|a
   ·exact Nat.lt_irrefl _ (g.tkm _ e).1
   ·exact (g.tkm t e).2 (hT t a)⟩
  tk0:=g.tk0}
section
variable {x:PgI} {s:PgS} {T:List Nat} {h0 h:H}
set_option maxHeartbeats 1000000 in
theorem Es {bo bt bm:Nat} {acc:List Pr} {to:Bs} {most:Int} {p:Pr} (g:Sc x s T h0 bo acc h) (tb:Tid x bo) (hbo:bo<h0.n) (ht:h0.objs bt=some (.cells [.str to])) (hm:h0.objs bm=some (.cells [.int .i64 most])) (l1:bt<h0.n) (l2:bm<h0.n) (n1:bt≠bo) (n2:bm≠bo) (hl:acc.length≤1000000):
  aI Tryz.prog 39 [aW p,.ptr bt 0,.ptr bo 0,.ptr bm 0] h fun q h'=>q= .bool (dT to most [p] acc).2∧Sc x s T h0 bo (dT to most [p] acc).1 h'∧aq h h'∧ly bo h h':=by
 refine f39.bu af ?_
 unfold c39 zz
 obtain ⟨tk,pg,hb,hz,hT⟩:=g.pg
 have ht1:=(g.kp bt l1 n1).trans ht
 have hm1:=(g.kp bm l2 n2).trans hm
 have kp:=g.kp
 have no:=g.no
 have ln:=g.ln
 have hbl:bo<h.n:=by omega
 have nb:h.n≠bo:=by omega
 have e0:=bU (h:=h) (o:= .cells [.str p.k,.str p.v])
 have pg1:=pg.new (.cells [.str p.k,.str p.v])
 have hb1:=(aL (h:=h) (o:= .cells [.str p.k,.str p.v]) hbl).trans hb
 have ht2:=(aL (h:=h) (o:= .cells [.str p.k,.str p.v]) (show bt<h.n by omega)).trans ht1
 have hm2:=(aL (h:=h) (o:= .cells [.str p.k,.str p.v]) (show bm<h.n by omega)).trans hm1
 have kp1:∀j,j<h0.n→j≠bo→(H.new h (.cells [.str p.k,.str p.v])).objs j=h0.objs j:=fun j a b=>(aL ab).trans (kp j a b)
 have no1:aq h0 (H.new h (.cells [.str p.k,.str p.v])):=aq.trans no bN ln (Nat.le_succ _)
 have no2:aq h (H.new h (.cells [.str p.k,.str p.v])):=bN
 have ln1:h0.n≤(H.new h (.cells [.str p.k,.str p.v])).n:=Nat.le_succ_of_le ln
 have hn1:(H.new h (.cells [.str p.k,.str p.v])).n=h.n+1:=rfl
 have kb1:ly bo h (H.new h (.cells [.str p.k,.str p.v])):=fun j a _=>aL a
 refine Wp.seq ?_
 refine Wp.da (xAd @aW.eq_1) ?_
 refine an.nil ?_
 refine Wp.le (s':=⟨tm [(1,.ptr bt 0),(2,.ptr bo 0),(3,.ptr bm 0),(4,.ptr h.n 0)],H.new h (.cells [.str p.k,.str p.v])⟩) (aK.of (bp ?_) (OLe.refl _) (fun y hy=>hy) (Nat.le_refl _) (Nat.le_refl _)) ?_
 ·exact xSb
 generalize H.new h (.cells [.str p.k,.str p.v])=h1 at*
 by_cases hs:ik to p=true
 ·have er:dT to most [p] acc=(acc,false):=by simp only[dT];rw[if_pos hs]
  rw[er]
  have d1:decide (to=[])=false:=by
   simp only[ik,Bool.and_eq_true,Bool.not_eq_true'] at hs;exact hs.1
  have d2:Op.bytesLess p.k to=false:=by
   simp only[ik,Bool.and_eq_true,Bool.not_eq_true'] at hs;exact hs.2
  refine rf0 (cj5 ht2 e0 d1 d2 @Bool.not_false) ?_
  refine Wp.ret ⟨trivial,.bool false,?_,rfl,⟨⟨tk,pg1,hb1,hz,hT⟩,kp1,no1,ln1⟩,no2,kb1⟩
  simp only[go_sem]
  exact rfl
 ·have hs:ik to p=false:=by simpa using hs
  have er:dT to most [p] acc=(acc++[p],decide (¬(((acc.length+1:Nat):Int)=most))):=by
   simp only[dT,hs,Bool.false_eq_true,if_false]
   split<;>simp_all
  rw[er]
  refine Wp.ud [1,2,3,4] xA7 [] ?_ ?_
  ·show Wp _ _ _ _ _
   by_cases d:to=[]
   ·have d1:=decide_eq_true d
    refine rf0 (cj3 ht2 e0 d1) ?_
    refine aK.tm ?_
    exact xSb
   ·have d1:=decide_eq_false d
    have d2:Op.bytesLess p.k to=true:=by
     simp only[ik,d1,Bool.not_false,Bool.true_and,Bool.not_eq_false'] at hs;exact hs
    refine rf0 (cj5 ht2 e0 d1 d2 @Bool.not_true) ?_
    refine aK.tm ?_
    exact xSb
  have er2:prs (acc++[p])=prs acc++[.agg [.str p.k,.str p.v]]:=by simp[prs,aW]
  have hll:(prs acc).length=acc.length:=by simp[prs]
  have r1:(acc.length+1)*32≤140737488355328:=by omega
  have r2:acc.length+1<4611686018427387904:=by omega
  cases tk with
  |none=>
   obtain rfl:=hz rfl
   replace hb1:h1.objs bo=some (.cells [.sl 2 [] (.exact 0)]):=hb1
   simp only[List.append_nil]
   have r4:(1:Nat)<4611686018427387904:=by decide
   refine rf0 (cP hb1 e0 r4 @true_or @or_true @and_self @List.nil_append.{0} @List.length_nil.{0} @List.length_cons.{0} @Nat.zero_add hm2 n2) ?_
   refine Wp.le (s':=⟨tm [(5,.bool (!decide (((0+1:Nat):Int)=most)))],⟨upd h1.objs bo (some (.cells [.sl 2 [.agg [.str p.k,.str p.v]] (.own h1.m)])),h1.n,tkT s.tk (h1.m::T),h1.m+1⟩⟩) (aK.of (bp ?_) (OLe.refl _) (fun y hy=>?_) (Nat.le_refl _) (Nat.le_refl _)) ?_
   ·exact xSb
   ·simp only[pg1.toks]
    simp only[tkT] at hy ⊢
    cases hk:s.tk<;>rw[hk] at hy<;>simp only[List.mem_cons] at hy ⊢ <;>grind
   refine Wp.ret ⟨trivial,.bool (!decide (((0+1:Nat):Int)=most)),?_,?_,⟨⟨some h1.m,pg1.grow tb ab (fun t h=>h) _,?_,fun e=>(by cases e),fun t e a=>?_⟩,fun j a b=>?_,?_,ln1⟩,?_,fun j a b=>?_⟩
   ·simp only[go_sem]
    exact rfl
   ·simp
   ·simp[upd,prs,aW,tkC]
   ·cases e;exact absurd (pg1.tm _ a) (Nat.lt_irrefl _)
   ·simp only[upd];rw[if_neg b];exact kp1 j a b
   ·exact aq.trans no1 (aq.set hb1) ln1 (Nat.le_refl _)
   ·exact aq.trans no2 (aq.set hb1) ab (Nat.le_refl _)
   ·simp only[upd];rw[if_neg b];exact kb1 j a b
  |some t=>
   replace hb1:h1.objs bo=some (.cells [.sl 2 (prs acc) (.own t)]):=hb1
   have htok:=pg1.toks
   have hmem:t∈h1.toks:=by
    rw[htok]
    unfold tkT
    cases s.tk<;>simp
   simp only[List.append_nil]
   refine rf0 (cP hb1 e0 hmem hll r1 r2 @List.length_nil.{0} @List.length_cons.{0} @Nat.zero_add hm2 n2 @List.length_append.{0}) ?_
   refine Wp.le (s':=⟨tm [(5,.bool (!decide (((acc.length+1:Nat):Int)=most)))],⟨upd h1.objs bo (some (.cells [.sl 2 (prs acc++[.agg [.str p.k,.str p.v]]) (.own h1.m)])),h1.n,tkT s.tk (h1.m::T),h1.m+1⟩⟩) (aK.of (bp ?_) (OLe.refl _) (fun y hy=>?_) (Nat.le_refl _) (Nat.le_refl _)) ?_
   ·exact xSb
   ·have hT:=hT t rfl
    have hk:=pg1.tkm
    simp only[pg1.toks]
    simp only[tkT] at hy hk ⊢
    cases hq:s.tk with
    |none=>
     rw[hq] at hy
     simp at hy ⊢
     rcases hy with rfl|hy
     ·exact .inl rfl
     ·right;grind
    |some k=>
     rw[hq] at hy
     have:=(hk k hq).2
     simp at hy this ⊢
     rcases hy with rfl|rfl|hy
     ·right;grind
     ·exact .inl rfl
     ·right;grind
   refine Wp.ret ⟨trivial,.bool (!decide (((acc.length+1:Nat):Int)=most)),?_,?_,⟨⟨some h1.m,pg1.grow tb ab (fun t h=>List.mem_cons_of_mem _ h) _,?_,fun e=>(by cases e),fun t e a=>?_⟩,fun j a b=>?_,?_,ln1⟩,?_,fun j a b=>?_⟩
   ·simp only[go_sem]
    exact rfl
   ·simp
   ·simp[upd,prs,aW,tkC]
   ·cases e;exact absurd (pg1.tm _ (List.mem_cons_of_mem _ a)) (Nat.lt_irrefl _)
   ·simp only[upd];rw[if_neg b];exact kp1 j a b
   ·exact aq.trans no1 (aq.set hb1) ln1 (Nat.le_refl _)
   ·exact aq.trans no2 (aq.set hb1) ab (Nat.le_refl _)
   ·simp only[upd];rw[if_neg b];exact kb1 j a b
end
end Go.Proofs.YtbgmofhgfnmaiaaGreat.Tree
end
section
set_option maxRecDepth 100000
namespace Go.Proofs.YtbgmofhgfnmaiaaGreat.Tree
open Go Go.Av Go.Proofs Go.Proofs.YtbgmofhgfnmaiaaGreat.C Go.Proofs.YtbgmofhgfnmaiaaGreat.Page
open Go.Proofs.YtbgmofhgfnmaiaaGreat.Batch (Bs Pr prs aW)
structure iJ (s:PgS) (L:Nat) (lo:Bs) (hi:Option Bs) (t:Tr L):Prop where
 on:On s L t
 wf:WF L lo hi t
 nd:(bc L t).Nodup
 st:∀j∈bc L t,stt s j≠0∧j<s.np
structure Ts0 (x:PgI) (T:List Nat) (tid:Nat) (s:PgS) (R:Rt) (h:H):Prop where
 pg:PgH x s T h
 ok:cd s
 ot:h.objs tid=some (trO x (rpg R))
 tx:Tid x tid
 rk:∀L t,R=some ⟨L,t⟩→iJ s L [] none t
structure iQ (x:PgI) (T:List Nat) (tid:Nat) (s:PgS) (R:Rt) (h h1:H):Prop where
 ts:Ts0 x T tid s R h1
 no:aq h h1
 ln:h.n≤h1.n
 kp:∀j,j<h.n→h1.objs j=h.objs j
section
variable {x:PgI} {s:PgS} {T:List Nat} {h h1:H} {tid B:Nat} {R:Rt}
theorem Ts.z (g:Ts x T tid s R B h):Ts0 x T tid s R h:=⟨g.pg,g.ok,g.ot,g.tx,fun L t e=>by
 subst e
 have k:=g.rk.1
 exact ⟨k.on,k.wf,k.nd,fun j hj=>⟨by have:=(k.st j hj).1;omega,(k.st j hj).2⟩⟩⟩
theorem Ts0.lt (g:Ts0 x T tid s R h):tid<h.n:=g.pg.ltn (by rw[g.ot];rfl)
theorem Ts0.keep (g:Ts0 x T tid s R h) (pg:PgH x s T h1) (k:h1.objs tid=h.objs tid):Ts0 x T tid s R h1:=⟨pg,g.ok,k.trans g.ot,g.tx,g.rk⟩
theorem Ts0.op (g:Ts0 x T tid s R h):oi h tid:=⟨_,_,_,g.ot⟩
theorem iQ.refl (g:Ts0 x T tid s R h):iQ x T tid s R h h:=⟨g,aq.refl h,Nat.le_refl _,fun _ _=>rfl⟩
theorem iQ.new (b:iQ x T tid s R h h1) (o:Av.Obj):iQ x T tid s R h (H.new h1 o):=
 ⟨b.ts.keep (b.ts.pg.new o) (aL b.ts.lt),aq.trans b.no bN b.ln (Nat.le_succ _),Nat.le_succ_of_le b.ln,fun j hj=>(aL (Nat.lt_of_lt_of_le hj b.ln)).trans (b.kp j hj)⟩
theorem fH.of (g:Ts x T tid s R B h) (b:iQ x T tid s R h h1):fH x T tid s R B h h1:=⟨g.keep b.ts.pg (b.kp tid g.lt) (Nat.le_refl _),fun j hj _ _=>b.kp j hj,b.no,b.ln,b.kp⟩
end
end Go.Proofs.YtbgmofhgfnmaiaaGreat.Tree
end
section
set_option maxRecDepth 100000
namespace Go.Proofs.YtbgmofhgfnmaiaaGreat.Tree
open Go Go.Av Go.Proofs Go.Proofs.YtbgmofhgfnmaiaaGreat.C Go.Proofs.YtbgmofhgfnmaiaaGreat.Page
open Go.Proofs.YtbgmofhgfnmaiaaGreat.Batch (Bs Pr prs aW)
def dA (key:Bs) (l:List Pr):List Pr:=l.filter fun p=> !Op.bytesLess p.k key
theorem ql (key:Bs) (a b:List Pr):dA key (a++b)=dA key a++dA key b:=List.filter_append ..
theorem yk {key:Bs} {l:List Pr} (h:∀p∈l,Lt p.k key):dA key l=[]:=gJ fun p hp=>by simp[h p hp]
theorem CU {key:Bs} {l:List Pr} (h:∀p∈l,Le key p.k):dA key l=l:=filter_all fun p hp=>by
 have:=h p hp
 simpa using this
theorem AH {ks vs:List Bs} {key:Bs} (h:right (aB ks vs)=true):dA key (List.zipWith Pr.mk ks vs)=(List.zipWith Pr.mk ks vs).drop (place (aB ks vs) key):=by
 obtain ⟨p1,p2,p3⟩:=jq h key
 generalize place (aB ks vs) key=i at*
 rw[mY ks vs i,ql,yk fun p hp=>p1 _ (eC hp),CU fun p hp=>p2 _ (eC hp),←mY ks vs i,List.drop_zipWith]
 rfl
theorem u7 {L:Nat} {lo:Bs} {hi:Option Bs} {ks:List Bs} {us:List (Tr L)} {key:Bs} (h:bF (WF L) lo hi ks us) (j:Nat) (hj:j≤ks.length) (h1:∀k∈ks.take j,Le k key):∀p∈((us.take j).map (aN L)).flatten,Lt p.k key:=by
 cases j with
 |zero=>simp
 |succ i=>
  have e:ks=ks.take i++ks[i]::ks.drop (i+1):=by rw[←List.drop_eq_getElem_cons ab,List.take_append_drop]
  have c:=h
  rw[e,←List.take_append_drop (i+1) us] at c
  have hl:=h.len
  obtain ⟨c1,-⟩:=c.cut ak
  intro p hp
  have q:=(kx (jo L) c1).1 p hp
  exact uQ (q.2 _ rfl) (h1 _ (oR _ (Nat.lt_succ_self _)))
section
variable {x:PgI} {s:PgS} {T:List Nat} {h0 h:H} {bo:Nat} {acc:List Pr}
theorem Sc.new (g:Sc x s T h0 bo acc h) (hbo:bo<h0.n) (o:Av.Obj):Sc x s T h0 bo acc (H.new h o):=by
 obtain ⟨tk,pg,a,b,c⟩:=g.pg
 have ln:=g.ln
 exact ⟨⟨tk,pg.new o,(aL ab).trans a,b,c⟩,fun j hj hb=>(aL ab).trans (g.kp j hj hb),aq.trans g.no bN g.ln (Nat.le_succ _),Nat.le_succ_of_le g.ln⟩
theorem CV {L tid d:Nat} {r:Int} {lo:Bs} {hi:Option Bs} {t:Tr L} (g:Sc x s T h0 bo acc h) (hbo:bo<h0.n) (ok:cd s) (ht:h0.objs tid=some (trO x r)) (l1:tid<h0.n) (n1:tid≠bo) (lv:iJ s L lo hi t) (hp:s.p.length<900000) (hd:d≤20):
  aI Tryz.prog 41 [.ptr tid 0,.int .i64 (t.pg:Nat),.int .i64 (d:Int)] h fun q h'=>q=aD (bD L t.ks t.kids)∧Sc x s T h0 bo acc h'∧Kept h h'∧aq h h'∧h.n≤h'.n:=by
 obtain ⟨tk,pg,a,b,c⟩:=g.pg
 obtain ⟨hs,hi'⟩:=lv.st t.pg (by simp[bc])
 have ln:=g.ln
 have hnd:=jP (tid:=tid) (i:=t.pg) (d:=d) pg ok ((g.kp tid l1 n1).trans ht) hi' (by show stt s t.pg≠0;omega) hp hd lv.on.1.1
 rw[lv.on.1.2] at hnd
 obtain ⟨q,h',hc,hn,hm,e,g',k',no'⟩:=hnd
 exact ⟨q,h',hc,hn,hm,e,⟨⟨tk,g',(k' bo ab).trans a,b,c⟩,fun j hj hb=>(k' j ab).trans (g.kp j hj hb),aq.trans g.no no' g.ln hn,ab⟩,k',no',hn⟩
def lZ (bt bo bm:Nat):AV:= .clo (.func 39) [] [.ptr bt 0,.ptr bo 0,.ptr bm 0]
set_option maxHeartbeats 2000000 in
theorem AI {tid bt bm d:Nat} {r:Int} {lo key to:Bs} {hi:Option Bs} {most:Int} {t:Tr 0} (g:Sc x s T h0 bo acc h) (ok:cd s) (tb:Tid x bo) (hbo:bo<h0.n) (hi':h0.objs tid=some (trO x r)) (l0:tid<h0.n) (n0:tid≠bo) (ht:h0.objs bt=some (.cells [.str to])) (hm:h0.objs bm=some (.cells [.int .i64 most])) (l1:bt<h0.n) (l2:bm<h0.n) (n1:bt≠bo) (n2:bm≠bo)
  (lv:iJ s 0 lo hi t) (hl:acc.length+(aN 0 t).length≤1000000) (hp:s.p.length<900000) (hd:d≤20):
  aI Tryz.prog 38 [.ptr tid 0,.int .i64 (t.pg:Nat),.int .i64 (d:Int),.str key,lZ bt bo bm] h fun q h'=>q= .bool (dT to most (dA key (aN 0 t)) acc).2∧Sc x s T h0 bo (dT to most (dA key (aN 0 t)) acc).1 h'∧aq h h'∧ly bo h h':=by
 have hnd:=CV g hbo ok hi' l0 n0 lv hp hd
 obtain ⟨i,ks,vs'⟩:=t
 obtain ⟨vs,hvs⟩:∃vs:List Bs,vs=vs':=⟨vs',rfl⟩
 subst hvs
 obtain ⟨hr,hz,h3,h4⟩:=lv.wf
 have hr:right (aB ks vs)=true:=hr
 have hz:size (aB ks vs)≤1024:=hz
 have hnd:aI Tryz.prog 41 [.ptr tid 0,.int .i64 (i:Nat),.int .i64 (d:Int)] h fun q h'=>q=aD (aB ks vs)∧Sc x s T h0 bo acc h'∧Kept h h'∧aq h h'∧h.n≤h'.n:=hnd
 have hsm:=cb (L:=0) hr (by show size (aB ks vs)≤1355;omega)
 have cf:=xb (key:=key) hr hsm.1
 have hpr:aN 0 (⟨i,ks,vs⟩:Nd Bs)=List.zipWith Pr.mk ks vs:=rfl
 obtain ⟨r1,r2,-⟩:=(bq (n:=aB ks vs) rfl).1 hr
 have r2:vs.length=ks.length:=r2
 have hfr:=AH (key:=key) hr
 obtain ⟨-,-,p3⟩:=jq hr key
 show aI _ _ _ _ fun q h'=>q= .bool (dT to most (dA key (List.zipWith Pr.mk ks vs)) acc).2∧Sc x s T h0 bo (dT to most (dA key (List.zipWith Pr.mk ks vs)) acc).1 h'∧aq h h'∧ly bo h h'
 have hl:acc.length+(List.zipWith Pr.mk ks vs).length≤1000000:=hl
 have hzl:(List.zipWith Pr.mk ks vs).length=ks.length:=by simp[r2]
 rw[hfr]
 refine f38.bu af ?_
 unfold c38 zz
 obtain ⟨yf,hyf⟩:∃yf,yf=lZ bt bo bm:=⟨_,rfl⟩
 rw[←hyf]
 refine rf0 @and_self ?_
 refine an.aT (vals:=[.ptr tid 0,.int .i64 (i:Int),.int .i64 (d:Int)]) ae xA4 hnd fun q h2 ⟨hq,g2,k2,no2,ln2⟩ nq _=>?_
 subst hq
 unfold aD
 refine an.evF xAc ?_
 rw[bn]
 refine an.nil ?_
 have g3:=g2.new hbo (aC (aB ks vs))
 have no3:aq h (H.new h2 (aC (aB ks vs))):=aq.trans no2 bN ln2 (Nat.le_succ _)
 have nn3:=bU (h:=h2) (o:=aC (aB ks vs))
 have ln3:(H.new h2 (aC (aB ks vs))).n=h2.n+1:=rfl
 refine Wp.le (s':=⟨tm [(0,.ptr tid 0),(2,.int .i64 (d:Int)),(3,.str key),(4,yf),(11,.ptr h2.n 0)],H.new h2 (aC (aB ks vs))⟩) (aK.of (bp ?_) (OLe.refl _) (fun y hy=>hy) (Nat.le_refl _) (Nat.le_refl _)) ?_
 ·exact xSb
 have ko3:∀j,j<h2.n→(H.new h2 (aC (aB ks vs))).objs j=h2.objs j:=fun j hj=>aL hj
 generalize H.new h2 (aC (aB ks vs))=h3' at*
 have kb3:ly bo h h3':=fun j a b=>(ko3 j ab).trans (k2 j a)
 unfold aD at cf
 unfold aC at nn3
 refine rf1 nn3 cf ?_
 generalize hJ:place (aB ks vs) key=J at*
 have nnb:h2.n≠bo:=by have:=g.ln;omega
 generalize hnid:h2.n=nid at*
 clear cf hnd hfr
 obtain ⟨Z,hZ⟩:∃Z,Z=List.zipWith Pr.mk ks vs:=⟨_,rfl⟩
 rw[←hZ] at hl hzl ⊢
 refine Wp.eH [4,11] xA7 (fun b:Nat × List Pr × H=>[(16,.int .i64 (b.1:Int))]) (fun b=>b.2.2) (fun b=>b.1≤ks.length∧Sc x s T h0 bo b.2.1 b.2.2∧dT to most (Z.drop b.1) b.2.1=dT to most (Z.drop J) acc∧aq h b.2.2∧ly bo h b.2.2∧nid<b.2.2.n∧h.n≤b.2.2.n∧b.2.2.objs nid=some (aC (aB ks vs))∧b.2.1.length+(Z.drop b.1).length≤1000000) (fun b=>ks.length - b.1) (J,acc,h3') ⟨p3,g3,rfl,no3,kb3,by simp only;omega,by simp only;omega,nn3,by simp only[List.length_drop];omega⟩ rfl ?_ ?_
 ·exact xSb
 clear g3 no3 nn3 kb3 g2
 rintro ⟨k,ac,h4⟩ ⟨hk,g4,hrun,no4,kb4,ln4,lm4,nn4,ll4⟩
 simp only at hk g4 hrun no4 kb4 ln4 lm4 nn4 ll4
 have hkl:(strs (aB ks vs).keys).length=ks.length:=by simp[aB,strs]
 unfold aC at nn4
 by_cases hc:k<ks.length
 ·have x1:(0:Int)≤(k:Int):=by omega
  have x2:(k:Int)<(((aB ks vs).keys.length:Nat):Int):=by simp[aB];omega
  have x3:(k:Int)<(((aB ks vs).vals.length:Nat):Int):=by simp[aB];omega
  have dk:=decide_eq_true x2
  have hgk:(strs (aB ks vs).keys).getD k .any= .str ks[k]:=by
   show (strs ks).getD k .any=_
   simp[strs,List.getD,List.getElem?_eq_getElem hc]
  have hgv:(strs (aB ks vs).vals).getD k .any= .str (vs[k]'(by omega)):=by
   show (strs vs).getD k .any=_
   simp[strs,List.getD,List.getElem?_eq_getElem (show k<vs.length by omega)]
  have hZk:Z.drop k=⟨ks[k],vs[k]'(by omega)⟩::Z.drop (k+1):=by
   rw[List.drop_eq_getElem_cons ab]
   congr 1
   simp[hZ]
  generalize ks[k]=K0 at*
  generalize vs[k]'(by omega)=V0 at*
  rw[hZk] at hrun ll4
  simp only[List.length_cons] at ll4
  have hy:=Es (p:=⟨K0,V0⟩) g4 tb hbo ht hm l1 l2 n1 n2 ab
  have happ:=qi to most [⟨K0,V0⟩] (Z.drop (k+1)) ac
  rw[List.singleton_append,hrun] at happ
  have hlen:=qj to most [⟨K0,V0⟩] ac
  simp only[List.length_singleton] at hlen
  generalize dT to most [⟨K0,V0⟩] ac=rs at*
  generalize hZ2:Z.drop (k+1)=Zk at*
  have nn5:=nn4
  refine rf0 (cj2 nn4 dk) ?_
  refine Wp.reg ?_
  refine ao.part 12 (xAd (cj8 nn4 hgk hgv x1 x2 x3 @and_self @Int.toNat_natCast)) ?_
  simp only[List.drop_succ_cons,List.drop_zero,List.drop_nil]
  refine ao.FB (f:=39) (first:=[]) (caps:=[.ptr bt 0,.ptr bo 0,.ptr bm 0]) (vals:=[aW ⟨K0,V0⟩,.ptr bt 0,.ptr bo 0,.ptr bm 0]) ae (by simp only[go_sem,reduceIte,Nat.reduceEqDiff,hyf,lZ]) Tryz.func39 rfl (of_decide_eq_true (by kernel_rfl)) (by simp only[go_sem,reduceIte,Nat.reduceEqDiff,List.map,List.nil_append,List.cons_append];exact ay.refl _) g4.fresh hy (fun r h' ⟨e,g',no',kb'⟩=>no') fun q h5 ⟨e5,g5,no5,kb5⟩ n5 _=>?_
  subst e5
  have nn6:=(kb5 nid ln4 nnb).trans nn5
  refine ao.part 1 xA1 ?_
  simp only[List.drop_succ_cons,List.drop_zero,List.drop_nil]
  refine ao.nil ⟨by simp[bg,aS,apart,aV],?_⟩
  cases hb:rs.2 with
  |false=>
   rw[hb] at happ
   simp only[Bool.false_eq_true,if_false] at happ
   refine rf0 @Bool.not_false ?_
   rw[happ]
   refine Wp.ret ⟨trivial,.bool false,?_,by rw[hb],g5,aq.trans no4 no5 ab ab,fun j a b=>(kb5 j ab b).trans (kb4 j a b)⟩
   simp only[go_sem]
   exact rfl
  |true=>
   rw[hb] at happ
   simp only[if_true] at happ
   have e3:IntKind.i64.wrap ((k:Int)+1)=((k+1:Nat):Int):=by rw[IntWalk.i64_in _ ab];rfl
   refine rf0 (cj2 @Bool.not_true e3) ?_
   refine ⟨(k+1,rs.1,h5),⟨by simp only;omega,g5,by simp only;rw[hZ2];exact happ.symm,aq.trans no4 no5 ab ab,fun j a b=>(kb5 j ab b).trans (kb4 j a b),by simp only;omega,by simp only;omega,nn6,by simp only;rw[hZ2];omega⟩,by simp only;omega,aK.tm ?_⟩
   exact xSb
 ·have dk:decide ((k:Int)<(((aB ks vs).keys.length:Nat):Int))=false:=decide_eq_false (by simp[aB];omega)
  have he:Z.drop k=[]:=List.drop_eq_nil_of_le ab
  rw[he] at hrun
  rw[←hrun]
  refine rf0 (cj2 nn4 dk) ?_
  refine Wp.ret ⟨trivial,.bool true,?_,rfl,g4,no4,kb4⟩
  simp only[go_sem]
  exact rfl
set_option maxHeartbeats 2000000 in
theorem CW:∀(L:Nat) (t:Tr L) (lo:Bs) (hi:Option Bs) (h:H) (acc:List Pr) (d:Nat) {tid bt bm:Nat} {r:Int} {key to:Bs} {most:Int},Sc x s T h0 bo acc h→cd s→Tid x bo→bo<h0.n→h0.objs tid=some (trO x r)→tid<h0.n→tid≠bo→h0.objs bt=some (.cells [.str to])→h0.objs bm=some (.cells [.int .i64 most])→bt<h0.n→bm<h0.n→bt≠bo→bm≠bo→
  iJ s L lo hi t→acc.length+(aN L t).length≤1000000→s.p.length<900000→d+L≤20→
  aI Tryz.prog 38 [.ptr tid 0,.int .i64 (t.pg:Nat),.int .i64 (d:Int),.str key,lZ bt bo bm] h fun q h'=>q= .bool (dT to most (dA key (aN L t)) acc).2∧Sc x s T h0 bo (dT to most (dA key (aN L t)) acc).1 h'∧aq h h'∧ly bo h h'
 |0,t,lo,hi,h,acc,d,tid,bt,bm,r,key,to,most,g,ok,tb,hbo,hi',l0,n0,ht,hm,l1,l2,n1,n2,lv,hl,hp,hd=>AI g ok tb hbo hi' l0 n0 ht hm l1 l2 n1 n2 lv hl hp ab
 |L+1,t',lo,hi,h,acc,d,tid,bt,bm,r,key,to,most,g,ok,tb,hbo,hi',l0,n0,ht,hm,l1,l2,n1,n2,lv',hl,hp,hd=>by
  have hnd:=CV g hbo ok hi' l0 n0 lv' hp (show d≤20 by omega)
  obtain ⟨i,ks,us'⟩:=t'
  obtain ⟨us,hus⟩:∃us:List (Tr L),us=us':=⟨us',rfl⟩
  subst hus
  have hnd:aI Tryz.prog 41 [.ptr tid 0,.int .i64 (i:Nat),.int .i64 (d:Int)] h fun q h'=>q=aD (au L ks us)∧Sc x s T h0 bo acc h'∧Kept h h'∧aq h h'∧h.n≤h'.n:=hnd
  have lv':iJ s (L+1) lo hi (mkT L i ks us):=lv'
  obtain ⟨hr,hz,hw⟩:=lv'.wf
  have hw:bF (WF L) lo hi ks us:=hw
  have hr:right (au L ks us)=true:=hr
  have hz:size (au L ks us)≤1024:=hz
  obtain ⟨pa1,pa2,pa3⟩:=gu (key:=key) hr
  have hbl:=u7 hw _ pa3 pa1
  have hul:us.length=ks.length+1:=hw.len
  have hsm:=cb (L:=L+1) (ks:=ks) (kids:=us) hr (by show size (au L ks us)≤1355;omega)
  have cf:=w7 (key:=key) hr hsm.1
  have hst:=lv'.st
  have hndp:=lv'.nd
  have lvu:∀k u,us[k]? =some u→∃lo' hi'',iJ s L lo' hi'' u:=fun k u hu=>by
   have hum:u∈us:=List.mem_of_getElem? hu
   have hk:k<us.length:=(List.getElem?_eq_some_iff.1 hu).1
   obtain ⟨u',hu',wu,-⟩:=hw.at (j:=k) ab
   rw[hu] at hu'
   cases hu'
   have hpg:=gL (i:=i) (ks:=ks) hu
   have hnd:=hndp
   have hst:=hst
   rw[hpg] at hnd hst
   refine ⟨_,_,(dR.1 lv'.on.2) u hum,wu,?_,fun j hj=>hst j (by simp[hj])⟩
   simp only[List.nodup_cons,List.nodup_append] at hnd
   exact hnd.2.2.1.1
  have hpr:dA key (aN (L+1) (mkT L i ks us))=dA key (((us.drop (place (au L ks us) key)).map (aN L)).flatten):=by
   show dA key ((us.map (aN L)).flatten)=_
   conv=>lhs;rw[←List.take_append_drop (place (au L ks us) key) us]
   rw[List.map_append,List.flatten_append,ql,yk hbl]
   rfl
  have hlt:acc.length+(((us.drop (place (au L ks us) key)).map (aN L)).flatten).length≤1000000:=by
   have hl:acc.length+((us.map (aN L)).flatten).length≤1000000:=hl
   rw[←List.take_append_drop (place (au L ks us) key) us,List.map_append,List.flatten_append,List.length_append] at hl
   omega
  show aI _ _ _ _ fun q h'=>q= .bool (dT to most (dA key (aN (L+1) (mkT L i ks us))) acc).2∧Sc x s T h0 bo (dT to most (dA key (aN (L+1) (mkT L i ks us))) acc).1 h'∧aq h h'∧ly bo h h'
  rw[hpr]
  refine f38.bu af ?_
  unfold c38 zz
  obtain ⟨yf,hyf⟩:∃yf,yf=lZ bt bo bm:=⟨_,rfl⟩
  rw[←hyf]
  refine rf0 @and_self ?_
  refine an.aT (vals:=[.ptr tid 0,.int .i64 (i:Int),.int .i64 (d:Int)]) ae xA4 hnd fun q h2 ⟨hq,g2,k2,no2,ln2⟩ nq _=>?_
  subst hq
  unfold aD
  refine an.evF xAc ?_
  rw[bn]
  refine an.nil ?_
  have g3:=g2.new hbo (aC (au L ks us))
  have no3:aq h (H.new h2 (aC (au L ks us))):=aq.trans no2 bN ln2 (Nat.le_succ _)
  have nn3:=bU (h:=h2) (o:=aC (au L ks us))
  have ln3:(H.new h2 (aC (au L ks us))).n=h2.n+1:=rfl
  refine Wp.le (s':=⟨tm [(0,.ptr tid 0),(2,.int .i64 (d:Int)),(3,.str key),(4,yf),(11,.ptr h2.n 0)],H.new h2 (aC (au L ks us))⟩) (aK.of (bp ?_) (OLe.refl _) (fun y hy=>hy) (Nat.le_refl _) (Nat.le_refl _)) ?_
  ·exact xSb
  have ko3:∀j,j<h2.n→(H.new h2 (aC (au L ks us))).objs j=h2.objs j:=fun j hj=>aL hj
  generalize H.new h2 (aC (au L ks us))=h3' at*
  have kb3:ly bo h h3':=fun j a b=>(ko3 j ab).trans (k2 j a)
  unfold aD at cf
  unfold aC at nn3
  generalize hJ:place (au L ks us) key=J at*
  have hkl:(au L ks us).kids.length=us.length:=by simp[au]
  have x1:(0:Int)≤(J:Int):=by omega
  have x2:(J:Int)≤(((au L ks us).kids.length:Nat):Int):=by omega
  have hlf:(au L ks us).leaf=false:=rfl
  rw[hlf] at nn3 cf
  refine rf1 (cj6 nn3 @Bool.not_false x1 x2 @and_self @Int.toNat_natCast) cf ?_
  have hW:List.drop J (List.take (au L ks us).kids.length (ints (au L ks us).kids))=(us.drop J).map (fun u=>AV.int .i64 ((u.pg:Nat):Int)):=by
   rw[List.take_of_length_le (by simp[ints])]
   simp[ints,au,List.map_drop]
   rfl
  rw[hW]
  clear hW
  obtain ⟨vs,hvs⟩:∃vs:List (Tr L),vs=us.drop J:=⟨_,rfl⟩
  have hvl:vs.length=us.length - J:=by rw[hvs];simp
  have lvv:∀k u,vs[k]? =some u→∃lo' hi'',iJ s L lo' hi'' u:=fun k u hu=>by
   rw[hvs,List.getElem?_drop] at hu
   exact lvu _ _ hu
  rw[←hvs] at hlt ⊢
  obtain ⟨W,hW⟩:∃W,W=vs.map (fun u=>AV.int .i64 ((u.pg:Nat):Int)):=⟨_,rfl⟩
  have hWl:W.length=vs.length:=by rw[hW];simp
  rw[←hW]
  have hlz:us.length≤1000000:=by
   have e:size (au L ks us)=7+5*ks.length+tot ks:=by simp[size,au]
   have e2:(au L ks us).keys.length=ks.length:=rfl
   omega
  refine Wp.eH [0,2,3,4,33,34] xA7 (fun b:Nat × List Pr × H=>[(35,.int .i64 (b.1:Int))]) (fun b=>b.2.2) (fun b=>b.1≤vs.length∧Sc x s T h0 bo b.2.1 b.2.2∧dT to most (dA key (((vs.drop b.1).map (aN L)).flatten)) b.2.1=dT to most (dA key ((vs.map (aN L)).flatten)) acc∧aq h b.2.2∧ly bo h b.2.2∧h.n≤b.2.2.n∧b.2.1.length+(((vs.drop b.1).map (aN L)).flatten).length≤1000000) (fun b=>vs.length - b.1) (0,acc,h3') ⟨Nat.zero_le _,g3,rfl,no3,kb3,by simp only;omega,hlt⟩ rfl ?_ ?_
  ·exact xSb
  clear g3 no3 nn3 kb3 g2
  rintro ⟨k,ac,h4⟩ ⟨hk,g4,hrun,no4,kb4,lm4,ll4⟩
  simp only at hk g4 hrun no4 kb4 lm4 ll4
  by_cases hc:k<vs.length
  ·have x1:(0:Int)≤(k:Int):=by omega
   have x2:(k:Int)<((W.length:Nat):Int):=by omega
   have dk:=decide_eq_true x2
   obtain ⟨lo2,hi2,lu⟩:=lvv k vs[k] (List.getElem?_eq_getElem hc)
   have hgk:W.getD k .any= .int .i64 ((vs[k].pg:Nat):Int):=by
    rw[hW]
    simp[List.getD,List.getElem?_eq_getElem hc]
   have hdk:vs.drop k=vs[k]::vs.drop (k+1):=List.drop_eq_getElem_cons hc
   rw[hdk,List.map_cons,List.flatten_cons] at hrun ll4
   rw[ql] at hrun
   generalize vs[k]=u at*
   rw[List.length_append] at ll4
   have hy:=CW L u lo2 hi2 h4 ac (d+1) (key:=key) g4 ok tb hbo hi' l0 n0 ht hm l1 l2 n1 n2 lu ab hp ab
   have happ:=qi to most (dA key (aN L u)) (dA key (((vs.drop (k+1)).map (aN L)).flatten)) ac
   rw[hrun] at happ
   have hlen:=qj to most (dA key (aN L u)) ac
   have hlen2:(dA key (aN L u)).length≤(aN L u).length:=List.length_filter_le _ _
   generalize dT to most (dA key (aN L u)) ac=rs at*
   have e3:IntKind.i64.wrap ((d:Int)+1)=((d+1:Nat):Int):=by rw[IntWalk.i64_in _ ab];rfl
   rw[←hyf] at hy
   refine rf0 (cj7 dk hgk x1 x2 @and_self @Int.toNat_natCast e3) ?_
   refine an.aT (vals:=[.ptr tid 0,.int .i64 (u.pg:Nat),.int .i64 ((d+1:Nat):Int),.str key,yf]) ae xA4 hy fun q h5 ⟨e5,g5,no5,kb5⟩ n5 _=>?_
   subst e5
   refine an.evF xAc ?_
   refine an.nil ?_
   cases hb:rs.2 with
   |false=>
    rw[hb] at happ
    simp only[Bool.false_eq_true,if_false] at happ
    rw[happ]
    refine rf0 @Bool.not_false ?_
    refine Wp.ret ⟨trivial,.bool false,?_,by rw[hb],g5,aq.trans no4 no5 ab ab,fun j a b=>(kb5 j ab b).trans (kb4 j a b)⟩
    simp only[go_sem]
    exact rfl
   |true=>
    rw[hb] at happ
    simp only[if_true] at happ
    have e4:IntKind.i64.wrap ((k:Int)+1)=((k+1:Nat):Int):=by rw[IntWalk.i64_in _ ab];rfl
    refine rf0 (cj2 @Bool.not_true e4) ?_
    refine ⟨(k+1,rs.1,h5),⟨by simp only;omega,g5,happ.symm,aq.trans no4 no5 ab ab,fun j a b=>(kb5 j ab b).trans (kb4 j a b),by simp only;omega,by simp only;omega⟩,by simp only;omega,aK.tm ?_⟩
    exact xSb
  ·have dk:decide ((k:Int)<((W.length:Nat):Int))=false:=decide_eq_false ab
   have he:vs.drop k=[]:=List.drop_eq_nil_of_le ab
   rw[he] at hrun
   have hrun:(ac,true)=dT to most (dA key ((vs.map (aN L)).flatten)) acc:=hrun
   rw[←hrun]
   refine rf0 dk ?_
   refine Wp.ret ⟨trivial,.bool true,?_,rfl,g4,no4,kb4⟩
   simp only[go_sem]
   exact rfl
end
end Go.Proofs.YtbgmofhgfnmaiaaGreat.Tree
end
section
set_option maxRecDepth 100000
namespace Go.Proofs.YtbgmofhgfnmaiaaGreat.Tree
open Go Go.Av Go.Proofs Go.Proofs.YtbgmofhgfnmaiaaGreat.C Go.Proofs.YtbgmofhgfnmaiaaGreat.Page
open Go.Proofs.YtbgmofhgfnmaiaaGreat.Batch (Bs Pr prs aW)
def jr (l:List Pr) (key to:Bs) (most:Int):List Pr:=if most=0 then [] else (dT to most (dA key l) []).1
section
variable {x:PgI} {s:PgS} {T:List Nat} {h:H}
set_option maxHeartbeats 1000000 in
theorem GM {tid b0 b1 b2 b3 b4:Nat} {R:Rt} {key to:Bs} {most:Int} (g:Ts0 x T tid s R h) (h0:h.objs b0=some (.cells [.ptr tid 0])) (h1:h.objs b1=some (.cells [.int .i64 most])) (h2:h.objs b2=some (.cells [.str key])) (h3:h.objs b3=some (.cells [.str to])) (h4:h.objs b4=some (.cells [.sl 2 [] (.exact 0)])) (t4:Tid x b4) (n3:b3≠b4) (n1:b1≠b4) (nt:tid≠b4)
  (hL:∀L t,R=some ⟨L,t⟩→L≤6) (hp:s.p.length<900000) (hl:(aE R).length≤1000000):
  aI Tryz.prog 37 [.ptr b0 0,.ptr b1 0,.ptr b2 0,.ptr b3 0,.ptr b4 0] h fun q h'=>Sc x s T h b4 (jr (aE R) key to most) h':=by
 have l1:=g.pg.ltn (j:=b1) (by rw[h1];rfl)
 have l3:=g.pg.ltn (j:=b3) (by rw[h3];rfl)
 have l4:=g.pg.ltn (j:=b4) (by rw[h4];rfl)
 have lt:=g.lt
 have sc0:Sc x s T h b4 [] h:=⟨⟨none,g.pg,h4,fun _=>rfl,fun t e=>by cases e⟩,fun _ _ _=>rfl,aq.refl h,Nat.le_refl _⟩
 refine f37.bu af ?_
 unfold c37 zz
 have ot:h.objs tid=some (.cells [.ptr x.P 0,.int .i64 (rpg R)]):=g.ot
 have stop:jr (aE R) key to most=[]→Sc x s T h b4 (jr (aE R) key to most) h:=fun e=>e▸sc0
 cases R with
 |none=>
  have ot:h.objs tid=some (.cells [.ptr x.P 0,.int .i64 (-1)]):=ot
  have d3:decide ((-1:Int)<0)=true:=by decide
  refine rf0 (cj5 h0 h1 h2 ot d3) ?_
  refine Wp.ret ⟨trivial,.tup [],by simp[de,rvs],stop (by unfold jr aE dA dT;simp)⟩
 |some r=>
  obtain ⟨L,t⟩:=r
  have ot:h.objs tid=some (.cells [.ptr x.P 0,.int .i64 ((t.pg:Nat):Int)]):=ot
  have d3:decide (((t.pg:Nat):Int)<0)=false:=decide_eq_false ab
  by_cases hm:most=0
  ·have d4:=decide_eq_true hm
   refine rf0 (cj6 h0 h1 h2 ot d3 d4) ?_
   refine Wp.ret ⟨trivial,.tup [],by simp[de,rvs],stop (by unfold jr;rw[if_pos hm])⟩
  ·have d4:=decide_eq_false hm
   have lv:=g.rk L t rfl
   have hw:=CW L t [] none h [] 1 (key:=key) sc0 g.ok t4 l4 g.ot lt nt h3 h1 l3 l1 n3 n1 lv (by simpa [aE] using hl) hp (by have:=hL L t rfl;omega)
   refine rf0 (cj6 h0 h1 h2 ot d3 d4) ?_
   refine Wp.reg ?_
   refine ao.part 7 (xAe (cj4 h0 h1 h2 ot)) ?_
   simp only[List.drop_succ_cons,List.drop_zero,List.drop_nil]
   refine ao.aT (vals:=[.ptr tid 0,.int .i64 (t.pg:Nat),.int .i64 ((1:Nat):Int),.str key,lZ b3 b4 b1]) ae (by simp only[go_sem,reduceIte,Nat.reduceEqDiff,List.map,lZ];exact ay.refl _) (fun j hj=>g.pg.ltn hj) hw (fun r h' ⟨e,g',no',kb'⟩=>no') fun q h2 ⟨hq,g2,no2,kb2⟩ nq _=>?_
   refine ao.nil ⟨by simp[bg,aS,apart,aV],?_⟩
   refine ⟨trivial,.tup [],by simp[de,rvs],?_⟩
   unfold jr
   rw[if_neg hm]
   exact g2
theorem PgH.CX {tk:Option Nat} (g:PgH x s (tkT tk T) h):PgH x s T {h with toks:=tkT s.tk T} where
 oP:=g.oP
 oA:=g.oA
 oU:=g.oU
 oD:=g.oD
 oK:=g.oK
 oI:=g.oI
 lt:=g.lt
 ne:=g.ne
 fresh:=g.fresh
 toks:=rfl
 tm t ht:=g.tm t (by cases tk<;>simp[tkT,ht])
 tkm t e:=⟨(g.tkm t e).1,fun a=>(g.tkm t e).2 (by cases tk<;>simp[tkT,a])⟩
 tk0:=g.tk0
theorem Et {tk sk:Option Nat} {T:List Nat}:∀y∈tkT sk T,y∈tkT sk (tkT tk T):=fun y hy=>by
 cases sk<;>cases tk<;>simp[tkT] at hy ⊢
 ·exact hy
 ·exact .inr hy
 ·exact hy
 ·rcases hy with a|a
  ·exact .inl a
  ·exact .inr (.inr a)
set_option maxHeartbeats 1000000 in
theorem CY {tid:Nat} {R:Rt} {key to:Bs} {most:Int} (g:Ts0 x T tid s R h) (hL:∀L t,R=some ⟨L,t⟩→L≤6) (hp:s.p.length<900000) (hl:(aE R).length≤1000000):
  aI Tryz.prog 13 [.ptr tid 0,.str key,.str to,.int .i64 most] h fun q h'=>iQ x T tid s R h h'∧q= .tup [.sl 2 (prs (jr (aE R) key to most)) .any,.int .i64 0]:=by
 refine f13.bu af ?_
 unfold c13 zz
 have b1:=(iQ.refl g).new (.cells [.ptr tid 0])
 have b2:=b1.new (.cells [.str key])
 have b3:=b2.new (.cells [.str to])
 have b4:=b3.new (.cells [.int .i64 most])
 have bb:=b4.new (.cells [.sl 2 [] (.exact 0)])
 have lt:=g.lt
 obtain ⟨h5,hh⟩:∃h5,h5=H.new (H.new (H.new (H.new (H.new h (.cells [.ptr tid 0])) (.cells [.str key])) (.cells [.str to])) (.cells [.int .i64 most])) (.cells [.sl 2 [] (.exact 0)]):=⟨_,rfl⟩
 have e0:h5.objs h.n=some (.cells [.ptr tid 0]):=by rw[hh];simp only[H.new,upd];(repeat rw[if_neg ab]);simp
 have e1:h5.objs (h.n+1)=some (.cells [.str key]):=by rw[hh];simp[H.new,upd]
 have e2:h5.objs (h.n+1+1)=some (.cells [.str to]):=by rw[hh];simp[H.new,upd]
 have e3:h5.objs (h.n+1+1+1)=some (.cells [.int .i64 most]):=by rw[hh];simp[H.new,upd]
 have e4:h5.objs (h.n+1+1+1+1)=some (.cells [.sl 2 [] (.exact 0)]):=by rw[hh];simp[H.new,upd]
 have ln5:h5.n=h.n+1+1+1+1+1:=by rw[hh];rfl
 rw[←hh] at bb
 refine Wp.bw (xAd @and_self) ?_
 refine an.nil ?_
 refine Wp.bw (xAd @and_self) ?_
 refine an.nil ?_
 refine Wp.le (s':=⟨tm [(4,.ptr h.n 0),(5,.ptr (h.n+1) 0),(6,.ptr (h.n+1+1) 0),(7,.ptr (h.n+1+1+1) 0),(10,.ptr (h.n+1+1+1+1) 0)],h5⟩) (aK.of (bp ?_) (by rw[hh];exact OLe.refl _) (fun y hy=>by rw[hh] at hy;exact hy) (by rw[hh];exact Nat.le_refl _) (by rw[hh];exact Nat.le_refl _)) ?_
 ·exact xSb
 clear hh b1 b2 b3 b4
 have key2:aI Tryz.prog 34 [.ptr tid 0,.clo (.func 37) [] [.ptr h.n 0,.ptr (h.n+1+1+1) 0,.ptr (h.n+1) 0,.ptr (h.n+1+1) 0,.ptr (h.n+1+1+1+1) 0]] h5 fun q h'=>q= .int .i64 0∧Sc x s T h5 (h.n+1+1+1+1) (jr (aE R) key to most) h':=by
  refine (uZ bb.ts.op Tryz.func37 rfl (of_decide_eq_true (by kernel_rfl)) (GM bb.ts e0 e3 e1 e2 e4 (dJ g.pg ab) ab ab ab hL hp hl)).mono ?_
  rintro q h' ⟨rfl,r,sc⟩
  exact ⟨rfl,sc⟩
 refine rf0 e0 ?_
 refine an.aT (vals:=[.ptr tid 0,.clo (.func 37) [] [.ptr h.n 0,.ptr (h.n+1+1+1) 0,.ptr (h.n+1) 0,.ptr (h.n+1+1) 0,.ptr (h.n+1+1+1+1) 0]]) ae xA4 key2 fun q h6 ⟨hq,sc⟩ n6 _=>?_
 subst hq
 obtain ⟨⟨tk,pg,hb,hz,hT⟩,kp,no,ln⟩:=sc
 generalize jr (aE R) key to most=out at*
 refine an.evF xAc ?_
 refine an.nil ?_
 have d0:decide ((0:Int)=0)=true:=by decide
 refine rf0 (cj3 hb d0 @Bool.not_true) ?_
 refine Wp.le (s':=⟨tm [(8,.sl 2 (prs out) .any),(9,.int .i64 0)],{h6 with toks:=tkT s.tk T}⟩) (aK.of (bp ?_) (OLe.refl _) (fun y hy=>?_) (Nat.le_refl _) (Nat.le_refl _)) ?_
 ·simp only[aY,go_sem,reduceIte,Nat.reduceEqDiff,Nat.reduceAdd,bx];and_intros<;>first|exact trivial|exact av.refl _|exact av.any _|exact av.cap|(refine av.int ?_;omega)
 ·rw[pg.toks];exact Et y hy
 refine Wp.ret ⟨trivial,.tup [.sl 2 (prs out) .any,.int .i64 0],?_,⟨bb.ts.keep pg.CX (kp tid (by have:=bb.ts.lt;omega) ab),aq.trans bb.no no bb.ln ln,Nat.le_trans bb.ln ln,fun j hj=>(kp j ab ab).trans (bb.kp j hj)⟩,rfl⟩
 simp only[go_sem]
 exact rfl
theorem FC {tid B:Nat} {R:Rt} {key to:Bs} {most:Int} (g:Ts x T tid s R B h) (hL:∀L t,R=some ⟨L,t⟩→L≤6) (hp:s.p.length<900000) (hl:(aE R).length≤1000000):
  aI Tryz.prog 13 [.ptr tid 0,.str key,.str to,.int .i64 most] h fun q h'=>fH x T tid s R B h h'∧q= .tup [.sl 2 (prs (jr (aE R) key to most)) .any,.int .i64 0]:=
 (CY g.z hL hp hl).mono fun q h' ⟨b,e⟩=>⟨.of g b,e⟩
end
end Go.Proofs.YtbgmofhgfnmaiaaGreat.Tree
end
section
set_option maxRecDepth 100000
namespace Go.Proofs.YtbgmofhgfnmaiaaGreat.Tree
open Go Go.Av Go.Proofs Go.Proofs.YtbgmofhgfnmaiaaGreat.C Go.Proofs.YtbgmofhgfnmaiaaGreat.Page
open Go.Proofs.YtbgmofhgfnmaiaaGreat.Batch (Bs Pr prs aW)
def fF (lo:Bs) (hi:Option Bs):List AV:=[.str lo,.str (hi.getD []),.bool hi.isNone]
theorem CZ {lo key:Bs} {hi:Option Bs} (hb:inB lo hi key):aZ Tryz.prog 70 [.agg (fF lo hi),.str key] (.bool true):=by
 refine f70.dw af (by simp[aR,bf,cG,fF]) (by simp[bf,cG]) ?_
 unfold c70 zz
 have d1:Op.bytesLess key lo=false:=hb.1
 unfold fF
 cases hi with
 |none=>
  simp only[Option.getD_none,Option.isNone_none]
  refine an0 (cj2 d1 @Bool.not_false) ?_
  refine Wp.ret ⟨trivial,.bool true,?_,av.refl _⟩
  simp only[go_sem]
  exact rfl
 |some b=>
  have d2:Op.bytesLess key b=true:=hb.2 b rfl
  simp only[Option.getD_some,Option.isNone_some]
  refine an0 (cj3 d1 d2 @Bool.not_false) ?_
  refine Wp.ret ⟨trivial,.bool true,?_,av.refl _⟩
  simp only[go_sem]
  exact rfl
section
variable {x:PgI} {s:PgS} {T:List Nat} {h:H}
theorem FD {L tid d:Nat} {r:Int} {lo:Bs} {hi:Option Bs} {t:Tr L} (g:PgH x s T h) (ok:cd s) (ht:h.objs tid=some (trO x r)) (lv:iJ s L lo hi t) (hp:s.p.length<900000) (hd:d≤20):
  aI Tryz.prog 41 [.ptr tid 0,.int .i64 (t.pg:Nat),.int .i64 (d:Int)] h fun q h'=>q=aD (bD L t.ks t.kids)∧PgH x s T h'∧Kept h h'∧aq h h':=by
 obtain ⟨hs,hi'⟩:=lv.st t.pg (by simp[bc])
 have hnd:=jP (tid:=tid) (i:=t.pg) (d:=d) g ok ht hi' (by show stt s t.pg≠0;omega) hp hd lv.on.1.1
 rw[lv.on.1.2] at hnd
 exact hnd
set_option maxHeartbeats 2000000 in
theorem qm {L tid d:Nat} {r:Int} {lo:Bs} {hi:Option Bs} {t:Tr L} {Q:aQ→St→Prop} (g:PgH x s T h) (ok:cd s) (ht:h.objs tid=some (trO x r)) (lv:iJ s L lo hi t) (hp:s.p.length<900000) (hd:d≤20) (hkb:∀k∈t.ks,inB lo hi k) (hkl:t.ks.length≤1000000)
  (hK:∀(h':H) (bb nid:Nat),PgH x s T h'→Kept h h'→aq h h'→h.n≤h'.n→bb<h'.n→nid<h'.n→h.n≤nid→h.n≤bb→h'.objs bb=some (.cells (fF lo hi))→h'.objs nid=some (aC (bD L t.ks t.kids))→Wp Tryz.prog 100 (tlC (tlC (tlC c36))) ⟨tm [(0,.ptr tid 0),(2,.int .i64 (d:Int)),(7,.ptr bb 0),(8,.int .i64 0),(9,.int .i64 0),(10,.ptr nid 0)],h'⟩ Q):
  Wp Tryz.prog 100 c36 ⟨gA [.ptr tid 0,.int .i64 (t.pg:Nat),.int .i64 (d:Int),.agg (fF lo hi)],h⟩ Q:=by
 unfold c36 at hK ⊢
 simp only[tlC] at hK
 have hnk:∀k,(strs (bD L t.ks t.kids).keys).getD k .any=(strs t.ks).getD k .any:=fun k=>by cases L<;>rfl
 have hnl:(bD L t.ks t.kids).keys.length=t.ks.length:=by cases L<;>rfl
 have lt:=g.ltn (j:=tid) (by rw[ht];rfl)
 obtain ⟨h1,hh1⟩:∃h1,h1=H.new h (.cells (fF lo hi)):=⟨_,rfl⟩
 have g1:PgH x s T h1:=hh1▸g.new _
 have hb1:h1.objs h.n=some (.cells (fF lo hi)):=hh1▸bU
 have k1:Kept h h1:=fun j hj=>hh1▸aL hj
 have no1:aq h h1:=hh1▸bN
 have ln1:h1.n=h.n+1:=hh1▸rfl
 have hnd:=FD (d:=d) g1 ok ((k1 tid lt).trans ht) lv hp hd
 refine Wp.seq ?_
 unfold fF at hh1
 refine Wp.da (xAd @fF.eq_1) ?_
 refine an.nil ?_
 refine Wp.le (s':=⟨tm [(0,.ptr tid 0),(1,.int .i64 (t.pg:Nat)),(2,.int .i64 (d:Int)),(7,.ptr h.n 0),(8,.int .i64 0),(9,.int .i64 0)],h1⟩) (aK.of (bp ?_) (by rw[hh1];exact OLe.refl _) (fun y hy=>by rw[hh1] at hy;exact hy) (by rw[hh1];exact Nat.le_refl _) (by rw[hh1];exact Nat.le_refl _)) ?_
 ·exact xSb
 clear hh1
 refine rf0 @and_self ?_
 refine an.aT (vals:=[.ptr tid 0,.int .i64 (t.pg:Nat),.int .i64 (d:Int)]) ae xA4 hnd fun q h2 ⟨hq,g2,k2,no2⟩ nq _=>?_
 subst hq
 unfold aD
 refine an.evF xAc ?_
 rw[bn]
 refine an.nil ?_
 obtain ⟨h3,hh3⟩:∃h3,h3=H.new h2 (aC (bD L t.ks t.kids)):=⟨_,rfl⟩
 have g3:PgH x s T h3:=hh3▸g2.new _
 have k3:Kept h1 h3:=fun j hj=>hh3▸(aL ab).trans (k2 j hj)
 have no3:aq h h3:=aq.trans no1 (hh3▸aq.trans no2 bN nq (Nat.le_succ _)) ab (by rw[hh3];exact Nat.le_succ_of_le nq)
 have nn3:h3.objs h2.n=some (aC (bD L t.ks t.kids)):=hh3▸bU
 have ln3:h3.n=h2.n+1:=hh3▸rfl
 refine Wp.le (s':=⟨tm [(0,.ptr tid 0),(2,.int .i64 (d:Int)),(7,.ptr h.n 0),(8,.int .i64 0),(9,.int .i64 0),(10,.ptr h2.n 0)],h3⟩) (aK.of (bp ?_) (by rw[hh3];exact OLe.refl _) (fun y hy=>by rw[hh3] at hy;exact hy) (by rw[hh3];exact Nat.le_refl _) (by rw[hh3];exact Nat.le_refl _)) ?_
 ·exact xSb
 clear hh3
 have hb3:=(k3 h.n ab).trans hb1
 have W:=hK h3 h.n h2.n g3 (fun j hj=>(k3 j ab).trans (k1 j hj)) no3 ab ab ab ab ab hb3 nn3
 refine Wp.jE _ ?_ W
 clear W hK
 generalize h.n=bb at*
 generalize h2.n=nid at*
 obtain ⟨KL,hKL⟩:∃KL,KL=strs (bD L t.ks t.kids).keys:=⟨_,rfl⟩
 have hKl:KL.length=t.ks.length:=by rw[hKL];simp[strs,hnl]
 unfold aC at nn3
 rw[←hKL] at nn3
 refine rf0 nn3 ?_
 refine Wp.eH [0,2,7,8,9,10,23,24] xA7 (fun k:Nat=>[(25,.int .i64 (k:Int))]) (fun _=>h3) (fun k=>k≤t.ks.length) (fun k=>t.ks.length - k) 0 (Nat.zero_le _) rfl ?_ ?_
 ·exact xSb
 intro k hk
 by_cases hc:k<t.ks.length
 ·have x1:(0:Int)≤(k:Int):=by omega
  have x2:(k:Int)<((KL.length:Nat):Int):=by omega
  have dk:=decide_eq_true x2
  have hgk:KL.getD k .any= .str t.ks[k]:=by
   rw[hKL,hnk]
   simp[strs,List.getD,List.getElem?_eq_getElem hc]
  have cw:=CZ (hkb t.ks[k] (List.getElem_mem hc))
  generalize t.ks[k]=K0 at*
  have e4:IntKind.i64.wrap ((k:Int)+1)=((k+1:Nat):Int):=by rw[IntWalk.i64_in _ ab];rfl
  unfold fF at hb3 cw
  refine rf1 (cj9 dk hgk x1 x2 @and_self @Int.toNat_natCast e4 hb3 @Bool.not_true) cw ?_
  refine ⟨k+1,ab,ab,aK.tm ?_⟩
  exact xSb
 ·have dk:decide ((k:Int)<((KL.length:Nat):Int))=false:=decide_eq_false ab
  refine rf0 dk ?_
  exact aK.tm (by
   exact xSb
   )
def tB (x:PgI) (s:PgS) (T:List Nat) (h:H) (tid:Nat) (L:Nat) (lo:Bs) (hi:Option Bs) (t:Tr L) (d:Nat):Prop:=aI Tryz.prog 36 [.ptr tid 0,.int .i64 (t.pg:Nat),.int .i64 (d:Int),.agg (fF lo hi)] h fun q h'=>q= .tup [.int .i64 ((aN L t).length:Nat),.int .i64 ((d+L:Nat):Int)]∧PgH x s T h'∧Kept h h'∧aq h h'
theorem xc {tid d:Nat} {r:Int} {lo:Bs} {hi:Option Bs} {t:Tr 0} (g:PgH x s T h) (ok:cd s) (ht:h.objs tid=some (trO x r)) (lv:iJ s 0 lo hi t) (hp:s.p.length<900000) (hd:d≤20) (hl:(aN 0 t).length≤1000000):tB x s T h tid 0 lo hi t d:=by
 obtain ⟨i,ks,vs'⟩:=t
 obtain ⟨vs,hvs⟩:∃vs:List Bs,vs=vs':=⟨vs',rfl⟩
 subst hvs
 obtain ⟨hr,hz,h3,h4⟩:=lv.wf
 have hr:right (aB ks vs)=true:=hr
 have h3:0<ks.length:=h3
 obtain ⟨r1,r2,-⟩:=(bq (n:=aB ks vs) rfl).1 hr
 have r2:vs.length=ks.length:=r2
 have hpl:(aN 0 (⟨i,ks,vs⟩:Nd Bs)).length=ks.length:=by
  show (List.zipWith Pr.mk ks vs).length=_
  simp[r2]
 have hl:ks.length≤1000000:=hpl▸hl
 have h4:∀k∈ks,inB lo hi k:=h4
 show aI _ _ _ _ fun q h'=>q= .tup [.int .i64 ((aN 0 (⟨i,ks,vs⟩:Nd Bs)).length:Nat),.int .i64 ((d+0:Nat):Int)]∧_
 rw[hpl]
 refine f36.bu af (qm (L:=0) g ok ht lv hp hd h4 hl fun h' bb nid g' k' no' ln' lb ln l1 l2 hb hn=>?_)
 have hn:h'.objs nid=some (aC (aB ks vs)):=hn
 unfold c36 zz
 simp only[tlC]
 have hlf:(aB ks vs).leaf=true:=rfl
 have hkl:(aB ks vs).keys.length=ks.length:=rfl
 have d0:decide (((ks.length:Nat):Int)=0)=false:=decide_eq_false ab
 unfold aC at hn
 rw[hlf] at hn
 refine rf0 (cj3 hn hkl d0) ?_
 refine Wp.ret ⟨trivial,.tup [.int .i64 (ks.length:Nat),.int .i64 ((d+0:Nat):Int)],?_,rfl,g',k',no'⟩
 simp only[go_sem]
 exact rfl
end
end Go.Proofs.YtbgmofhgfnmaiaaGreat.Tree
end
section
set_option maxRecDepth 100000
namespace Go.Proofs.YtbgmofhgfnmaiaaGreat.Tree
open Go Go.Av Go.Proofs Go.Proofs.YtbgmofhgfnmaiaaGreat.C Go.Proofs.YtbgmofhgfnmaiaaGreat.Page
open Go.Proofs.YtbgmofhgfnmaiaaGreat.Batch (Bs Pr prs aW)
section
variable {x:PgI} {s:PgS} {T:List Nat}
theorem cH {f:Nat→Option Av.Obj} {i:Nat} {a b:Option Av.Obj}:upd (upd f i a) i b=upd f i b:=by
 funext j;simp only[upd];split<;>rfl
set_option maxHeartbeats 4000000 in
theorem ym:∀(L:Nat) (t:Tr L) (lo:Bs) (hi:Option Bs) (h:H) (d:Nat) {tid:Nat} {r:Int},PgH x s T h→cd s→h.objs tid=some (trO x r)→iJ s L lo hi t→(aN L t).length≤1000000→s.p.length<900000→d+L≤20→tB x s T h tid L lo hi t d
 |0,t,lo,hi,h,d,tid,r,g,ok,ht,lv,hl,hp,hd=>xc g ok ht lv hp ab hl
 |L+1,t',lo,hi,h,d,tid,r,g,ok,ht,lv',hl,hp,hd=>by
  obtain ⟨i,ks,us'⟩:=t'
  obtain ⟨us,hus⟩:∃us:List (Tr L),us=us':=⟨us',rfl⟩
  subst hus
  have lv':iJ s (L+1) lo hi (mkT L i ks us):=lv'
  obtain ⟨hr,hz,hw⟩:=lv'.wf
  have hw:bF (WF L) lo hi ks us:=hw
  have hr:right (au L ks us)=true:=hr
  have hz:size (au L ks us)≤1024:=hz
  have hul:us.length=ks.length+1:=hw.len
  have hst:=lv'.st
  have hndp:=lv'.nd
  have lvu:∀k u,us[k]? =some u→iJ s L (dK lo ks k) (eU hi ks k) u:=fun k u hu=>by
   have hum:u∈us:=List.mem_of_getElem? hu
   have hk:k<us.length:=(List.getElem?_eq_some_iff.1 hu).1
   obtain ⟨u',hu',wu,-⟩:=hw.at (j:=k) ab
   rw[hu] at hu'
   cases hu'
   have hpg:=gL (i:=i) (ks:=ks) hu
   have hnd:=hndp
   have hst:=hst
   rw[hpg] at hnd hst
   refine ⟨(dR.1 lv'.on.2) u hum,wu,?_,fun j hj=>hst j (by simp[hj])⟩
   simp only[List.nodup_cons,List.nodup_append] at hnd
   exact hnd.2.2.1.1
  have hkb:∀k∈ks,inB lo hi k:=fun k hk=>by
   obtain ⟨⟨-,q⟩,-⟩:=bF.keys (nice L) hw
   exact ⟨lr (q k hk).1,(q k hk).2⟩
  have hsz:size (au L ks us)=7+5*ks.length+tot ks:=by simp[size,au]
  have hl:((us.map (aN L)).flatten).length≤1000000:=hl
  show aI _ _ _ _ fun q h'=>q= .tup [.int .i64 (((us.map (aN L)).flatten).length:Nat),.int .i64 ((d+(L+1):Nat):Int)]∧_
  refine f36.bu af (qm (L:=L+1) (t:=mkT L i ks us) g ok ht lv' hp ab hkb (by show ks.length≤_;omega) fun h1 bb nid g1 k1 no1 ln1 lb ln l1 l2 hb hn=>?_)
  have hn:h1.objs nid=some (aC (au L ks us)):=hn
  unfold c36 zz
  simp only[tlC]
  have hlf:(au L ks us).leaf=false:=rfl
  have hkl:(au L ks us).keys.length=ks.length:=rfl
  have hil:(au L ks us).kids.length=us.length:=by simp[au]
  have lt:=g.ltn (j:=tid) (by rw[ht];rfl)
  unfold aC at hn
  rw[hlf] at hn
  refine rf0 (cj2 hn hil) ?_
  obtain ⟨W,hW⟩:∃W,W=ints (au L ks us).kids:=⟨_,rfl⟩
  have hWl:W.length=us.length:=by rw[hW];simp[ints,au]
  rw[←hW] at hn ⊢
  obtain ⟨KL,hKL⟩:∃KL,KL=strs (au L ks us).keys:=⟨_,rfl⟩
  have hKl:KL.length=ks.length:=by rw[hKL];simp[strs,au]
  rw[←hKL] at hn
  refine Wp.eH [0,2,7,10,47,48] xA7 (fun b:Nat × H=>[(49,.int .i64 (b.1:Int)),(8,.int .i64 ((((us.take b.1).map (aN L)).flatten).length:Nat)),(9,.int .i64 ((if b.1=0 then 0 else d+(L+1):Nat):Int))]) (fun b=>b.2) (fun b=>b.1≤us.length∧PgH x s T b.2∧Kept h1 b.2∧aq h1 b.2∧h1.n≤b.2.n) (fun b=>us.length - b.1) (0,h1) ⟨Nat.zero_le _,g1,fun _ _=>rfl,aq.refl _,Nat.le_refl _⟩ rfl ?_ ?_
  ·exact xSb
  rintro ⟨k,h4⟩ ⟨hk,g4,k4,no4,ln4⟩
  simp only at hk g4 k4 no4 ln4
  by_cases hc:k<us.length
  ·have x1:(0:Int)≤(k:Int):=by omega
   have x2:(k:Int)<((W.length:Nat):Int):=by omega
   have dk:decide ((k:Int)<((us.length:Nat):Int))=true:=decide_eq_true ab
   have hgk:W.getD k .any= .int .i64 ((us[k].pg:Nat):Int):=by
    rw[hW]
    simp[ints,au,List.getD,List.getElem?_eq_getElem hc]
   have lu:=lvu k us[k] (List.getElem?_eq_getElem hc)
   have htk:us.take (k+1)=us.take k++[us[k]]:=List.take_succ_eq_append_getElem hc
   have hP:(((us.take (k+1)).map (aN L)).flatten).length=(((us.take k).map (aN L)).flatten).length+(aN L us[k]).length:=by rw[htk,List.map_append,List.flatten_append,List.length_append,List.map_singleton,List.flatten_singleton]
   have hPl:(((us.take (k+1)).map (aN L)).flatten).length≤1000000:=by
    have e:=hl
    rw[←List.take_append_drop (k+1) us,List.map_append,List.flatten_append,List.length_append] at e
    omega
   generalize us[k]=u at*
   have hn4:=(k4 nid ln).trans hn
   have hb4:=(k4 bb lb).trans hb
   have ht4:=(k4 tid ab).trans ((k1 tid lt).trans ht)
   generalize hp0:(((us.take k).map (aN L)).flatten).length=p0 at*
   generalize hp1:(((us.take (k+1)).map (aN L)).flatten).length=p1 at*
   obtain ⟨A0,hA0⟩:∃A0,A0=fF lo hi:=⟨_,rfl⟩
   have hKk:∀j,(hj:j<ks.length)→KL.getD j .any= .str ks[j]:=fun j hj=>by
    rw[hKL]
    simp[strs,au,List.getD,List.getElem?_eq_getElem hj]
   unfold fF at hb4
   refine Wp.bw (xAd dk) ?_
   refine an.nil ?_
   refine Wp.seq ?_
   refine Wp.cond_true (by simp only[go_sem,reduceIte,Nat.reduceEqDiff,Nat.reduceAdd,bx,dk]) ?_
   refine Wp.skip ?_
   refine Wp.seq (Wp.block ?_)
   refine Wp.bw (xAd (cj5 hgk x1 x2 @and_self @Int.toNat_natCast)) ?_
   refine an.nil ?_
   refine Wp.bw (xAd hb4) ?_
   rw[bn]
   refine an.nil ?_
   obtain ⟨h5,hh5⟩:∃h5,h5=H.new h4 (.cells [.str lo,.str (hi.getD []),.bool hi.isNone]):=⟨_,rfl⟩
   refine Wp.le (s':=⟨tm [(0,.ptr tid 0),(2,.int .i64 (d:Int)),(7,.ptr bb 0),(8,.int .i64 (p0:Int)),(9,.int .i64 ((if k=0 then 0 else d+(L+1):Nat):Int)),(10,.ptr nid 0),(13,.int .i64 (k:Int)),(14,.int .i64 (u.pg:Nat)),(15,.ptr h4.n 0),(47,.sl 1 W .any),(48,.int .i64 (us.length:Nat)),(49,.int .i64 (k:Int))],h5⟩) (aK.of (bp ?_) (by rw[hh5];exact OLe.refl _) (fun y hy=>by rw[hh5] at hy;exact hy) (by rw[hh5];exact Nat.le_refl _) (by rw[hh5];exact Nat.le_refl _)) ?_
   ·exact xSb
   obtain ⟨TT,hTT⟩:∃TT:List (Nat × AV),TT=[(0,.ptr tid 0),(2,.int .i64 (d:Int)),(7,.ptr bb 0),(8,.int .i64 (p0:Int)),(9,.int .i64 ((if k=0 then 0 else d+(L+1):Nat):Int)),(10,.ptr nid 0),(13,.int .i64 (k:Int)),(14,.int .i64 (u.pg:Nat)),(15,.ptr h4.n 0),(47,.sl 1 W .any),(48,.int .i64 (us.length:Nat)),(49,.int .i64 (k:Int))]:=⟨_,rfl⟩
   have hnn:nid≠h4.n:=by omega
   have hn5:∀o,(H.new h4 o).objs nid=some (.cells [.bool false,.sl 1 KL .any,.sl 1 (strs (au L ks us).vals) .any,.sl 1 W .any]):=fun o=>(aL ab).trans hn4
   have hi5:∀o,(H.new h4 o).objs h4.n=some o:=fun o=>bU
   refine Wp.jE ⟨tm TT,H.new h4 (.cells [.str (dK lo ks k),.str (hi.getD []),.bool hi.isNone])⟩ ?_ ?_
   ·by_cases hk0:k=0
    ·have d5:decide ((0:Int)<(k:Int))=false:=decide_eq_false ab
     have e:dK lo ks k=lo:=by unfold dK;rw[if_pos hk0]
     rw[e,←hh5,hTT]
     refine rf0 d5 ?_
     refine aK.tm ?_
     exact xSb
    ·have d5:decide ((0:Int)<(k:Int))=true:=decide_eq_true ab
     have e:KL.getD (k - 1) .any= .str (dK lo ks k):=by
      rw[hKk (k - 1) ab]
      unfold dK
      rw[if_neg hk0,List.getD_eq_getElem?_getD,List.getElem?_eq_getElem ab]
      rfl
     have e6:IntKind.i64.wrap ((k:Int) - 1)=((k - 1:Nat):Int):=by rw[IntWalk.i64_in _ ab];omega
     have y1:(0:Int)≤((k - 1:Nat):Int):=by omega
     have y2:((k - 1:Nat):Int)<((KL.length:Nat):Int):=by omega
     have hn6:=hn5 (.cells [.str lo,.str (hi.getD []),.bool hi.isNone])
     have hi6:=hi5 (.cells [.str lo,.str (hi.getD []),.bool hi.isNone])
     rw[←hh5] at hn6 hi6
     refine rf0 (cj9 d5 hn6 hi6 e6 y1 y2 @and_self @Int.toNat_natCast e) ?_
     rw[hTT]
     refine aK.of (bp ?_) (by rw[hh5];simp only[H.new,cH];exact OLe.refl _) (fun y hy=>by rw[hh5];exact hy) (by rw[hh5];exact Nat.le_refl _) (by rw[hh5];exact Nat.le_refl _)
     exact xSb
   clear hh5 h5
   refine Wp.jE ⟨tm TT,H.new h4 (.cells (fF (dK lo ks k) (eU hi ks k)))⟩ ?_ ?_
   ·rw[hTT]
    have hn6:=hn5 (.cells [.str (dK lo ks k),.str (hi.getD []),.bool hi.isNone])
    have hi6:=hi5 (.cells [.str (dK lo ks k),.str (hi.getD []),.bool hi.isNone])
    obtain ⟨h6,hh6⟩:∃h6,h6=H.new h4 (.cells [.str (dK lo ks k),.str (hi.getD []),.bool hi.isNone]):=⟨_,rfl⟩
    rw[←hh6] at hn6 hi6 ⊢
    by_cases hk0:k<ks.length
    ·have d5:decide ((k:Int)<((KL.length:Nat):Int))=true:=decide_eq_true ab
     have y2:(k:Int)<((KL.length:Nat):Int):=by omega
     have e:=hKk k hk0
     have e9:fF (dK lo ks k) (eU hi ks k)=[.str (dK lo ks k),.str ks[k],.bool false]:=by
      unfold fF eU
      rw[if_pos hk0,List.getD_eq_getElem?_getD,List.getElem?_eq_getElem hk0]
      rfl
     rw[e9]
     refine rf0 (cj8 d5 hn6 hi6 x1 y2 @and_self @Int.toNat_natCast e) ?_
     refine aK.of (bp ?_) (by rw[hh6];simp only[H.new,cH];exact OLe.refl _) (fun y hy=>by rw[hh6];exact hy) (by rw[hh6];exact Nat.le_refl _) (by rw[hh6];exact Nat.le_refl _)
     exact xSb
    ·have d5:decide ((k:Int)<((KL.length:Nat):Int))=false:=decide_eq_false ab
     have e9:fF (dK lo ks k) (eU hi ks k)=[.str (dK lo ks k),.str (hi.getD []),.bool hi.isNone]:=by
      unfold fF eU
      rw[if_neg hk0]
     rw[e9,←hh6]
     refine rf0 (cj2 d5 hn6) ?_
     refine aK.tm ?_
     exact xSb
   have hi7:=hi5 (.cells (fF (dK lo ks k) (eU hi ks k)))
   have g7:=g4.new (.cells (fF (dK lo ks k) (eU hi ks k)))
   have k7:Kept h1 (H.new h4 (.cells (fF (dK lo ks k) (eU hi ks k)))):=fun j hj=>(aL ab).trans (k4 j hj)
   have no7:aq h1 (H.new h4 (.cells (fF (dK lo ks k) (eU hi ks k)))):=aq.trans no4 bN ln4 (Nat.le_succ _)
   have ht7:(H.new h4 (.cells (fF (dK lo ks k) (eU hi ks k)))).objs tid=some (trO x r):=(aL ab).trans ht4
   have ln7:(H.new h4 (.cells (fF (dK lo ks k) (eU hi ks k)))).n=h4.n+1:=rfl
   generalize H.new h4 (.cells (fF (dK lo ks k) (eU hi ks k)))=h7 at*
   have hc:=ym L u (dK lo ks k) (eU hi ks k) h7 (d+1) g7 ok ht7 lu ab hp ab
   unfold tB at hc
   rw[hTT]
   have e3:IntKind.i64.wrap ((d:Int)+1)=((d+1:Nat):Int):=by rw[IntWalk.i64_in _ ab];rfl
   unfold fF at hi7 hc
   generalize h4.n=nb at*
   refine rf0 (cj2 hi7 e3) ?_
   refine an.aT (vals:=[.ptr tid 0,.int .i64 (u.pg:Nat),.int .i64 ((d+1:Nat):Int),.agg (fF (dK lo ks k) (eU hi ks k))]) ae xA4 hc fun q h8 ⟨hq,g8,k8,no8⟩ nq _=>?_
   subst hq
   refine an.evF xAc ?_
   refine an.nil ?_
   have e4:IntKind.i64.wrap ((k:Int)+1)=((k+1:Nat):Int):=by rw[IntWalk.i64_in _ ab];rfl
   have e5:IntKind.i64.wrap ((p0:Int)+(((aN L u).length:Nat):Int))=((p1:Nat):Int):=by rw[IntWalk.i64_in _ ab,hP];rfl
   have inv:∀st:Tm,aY st [(0,.ptr tid 0),(2,.int .i64 (d:Int)),(7,.ptr bb 0),(10,.ptr nid 0),(47,.sl 1 W .any),(48,.int .i64 (us.length:Nat)),(49,.int .i64 ((k+1:Nat):Int)),(8,.int .i64 (p1:Int)),(9,.int .i64 ((d+1+L:Nat):Int))]→∃b':Nat × H,(b'.1≤us.length∧PgH x s T b'.2∧Kept h1 b'.2∧aq h1 b'.2∧h1.n≤b'.2.n)∧us.length - b'.1<us.length - k∧aK ⟨st,h8⟩ ⟨tm ([(0,.ptr tid 0),(2,.int .i64 (d:Int)),(7,.ptr bb 0),(10,.ptr nid 0),(47,.sl 1 W .any),(48,.int .i64 (us.length:Nat))]++[(49,.int .i64 (b'.1:Int)),(8,.int .i64 ((((us.take b'.1).map (aN L)).flatten).length:Nat)),(9,.int .i64 ((if b'.1=0 then 0 else d+(L+1):Nat):Int))]),b'.2⟩:=fun st hs=>by
    refine ⟨(k+1,h8),⟨by simp only;omega,g8,fun j hj=>(k8 j ab).trans (k7 j hj),aq.trans no7 no8 ab ab,by simp only;omega⟩,by simp only;omega,aK.tm ?_⟩
    simp only
    rw[hp1,if_neg ab,show d+(L+1)=d+1+L by omega]
    exact hs
   by_cases hk0:k=0
   ·have d5:decide ((0:Int)<(k:Int))=false:=decide_eq_false ab
    refine rf0 (cj3 d5 e4 e5) ?_
    refine inv _ ?_
    exact xSb
   ·have d5:decide ((0:Int)<(k:Int))=true:=decide_eq_true ab
    have d6:decide (((d+1+L:Nat):Int)=((if k=0 then 0 else d+(L+1):Nat):Int))=true:=decide_eq_true (by rw[if_neg hk0];omega)
    refine rf0 (cj5 d5 d6 e4 e5 @Bool.not_true) ?_
    refine inv _ ?_
    exact xSb
  ·have dk:decide ((k:Int)<((us.length:Nat):Int))=false:=decide_eq_false ab
   have hz:us.take k=us:=List.take_of_length_le ab
   have hk0:¬(k=0):=by omega
   refine rf0 dk ?_
   refine Wp.ret ⟨trivial,.tup [.int .i64 (((us.map (aN L)).flatten).length:Nat),.int .i64 ((d+(L+1):Nat):Int)],?_,rfl,g4,fun j hj=>(k4 j ab).trans (k1 j hj),aq.trans no1 no4 ab ab⟩
   rw[hz,if_neg hk0]
   simp only[go_sem]
   exact rfl
end
end Go.Proofs.YtbgmofhgfnmaiaaGreat.Tree
end
section
set_option maxRecDepth 100000
namespace Go.Proofs.YtbgmofhgfnmaiaaGreat.Tree
open Go Go.Av Go.Proofs Go.Proofs.YtbgmofhgfnmaiaaGreat.C Go.Proofs.YtbgmofhgfnmaiaaGreat.Page
open Go.Proofs.YtbgmofhgfnmaiaaGreat.Batch (Bs Pr prs aW)
section
variable {x:PgI} {s:PgS} {T:List Nat} {h:H}
set_option maxHeartbeats 1000000 in
theorem FE {tid b0 b1:Nat} {R:Rt} (g:Ts0 x T tid s R h) (h0:h.objs b0=some (.cells [.ptr tid 0])) (h1:h.objs b1=some (.cells [.int .i64 0])) (t1:Tid x b1)
  (hL:∀L t,R=some ⟨L,t⟩→L≤6) (hp:s.p.length<900000) (hl:(aE R).length≤1000000):
  aI Tryz.prog 35 [.ptr b0 0,.ptr b1 0] h fun q h'=>PgH x s T h'∧(∀j,j<h.n→j≠b1→h'.objs j=h.objs j)∧aq h h'∧h'.objs b1=some (.cells [.int .i64 ((aE R).length:Nat)])∧h.n≤h'.n:=by
 have lt1:=g.pg.ltn (j:=b1) (by rw[h1];rfl)
 refine f35.bu af ?_
 unfold c35 zz
 have ot:h.objs tid=some (.cells [.ptr x.P 0,.int .i64 (rpg R)]):=g.ot
 cases R with
 |none=>
  have ot:h.objs tid=some (.cells [.ptr x.P 0,.int .i64 (-1)]):=ot
  have d3:decide ((0:Int)≤(-1:Int))=false:=by decide
  refine rf0 (cj4 h0 h1 ot d3) ?_
  refine ⟨trivial,.tup [],by simp[de,rvs],g.pg,fun _ _ _=>rfl,aq.refl _,h1,Nat.le_refl _⟩
 |some r=>
  obtain ⟨L,t⟩:=r
  have ot:h.objs tid=some (.cells [.ptr x.P 0,.int .i64 ((t.pg:Nat):Int)]):=ot
  have d3:decide ((0:Int)≤((t.pg:Nat):Int))=true:=decide_eq_true ab
  have lv:=g.rk L t rfl
  have hL':=hL L t rfl
  have hw:=ym L t [] none h 1 g.pg g.ok g.ot lv hl hp ab
  unfold tB at hw
  refine rf0 (cj4 h0 h1 ot d3) ?_
  refine Wp.reg ?_
  refine ao.part 6 (xAe (cj2 h0 ot)) ?_
  simp only[List.drop_succ_cons,List.drop_zero,List.drop_nil]
  refine ao.aT (vals:=[.ptr tid 0,.int .i64 (t.pg:Nat),.int .i64 ((1:Nat):Int),.agg (fF [] none)]) ae xA4 (fun j hj=>g.pg.ltn hj) hw (fun r h' ⟨e,g',k',no'⟩=>no') fun q h2 ⟨hq,g2,k2,no2⟩ nq _=>?_
  subst hq
  have h12:=(k2 b1 lt1).trans h1
  refine ao.part 4 (xAe h12) ?_
  simp only[List.drop_succ_cons,List.drop_zero,List.drop_nil]
  refine ao.nil ⟨by simp[bg,aS,apart,aV],?_⟩
  refine ⟨trivial,.tup [],by simp[de,rvs],g2.qg t1 ab _,fun j a b=>?_,aq.trans no2 (aq.set h12) nq (Nat.le_refl _),by simp[upd,aE],nq⟩
  simp only[upd];rw[if_neg b];exact k2 j a
set_option maxHeartbeats 1000000 in
theorem yn {tid:Nat} {R:Rt} (g:Ts0 x T tid s R h) (hL:∀L t,R=some ⟨L,t⟩→L≤6) (hp:s.p.length<900000) (hl:(aE R).length≤1000000):
  aI Tryz.prog 12 [.ptr tid 0] h fun q h'=>iQ x T tid s R h h'∧q= .tup [.int .i64 ((aE R).length:Nat),.int .i64 0]:=by
 refine f12.bu af ?_
 unfold c12 zz
 have bb:=((iQ.refl g).new (.cells [.ptr tid 0])).new (.cells [.int .i64 0])
 have lt:=g.lt
 obtain ⟨h5,hh⟩:∃h5,h5=H.new (H.new h (.cells [.ptr tid 0])) (.cells [.int .i64 0]):=⟨_,rfl⟩
 have e0:h5.objs h.n=some (.cells [.ptr tid 0]):=by rw[hh];simp[H.new,upd]
 have e1:h5.objs (h.n+1)=some (.cells [.int .i64 0]):=by rw[hh];simp[H.new,upd]
 have ln5:h5.n=h.n+1+1:=by rw[hh];rfl
 rw[←hh] at bb
 refine Wp.bw (xAd @and_self) ?_
 refine an.nil ?_
 refine Wp.bw (xAd @and_self) ?_
 rw[bn]
 refine an.nil ?_
 refine Wp.le (s':=⟨tm [(1,.ptr h.n 0),(4,.ptr (h.n+1) 0)],h5⟩) (aK.of (bp ?_) (by rw[hh];exact OLe.refl _) (fun y hy=>by rw[hh] at hy;exact hy) (by rw[hh];exact Nat.le_refl _) (by rw[hh];exact Nat.le_refl _)) ?_
 ·exact xSb
 clear hh
 have key2:aI Tryz.prog 34 [.ptr tid 0,.clo (.func 35) [] [.ptr h.n 0,.ptr (h.n+1) 0]] h5 fun q h'=>q= .int .i64 0∧PgH x s T h'∧(∀j,j<h5.n→j≠h.n+1→h'.objs j=h5.objs j)∧aq h5 h'∧h'.objs (h.n+1)=some (.cells [.int .i64 ((aE R).length:Nat)])∧h5.n≤h'.n:=by
  refine (uZ bb.ts.op Tryz.func35 rfl (of_decide_eq_true (by kernel_rfl)) (FE bb.ts e0 e1 (dJ g.pg ab) hL hp hl)).mono ?_
  rintro q h' ⟨rfl,r,sc⟩
  exact ⟨rfl,sc⟩
 refine rf0 e0 ?_
 refine an.aT (vals:=[.ptr tid 0,.clo (.func 35) [] [.ptr h.n 0,.ptr (h.n+1) 0]]) ae xA4 key2 fun q h6 ⟨hq,g6,k6,no6,hb,n6⟩ _ _=>?_
 subst hq
 refine an.evF xAc ?_
 refine an.nil ?_
 have d0:decide ((0:Int)=0)=true:=by decide
 refine rf0 (cj3 hb d0 @Bool.not_true) ?_
 refine Wp.ret ⟨trivial,.tup [.int .i64 ((aE R).length:Nat),.int .i64 0],?_,⟨bb.ts.keep g6 (k6 tid (by have:=bb.ts.lt;omega) ab),aq.trans bb.no no6 bb.ln n6,Nat.le_trans bb.ln n6,fun j hj=>(k6 j ab ab).trans (bb.kp j hj)⟩,rfl⟩
 simp only[go_sem]
 exact rfl
theorem Eu {tid B:Nat} {R:Rt} (g:Ts x T tid s R B h) (hL:∀L t,R=some ⟨L,t⟩→L≤6) (hp:s.p.length<900000) (hl:(aE R).length≤1000000):
  aI Tryz.prog 12 [.ptr tid 0] h fun q h'=>fH x T tid s R B h h'∧q= .tup [.int .i64 ((aE R).length:Nat),.int .i64 0]:=
 (yn g.z hL hp hl).mono fun q h' ⟨b,e⟩=>⟨.of g b,e⟩
theorem FF {tid B:Nat} {R:Rt} (g:Ts x T tid s R B h):aJ Tryz.prog 18 [.ptr tid 0] h (.int .i64 (rpg R)) h:=by
 have ot:h.objs tid=some (.cells [.ptr x.P 0,.int .i64 (rpg R)]):=g.ot
 have co:=uL (fT g)
 refine f18.bP af ?_
 unfold c18 zz
 refine rg1 (cj2 ot @Bool.not_true) co ?_
 refine Wp.ret ⟨trivial,_,?_,av.refl _,rfl⟩
 simp only[go_sem]
 exact rfl
end
end Go.Proofs.YtbgmofhgfnmaiaaGreat.Tree
end
section
set_option maxRecDepth 100000
namespace Go.Proofs.YtbgmofhgfnmaiaaGreat.R10
open Go Go.Av Go.Proofs Go.Proofs.YtbgmofhgfnmaiaaGreat.C Go.Proofs.YtbgmofhgfnmaiaaGreat.Batch
theorem il (l:List Pr) (c:Pr):prs l++[.agg [.str c.k,.str c.v]]=prs (l++[c]):=by simp[prs,aW]
theorem C4 {α:Type} [Inhabited α] {l:List α} {i:Nat} (h:i<l.length):l.getD i default=l[i]:=by
 rw[List.getD_eq_getElem?_getD,List.getElem?_eq_getElem h];rfl
def l9 (k:Bs) (p:Pr):Bool:=decide (p.k=k)
def AJ (l:List Pr) (k:Bs):Bs:=match l.find? (l9 k) with|some p=>p.v|none=>[]
def ma (l:List Pr) (k:Bs):Nat:=match l.find? (l9 k) with|some _=>0|none=>7
theorem Ev {l:List Pr} {k:Bs} {j:Nat} (hj:j<l.length) (h:∀i,i<j→¬(l.getD i default).k=k) (hk:(l.getD j default).k=k):l.find? (l9 k)=some (l.getD j default):=by
 rw[C4 hj] at hk ⊢
 rw[List.find?_eq_some_iff_getElem]
 refine ⟨by simp[l9,hk],j,hj,rfl,fun i hi=>?_⟩
 have:=h i hi
 rw[C4 ab] at this
 simp[l9,this]
theorem Ew {l:List Pr} {k:Bs} (h:∀i,i<l.length→¬(l.getD i default).k=k):l.find? (l9 k)=none:=by
 rw[List.find?_eq_none]
 intro x hx
 obtain ⟨i,hi,rfl⟩:=List.getElem_of_mem hx
 have:=h i hi
 rw[C4 hi] at this
 simp[l9,this]
theorem C5 (l:List Pr) (hl:l.length≤4611686018427387904) (k:Bs):aZ Tryz.prog 15 [.sl 2 (prs l) .any,.str k] (.tup [.str (AJ l k),.int .i64 (ma l k)]):=by
 refine f15.dw af (by simp[aR,bf,cG,jl]) (by simp[bf,aR]) ?_
 unfold c15 zz
 refine Gq ?_
 refine Wp.kZ [0,1] xA6 (fun j:Nat=>[(6,.int .i64 j)]) (fun j=>j≤l.length∧∀i,i<j→¬(l.getD i default).k=k) (fun j=>l.length - j) 0 ⟨Nat.zero_le _,fun i h=>absurd h ab⟩ ?_ ?_
 ·exact xSb
 ·rintro j ⟨hj,hr⟩
  by_cases hc:j<l.length
  ·have d1:decide ((j:Int)<(l.length:Int))=true:=decide_eq_true ab
   have h2:(0:Int)≤(j:Int):=by omega
   have h3:(j:Int)<(l.length:Int):=by omega
   have e1:IntKind.i64.wrap ((j:Int)+1)=((j+1:Nat):Int):=by rw[IntWalk.i64_in _ ab];omega
   by_cases hk:(l.getD j default).k=k
   ·have d2:decide ((l.getD j default).k=k)=true:=decide_eq_true hk
    have hf:=Ev hc hr hk
    refine an0 (cj8 @cB d1 d2 h2 h3 @Int.toNat_natCast (fun d=>ff _ _ d hc) @aW.eq_1) ?_
    refine cI ?_
    exact av.of_eq (by simp only[AJ,ma,hf];rfl)
   ·have d2:decide ((l.getD j default).k=k)=false:=decide_eq_false hk
    refine an0 (cj9 @cB d1 d2 h2 h3 e1 @Int.toNat_natCast (fun d=>ff _ _ d hc) @aW.eq_1) ?_
    refine ⟨j+1,⟨ab,fun i hi=>?_⟩,ab,?_⟩
    ·by_cases he:i=j
     ·subst he;exact hk
     ·exact hr i ab
    ·exact xSu
  ·obtain rfl:j=l.length:=by omega
   have d1:decide ((l.length:Int)<(l.length:Int))=false:=decide_eq_false ab
   have hf:=Ew hr
   refine an0 (cj2 @cB d1) ?_
   refine cI ?_
   exact av.of_eq (by simp only[AJ,ma,hf];rfl)
def rest (k:Bs) (l:List Pr):List Pr:=l.filter fun p=> !l9 k p
theorem AK (k:Bs) (p:Pr) (l:List Pr):rest k (p::l)=(if p.k=k then [] else [p])++rest k l:=by
 simp only[rest,List.filter_cons,l9]
 by_cases h:p.k=k<;>simp[h]
def fj (l:List Pr) (k:Bs):List Pr:=if ma l k=0 then rest k l else l
def js (l:List Pr) (k:Bs):Nat:=ma l k
theorem xd (l:List Pr) (k:Bs):ma l k=0∨ma l k=7:=by
 unfold ma;split<;>simp
set_option maxHeartbeats 2000000 in
theorem yo (l:List Pr) (hl:l.length≤1000000) (k:Bs):aZ Tryz.prog 19 [.sl 2 (prs l) .any,.str k] (.tup [.sl 2 (prs (fj l k)) .any,.int .i64 (js l k)]):=by
 refine f19.dw af (by simp[aR,bf,cG,jl]) (by simp[bf,aR,cG,jl]) ?_
 unfold c19 zz
 have hg:=C5 l ab k
 rcases xd l k with h0|h7
 ·have hd:fj l k=rest k l:=by rw[fj,if_pos h0]
  have he:js l k=0:=h0
  rw[hd,he]
  rw[h0] at hg
  have z:decide (((0:Nat):Int)=0)=true:=by decide
  refine an1 z hg ?_
  refine Wp.le (aK.tok _ _) ?_
  refine Wp.su [0,1] xA7 (fun (j:Nat × List Pr) tk=>[(8,.sl 2 (prs j.2) (.own tk)),(9,.int .i64 j.1)]) (fun j=>j.1≤l.length∧j.2++rest k (l.drop j.1)=rest k l∧j.2.length≤j.1) (fun j=>l.length - j.1) (0,[]) _ ⟨Nat.zero_le _,by simp,Nat.le_refl _⟩ rfl ?_ ?_
  ·simp only[aY,go_sem,reduceIte,Nat.reduceEqDiff,Nat.reduceAdd,bx];and_intros<;>first|exact trivial|exact av.refl _|exact av.any _|exact av.lL rfl|(refine av.int ?_;omega)
  ·rintro ⟨j,o⟩ tk m ⟨hj,ho,hol⟩
   simp only at hj ho hol
   by_cases hc:j<l.length
   ·have d1:decide ((j:Int)<(l.length:Int))=true:=decide_eq_true ab
    have h2:(0:Int)≤(j:Int):=by omega
    have h3:(j:Int)<(l.length:Int):=by omega
    have e1:IntKind.i64.wrap ((j:Int)+1)=((j+1:Nat):Int):=by rw[IntWalk.i64_in _ ab];omega
    rw[xR hc,AK] at ho
    have g0:(o.length+1)*32≤140737488355328:=by omega
    have g0':o.length+1<4611686018427387904:=by omega
    by_cases hk:(l.getD j default).k=k
    ·have d2:decide ((l.getD j default).k=k)=true:=decide_eq_true hk
     rw[if_pos hk,List.nil_append] at ho
     refine an0 (cj9 @cB d1 d2 h2 h3 e1 @Int.toNat_natCast (fun d=>ff _ _ d hc) @aW.eq_1) ?_
     refine ⟨(j+1,o),tk,m,⟨by simp only;omega,ho,by simp only;omega⟩,by simp only;omega,?_⟩
     exact xSu
    ·have d2:decide ((l.getD j default).k=k)=false:=decide_eq_false hk
     rw[if_neg hk] at ho
     refine an0 (cP @cB d1 d2 h2 h3 e1 @Int.toNat_natCast (fun d=>ff _ _ d hc) @aW.eq_1 @List.length_cons.{0} @List.length_nil.{0} (cj3 @Nat.zero_add g0 g0')) ?_
     refine ⟨(j+1,o++[l.getD j default]),m,m+1,⟨by simp only;omega,by rw[←ho];simp,by simp;omega⟩,by simp only;omega,?_⟩
     refine aK.tm (by simp only[aY,go_sem,reduceIte,Nat.reduceEqDiff,Nat.reduceAdd,bx];and_intros<;>first|exact trivial|exact av.refl _|exact av.any _|exact av.of_eq (by rw[←il])|(refine av.int ?_;omega))
   ·obtain rfl:j=l.length:=by omega
    have d1:decide ((l.length:Int)<(l.length:Int))=false:=decide_eq_false ab
    rw[List.drop_length] at ho
    have ho':o=rest k l:=by rw[←ho];simp[rest]
    refine an0 (cj2 @cB d1) ?_
    refine cI ?_
    rw[ho']
    exact av.tup (ay.cons av.own (ay.refl _))
 ·have hd:fj l k=l:=by rw[fj,if_neg ab]
  have he:js l k=7:=h7
  rw[hd,he]
  rw[h7] at hg
  have z:decide (((7:Nat):Int)=0)=false:=by decide
  refine an1 z hg ?_
  refine cI ?_
  exact av.refl _
def shut (k v:Bs):Bool:=decide (128<k.length)||decide (200<v.length)
def gC (k v:Bs):Bool→List Pr→List Pr
 |laid,[]=>if laid then [] else [⟨k,v⟩]
 |laid,p::l=>(if laid=false∧Op.bytesLess p.k k=false then [⟨k,v⟩] else [])++((if p.k=k then [] else [p])++gC k v (laid|| !Op.bytesLess p.k k) l)
def iR (l:List Pr) (k v:Bs):List Pr:=if shut k v then l else gC k v false l
def iK (k v:Bs):Nat:=if shut k v then 2 else 0
theorem AL {k n:Nat} (h:k<n) (hn:n≤10000000):decide ((k:Int)<(n:Int))=true∧(0:Int)≤(k:Int)∧(k:Int)<(n:Int)∧IntKind.i64.wrap ((k:Int)+1)=((k+1:Nat):Int):=by
 refine ⟨decide_eq_true ab,ab,ab,?_⟩
 rw[IntWalk.i64_in _ ab];omega
theorem FG (n:Nat):decide ((n:Int)<(n:Int))=false:=decide_eq_false ab
theorem yp (l:List Pr) (j:Nat) (d:AV) (h:j<l.length):(prs l).getD j d= .agg [.str (l.getD j default).k,.str (l.getD j default).v]:=by
 simp[prs,aW,List.getD,List.getElem?_eq_getElem h]
theorem kS (a b:List Pr) (ha:a.length≤1000000) (hb:b.length≤1000000):aZ Tryz.prog 16 [.sl 2 (prs a) .any,.sl 2 (prs b) .any] (.bool (decide (a=b))):=by
 refine f16.dw af (by simp[aR,bf,cG,jl]) rfl ?_
 unfold c16 zz
 have lea:=cB a
 have leb:=cB b
 by_cases hlen:a.length=b.length
 ·have e0:decide (((a.length:Nat):Int)=((b.length:Nat):Int))=true:=decide_eq_true ab
  refine rn0 (cj4 lea leb e0 @Bool.not_true) ?_
  refine Wp.kZ [0,1] xA6 (fun j:Nat=>[(5,.int .i64 (j:Nat))]) (fun j=>j≤a.length∧a.take j=b.take j) (fun j=>a.length - j) 0 ⟨Nat.zero_le _,rfl⟩ ?_ ?_
  ·exact xSb
  rintro j ⟨hj,hpre⟩
  by_cases hc:j<a.length
  ·obtain ⟨g1,g2,g3,e1⟩:=AL hc (Nat.le_trans ha ah)
   have g4:(j:Int)<(b.length:Int):=by omega
   have hat:=yp a j .any hc
   have hbt:=yp b j .any ab
   have ea:a.getD j default=a[j]:=by simp[List.getD,List.getElem?_eq_getElem hc]
   have eb:b.getD j default=b[j]:=by simp[List.getD,List.getElem?_eq_getElem (show j<b.length by omega)]
   by_cases hp:a.getD j default=b.getD j default
   ·have hnext:a.take (j+1)=b.take (j+1):=by
     rw[List.take_succ_eq_append_getElem hc,List.take_succ_eq_append_getElem (show j<b.length by omega),hpre,←ea,←eb,hp]
    rw[←hp] at hbt
    generalize a.getD j default=p at*
    refine rn0 (cP g1 g2 g3 g4 lea leb hat hbt @Int.toNat_natCast @beq_self_eq_true.{0} @bne_self_eq_false.{0} (cj4 @decide_true @Bool.and_self @Option.map_some.{0,0} @Bool.not_true)) ?_
    refine ⟨j+1,⟨ab,hnext⟩,Nat.sub_lt_sub_left hc (Nat.lt_succ_self _),?_⟩
    refine aK.tm (by simp only[aY,go_sem,reduceIte,Nat.reduceEqDiff,Nat.reduceAdd,bx,e1];and_intros<;>first|exact trivial|exact av.refl _|exact av.any _|(refine av.int ?_;omega))
   ·have hne:decide (a=b)=false:=decide_eq_false fun h=>hp (by rw[h])
    rw[hne]
    generalize a.getD j default=p at*
    generalize b.getD j default=q at*
    have dpq:(decide (p.k=q.k)&&decide (p.v=q.v))=false:=by
     rw[Bool.and_eq_false_iff]
     by_cases h1:p.k=q.k
     ·refine .inr (decide_eq_false fun h2=>hp ?_)
      obtain ⟨pk,pv⟩:=p
      obtain ⟨qk,qv⟩:=q
      simp only at h1 h2
      rw[h1,h2]
     ·exact .inl (decide_eq_false h1)
    refine rn0 (cP g1 g2 g3 g4 lea leb hat hbt dpq @Int.toNat_natCast @Option.map_some.{0,0} @Bool.not_false) ?_
    refine cI ?_
    exact av.refl _
  ·have hj2:j=a.length:=by omega
   subst hj2
   have g1:=FG a.length
   have he:decide (a=b)=true:=by
    rw[List.take_length,hlen,List.take_length] at hpre
    exact decide_eq_true hpre
   rw[he]
   refine rn0 (cj2 g1 lea) ?_
   refine cI ?_
   exact av.refl _
 ·have e0:decide (((a.length:Nat):Int)=((b.length:Nat):Int))=false:=decide_eq_false ab
  have hne:decide (a=b)=false:=decide_eq_false fun h=>hlen (by rw[h])
  rw[hne]
  refine rn0 (cj4 lea leb e0 @Bool.not_false) ?_
  refine cI ?_
  exact av.refl _
theorem GN {l:List Pr} (hk:∀p∈l,Ls p.k) (i:Nat):Ls (l.getD i default).k:=by
 by_cases h:i<l.length
 ·rw[List.getD_eq_getElem?_getD,List.getElem?_eq_getElem h];exact hk _ (List.getElem_mem h)
 ·rw[List.getD_eq_getElem?_getD,List.getElem?_eq_none ab];exact Nat.zero_le _
theorem nJ (k v:Bs):∀(l:List Pr) (b:Bool),(gC k v b l).length≤l.length+(if b then 0 else 1)
 |[],b=>by cases b<;>simp[gC]
 |p::l,b=>by
  have h1:=nJ k v l true
  have h2:=nJ k v l false
  simp only[if_true,if_false,Bool.false_eq_true,Nat.add_zero] at h1 h2
  rw[gC]
  cases b<;>cases Op.bytesLess p.k k<;>by_cases hk:p.k=k<;>simp[hk] <;>omega
theorem C6 (l:List Pr) (k v:Bs):(iR l k v).length≤l.length+1:=by
 unfold iR;split
 ·omega
 ·exact nJ k v l false
theorem GO {n:Nat} (h:n≤2000000):(n+1)*32≤140737488355328∧n+1<4611686018427387904∧(n+1+1)*32≤140737488355328∧n+1+1<4611686018427387904:=by omega
set_option maxHeartbeats 1000000 in
theorem C7 (l:List Pr) (hl:l.length≤1000000) (lk:∀p∈l,Ls p.k) (k v:Bs) (hkk:Ls k):aZ Tryz.prog 23 [.sl 2 (prs l) .any,.str k,.str v] (.tup [.sl 2 (prs (iR l k v)) .any,.int .i64 (iK k v)]):=by
 refine f23.dw af (by simp[aR,bf,cG,jl]) (by simp[bf,aR,cG,jl]) ?_
 unfold c23 zz
 by_cases h1:128<k.length
 ·have d1:decide ((128:Int)<(k.length:Int))=true:=decide_eq_true ab
  have hs:shut k v=true:=by simp[shut,h1]
  refine an0 d1 ?_
  refine cI ?_
  rw[iR,if_pos hs,iK,if_pos hs]
  exact av.refl _
 ·have d1:decide ((128:Int)<(k.length:Int))=false:=decide_eq_false ab
  by_cases h2:200<v.length
  ·have d2:decide ((200:Int)<(v.length:Int))=true:=decide_eq_true ab
   have hs:shut k v=true:=by simp[shut,h2]
   refine an0 (cj2 d1 d2) ?_
   refine cI ?_
   rw[iR,if_pos hs,iK,if_pos hs]
   exact av.refl _
  ·have d2:decide ((200:Int)<(v.length:Int))=false:=decide_eq_false ab
   have hs:¬shut k v=true:=by simp[shut];omega
   rw[iR,if_neg hs,iK,if_neg hs]
   refine an0 (cj2 d1 d2) ?_
   refine Wp.le (aK.tok _ _) ?_
   refine Wp.su [0,1,2] xA7 (fun (j:Nat × List Pr × Bool) tk=>[(8,.sl 2 (prs j.2.1) (.own tk)),(9,.bool j.2.2),(10,.int .i64 j.1)]) (fun j=>j.1≤l.length∧j.2.1++gC k v j.2.2 (l.drop j.1)=gC k v false l∧j.2.1.length≤2*j.1) (fun j=>l.length - j.1) (0,[],false) _ ⟨Nat.zero_le _,by simp,Nat.le_refl _⟩ rfl ?_ ?_
   ·simp only[aY,go_sem,reduceIte,Nat.reduceEqDiff,Nat.reduceAdd,bx];and_intros<;>first|exact trivial|exact av.refl _|exact av.any _|exact av.lL rfl|(refine av.int ?_;omega)
   ·rintro ⟨j,o,b⟩ tk m ⟨hj,ho,hol⟩
    simp only at hj ho hol
    obtain ⟨g0,g0',g1,g1'⟩:=GO (show o.length≤2000000 by omega)
    by_cases hc:j<l.length
    ·have q1:decide ((j:Int)<(l.length:Int))=true:=decide_eq_true ab
     have q2:(0:Int)≤(j:Int):=by omega
     have q3:(j:Int)<(l.length:Int):=by omega
     have e1:IntKind.i64.wrap ((j:Int)+1)=((j+1:Nat):Int):=by rw[IntWalk.i64_in _ ab];omega
     rw[xR hc,gC] at ho
     have hls:=GN lk j
     have hbel:=xH (l.getD j default).k k hls hkk
     by_cases hk:(l.getD j default).k=k
     ·have q4:decide ((l.getD j default).k=k)=true:=decide_eq_true hk
      rw[if_pos hk,List.nil_append] at ho
      cases b with
      |true=>
       simp only[Bool.true_eq_false,false_and,if_false,List.nil_append,Bool.true_or] at ho
       refine an0 (cj9 @cB @q1 @q2 q3 @q4 e1 @Int.toNat_natCast (fun d=>ff _ _ d hc) @aW.eq_1) ?_
       refine ⟨(j+1,o,true),tk,m,⟨by simp only;omega,ho,by simp only;omega⟩,by simp only;omega,?_⟩
       exact xSu
      |false=>
       cases hb:Op.bytesLess (l.getD j default).k k with
       |true=>
        rw[hb] at hbel ho
        simp only[Bool.true_eq_false,and_false,if_false,List.nil_append,Bool.not_true,Bool.or_self] at ho
        refine an1 (cj9 @cB @q1 @q2 q3 @q4 e1 @Int.toNat_natCast (fun d=>ff _ _ d hc) @aW.eq_1) hbel ?_
        refine ⟨(j+1,o,false),tk,m,⟨by simp only;omega,ho,by simp only;omega⟩,by simp only;omega,?_⟩
        exact xSu
       |false=>
        rw[hb] at hbel ho
        simp only[true_and,and_self,if_true,Bool.not_false,Bool.or_true] at ho
        refine an1 (cP @cB @q1 @q2 q3 @q4 e1 @Int.toNat_natCast (fun d=>ff _ _ d hc) @aW.eq_1 @List.length_cons.{0} @List.length_nil.{0} (cj3 @Nat.zero_add g0 g0')) hbel ?_
        refine ⟨(j+1,o++[⟨k,v⟩],true),m,m+1,⟨by simp only;omega,by rw[←ho];simp,by simp;omega⟩,by simp only;omega,?_⟩
        refine aK.tm (by simp only[aY,go_sem,reduceIte,Nat.reduceEqDiff,Nat.reduceAdd,bx];and_intros<;>first|exact trivial|exact av.refl _|exact av.any _|exact av.of_eq (by rw[←il])|(refine av.int ?_;omega))
     ·have q4:decide ((l.getD j default).k=k)=false:=decide_eq_false hk
      rw[if_neg hk] at ho
      cases b with
      |true=>
       simp only[Bool.true_eq_false,false_and,if_false,List.nil_append,Bool.true_or] at ho
       refine an0 (cP @cB @q1 @q2 q3 @q4 e1 @Int.toNat_natCast (fun d=>ff _ _ d hc) @aW.eq_1 @List.length_cons.{0} @List.length_nil.{0} (cj3 @Nat.zero_add g0 g0')) ?_
       refine ⟨(j+1,o++[l.getD j default],true),m,m+1,⟨by simp only;omega,by rw[←ho];simp,by simp;omega⟩,by simp only;omega,?_⟩
       refine aK.tm (by simp only[aY,go_sem,reduceIte,Nat.reduceEqDiff,Nat.reduceAdd,bx];and_intros<;>first|exact trivial|exact av.refl _|exact av.any _|exact av.of_eq (by rw[←il])|(refine av.int ?_;omega))
      |false=>
       cases hb:Op.bytesLess (l.getD j default).k k with
       |true=>
        rw[hb] at hbel ho
        simp only[Bool.true_eq_false,and_false,if_false,List.nil_append,Bool.not_true,Bool.or_self] at ho
        refine an1 (cP @cB @q1 @q2 q3 @q4 e1 @Int.toNat_natCast (fun d=>ff _ _ d hc) @aW.eq_1 @List.length_cons.{0} @List.length_nil.{0} (cj3 @Nat.zero_add g0 g0')) hbel ?_
        refine ⟨(j+1,o++[l.getD j default],false),m,m+1,⟨by simp only;omega,by rw[←ho];simp,by simp;omega⟩,by simp only;omega,?_⟩
        refine aK.tm (by simp only[aY,go_sem,reduceIte,Nat.reduceEqDiff,Nat.reduceAdd,bx];and_intros<;>first|exact trivial|exact av.refl _|exact av.any _|exact av.of_eq (by rw[←il])|(refine av.int ?_;omega))
       |false=>
        rw[hb] at hbel ho
        simp only[true_and,and_self,if_true,Bool.not_false,Bool.or_true] at ho
        refine an1 (cP @cB @q1 @q2 q3 @q4 e1 @Int.toNat_natCast (fun d=>ff _ _ d hc) @aW.eq_1 @List.length_cons.{0} @List.length_nil.{0} (cj5 @Nat.zero_add g0 g0' g1 g1')) hbel ?_
        refine ⟨(j+1,o++[⟨k,v⟩]++[l.getD j default],true),m+1,m+2,⟨by simp only;omega,by rw[←ho];simp,by simp;omega⟩,by simp only;omega,?_⟩
        refine aK.tm (by simp only[aY,go_sem,reduceIte,Nat.reduceEqDiff,Nat.reduceAdd,bx];and_intros<;>first|exact trivial|exact av.refl _|exact av.any _|exact av.of_eq (by rw[←il,←il])|(refine av.int ?_;omega))
    ·obtain rfl:j=l.length:=by omega
     have q1:decide ((l.length:Int)<(l.length:Int))=false:=decide_eq_false ab
     rw[List.drop_length,gC] at ho
     cases b with
     |true=>
      simp only[if_true,List.append_nil] at ho
      refine an0 (cj2 @cB @q1) ?_
      refine cI ?_
      rw[←ho]
      exact av.tup (ay.cons av.own (ay.refl _))
     |false=>
      simp only[Bool.false_eq_true,if_false] at ho
      refine an0 (cj7 @cB @q1 @List.length_cons.{0} @List.length_nil.{0} @Nat.zero_add g0 g0') ?_
      refine cI ?_
      rw[←ho,←il]
      exact av.tup (ay.cons av.own (ay.refl _))
def C8 (most:Int) (l:List Pr):List Pr:=if most<0 then l else l.take most.toNat
def inR (a b k:Bs):Bool:= !Op.bytesLess k a&&(decide (b=[])||Op.bytesLess k b)
def rY (l:List Pr) (a b:Bs) (most:Int):List Pr:=C8 most (l.filter fun p=>inR a b p.k)
end Go.Proofs.YtbgmofhgfnmaiaaGreat.R10
end
section
set_option maxRecDepth 100000
namespace Go.Proofs.YtbgmofhgfnmaiaaGreat.Tree
open Go Go.Av Go.Proofs Go.Proofs.YtbgmofhgfnmaiaaGreat.C Go.Proofs.YtbgmofhgfnmaiaaGreat.Page
open Go.Proofs.YtbgmofhgfnmaiaaGreat.Batch (Bs Pr prs aW)
open Go.Proofs.YtbgmofhgfnmaiaaGreat.R10 (gC iR iK shut fj js AJ ma rY inR C8 l9 rest)
theorem qn {k v:Bs}:∀{l:List Pr},(∀p∈l,Op.bytesLess p.k k=false)→l.Pairwise kLt→gC k v true l=l.filter (fun p=>Op.bytesLess k p.k)
 |[],_,_=>rfl
 |p::l,h,hr=>by
  have h1:=h p (List.mem_cons_self ..)
  have ih:=qn (k:=k) (v:=v) (l:=l) (fun q hq=>h q (List.mem_cons_of_mem _ hq)) (List.pairwise_cons.1 hr).2
  rw[gC,Bool.true_or,ih]
  by_cases e:p.k=k
  ·have:Op.bytesLess k p.k=false:=by rw[e];exact cL k
   simp[e,this,List.filter_cons,cL]
  ·have:Op.bytesLess k p.k=true:=by
    rcases du k p.k with q|q|q
    ·exact q
    ·exact absurd q.symm e
    ·rw[h1] at q;cases q
   simp[e,this,List.filter_cons]
theorem qo {k v:Bs}:∀{l:List Pr},l.Pairwise kLt→gC k v false l=fS l k v
 |[],_=>rfl
 |p::l,hr=>by
  obtain ⟨h1,h2⟩:=List.pairwise_cons.1 hr
  cases hb:Op.bytesLess p.k k with
  |true=>
   have ih:=qo (k:=k) (v:=v) h2
   have hne:¬p.k=k:=ne_of_lt hb
   have hn:Op.bytesLess k p.k=false:=gW hb
   rw[gC,hb]
   simp only[Bool.not_true,Bool.or_false,Bool.true_eq_false,and_false,if_false,hne,List.nil_append]
   rw[ih]
   simp[fS,List.filter_cons,hb,hn]
  |false=>
   have hge:∀q∈l,Op.bytesLess q.k k=false:=fun q hq=>by
    have a:=h1 q hq
    cases e:Op.bytesLess q.k k with
    |false=>rfl
    |true=>
     have:=rL a (show Lt q.k k from e)
     rw[Lt,hb] at this;cases this
   have ht:=qn (k:=k) (v:=v) hge h2
   have hz:l.filter (fun p=>Op.bytesLess p.k k)=[]:=gJ hge
   rw[gC,hb]
   simp only[Bool.not_false,Bool.or_true,and_self,if_true]
   rw[ht]
   by_cases e:p.k=k
   ·have:Op.bytesLess k p.k=false:=by rw[e];exact cL k
    simp[fS,e,List.filter_cons,cL,hz]
   ·have:Op.bytesLess k p.k=true:=by
     rcases du k p.k with q|q|q
     ·exact q
     ·exact absurd q.symm e
     ·rw[hb] at q;cases q
    simp[fS,e,this,hb,List.filter_cons,hz]
theorem put_eq {l:List Pr} {k v:Bs} (hr:l.Pairwise kLt) (h1:k.length≤128) (h2:v.length≤200):iR l k v=fS l k v∧iK k v=0:=by
 have hs:shut k v=false:=by simp[shut];omega
 unfold iR iK
 rw[hs]
 exact ⟨qo hr,rfl⟩
theorem u9 {l:List Pr} {k v:Bs} (h:128<k.length∨200<v.length):iR l k v=l∧iK k v=2:=by
 have hs:shut k v=true:=by simp[shut];omega
 unfold iR iK
 rw[hs]
 exact ⟨rfl,rfl⟩
theorem vb {l:List Pr} {k:Bs} (h:∃p∈l,p.k=k):fj l k=ep l k∧js l k=0:=by
 have e:ma l k=0:=by
  unfold ma
  cases hf:l.find? (l9 k) with
  |some x=>rfl
  |none=>
   rw[List.find?_eq_none] at hf
   obtain ⟨p,hp,e⟩:=h
   have:=hf p hp
   simp[l9,e] at this
 unfold fj js
 rw[e]
 exact ⟨rfl,rfl⟩
theorem yq {l:List Pr} {k:Bs} (h:∀p∈l,p.k≠k):fj l k=l∧js l k=7:=by
 have e:ma l k=7:=by
  unfold ma
  cases hf:l.find? (l9 k) with
  |some x=>
   have h1:=List.mem_of_find?_eq_some hf
   have h2:=List.find?_some hf
   exact absurd (by simpa [l9] using h2) (h x h1)
  |none=>rfl
 unfold fj js
 rw[e]
 exact ⟨rfl,rfl⟩
theorem rZ {to:Bs} {p q:Pr} (h:ik to p=true) (hl:kLt p q):ik to q=true:=by
 simp only[ik,Bool.and_eq_true,Bool.not_eq_true'] at h ⊢
 exact ⟨h.1,by
  cases e:Op.bytesLess q.k to with
  |false=>rfl
  |true=>have:=rL hl (show Lt q.k to from e);rw[Lt,h.2] at this;cases this⟩
theorem yr {to:Bs} {most:Int}:∀{l acc:List Pr},l.Pairwise kLt→most<0→(dT to most l acc).1=acc++l.filter (fun p=> !ik to p)
 |[],acc,_,_=>by simp[dT]
 |p::l,acc,hr,hm=>by
  obtain ⟨h1,h2⟩:=List.pairwise_cons.1 hr
  simp only[dT]
  split
  ·rename_i hs
   rw[gJ fun q hq=>?_]
   ·simp
   ·rcases List.mem_cons.1 hq with rfl|hq
    ·simp[hs]
    ·simp[rZ hs (h1 q hq)]
  ·rename_i hs
   rw[if_neg ab,yr h2 hm]
   simp[List.filter_cons,hs]
theorem yt {to:Bs} {most:Int}:∀{l acc:List Pr},l.Pairwise kLt→(acc.length:Int)<most→(dT to most l acc).1=acc++(l.filter (fun p=> !ik to p)).take (most.toNat - acc.length)
 |[],acc,_,_=>by simp[dT]
 |p::l,acc,hr,hm=>by
  obtain ⟨h1,h2⟩:=List.pairwise_cons.1 hr
  simp only[dT]
  split
  ·rename_i hs
   rw[gJ fun q hq=>?_]
   ·simp
   ·rcases List.mem_cons.1 hq with rfl|hq
    ·simp[hs]
    ·simp[rZ hs (h1 q hq)]
  ·rename_i hs
   have hk:most.toNat - acc.length=(most.toNat - (acc.length+1))+1:=by omega
   have hf:(p::l).filter (fun p=> !ik to p)=p::l.filter (fun p=> !ik to p):=by simp[List.filter_cons,hs]
   rw[hf,hk,List.take_succ_cons]
   split
   ·rename_i e
    rw[show most.toNat - (acc.length+1)=0 by omega]
    simp
   ·rw[yt h2 ak]
    simp
theorem Ex {l:List Pr} (hr:l.Pairwise kLt) (a b:Bs) (most:Int):jr l a b most=rY l a b most:=by
 have hf:l.filter (fun p=>inR a b p.k)=(dA a l).filter (fun p=> !ik b p):=by
  unfold dA
  rw[List.filter_filter]
  refine List.filter_congr fun p _=>?_
  simp only[inR,ik]
  cases decide (b=[])<;>cases Op.bytesLess p.k a<;>cases Op.bytesLess p.k b<;>rfl
 have hr2:(dA a l).Pairwise kLt:=hr.sublist List.filter_sublist
 unfold jr rY C8
 rw[hf]
 by_cases h0:most=0
 ·subst h0;simp
 ·rw[if_neg h0]
  by_cases hm:most<0
  ·rw[if_pos hm,yr hr2 hm];simp
  ·rw[if_neg hm,yt hr2 ak];simp
theorem qp {l:List Pr} (hr:l.Pairwise kLt):jr l [] [] (-1)=l:=by
 rw[Ex hr]
 unfold rY C8
 rw[if_pos ah]
 exact filter_all fun p _=>by simp[inR,db]
end Go.Proofs.YtbgmofhgfnmaiaaGreat.Tree
end
