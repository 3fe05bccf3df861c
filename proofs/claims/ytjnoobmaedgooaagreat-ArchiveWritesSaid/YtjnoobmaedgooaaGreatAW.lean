/- ArchiveWrites: the statement 'ArchiveWritesSaid', closed by the law that the walk shows. No condition. -/
import Derived.Deep.CondSized
import Derived.IntWalk
import Derived.KernelRfl
import Derived.Laws.Append
import Derived.Laws.AppendOwn
import Derived.Laws.BytesArg
import Derived.Laws.ComplexArith
import Derived.Laws.Cover3
import Derived.Laws.Entries
import Derived.Laws.FloatBits
import Derived.Laws.IdiomCopy
import Derived.Laws.IdiomStrings
import Derived.Laws.Pointers
import Derived.Laws.Small
import Derived.Laws.Strings
import Derived.Laws.StructEq
import Derived.Lib.Small
import Derived.Lib.Walk
import Derived.MapKept
import Derived.OpenShut
import Derived.Orders
import Derived.OrdersIn
import Derived.ProofKit
import Derived.RangeFuncRecord
import Derived.RangeFuncSeq
import Derived.ReadAgain
import Derived.Scope
import Derived.Shelf.Lay
import Derived.Shelf.SlSortCmp.InsertionK
import Derived.Shelf.SlSortCmp.WholeK
import Derived.SizedLaws
import Derived.Test.YtjnoobmaedgooaaGreatProg
import Derived.Test.YtjnoobmaedgooaaGreatRows
import Derived.WalkKit
import Derived.Test.YtjnoobmaedgooaaGreatAWD
set_option linter.unusedSimpArgs false
set_option linter.unusedVariables false
section
set_option maxRecDepth 10000
namespace Go.Proofs.YtjnoobmaedgooaaGreat.Batch
open Go Go.Av Go.Proofs Go.Proofs.YtjnoobmaedgooaaGreat.C
theorem sw {n:Nat} {p:Nat→Bool} (h:(List.range n).all p=true) {i:Nat} (hi:i<n):p i=true:=by
 rw[List.all_eq_true] at h;exact h i (List.mem_range.2 hi)
structure DI (a b:List Pr) (i k:Nat) (o:List Ch):Prop where
 hi:i≤a.length
 hk:k≤b.length
 hd:o++differ (a.drop i) (b.drop k)=differ a b
 hl:o.length≤i+k
theorem DI.del {a b:List Pr} {i k:Nat} {o:List Ch} (h:DI a b i k o) (hi:i<a.length) (hk:b.length≤k∨k<b.length∧Op.bytesLess (a.getD i default).k (b.getD k default).k=true):DI a b (i+1) k (o++[⟨(a.getD i default).k,[],true⟩]):=by
 refine ⟨hi,h.hk,?_,by have:=h.hl;simp;omega⟩
 rw[←h.hd,sD hi hk];simp
theorem DI.put {a b:List Pr} {i k:Nat} {o:List Ch} (h:DI a b i k o) (hk:k<b.length) (hi:a.length≤i∨i<a.length∧Op.bytesLess (a.getD i default).k (b.getD k default).k=false∧Op.bytesLess (b.getD k default).k (a.getD i default).k=true):DI a b i (k+1) (o++[⟨(b.getD k default).k,(b.getD k default).v,false⟩]):=by
 refine ⟨h.hi,hk,?_,by have:=h.hl;simp;omega⟩
 rw[←h.hd,sE hk hi];simp
theorem DI.same {a b:List Pr} {i k:Nat} {o:List Ch} (h:DI a b i k o) (hi:i<a.length) (hk:k<b.length) (h1:Op.bytesLess (a.getD i default).k (b.getD k default).k=false) (h2:Op.bytesLess (b.getD k default).k (a.getD i default).k=false) (hv:(a.getD i default).v=(b.getD k default).v):DI a b (i+1) (k+1) o:=by
 refine ⟨hi,hk,?_,by have:=h.hl;omega⟩
 rw[←h.hd,oh hi hk h1 h2,if_pos hv]
theorem DI.set {a b:List Pr} {i k:Nat} {o:List Ch} (h:DI a b i k o) (hi:i<a.length) (hk:k<b.length) (h1:Op.bytesLess (a.getD i default).k (b.getD k default).k=false) (h2:Op.bytesLess (b.getD k default).k (a.getD i default).k=false) (hv:¬(a.getD i default).v=(b.getD k default).v):DI a b (i+1) (k+1) (o++[⟨(b.getD k default).k,(b.getD k default).v,false⟩]):=by
 refine ⟨hi,hk,?_,by have:=h.hl;simp;omega⟩
 rw[←h.hd,oh hi hk h1 h2,if_neg hv];simp
theorem D5 {l:List Pr} (hk:∀p∈l,Ls p.k) (i:Nat):Ls (l.getD i default).k:=by
 by_cases h:i<l.length
 ·rw[List.getD_eq_getElem?_getD,List.getElem?_eq_getElem h];exact hk _ (List.getElem_mem h)
 ·rw[List.getD_eq_getElem?_getD,List.getElem?_eq_none (by omega)];exact Nat.zero_le _
theorem gq (l:List Pr) (c:Pr):prs l++[.agg [.str c.k,.str c.v]]=prs (l++[c]):=by simp[prs,gS]
theorem D6 {α:Type} [Inhabited α] {l:List α} {i:Nat} (h:i<l.length):l.getD i default=l[i]:=by
 rw[List.getD_eq_getElem?_getD,List.getElem?_eq_getElem h];rfl
def Cq (k:Bs) (p:Pr):Bool:=decide (p.k=k)
def rest (k:Bs) (l:List Pr):List Pr:=l.filter fun p=> !Cq k p
theorem ox (k:Bs) (p:Pr) (l:List Pr):rest k (p::l)=(if p.k=k then [] else [p])++rest k l:=by
 simp only[rest,List.filter_cons,Cq]
 by_cases h:p.k=k<;>simp[h]
def shut (k v:Bs):Bool:=decide (128<k.length)||decide (200<v.length)
def cg (k v:Bs):Bool→List Pr→List Pr
 |laid,[]=>if laid then [] else [⟨k,v⟩]
 |laid,p::l=>(if laid=false∧Op.bytesLess p.k k=false then [⟨k,v⟩] else [])++((if p.k=k then [] else [p])++cg k v (laid|| !Op.bytesLess p.k k) l)
def gW (l:List Pr) (k v:Bs):List Pr:=if shut k v then l else cg k v false l
def ua (k v:Bs):Nat:=if shut k v then 2 else 0
theorem ko (k v:Bs):∀(l:List Pr) (b:Bool),(cg k v b l).length≤l.length+(if b then 0 else 1)
 |[],b=>by cases b<;>simp[cg]
 |p::l,b=>by
  have h1:=ko k v l true
  have h2:=ko k v l false
  simp only[if_true,if_false,Bool.false_eq_true,Nat.add_zero] at h1 h2
  rw[cg]
  cases b<;>cases Op.bytesLess p.k k<;>by_cases hk:p.k=k<;>simp[hk] <;>omega
theorem yw (l:List Pr) (k v:Bs):(gW l k v).length≤l.length+1:=by
 unfold gW;split
 ·omega
 ·exact ko k v l false
theorem D7 {n:Nat} (h:n≤2000000):(n+1)*32≤140737488355328∧n+1<4611686018427387904∧(n+1+1)*32≤140737488355328∧n+1+1<4611686018427387904:=by omega
set_option maxHeartbeats 1000000 in
theorem Cr (l:List Pr) (hl:l.length≤1000000) (lk:∀p∈l,Ls p.k) (k v:Bs) (hkk:Ls k):aB Tryz.prog 48 [.sl 2 (prs l) .any,.str k,.str v] (.tup [.sl 2 (prs (gW l k v)) .any,.int .i64 (ua k v)]):=by
 refine f48.aw (by simp) (by simp[aA,aJ,aZ,iE]) (by simp[aJ,aA,aZ,iE]) ?_
 unfold c48
 simp only[C.zz]
 by_cases h1:128<k.length
 ·have d1:decide ((128:Int)<(k.length:Int))=true:=decide_eq_true (by omega)
  have hs:shut k v=true:=by simp[shut,h1]
  refine an0 d1 ?_
  refine ay ?_
  rw[gW,if_pos hs,ua,if_pos hs]
  exact aa.refl _
 ·have d1:decide ((128:Int)<(k.length:Int))=false:=decide_eq_false (by omega)
  by_cases h2:200<v.length
  ·have d2:decide ((200:Int)<(v.length:Int))=true:=decide_eq_true (by omega)
   have hs:shut k v=true:=by simp[shut,h2]
   refine an0 (cj2 d1 d2) ?_
   refine ay ?_
   rw[gW,if_pos hs,ua,if_pos hs]
   exact aa.refl _
  ·have d2:decide ((200:Int)<(v.length:Int))=false:=decide_eq_false (by omega)
   have hs:¬shut k v=true:=by simp[shut];omega
   rw[gW,if_neg hs,ua,if_neg hs]
   refine an0 (cj2 d1 d2) ?_
   refine Wp.le (aI.tok _ _) ?_
   refine Wp.oL [0,1,2] xA7 (fun (j:Nat × List Pr × Bool) tk=>[(8,.sl 2 (prs j.2.1) (.own tk)),(9,.bool j.2.2),(10,.int .i64 j.1)]) (fun j=>j.1≤l.length∧j.2.1++cg k v j.2.2 (l.drop j.1)=cg k v false l∧j.2.1.length≤2*j.1) (fun j=>l.length - j.1) (0,[],false) _ ⟨Nat.zero_le _,by simp,Nat.le_refl _⟩ rfl ?_ ?_
   ·simp only[az,go_sem,reduceIte,Nat.reduceEqDiff,Nat.reduceAdd,bx];and_intros<;>first|exact trivial|exact aa.refl _|exact aa.any _|exact aa.dW rfl|(refine aa.int ?_;omega)
   ·rintro ⟨j,o,b⟩ tk m ⟨hj,ho,hol⟩
    simp only at hj ho hol
    obtain ⟨g0,g0',g1,g1'⟩:=D7 (show o.length≤2000000 by omega)
    by_cases hc:j<l.length
    ·have q1:decide ((j:Int)<(l.length:Int))=true:=decide_eq_true (by omega)
     have q2:(0:Int)≤(j:Int):=by omega
     have q3:(j:Int)<(l.length:Int):=by omega
     have e1:IntKind.i64.wrap ((j:Int)+1)=((j+1:Nat):Int):=by rw[IntWalk.i64_in _ (by omega)];omega
     rw[gK hc,cg] at ho
     have hls:=D5 lk j
     have hbel:=lD (l.getD j default).k k hls hkk
     by_cases hk:(l.getD j default).k=k
     ·have q4:decide ((l.getD j default).k=k)=true:=decide_eq_true hk
      rw[if_pos hk,List.nil_append] at ho
      cases b with
      |true=>
       simp only[Bool.true_eq_false,false_and,if_false,List.nil_append,Bool.true_or] at ho
       refine an0 (cj9 @cw q1 q2 q3 q4 e1 @Int.toNat_natCast (fun d=>fh _ _ d hc) @gS.eq_1) ?_
       refine ⟨(j+1,o,true),tk,m,⟨by simp only;omega,ho,by simp only;omega⟩,by simp only;omega,?_⟩
       exact xSu
      |false=>
       cases hb:Op.bytesLess (l.getD j default).k k with
       |true=>
        rw[hb] at hbel ho
        simp only[Bool.true_eq_false,and_false,if_false,List.nil_append,Bool.not_true,Bool.or_self] at ho
        refine an1 (cj9 @cw q1 q2 q3 q4 e1 @Int.toNat_natCast (fun d=>fh _ _ d hc) @gS.eq_1) hbel ?_
        refine ⟨(j+1,o,false),tk,m,⟨by simp only;omega,ho,by simp only;omega⟩,by simp only;omega,?_⟩
        exact xSu
       |false=>
        rw[hb] at hbel ho
        simp only[true_and,and_self,if_true,Bool.not_false,Bool.or_true] at ho
        refine an1 (bj @cw q1 q2 q3 q4 e1 @Int.toNat_natCast (fun d=>fh _ _ d hc) @gS.eq_1 @List.length_cons.{0} @List.length_nil.{0} (cj3 @Nat.zero_add g0 g0')) hbel ?_
        refine ⟨(j+1,o++[⟨k,v⟩],true),m,m+1,⟨by simp only;omega,by rw[←ho];simp,by simp;omega⟩,by simp only;omega,?_⟩
        refine aI.tm (by simp only[az,go_sem,reduceIte,Nat.reduceEqDiff,Nat.reduceAdd,bx];and_intros<;>first|exact trivial|exact aa.refl _|exact aa.any _|exact aa.of_eq (by rw[←gq])|(refine aa.int ?_;omega))
     ·have q4:decide ((l.getD j default).k=k)=false:=decide_eq_false hk
      rw[if_neg hk] at ho
      cases b with
      |true=>
       simp only[Bool.true_eq_false,false_and,if_false,List.nil_append,Bool.true_or] at ho
       refine an0 (bj @cw q1 q2 q3 q4 e1 @Int.toNat_natCast (fun d=>fh _ _ d hc) @gS.eq_1 @List.length_cons.{0} @List.length_nil.{0} (cj3 @Nat.zero_add g0 g0')) ?_
       refine ⟨(j+1,o++[l.getD j default],true),m,m+1,⟨by simp only;omega,by rw[←ho];simp,by simp;omega⟩,by simp only;omega,?_⟩
       refine aI.tm (by simp only[az,go_sem,reduceIte,Nat.reduceEqDiff,Nat.reduceAdd,bx];and_intros<;>first|exact trivial|exact aa.refl _|exact aa.any _|exact aa.of_eq (by rw[←gq])|(refine aa.int ?_;omega))
      |false=>
       cases hb:Op.bytesLess (l.getD j default).k k with
       |true=>
        rw[hb] at hbel ho
        simp only[Bool.true_eq_false,and_false,if_false,List.nil_append,Bool.not_true,Bool.or_self] at ho
        refine an1 (bj @cw q1 q2 q3 q4 e1 @Int.toNat_natCast (fun d=>fh _ _ d hc) @gS.eq_1 @List.length_cons.{0} @List.length_nil.{0} (cj3 @Nat.zero_add g0 g0')) hbel ?_
        refine ⟨(j+1,o++[l.getD j default],false),m,m+1,⟨by simp only;omega,by rw[←ho];simp,by simp;omega⟩,by simp only;omega,?_⟩
        refine aI.tm (by simp only[az,go_sem,reduceIte,Nat.reduceEqDiff,Nat.reduceAdd,bx];and_intros<;>first|exact trivial|exact aa.refl _|exact aa.any _|exact aa.of_eq (by rw[←gq])|(refine aa.int ?_;omega))
       |false=>
        rw[hb] at hbel ho
        simp only[true_and,and_self,if_true,Bool.not_false,Bool.or_true] at ho
        refine an1 (bj @cw q1 q2 q3 q4 e1 @Int.toNat_natCast (fun d=>fh _ _ d hc) @gS.eq_1 @List.length_cons.{0} @List.length_nil.{0} (cj5 @Nat.zero_add g0 g0' g1 g1')) hbel ?_
        refine ⟨(j+1,o++[⟨k,v⟩]++[l.getD j default],true),m+1,m+2,⟨by simp only;omega,by rw[←ho];simp,by simp;omega⟩,by simp only;omega,?_⟩
        refine aI.tm (by simp only[az,go_sem,reduceIte,Nat.reduceEqDiff,Nat.reduceAdd,bx];and_intros<;>first|exact trivial|exact aa.refl _|exact aa.any _|exact aa.of_eq (by rw[←gq,←gq])|(refine aa.int ?_;omega))
    ·obtain rfl:j=l.length:=by omega
     have q1:decide ((l.length:Int)<(l.length:Int))=false:=decide_eq_false (by omega)
     rw[List.drop_length,cg] at ho
     cases b with
     |true=>
      simp only[if_true,List.append_nil] at ho
      refine an0 (cj2 @cw q1) ?_
      refine ay ?_
      rw[←ho]
      exact aa.tup (al.cons aa.own (al.refl _))
     |false=>
      simp only[Bool.false_eq_true,if_false] at ho
      refine an0 (cj7 @cw q1 @List.length_cons.{0} @List.length_nil.{0} @Nat.zero_add g0 g0') ?_
      refine ay ?_
      rw[←ho,←gq]
      exact aa.tup (al.cons aa.own (al.refl _))
def aS (l:List Pr):List Pr:=l.foldl (fun o p=>gW o p.k p.v) []
theorem eS {α:Type} [Inhabited α] {l:List α} {i:Nat} (h:i<l.length):l.take (i+1)=l.take i++[l.getD i default]:=by
 rw[List.take_succ_eq_append_getElem h,D6 h]
theorem kp (k v:Bs):∀(l:List Pr) (b:Bool) (x:Pr),x∈cg k v b l→x=⟨k,v⟩∨x∈l
 |[],b,x,h=>by cases b<;>simp[cg] at h;exact .inl h
 |p::l,b,x,h=>by
  rw[cg,List.mem_append,List.mem_append] at h
  rcases h with h|h|h
  ·split at h
   ·left;simpa using h
   ·simp at h
  ·split at h
   ·simp at h
   ·right;simp at h;simp[h]
  ·rcases kp k v l _ x h with h|h
   ·exact .inl h
   ·right;simp[h]
theorem yy {l:List Pr} {k v:Bs} {x:Pr} (h:x∈gW l k v):x=⟨k,v⟩∧shut k v=false∨x∈l:=by
 unfold gW at h
 split at h
 ·exact .inr h
 ·rename_i hs
  rcases kp k v l false x h with h|h
  ·exact .inl ⟨h,by simpa using hs⟩
  ·exact .inr h
def Lt (a b:Bs):Prop:=Op.bytesLess a b=true
theorem Lt.trans {a b c:Bs} (h1:Lt a b) (h2:Lt b c):Lt a c:=cO h1 h2
theorem Lt.ne {a b:Bs} (h:Lt a b):¬a=b:=fun e=>by rw[e,Lt,cf] at h;cases h
theorem Lt.not {a b:Bs} (h:Lt a b):Op.bytesLess b a=false:=sB h
theorem tri (a b:Bs):Lt a b∨a=b∨Lt b a:=fg a b
theorem not_lt {a b:Bs} (h:Op.bytesLess a b=false):a=b∨Lt b a:=by
 rcases tri a b with g|g|g
 ·rw[Lt,h] at g;cases g
 ·exact .inl g
 ·exact .inr g
def kP (l:List Pr):Prop:=l.Pairwise fun a b=>Lt a.k b.k
theorem mU (k v:Bs):∀l:List Pr,cg k v true l=rest k l
 |[]=>rfl
 |p::l=>by rw[cg,ox,Bool.true_or,mU k v l];simp
theorem iH {k v:Bs} {q:List Pr} (hq:q=[]∨∃x q',q=x::q'∧Op.bytesLess x.k k=false):∀p:List Pr,(∀x∈p,Lt x.k k)→cg k v false (p++q)=p++⟨k,v⟩::rest k q
 |[],_=>by
  rcases hq with rfl|⟨x,q',rfl,hx⟩
  ·rfl
  ·rw[List.nil_append,cg,hx,ox,Bool.false_or,Bool.not_false,mU];simp
 |y::p,h=>by
  have hy:=h y (by simp)
  have rec':=iH (v:=v) hq p (fun x hx=>h x (by simp[hx]))
  rw[List.cons_append,cg,if_neg hy.ne,show Op.bytesLess y.k k=true from hy,Bool.not_true,Bool.or_self,rec']
  simp
theorem qJ {k v:Bs}:∀{l:List Pr},kP l→kP (cg k v false l)
 |[],_=>by simp[cg,kP]
 |x::l,h=>by
  have hx:=List.pairwise_cons.1 h
  cases hb:Op.bytesLess x.k k with
  |true=>
   have hlt:Lt x.k k:=hb
   have:=iH (k:=k) (v:=v) (q:=[]) (.inl rfl)
   have e:cg k v false (x::l)=x::cg k v false l:=by rw[cg,hb,if_neg hlt.ne];simp
   rw[e]
   refine List.pairwise_cons.2 ⟨fun y hy=>?_,qJ hx.2⟩
   rcases kp k v l false y hy with rfl|hy
   ·exact hlt
   ·exact hx.1 y hy
  |false=>
   have e:=iH (k:=k) (v:=v) (q:=x::l) (.inr ⟨x,l,rfl,hb⟩) [] (by simp)
   rw[List.nil_append,List.nil_append] at e
   rw[e]
   refine List.pairwise_cons.2 ⟨fun y hy=>?_,h.sublist List.filter_sublist⟩
   obtain ⟨h1,h2⟩:=List.mem_filter.1 hy
   have hne:¬y.k=k:=by simpa [Cq] using h2
   have hxk:=not_lt hb
   rcases List.mem_cons.1 h1 with rfl|h1
   ·rcases hxk with hxk|hxk
    ·exact absurd hxk hne
    ·exact hxk
   ·have h3:Lt x.k y.k:=hx.1 y h1
    rcases hxk with hxk|hxk
    ·show Lt k y.k;rw[←hxk];exact h3
    ·exact hxk.trans h3
theorem vW {l:List Pr} (h:kP l) (k v:Bs):kP (gW l k v):=by
 unfold gW;split
 ·exact h
 ·exact qJ h
def OkP (l:List Pr):Prop:=∀p∈l,shut p.k p.v=false
theorem pq (l:List Pr):∀o:List Pr,kP o→OkP o→kP (l.foldl (fun o p=>gW o p.k p.v) o)∧OkP (l.foldl (fun o p=>gW o p.k p.v) o)∧(l.foldl (fun o p=>gW o p.k p.v) o).length≤o.length+l.length:=by
 induction l with
 |nil=>intro o h1 h2;exact ⟨h1,h2,by simp⟩
 |cons p l ih=>
  intro o h1 h2
  obtain ⟨a,b,c⟩:=ih (gW o p.k p.v) (vW h1 _ _) (fun x hx=>by
   rcases yy hx with ⟨rfl,hs⟩|hx
   ·exact hs
   ·exact h2 x hx)
  have:=yw o p.k p.v
  exact ⟨a,b,by simp only[List.foldl_cons,List.length_cons] at c ⊢;omega⟩
theorem kq (l:List Pr):kP (aS l)∧OkP (aS l)∧(aS l).length≤l.length:=by
 have:=pq l [] List.Pairwise.nil (by simp[OkP])
 simpa [aS] using this
structure CF (x y:List Pr) (c:Ch):Prop where
 del:c.d=true→c.v=[]∧(∃q∈x,q.k=c.k)∧∀q∈y,¬q.k=c.k
 put:c.d=false→(⟨c.k,c.v⟩:Pr)∈y∧∀q∈x,q.k=c.k→¬q.v=c.v
theorem CF.key {x y:List Pr} {c:Ch} (h:CF x y c):∃q,(q∈x∨q∈y)∧q.k=c.k:=by
 cases hd:c.d with
 |true=>obtain ⟨-,⟨q,hq,e⟩,-⟩:=h.del hd;exact ⟨q,.inl hq,e⟩
 |false=>exact ⟨⟨c.k,c.v⟩,.inr (h.put hd).1,rfl⟩
end Go.Proofs.YtjnoobmaedgooaaGreat.Batch
end
section
set_option maxRecDepth 100000
namespace Go.Proofs.YtjnoobmaedgooaaGreat.Arch
open Go Go.Av Go.Proofs Go.Proofs.YtjnoobmaedgooaaGreat.C Go.Proofs.YtjnoobmaedgooaaGreat.Batch Go.Proofs.YtjnoobmaedgooaaGreat.Desk
def kyB (b:Bk):Ky:=⟨1,b.n,[],[]⟩
def kyV (n:List UInt8) (v:Vs):Ky:=⟨2,n,v.o,[v.id]⟩
def kyC (n:List UInt8) (v:Vs) (k:Nat):Ky:=⟨3,n,v.o,[v.id,k]⟩
def ub (v:Vs):List UInt8:=cy v.sz v.re v.im v.g v.u
def yz (b:Bk):Ch:=⟨dI (kyB b),stS b.st,false⟩
def chV (n:List UInt8) (v:Vs):Ch:=⟨dI (kyV n v),ub v,false⟩
def chC (n:List UInt8) (v:Vs) (k:Nat):Ch:=⟨dI (kyC n v k),chunk v.b k,false⟩
def ca (n:List UInt8) (v:Vs):List Ch:=chV n v::(List.range (de v.b)).map (chC n v)
def bg (b:Bk):List (List Ch):=[yz b]::b.l.map (ca b.n)
def Vs.room (v:Vs):Prop:=v.id<9223372036854775808∧v.b.length≤2560
theorem pt (b:Bk):(kyB b).fit:=⟨by simp[kyB],by simp[kyB]⟩
theorem py (n:List UInt8) {v:Vs} (h:v.room):(kyV n v).fit:=⟨by simp[kyV],by simp[kyV];exact h.1⟩
theorem pz (n:List UInt8) {v:Vs} (h:v.room) (k:Nat) (hk:k≤1000000):(kyC n v k).fit:=⟨by simp[kyC],by simp[kyC];exact ⟨h.1,by omega⟩⟩
theorem mV (x:Ky) (hf:x.fit) (v:List UInt8):aB Tryz.prog 92 [dD x,.str v] (.agg [.str (dI x),.str v,.bool false]):=by
 refine f92.aw (by simp) (by simp[aA,dv,aJ]) rfl ?_
 unfold c92
 simp only[C.zz]
 have c1:=D3 x hf
 have hE:dD x= .agg [.int .i64 x.k,.str x.b,.str x.o,.sl 1 (ints x.ns) .any]:=rfl
 rw[hE] at c1 ⊢
 refine oY c1 ?_
 refine ay ?_
 exact aa.refl _
theorem sM (x:Ky) (hf:x.fit):aB Tryz.prog 98 [.int .i64 x.k,.str x.b,.str x.o,.sl 1 (ints x.ns) .any] (.str (dI x)):=by
 refine f98.aw (by simp) (by simp[aA,aJ,aZ,nC]) rfl ?_
 unfold c98
 simp only[C.zz]
 have c1:=Cm x hf
 have hE:dD x= .agg [.int .i64 x.k,.str x.b,.str x.o,.sl 1 (ints x.ns) .any]:=rfl
 rw[hE] at c1
 refine oY c1 ?_
 refine ay ?_
 exact aa.refl _
theorem yA (b:Bk):aB Tryz.prog 44 [cT b] (.clo (.func 91) [] [.ref [.str b.n,.int .i64 b.st,.sl 8 (vss b.l) .any]]):=by
 refine f44.zB (by simp) (by simp[aA,gN]) (by simp[aJ,aA,aZ,mQ]) ?_
 unfold c44
 simp only[C.zz]
 have hE:cT b= .agg [.str b.n,.int .i64 b.st,.sl 8 (vss b.l) .any]:=rfl
 rw[hE]
 refine mr ?_
 refine Wp.ret ⟨trivial,_,rfl,?_⟩
 simp[unT,oO,upd,go_sem]
 exact aa.refl _
def rws (l:List (List Ch)):List AV:=l.map fun r=> .sl 3 (chs r) .any
theorem mW (l:List (List Ch)):(rws l).length=l.length:=List.length_map _
theorem yB (l:List (List Ch)):aA (rws l)=true:=Av.aQ (fun a=>by simp[aJ,aZ,ye]) l
theorem yC (l:List (List Ch)) (r:List Ch):rws (l++[r])=rws l++[.sl 3 (chs r) .any]:=by simp[rws]
theorem yD (l:List (List Ch)) (j:Nat) (d:AV) (h:j<l.length):(rws l).getD j d= .sl 3 (chs (l.getD j default)) .any:=by
 simp[rws,List.getD_eq_getElem?_getD,List.getElem?_eq_getElem h]
theorem mX {v:Vs} (h:v.okV=true):v.room:=by
 have h2:=lH h
 refine ⟨?_,h2.2.2⟩
 simp only[Vs.okV,Bool.and_eq_true,decide_eq_true_eq] at h
 omega
theorem pA {b:Bk} (h:eH b=true) (j:Nat) (hj:j<b.l.length):(b.l.getD j default).room:=by
 unfold eH at h
 simp only[Bool.and_eq_true] at h
 exact mX (gk h.2 j hj)
theorem jQ {s:List UInt8} (h:s.length≤2560):de s≤16:=by unfold de;omega
theorem qK (n:List UInt8) (l:List Vs) (j:Nat) (h:j<l.length):(l.take (j+1)).map (ca n)=(l.take j).map (ca n)++[ca n (l.getD j default)]:=by
 have e:l.getD j default=l[j]:=by simp[List.getD_eq_getElem?_getD,List.getElem?_eq_getElem h]
 rw[e,List.take_succ_eq_append_getElem h,List.map_append];simp
def eG (n:List UInt8) (v:Vs) (k:Nat):List Ch:=chV n v::(List.range k).map (chC n v)
theorem mY (n:List UInt8) (v:Vs) (k:Nat):chs (eG n v (k+1))=chs (eG n v k)++[.agg [.str (dI (kyC n v k)),.str (chunk v.b k),.bool false]]:=by
 simp[eG,chs,List.range_succ,og,chC]
theorem oy (n:List UInt8) (v:Vs) (k:Nat):(chs (eG n v k)).length=k+1:=by simp[eG,chs]
theorem mZ (l:List (List UInt8)) (j:Nat) (d:AV) (h:j<l.length):(gl l).getD j d= .str (l.getD j default):=by
 simp[gl,List.getD_eq_getElem?_getD,List.getElem?_eq_getElem h]
theorem oz (s:List UInt8) (n j:Nat) (h:j<n):(chunks s n).getD j default=chunk s j:=by
 simp[chunks,List.getD_eq_getElem?_getD,h]
theorem qL {k n:Nat} (h:k<n) (hn:n≤1000000):decide ((k:Int)<(n:Int))=true∧(0:Int)≤(k:Int)∧(k:Int)<(n:Int)∧IntKind.i64.wrap ((k:Int)+1)=((k+1:Nat):Int)∧(k+1+1)*40≤140737488355328∧k+1+1<4611686018427387904:=by
 refine ⟨decide_eq_true (by omega),by omega,by omega,?_,by omega,by omega⟩
 rw[IntWalk.i64_in _ (by omega)];omega
theorem eh {k n:Nat} (h:k<n) (hn:n≤10000000):decide ((k:Int)<(n:Int))=true∧(0:Int)≤(k:Int)∧(k:Int)<(n:Int)∧IntKind.i64.wrap ((k:Int)+1)=((k+1:Nat):Int):=by
 refine ⟨decide_eq_true (by omega),by omega,by omega,?_⟩
 rw[IntWalk.i64_in _ (by omega)];omega
theorem fO (n:Nat):decide ((n:Int)<(n:Int))=false:=decide_eq_false (by omega)
theorem OLe.uc (f:Nat→Option Av.Obj):OLe f f:=fun j o h=>⟨o,h,cD.refl o⟩
theorem yE {h:Nat→Option Av.Obj} {n:Nat} {A B:Av.Obj}:OLe (upd (upd h n (some A)) n (some B)) (upd h n (some B)):=fun a u hu=>by
 refine ⟨u,?_,cD.refl _⟩
 simp only[upd] at hu ⊢
 by_cases a1:a=n
 ·subst a1;simpa using hu
 ·simpa [a1] using hu
set_option maxHeartbeats 4000000 in
theorem vX (b:Bk) (hb:eH b=true) (hl:b.l.length≤1000000):aB Tryz.prog 47 [cT b] (.sl 1 (rws (bg b)) .any):=by
 refine f47.aw (by simp) (by simp[aA,gN]) (by simp[aJ,aZ,yB]) ?_
 unfold c47
 simp only[C.zz]
 have hroom:=pA hb
 have c1:=yf b.st
 have c2:=sM (kyB b) (pt b)
 have hL:bg b=[yz b]::b.l.map (ca b.n):=rfl
 have hB1:yz b=⟨dI (kyB b),stS b.st,false⟩:=rfl
 rw[hL,hB1]
 unfold kyB at c2 ⊢
 simp only at c2
 clear hb hL hB1
 obtain ⟨nm,st,l⟩:=b
 simp only at*
 have hE:cT ⟨nm,st,l⟩= .agg [.str nm,.int .i64 st,.sl 8 (vss l) .any]:=rfl
 have len:=dw l
 rw[hE]
 have hi0:ints []=[]:=rfl
 rw[hi0] at c2
 generalize dI ⟨1,nm,[],[]⟩=k0 at*
 generalize stS st=s0 at*
 repeat (first
  |((first|apply Wp.bb|apply Wp.cr|((first
    |(refine ae.aN ?_ ?_ (c1) ?_;(· simp only[go_sem,reduceIte,Nat.reduceEqDiff,Nat.reduceAdd,bx]);(· simp only[go_sem,reduceIte,Nat.reduceEqDiff,Nat.reduceAdd,bx,List.map];first|exact al.refl _|(repeat (first|exact al.nil|refine al.cons xA5 ?_))))
    |(refine ae.aN ?_ ?_ (c2) ?_;(· simp only[go_sem,reduceIte,Nat.reduceEqDiff,Nat.reduceAdd,bx]);(· simp only[go_sem,reduceIte,Nat.reduceEqDiff,Nat.reduceAdd,bx,List.map];exact al.cons (aa.refl _) (al.cons (aa.refl _) (al.cons (aa.refl _) (al.cons aa.cap al.nil))))));apply ae.evR));(· simp only[go_sem,reduceIte,Nat.reduceEqDiff,Nat.reduceAdd,bx,ax,if_true,if_false,Nat.reduceMul,Nat.reduceLeDiff];exact rfl))
  |(refine ae.nil ⟨?_,?_⟩;(· first|trivial|simp[aR,aP,apart,aF]))
  |(apply Wp.aL;(· simp only[go_sem,reduceIte,Nat.reduceEqDiff,Nat.reduceAdd,bx,ax,if_true,if_false,Nat.reduceMul,Nat.reduceLeDiff];exact rfl);(· rfl))
  |refine Wp.skip ?_
  |refine Wp.label ?_
  |refine Wp.block ?_
  |refine Wp.exit ?_
  |refine Wp.seq ?_)
 refine Wp.le (aI.tok _ _) ?_
 refine Wp.dM [1] xA7 (fun b:Nat × Nat × Nat × Nat=>[(5,.sl 1 (rws ([⟨k0,s0,false⟩]::(l.take b.1).map (ca nm))) (.own b.2.1)),(6,.int .i64 (b.1:Nat))])
  (fun b=>⟨upd af 0 (some (.cells [.str nm,.int .i64 st,.sl 8 (vss l) .any])),b.2.2.1,[b.2.1],b.2.2.2⟩) (fun b=>b.1≤l.length∧1≤b.2.2.1∧b.2.1<b.2.2.2) (fun b=>l.length - b.1) (0,0,1,1) ⟨Nat.zero_le _,Nat.le_refl _,by simp⟩ rfl ?_ ?_
 ·simp only[az,go_sem,reduceIte,Nat.reduceEqDiff,Nat.reduceAdd,bx,List.take_zero,List.map_nil];and_intros<;>first|exact trivial|exact aa.refl _|exact aa.any _|exact aa.trans (aa.dW rfl) (aa.slc ⟨aa.cap,trivial⟩)|(refine aa.int ?_;omega)
 rintro ⟨j,tk,n,m⟩ ⟨hj,hn2,htm⟩
 simp only at hj hn2 htm
 have n0:¬(0=n):=by omega
 have n1:¬(n=0):=by omega
 by_cases hc:j<l.length
 ·obtain ⟨g1,h2,h3,e1⟩:=ixF (j:=j) (n:=l.length) (by omega) (by omega)
  have hat:=eE l j .any hc
  have hsn:=qK nm l j hc
  have hrm:=hroom j hc
  have hlen:(rws ([⟨k0,s0,false⟩]::(l.take j).map (ca nm))).length=j+1:=by rw[mW];simp;omega
  have e6:(j+1+1)*24≤140737488355328:=by omega
  have e7:j+1+1<4611686018427387904:=by omega
  generalize l.getD j default=v at*
  have c3:=qE v.sz v.re v.im v.g v.u
  have c4:=sM (kyV nm v) (py nm hrm)
  have c5:=Cp v.b hrm.2
  have c6:=fun k hk=>sM (kyC nm v k) (pz nm hrm k hk)
  have h16:=jQ hrm.2
  have hP0:eG nm v 0=[⟨dI (kyV nm v),cy v.sz v.re v.im v.g v.u,false⟩]:=rfl
  have hPs:=mY nm v
  have hPl:=oy nm v
  have hT:ca nm v=eG nm v (de v.b):=rfl
  have hch:=oz v.b (de v.b)
  have hsl:=mZ (chunks v.b (de v.b))
  have hcl:=eA v.b (de v.b)
  have hsl2:=eQ (chunks v.b (de v.b))
  rw[hcl] at hsl2 hsl
  generalize de v.b=cn at*
  generalize chunks v.b cn=cks at*
  unfold kyV at c4 hP0
  unfold kyC at c6 hPs
  simp only at c4 c6
  have hi1:ints [v.id]=[.int .i64 v.id]:=rfl
  have hi2:∀k:Nat,ints [v.id,k]=[.int .i64 v.id,.int .i64 k]:=fun _=>rfl
  rw[hi1] at c4
  simp only[hi2] at c6
  unfold eJ at c3
  unfold bN at hat
  generalize dI ⟨2,nm,v.o,[v.id]⟩=k1 at*
  generalize cy v.sz v.re v.im v.g v.u=hh at*
  repeat (first
   |((first|apply Wp.bb|apply Wp.cr|((first
     |(refine ae.aN ?_ ?_ (c3) ?_;(· simp only[go_sem,reduceIte,Nat.reduceEqDiff,Nat.reduceAdd,bx]);(· simp only[go_sem,reduceIte,Nat.reduceEqDiff,Nat.reduceAdd,bx,List.map];first|exact al.refl _|(repeat (first|exact al.nil|refine al.cons xA5 ?_))))
     |(refine ae.aN ?_ ?_ (c4) ?_;(· simp only[go_sem,reduceIte,Nat.reduceEqDiff,Nat.reduceAdd,bx]);(· simp only[go_sem,reduceIte,Nat.reduceEqDiff,Nat.reduceAdd,bx,List.map];exact al.cons (aa.refl _) (al.cons (aa.refl _) (al.cons (aa.refl _) (al.cons aa.cap al.nil)))))
     |(refine ae.aN ?_ ?_ (c5) ?_;(· simp only[go_sem,reduceIte,Nat.reduceEqDiff,Nat.reduceAdd,bx]);(· simp only[go_sem,reduceIte,Nat.reduceEqDiff,Nat.reduceAdd,bx,List.map];first|exact al.refl _|(repeat (first|exact al.nil|refine al.cons xA5 ?_)))));apply ae.evR));(· simp only[go_sem,reduceIte,Nat.reduceEqDiff,Nat.reduceAdd,bx,ax,if_true,if_false,Nat.reduceMul,Nat.reduceLeDiff,g1,h2,h3,len,hat,n0,n1,Int.toNat_natCast];exact rfl))
   |(refine ae.nil ⟨?_,?_⟩;(· first|trivial|simp[aR,aP,apart,aF]))
   |(apply Wp.aL;(· simp only[go_sem,reduceIte,Nat.reduceEqDiff,Nat.reduceAdd,bx,ax,if_true,if_false,Nat.reduceMul,Nat.reduceLeDiff,g1,h2,h3,len,hat,n0,n1,Int.toNat_natCast];exact rfl);(· rfl))
   |refine Wp.skip ?_
   |refine Wp.label ?_
   |refine Wp.block ?_
   |refine Wp.exit ?_
   |refine Wp.seq ?_)
  have VER:(some (Av.Obj.cells [.str v.o,.int .i64 v.id,.int .i64 v.sz,.int .i64 v.re,.int .i64 v.im,.bool v.g,.bool v.u,.str v.b]))=some (Av.Obj.cells [.str v.o,.int .i64 v.id,.int .i64 v.sz,.int .i64 v.re,.int .i64 v.im,.bool v.g,.bool v.u,.str v.b]):=rfl
  refine Wp.le (aI.tok _ _) ?_
  refine Wp.le (s':=⟨tm [(1,.ptr 0 0),(5,.sl 1 (rws ([⟨k0,s0,false⟩]::(l.take j).map (ca nm))) (.own tk)),(6,.int .i64 j),(7,.ptr n 0),(10,.sl 3 (chs (eG nm v 0)) (.own m)),(11,.sl 1 (gl cks) .any),(13,.int .i64 0)],
   ⟨upd (upd af 0 (some (.cells [.str nm,.int .i64 st,.sl 8 (vss l) .any]))) n (some (.cells [.str v.o,.int .i64 v.id,.int .i64 v.sz,.int .i64 v.re,.int .i64 v.im,.bool v.g,.bool v.u,.str v.b])),n+1,[m,tk],m+1⟩⟩) (aI.of (bE ?_) yE (fun a ha=>ha) (Nat.le_refl _) (Nat.le_refl _)) ?_
  ·rw[hP0]
   simp only[az,go_sem,reduceIte,Nat.reduceEqDiff,Nat.reduceAdd,bx];and_intros<;>first|exact trivial|exact aa.refl _|exact aa.any _|exact aa.dW rfl|(refine aa.int ?_;omega)
  refine Wp.dM [1,5,6,7,11] xA7 (fun b:Nat × Nat × Nat=>[(10,.sl 3 (chs (eG nm v b.1)) (.own b.2.1)),(13,.int .i64 (b.1:Nat))])
   (fun b=>⟨upd (upd af 0 (some (.cells [.str nm,.int .i64 st,.sl 8 (vss l) .any]))) n (some (.cells [.str v.o,.int .i64 v.id,.int .i64 v.sz,.int .i64 v.re,.int .i64 v.im,.bool v.g,.bool v.u,.str v.b])),n+1,[b.2.1,tk],b.2.2⟩)
   (fun b=>b.1≤cn∧m≤b.2.1∧m<b.2.2) (fun b=>cn - b.1) (0,m,m+1) ⟨Nat.zero_le _,Nat.le_refl _,by simp⟩ rfl ?_ ?_
  ·exact xSb
  rintro ⟨k,t2,m2⟩ ⟨hk,hm1,hm2⟩
  simp only at hk hm1 hm2
  by_cases hck:k<cn
  ·obtain ⟨kg,k2,k3,ke,e8,e9⟩:=qL hck (Nat.le_trans h16 (by decide))
   have c7:=c6 k (Nat.le_trans hk (Nat.le_trans h16 (by decide)))
   have hx:=hsl k .any hck
   rw[hch k hck] at hx
   have hPk:=hPs k
   have hlk:=hPl k
   generalize chs (eG nm v k)=row at*
   generalize dI ⟨3,nm,v.o,[v.id,(k:Int)]⟩=kk at*
   generalize chunk v.b k=ck at*
   repeat (first
    |((first|apply Wp.bb|apply Wp.cr|((first
      |(refine ae.aN ?_ ?_ (c7) ?_;(· simp only[go_sem,reduceIte,Nat.reduceEqDiff,Nat.reduceAdd,bx]);(· simp only[go_sem,reduceIte,Nat.reduceEqDiff,Nat.reduceAdd,bx,List.map];exact al.cons (aa.refl _) (al.cons (aa.refl _) (al.cons (aa.refl _) (al.cons aa.cap al.nil))))));apply ae.evR));(· simp only[go_sem,reduceIte,Nat.reduceEqDiff,Nat.reduceAdd,bx,ax,if_true,if_false,Nat.reduceMul,Nat.reduceLeDiff,kg,k2,k3,hsl2,n0,n1,hx,hlk,e8,e9,Nat.mul_one,Nat.one_mul,List.length_cons,List.length_nil,Nat.zero_add,List.mem_cons,true_or,and_self,Int.toNat_natCast];exact rfl))
    |(refine ae.nil ⟨?_,?_⟩;(· first|trivial|simp[aR,aP,apart,aF]))
    |(apply Wp.aL;(· simp only[go_sem,reduceIte,Nat.reduceEqDiff,Nat.reduceAdd,bx,ax,if_true,if_false,Nat.reduceMul,Nat.reduceLeDiff,kg,k2,k3,hsl2,n0,n1,hx,hlk,e8,e9,Nat.mul_one,Nat.one_mul,List.length_cons,List.length_nil,Nat.zero_add,List.mem_cons,true_or,and_self,Int.toNat_natCast];exact rfl);(· rfl))
    |refine Wp.skip ?_
    |refine Wp.label ?_
    |refine Wp.block ?_
    |refine Wp.exit ?_
    |refine Wp.seq ?_)
   refine ⟨(k+1,m2,m2+1),⟨hck,by show m≤m2;exact Nat.le_of_lt hm2,Nat.lt_succ_of_lt hm2⟩,Nat.sub_lt_sub_left hck (Nat.lt_succ_self _),?_⟩
   rw[hPk]
   have hne:decide (¬tk=t2)=true:=decide_eq_true (by omega)
   refine aI.of (bE ?_) (OLe.uc _) (fun a ha=>?_) (Nat.le_refl _) (Nat.le_refl _)
   ·simp only[az,go_sem,reduceIte,Nat.reduceEqDiff,Nat.reduceAdd,bx,ke];and_intros<;>first|exact trivial|exact aa.refl _|exact aa.any _|(refine aa.int ?_;omega)
   ·simpa [hne] using ha
  ·have hk2:k=cn:=by omega
   subst hk2
   have kg:=fO k
   refine rn0 (cj4 kg hsl2 n0 n1) ?_
   refine Wp.le (s':=⟨tm [(1,.ptr 0 0),(5,.sl 1 (rws ([⟨k0,s0,false⟩]::(l.take j).map (ca nm))) (.own tk)),(6,.int .i64 j),(10,.sl 3 (chs (eG nm v k)) .any)],
    ⟨upd af 0 (some (.cells [.str nm,.int .i64 st,.sl 8 (vss l) .any])),n+1,[tk],m2⟩⟩) (aI.of (bE ?_) (OLe.skip (by simp[upd,af,n1])) (fun a ha=>by simp only[List.mem_singleton] at ha;subst ha;simp) (Nat.le_refl _) (Nat.le_refl _)) ?_
   ·simp only[az,go_sem,reduceIte,Nat.reduceEqDiff,Nat.reduceAdd,bx];and_intros<;>first|exact trivial|exact aa.refl _|exact aa.any _|exact aa.cap|(refine aa.int ?_;omega)
   refine rn0 (bj e6 e7 hlen @Nat.mul_one @Nat.one_mul @List.length_cons.{0} @List.length_nil.{0} @Nat.zero_add @List.mem_cons.{0} @List.mem_singleton.{0} @true_or @and_self) ?_
   refine ⟨(j+1,m2,n+1,m2+1),⟨hc,by simp,by simp⟩,Nat.sub_lt_sub_left hc (Nat.lt_succ_self _),?_⟩
   refine aI.of (bE ?_) (OLe.uc _) (fun a ha=>by simpa using ha) (Nat.le_refl _) (Nat.le_refl _)
   rw[hsn,hT,←List.cons_append,yC]
   simp only[az,go_sem,reduceIte,Nat.reduceEqDiff,Nat.reduceAdd,bx,e1];and_intros<;>first|exact trivial|exact aa.refl _|exact aa.any _|(refine aa.int ?_;omega)
 ·have hj2:j=l.length:=by omega
  subst hj2
  have g1:=ixE (l.length)
  rw[List.take_length]
  refine rn0 (cj2 g1 @len) ?_
  refine ay ?_
  exact aa.cap
def bU (c:Ch):Pr:=⟨c.k,c.v⟩
def gU (b:Bk):List Pr:=(bg b).flatten.map bU
def bc (m:List Bk):List Pr:=(m.map gU).flatten
theorem qM (a:List Pr) (p:Pr):aS (a++[p])=gW (aS a) p.k p.v:=by simp[aS]
theorem Cs (l:List Pr):∀p∈aS l,Ls p.k:=fun p hp=>by
 have:=(kq l).2.1 p hp
 simp only[shut,Bool.or_eq_false_iff,decide_eq_false_iff_not] at this
 unfold Ls;omega
theorem jR {α β:Type} [Inhabited α] (f:α→β) (l:List α) (j:Nat) (h:j<l.length):(l.take (j+1)).map f=(l.take j).map f++[f (l.getD j default)]:=by
 have e:l.getD j default=l[j]:=by simp[List.getD_eq_getElem?_getD,List.getElem?_eq_getElem h]
 rw[e,List.take_succ_eq_append_getElem h,List.map_append];simp
theorem na (m:List Bk) (j:Nat) (h:j<m.length):bc (m.take (j+1))=bc (m.take j)++gU (m.getD j default):=by
 unfold bc
 rw[jR gU m j h];simp
theorem oA (l:List (List Ch)) (j:Nat) (h:j<l.length):((l.take (j+1)).flatten.map bU)=(l.take j).flatten.map bU++(l.getD j []).map bU:=by
 have e:l.getD j []=l[j]:=by simp[List.getD_eq_getElem?_getD,List.getElem?_eq_getElem h]
 rw[e,List.take_succ_eq_append_getElem h,List.flatten_append,List.map_append];simp only[List.flatten_cons,List.flatten_nil,List.append_nil]
theorem qN (m:List Bk) (j:Nat):(bc (m.take j)).length≤(bc m).length:=by
 have h:bc m=bc (m.take j)++bc (m.drop j):=by unfold bc;rw[←List.flatten_append,←List.map_append,List.take_append_drop]
 rw[h,List.length_append];omega
theorem ud (l:List (List Ch)) (j:Nat):((l.take j).flatten.map bU).length≤(l.flatten.map bU).length:=by
 have h:l.flatten.map bU=(l.take j).flatten.map bU++(l.drop j).flatten.map bU:=by rw[←List.map_append,←List.flatten_append,List.take_append_drop]
 rw[h,List.length_append];omega
theorem ue (l:List Pr):(aS l).length≤l.length:=(kq l).2.2
theorem pB (x:Ky) (hf:x.fit):Ls (dI x):=by
 unfold dI Ls
 split
 ·rename_i h
  have:=lF (mP hf h)
  omega
 ·simp
theorem vY {b:Bk} (hb:eH b=true):∀r∈bg b,∀c∈r,Ls c.k:=by
 intro r hr c hc
 unfold bg at hr
 rcases List.mem_cons.1 hr with rfl|hr
 ·simp only[List.mem_singleton] at hc
  subst hc
  exact pB _ (pt b)
 ·obtain ⟨v,hv,rfl⟩:=List.mem_map.1 hr
  obtain ⟨i,hi,rfl⟩:=List.mem_iff_getElem.1 hv
  have hrm:=pA hb i hi
  have e:b.l.getD i default=b.l[i]:=by simp[List.getD_eq_getElem?_getD,List.getElem?_eq_getElem hi]
  rw[e] at hrm
  unfold ca at hc
  rcases List.mem_cons.1 hc with rfl|hc
  ·exact pB _ (py _ hrm)
  ·obtain ⟨k,hk,rfl⟩:=List.mem_map.1 hc
   have h16:=jQ hrm.2
   have:=List.mem_range.1 hk
   exact pB _ (pz _ hrm k (by omega))
set_option maxHeartbeats 4000000 in
theorem vZ (m:List Bk) (hf:Few m) (hF:imB m=true→(bc m).length≤100000):aB Tryz.prog 14 [bY m] (.tup [.sl 2 (prs (if imB m=true then aS (bc m) else [])) .any,.int .i64 (imE m)]):=by
 refine f14.aw (by simp) (by simp[aA,cA]) (by simp[aJ,aA,aZ,iE]) ?_
 unfold c14
 simp only[C.zz]
 have h1:=mS m hf
 have len:=dy m
 unfold imE at*
 cases hm:imB m with
 |false=>
  rw[hm] at h1
  simp only[Bool.false_eq_true,if_false] at h1 ⊢
  unfold bY at*
  refine vc h1 ?_
  refine ay ?_
  exact aa.tup (al.cons aa.cap (al.refl _))
 |true=>
  rw[hm] at h1
  simp only[if_true] at h1 ⊢
  unfold bY at*
  obtain ⟨hl,hok⟩:=ow hm
  replace hF:=hF hm
  refine vc h1 ?_
  refine Wp.cI [1] xA6 (fun j:Nat=>[(5,.sl 2 (prs (aS (bc (m.take j)))) .any),(6,.int .i64 (j:Nat))]) (fun j=>j≤m.length) (fun j=>m.length - j) 0 (Nat.zero_le _) ?_ ?_
  ·simp only[az,go_sem,reduceIte,Nat.reduceEqDiff,Nat.reduceAdd,bx];and_intros<;>first|exact trivial|exact aa.refl _|exact aa.any _|exact aa.cap|(refine aa.int ?_;omega)
  rintro j hj
  by_cases hc:j<m.length
  ·obtain ⟨g1,g2,g3,e1⟩:=eh hc (Nat.le_trans hl (by decide))
   have hat:=dJ m j .any hc
   have hb:=hok j hc
   have hfe:=hf.at j
   have hsn:=na m j hc
   have hle:=qN m (j+1)
   rw[hsn,List.length_append] at hle
   have c1:=vX (m.getD j default) hb hfe
   have hls:=vY hb
   have hFB:gU (m.getD j default)=(bg (m.getD j default)).flatten.map bU:=rfl
   rw[hFB] at hsn hle
   have htl:(bg (m.getD j default)).length≤1000001:=by simp only[bg,List.length_cons,List.length_map];exact Nat.succ_le_succ hfe
   generalize bg (m.getD j default)=R at*
   generalize bc (m.take j)=P0 at*
   generalize m.getD j default=b at*
   clear hFB
   obtain ⟨nm,st,vl⟩:=b
   unfold cT at hat c1
   have rl:=mW R
   refine rn1 (cj6 g1 g2 g3 @len hat @Int.toNat_natCast) c1 ?_
   refine Wp.cI [1,6,7] xA6 (fun k:Nat=>[(5,.sl 2 (prs (aS (P0++(R.take k).flatten.map bU))) .any),(8,.int .i64 (k:Nat))]) (fun k=>k≤R.length) (fun k=>R.length - k) 0 (Nat.zero_le _) ?_ ?_
   ·simp only[az,go_sem,reduceIte,Nat.reduceEqDiff,Nat.reduceAdd,bx,List.take_zero,List.flatten_nil,List.map_nil,List.append_nil];and_intros<;>first|exact trivial|exact aa.refl _|exact aa.any _|(refine aa.int ?_;omega)
   rintro k hk
   by_cases hck:k<R.length
   ·obtain ⟨k1,k2,k3,k4⟩:=eh hck (Nat.le_trans htl (by decide))
    have hak:=yD R k .any hck
    have hsk:=oA R k hck
    have hlk:=ud R (k+1)
    rw[hsk,List.length_append] at hlk
    have hm2:R.getD k []∈R:=by rw[show R.getD k []=R[k] by simp[List.getD_eq_getElem?_getD,List.getElem?_eq_getElem hck]];exact List.getElem_mem hck
    have hls2:=hls _ hm2
    have hdd:R.getD k default=R.getD k []:=rfl
    rw[hdd] at hak
    generalize R.getD k []=r at*
    have hfin:P0++(R.take (k+1)).flatten.map bU=(P0++(R.take k).flatten.map bU)++r.map bU:=by rw[hsk,List.append_assoc]
    have hb2:(P0++(R.take k).flatten.map bU).length+r.length≤100000:=by
     have q1:r.length=(r.map bU).length:=(List.length_map _).symm
     rw[List.length_append,q1]
     exact Nat.le_trans (by omega) hF
    generalize P0++(R.take k).flatten.map bU=P1 at*
    clear hlk hle hm2 hsk
    have cl:=mH r
    refine rn0 (cj6 k1 k2 k3 rl hak @Int.toNat_natCast) ?_
    refine Wp.cI [1,6,7,8] xA6 (fun i:Nat=>[(5,.sl 2 (prs (aS (P1++(r.take i).map bU))) .any),(9,.int .i64 (i:Nat))]) (fun i=>i≤r.length) (fun i=>r.length - i) 0 (Nat.zero_le _) ?_ ?_
    ·simp only[az,go_sem,reduceIte,Nat.reduceEqDiff,Nat.reduceAdd,bx,List.take_zero,List.map_nil,List.append_nil];and_intros<;>first|exact trivial|exact aa.refl _|exact aa.any _|(refine aa.int ?_;omega)
    rintro i hi
    by_cases hci:i<r.length
    ·obtain ⟨i1,i2,i3,i4⟩:=eh hci (Nat.le_trans (Nat.le_trans (Nat.le_add_left _ _) hb2) (by decide))
     have hai:=qD r i .any hci
     have hm3:r.getD i default∈r:=by rw[Av.eu hci];exact List.getElem_mem hci
     have hlc:=hls2 _ hm3
     have hsi:=jR bU r i hci
     generalize r.getD i default=c at*
     have hss:aS (P1++(r.take (i+1)).map bU)=gW (aS (P1++(r.take i).map bU)) c.k c.v:=by
      rw[hsi,←List.append_assoc,qM];rfl
     have hsl:=ue (P1++(r.take i).map bU)
     have hP1:(aS (P1++(r.take i).map bU)).length≤1000000:=by
      simp only[List.length_append,List.length_map,List.length_take] at hsl;omega
     have cp:=Cr (aS (P1++(r.take i).map bU)) hP1 (Cs _) c.k c.v hlc
     unfold og at hai
     generalize aS (P1++(r.take i).map bU)=S at*
     refine rn1 (oV k1 k2 k3 i1 i2 i3 rl cl hak hai @Int.toNat_natCast) cp ?_
     refine ⟨i+1,hci,Nat.sub_lt_sub_left hci (Nat.lt_succ_self _),?_⟩
     rw[hss]
     refine aI.tm (by simp only[az,go_sem,reduceIte,Nat.reduceEqDiff,Nat.reduceAdd,bx,i4];and_intros<;>first|exact trivial|exact aa.refl _|exact aa.any _|(refine aa.int ?_;omega))
    ·have hi2:i=r.length:=by omega
     subst hi2
     have ig:=fO r.length
     rw[List.take_length]
     refine rn0 (cj7 k2 k3 ig rl cl hak @Int.toNat_natCast) ?_
     refine ⟨k+1,hck,Nat.sub_lt_sub_left hck (Nat.lt_succ_self _),?_⟩
     rw[hfin]
     refine aI.tm (by simp only[az,go_sem,reduceIte,Nat.reduceEqDiff,Nat.reduceAdd,bx,k4];and_intros<;>first|exact trivial|exact aa.refl _|exact aa.any _|(refine aa.int ?_;omega))
   ·have hk2:k=R.length:=by omega
    subst hk2
    have kg:=fO R.length
    rw[List.take_length]
    refine rn0 (cj2 kg rl) ?_
    refine ⟨j+1,hc,Nat.sub_lt_sub_left hc (Nat.lt_succ_self _),?_⟩
    rw[hsn]
    refine aI.tm (by simp only[az,go_sem,reduceIte,Nat.reduceEqDiff,Nat.reduceAdd,bx,e1];and_intros<;>first|exact trivial|exact aa.refl _|exact aa.any _|(refine aa.int ?_;omega))
  ·have hj2:j=m.length:=by omega
   subst hj2
   have g1:=fO m.length
   rw[List.take_length]
   refine rn0 (cj2 g1 @len) ?_
   refine ay ?_
   exact aa.refl _
theorem qO:∀(s s' x y:List UInt8),(∀b∈s,b≠0)→(∀b∈s',b≠0)→s++[0,1]++x=s'++[0,1]++y→s=s'∧x=y
 |[],[],x,y,_,_,h=>by simpa using h
 |[],b::s',x,y,_,h2,h=>by
  simp only[List.nil_append,List.cons_append,List.cons.injEq] at h
  exact absurd h.1.symm (h2 b (by simp))
 |a::s,[],x,y,h1,_,h=>by
  simp only[List.nil_append,List.cons_append,List.cons.injEq] at h
  exact absurd h.1 (h1 a (by simp))
 |a::s,b::s',x,y,h1,h2,h=>by
  simp only[List.cons_append,List.cons.injEq] at h
  obtain ⟨rfl,h⟩:=h
  obtain ⟨rfl,rfl⟩:=qO s s' x y (fun b hb=>h1 b (by simp[hb])) (fun b hb=>h2 b (by simp[hb])) h
  exact ⟨rfl,rfl⟩
theorem AI {a b m:UInt8} (h:a ^^^ m=b ^^^ m):a=b:=by
 have:=congrArg (· ^^^ m) h
 simpa [UInt8.xor_assoc] using this
theorem yF {m:UInt8} {a b:List UInt8} (h:bV m a=bV m b):a=b:=by
 unfold bV at h
 exact (List.map_inj_right fun x y=>AI).1 h
theorem yG:∀(b x y:Nat),x<256^b→y<256^b→be b x=be b y→x=y
 |0,x,y,hx,hy,_=>by simp at hx hy;omega
 |b+1,x,y,hx,hy,h=>by
  simp only[be,List.cons.injEq] at h
  obtain ⟨h1,h2⟩:=h
  have hp:0<256^b:=Nat.pow_pos (by decide)
  have e1:x/256^b<256:=Nat.div_lt_of_lt_mul (by rw[←Nat.pow_succ];exact hx)
  have e2:y/256^b<256:=Nat.div_lt_of_lt_mul (by rw[←Nat.pow_succ];exact hy)
  have h1:x/256^b=y/256^b:=by
   have:=congrArg UInt8.toNat h1
   simp only[UInt8.toNat_ofNat'] at this
   rw[Nat.mod_eq_of_lt e1,Nat.mod_eq_of_lt e2] at this
   exact this
  have hb:∀z,be b z=be b (z%256^b):=be_mod b
  rw[hb x,hb y] at h2
  have h3:=yG b _ _ (Nat.mod_lt _ hp) (Nat.mod_lt _ hp) h2
  rw[←Nat.div_add_mod x (256^b),←Nat.div_add_mod y (256^b),h1,h3]
where
 be_mod:∀(b z:Nat),be b z=be b (z%256^b):=by
  intro b z
  have key:∀c,c≤b→be c z=be c (z%256^b):=by
   intro c
   induction c with
   |zero=>intro _;rfl
   |succ c ih=>
    intro hc
    simp only[be]
    rw[ih (by omega)]
    congr 1
    apply UInt8.toNat_inj.1
    simp only[UInt8.toNat_ofNat']
    have e:256^b=256^c*256^(b - c):=by rw[←Nat.pow_add];congr 1;omega
    have e2:(256:Nat)^(b - c)=256*256^(b - c - 1):=by rw[←Nat.pow_succ'];congr 1;omega
    rw[e,Nat.mod_mul_right_div_self,e2,Nat.mod_mul_right_mod]
  exact key b (Nat.le_refl _)
theorem Ct {a b:Nat} (ha:a<9223372036854775808) (hb:b<9223372036854775808) (h:upB a=upB b):a=b:=by
 have e:(256:Nat)^8=18446744073709551616:=by decide
 have:=yG 8 (a+9223372036854775808) (b+9223372036854775808) (by rw[e];omega) (by rw[e];omega) h
 omega
theorem Cu {p q:Pt} (hp:p.ok) (hq:q.ok) {x y:List UInt8} (h:ptB p++x=ptB q++y):p=q∧x=y:=by
 obtain ⟨pk,pn,ps⟩:=p
 obtain ⟨qk,qn,qs⟩:=q
 have P1:=hp.t
 have P2:=hp.u
 have Q1:=hq.t
 have Q2:=hq.u
 simp only at P1 P2 Q1 Q2
 have h1:=hp.k
 have h2:=hq.k
 simp only at h1 h2
 have num:∀(m:UInt8) (x y:List UInt8),(0≤pn∧pn<9223372036854775808)→(0≤qn∧qn<9223372036854775808)→bV m (upB pn.toNat)++x=bV m (upB qn.toNat)++y→pn=qn∧x=y:=by
  intro m x y a b h
  obtain ⟨e1,e2⟩:=List.append_inj h (by simp[bP,upB,aH])
  have:=Ct (by omega) (by omega) (yF e1)
  exact ⟨by omega,e2⟩
 rcases h1 with rfl|rfl|rfl<;>rcases h2 with rfl|rfl|rfl
 ·simp[ptB] at h
  obtain ⟨a1,a2,-⟩:=P1 rfl
  obtain ⟨b1,b2,-⟩:=Q1 rfl
  obtain ⟨rfl,rfl⟩:=qO ps qs x y a2 b2 (by simpa using h)
  rw[a1,b1];simp
 ·simp[ptB] at h
 ·simp[ptB] at h
 ·simp[ptB] at h
 ·simp[ptB] at h
  obtain ⟨a1,a2,a3⟩:=P2 (by decide)
  obtain ⟨b1,b2,b3⟩:=Q2 (by decide)
  obtain ⟨rfl,rfl⟩:=num 0 x y ⟨a2,a3⟩ ⟨b2,b3⟩ h
  rw[a1,b1];simp
 ·simp[ptB] at h
 ·simp[ptB] at h
 ·simp[ptB] at h
 ·simp[ptB] at h
  obtain ⟨a1,a2,a3⟩:=P2 (by decide)
  obtain ⟨b1,b2,b3⟩:=Q2 (by decide)
  obtain ⟨rfl,rfl⟩:=num 255 x y ⟨a2,a3⟩ ⟨b2,b3⟩ h
  rw[a1,b1];simp
theorem yH (p:Pt):ptB p≠[]:=fun h=>by have:=tX p;rw[h] at this;simp at this
theorem uf:∀{l l':List Pt},(∀p∈l,p.ok)→(∀p∈l',p.ok)→bT l=bT l'→l=l'
 |[],[],_,_,_=>rfl
 |[],q::l',_,_,h=>by
  simp only[bT,List.map_cons,List.map_nil,List.flatten_cons,List.flatten_nil] at h
  exact absurd (List.append_eq_nil_iff.1 h.symm).1 (yH q)
 |p::l,[],_,_,h=>by
  simp only[bT,List.map_cons,List.map_nil,List.flatten_cons,List.flatten_nil] at h
  exact absurd (List.append_eq_nil_iff.1 h).1 (yH p)
 |p::l,q::l',h1,h2,h=>by
  simp only[bT,List.map_cons,List.flatten_cons] at h
  obtain ⟨rfl,h3⟩:=Cu (h1 p (by simp)) (h2 q (by simp)) h
  rw[uf (fun p hp=>h1 p (by simp[hp])) (fun p hp=>h2 p (by simp[hp])) h3]
theorem sN {a b:Int} (ha:1≤a∧a≤6) (hb:1≤b∧b≤6) (h:cz a=cz b):a=b:=by
 obtain ⟨a1,a2⟩:=ha
 obtain ⟨b1,b2⟩:=hb
 have A:a=1∨a=2∨a=3∨a=4∨a=5∨a=6:=by omega
 have B:b=1∨b=2∨b=3∨b=4∨b=5∨b=6:=by omega
 rcases A with rfl|rfl|rfl|rfl|rfl|rfl<;>rcases B with rfl|rfl|rfl|rfl|rfl|rfl<;>first|rfl|(revert h;decide)
theorem qP {k:Int}:∀{a b:List Int},a.map (bu k)=b.map (bu k)→a=b:=fun {a b} h=>
 (List.map_inj_right fun x y h=>by simp only[bu,Pt.mk.injEq,true_and,and_true] at h;exact h).1 h
theorem key_inj {x y:Ky} (hx:x.ok) (hy:y.ok) (h:kf x=kf y):x=y:=by
 have h1:=uf (gL hx) (gL hy) h
 obtain ⟨k,b,o,ns⟩:=x
 obtain ⟨k',b',o',ns'⟩:=y
 unfold fk at h1
 simp only[List.cons.injEq] at h1
 obtain ⟨e1,e2,e3⟩:=h1
 have ek:k=k':=sN hx.k hy.k (by simpa [txt] using e1)
 have eb:b=b':=by simpa [txt] using e2
 subst ek eb
 have hxe:=hx.e
 have hye:=hy.e
 have hxo:=hx.o
 have hyo:=hy.o
 simp only at hxe hye hxo hyo
 by_cases hk:k=1
 ·rw[hxe hk,hye hk] at e3 ⊢
  simp only[if_true,List.nil_append] at e3
  rw[qP e3]
 ·have n1:o≠[]:=fun e=>by have:=(eP (hxo hk)).1;rw[e] at this;simp at this
  have n2:o'≠[]:=fun e=>by have:=(eP (hyo hk)).1;rw[e] at this;simp at this
  simp only[n1,n2,if_false,List.cons_append,List.nil_append,List.cons.injEq] at e3
  obtain ⟨e4,e5⟩:=e3
  have eo:o=o':=by simpa [txt] using e4
  rw[eo,qP e5]
theorem filter_lt {T:List Nat} {m t:Nat} (h:∀x∈T,x<m) (ht:m≤t):List.filter (fun x=>decide (¬x=t)) T=T:=by
 refine List.filter_eq_self.2 fun x hx=>?_
 have:=h x hx
 simp;omega
def HOk (h:H):Prop:=(∀j,h.n≤j→h.objs j=none)∧∀t∈h.toks,t<h.m
set_option maxHeartbeats 4000000 in
theorem yI (b:Bk) (hb:eH b=true) (hl:b.l.length≤1000000) (id:Nat) (Inv:Nat→H→Prop) (E:H→Prop)
  (hbd:∀i h,Inv i h→HOk h)
  (hup:∀i h n m,Inv i h→h.n≤n→h.m≤m→Inv i {h with n:=n,m:=m})
  (hY:∀i h t m,i<(bg b).length→Inv i h→h.m≤t→t<m→oZ Tryz.prog id [.sl 3 (chs ((bg b).getD i [])) (.own t)] {h with toks:=t::h.toks,m:=m} fun r h'=>(r= .bool true∧Inv (i+1) h')∨(r= .bool false∧E h'))
  (h0:H) (hi:Inv 0 h0):jl Tryz.prog 91 [.yld id,.ref [.str b.n,.int .i64 b.st,.sl 8 (vss b.l) .any]] h0 fun r h'=>r= .tup []∧(Inv (bg b).length h'∨E h'):=by
 refine f91.BC (by simp) ?_
 unfold c91
 simp only[C.zz]
 have hroom:=pA hb
 have c1:=tV b.st
 have c2:=mV (kyB b) (pt b) (stS b.st)
 have hL0:(bg b).getD 0 []=[yz b]:=rfl
 have hB1:yz b=⟨dI (kyB b),stS b.st,false⟩:=rfl
 have hLs:∀j,j<b.l.length→(bg b).getD (j+1) []=ca b.n (b.l.getD j default):=fun j hj=>by
  simp[bg,List.getD_eq_getElem?_getD,List.getElem?_eq_getElem hj]
 have hLl:(bg b).length=b.l.length+1:=by simp[bg]
 have hch:chs ((bg b).getD 0 [])=[.agg [.str (dI (kyB b)),.str (stS b.st),.bool false]]:=rfl
 have hY0:=hY 0 h0 h0.m (h0.m+1) (by omega) hi (Nat.le_refl _) (Nat.lt_succ_self _)
 rw[hch] at hY0
 have hE:dD (kyB b)= .agg [.int .i64 1,.str b.n,.str [],.sl 1 [] .any]:=rfl
 rw[hE] at c2
 generalize dI (kyB b)=k0 at*
 clear hB1 hch hL0
 have hY1:=fun j h t m (hj:j<b.l.length)=>hY (j+1) h t m (by omega)
 clear hY
 rw[hLl]
 clear hE hLl
 generalize bg b=R at*
 obtain ⟨nm,st,l⟩:=b
 simp only at*
 have len:=dw l
 generalize stS st=s0 at*
 refine Wp.le (aI.tok _ _) ?_
 repeat (first
  |refine ah.nil ?_
  |((first|apply Wp.bw|apply Wp.cW|((first
    |(refine ah.aN ?_ ?_ (c1) ?_;(· simp only[go_sem,reduceIte,Nat.reduceEqDiff,Nat.reduceAdd,bx]);(· simp only[go_sem,reduceIte,Nat.reduceEqDiff,Nat.reduceAdd,bx,List.map,ax,if_true,if_false,Nat.reduceMul,Nat.reduceLeDiff];first|exact al.refl _|(repeat (first|exact al.nil|refine al.cons xA5 ?_))))
    |(refine ah.aN ?_ ?_ (c2) ?_;(· simp only[go_sem,reduceIte,Nat.reduceEqDiff,Nat.reduceAdd,bx]);(· simp only[go_sem,reduceIte,Nat.reduceEqDiff,Nat.reduceAdd,bx,List.map,ax,if_true,if_false,Nat.reduceMul,Nat.reduceLeDiff];exact al.cons (aa.agg (al.cons (aa.refl _) (al.cons (aa.refl _) (al.cons (aa.refl _) (al.cons aa.cap al.nil))))) (al.refl _))));apply ah.evF));(· simp only[go_sem,reduceIte,Nat.reduceEqDiff,Nat.reduceAdd,bx,ax,if_true,if_false,Nat.reduceMul,Nat.reduceLeDiff];exact rfl))
  |(apply Wp.aL;(· simp only[go_sem,reduceIte,Nat.reduceEqDiff,Nat.reduceAdd,bx,ax,if_true,if_false,Nat.reduceMul,Nat.reduceLeDiff];exact rfl);(· rfl))
  |refine Wp.skip ?_
  |refine Wp.label ?_
  |refine Wp.block ?_
  |refine Wp.exit ?_
  |refine Wp.seq ?_)
 refine ah.yield (by simp only[go_sem]) (by simp only[go_sem,reduceIte,Nat.reduceEqDiff]) (by simp only[go_sem,reduceIte,Nat.reduceEqDiff,List.map];exact al.cons (aa.dW rfl) al.nil) hY0 fun r h1 hq hn hm=>?_
 rcases hq with ⟨rfl,hi1⟩|⟨rfl,hE1⟩
 case inr=>
  refine ah.evF (by simp only[go_sem,reduceIte,Nat.reduceEqDiff,Nat.reduceAdd,bx,ax,if_true,if_false,Nat.reduceMul,Nat.reduceLeDiff];exact rfl) ?_
  refine rf0 @Bool.not_false ?_
  refine Wp.ret ⟨trivial,_,rfl,?_,.inr hE1⟩
  simp only[go_sem]
 clear hY0 hn hm hi h0
 refine ah.evF (by simp only[go_sem,reduceIte,Nat.reduceEqDiff,Nat.reduceAdd,bx,ax,if_true,if_false,Nat.reduceMul,Nat.reduceLeDiff];exact rfl) ?_
 refine rf0 (cj2 @Bool.not_true @len) ?_
 refine Wp.le (s':=⟨tm [(0,.yld id),(1,.ref [.str nm,.int .i64 st,.sl 8 (vss l) .any]),(30,.sl 8 (vss l) .any),(31,.int .i64 l.length),(32,.int .i64 0)],h1⟩) (aI.tm ?_) ?_
 ·exact xSb
 refine Wp.dM [0,1,30,31] xA7 (fun b:Nat × H=>[(32,.int .i64 (b.1:Nat))]) (fun b=>b.2) (fun b=>b.1≤l.length∧Inv (b.1+1) b.2) (fun b=>l.length - b.1) (0,h1) ⟨Nat.zero_le _,hi1⟩ rfl ?_ ?_
 ·exact xSb
 clear hi1 h1
 rintro ⟨j,h⟩ ⟨hj,hI⟩
 simp only at hj hI
 by_cases hc:j<l.length
 ·obtain ⟨g1,g2,g3,e1⟩:=eh hc (Nat.le_trans hl (by decide))
  have hat:=eE l j .any hc
  have hrm:=hroom j hc
  have hY2:=fun h t m=>hY1 j h t m hc
  rw[hLs j hc] at hY2
  obtain ⟨hz1,hz2⟩:=hbd _ _ hI
  generalize l.getD j default=v at*
  have c3:=pe v.sz v.re v.im v.g v.u
  have c4:=mV (kyV nm v) (py nm hrm) (cy v.sz v.re v.im v.g v.u)
  have c5:=D4 v.b hrm.2
  have c6:=fun k hk=>mV (kyC nm v k) (pz nm hrm k hk) (chunk v.b k)
  have h16:=jQ hrm.2
  have hP0:eG nm v 0=[⟨dI (kyV nm v),cy v.sz v.re v.im v.g v.u,false⟩]:=rfl
  have hPs:=mY nm v
  have hPl:=oy nm v
  have hT:ca nm v=eG nm v (de v.b):=rfl
  have hch:=oz v.b (de v.b)
  have hsl:=mZ (chunks v.b (de v.b))
  have hcl:=eA v.b (de v.b)
  have hsl2:=eQ (chunks v.b (de v.b))
  rw[hcl] at hsl2 hsl
  rw[hT] at hY2
  generalize de v.b=cn at*
  generalize chunks v.b cn=cks at*
  have hE1:dD (kyV nm v)= .agg [.int .i64 2,.str nm,.str v.o,.sl 1 [.int .i64 v.id] .any]:=rfl
  have hE2:∀k:Nat,dD (kyC nm v k)= .agg [.int .i64 3,.str nm,.str v.o,.sl 1 [.int .i64 v.id,.int .i64 k] .any]:=fun _=>rfl
  rw[hE1] at c4
  simp only[hE2] at c6
  unfold eJ at c3
  unfold bN at hat
  generalize dI (kyV nm v)=k1 at*
  generalize cy v.sz v.re v.im v.g v.u=hh at*
  repeat (first
   |refine ah.nil ?_
   |((first|apply Wp.bw|apply Wp.cW|((first
     |(refine ah.aN ?_ ?_ (c3) ?_;(· simp only[go_sem,reduceIte,Nat.reduceEqDiff,Nat.reduceAdd,bx]);(· simp only[go_sem,reduceIte,Nat.reduceEqDiff,Nat.reduceAdd,bx,List.map,ax,if_true,if_false,Nat.reduceMul,Nat.reduceLeDiff,g1,g2,g3,len,hat,Int.toNat_natCast];first|exact al.refl _|(repeat (first|exact al.nil|refine al.cons xA5 ?_))))
     |(refine ah.aN ?_ ?_ (c4) ?_;(· simp only[go_sem,reduceIte,Nat.reduceEqDiff,Nat.reduceAdd,bx]);(· simp only[go_sem,reduceIte,Nat.reduceEqDiff,Nat.reduceAdd,bx,List.map,ax,if_true,if_false,Nat.reduceMul,Nat.reduceLeDiff,g1,g2,g3,len,hat,Int.toNat_natCast];exact al.cons (aa.agg (al.cons (aa.refl _) (al.cons (aa.refl _) (al.cons (aa.refl _) (al.cons aa.cap al.nil))))) (al.refl _)))
     |(refine ah.aN ?_ ?_ (c5) ?_;(· simp only[go_sem,reduceIte,Nat.reduceEqDiff,Nat.reduceAdd,bx]);(· simp only[go_sem,reduceIte,Nat.reduceEqDiff,Nat.reduceAdd,bx,List.map,ax,if_true,if_false,Nat.reduceMul,Nat.reduceLeDiff,g1,g2,g3,len,hat,Int.toNat_natCast];first|exact al.refl _|(repeat (first|exact al.nil|refine al.cons xA5 ?_)))));apply ah.evF));(· simp only[go_sem,reduceIte,Nat.reduceEqDiff,Nat.reduceAdd,bx,ax,if_true,if_false,Nat.reduceMul,Nat.reduceLeDiff,g1,g2,g3,len,hat,Int.toNat_natCast];exact rfl))
   |(apply Wp.aL;(· simp only[go_sem,reduceIte,Nat.reduceEqDiff,Nat.reduceAdd,bx,ax,if_true,if_false,Nat.reduceMul,Nat.reduceLeDiff,g1,g2,g3,len,hat,Int.toNat_natCast];exact rfl);(· rfl))
   |refine Wp.skip ?_
   |refine Wp.label ?_
   |refine Wp.block ?_
   |refine Wp.exit ?_
   |refine Wp.seq ?_)
  refine Wp.le (aI.tok _ _) ?_
  refine Wp.le (s':=⟨tm [(0,.yld id),(1,.ref [.str nm,.int .i64 st,.sl 8 (vss l) .any]),(30,.sl 8 (vss l) .any),(31,.int .i64 l.length),(32,.int .i64 j),(6,.ptr h.n 0),(9,.sl 3 (chs (eG nm v 0)) (.own h.m)),(59,.sl 1 (gl cks) .any),(60,.int .i64 cn),(61,.int .i64 0)],
   ⟨upd h.objs h.n (some (.cells [.str v.o,.int .i64 v.id,.int .i64 v.sz,.int .i64 v.re,.int .i64 v.im,.bool v.g,.bool v.u,.str v.b])),h.n+1,h.m::h.toks,h.m+1⟩⟩) (aI.of (bE ?_) yE (fun a ha=>ha) (Nat.le_refl _) (Nat.le_refl _)) ?_
  ·rw[hP0]
   simp only[az,go_sem,reduceIte,Nat.reduceEqDiff,Nat.reduceAdd,bx,hsl2];and_intros<;>first|exact trivial|exact aa.refl _|exact aa.any _|exact aa.dW rfl|(refine aa.int ?_;omega)
  refine Wp.dM [0,1,30,31,32,6,59,60] xA7 (fun b:Nat × Nat × Nat=>[(9,.sl 3 (chs (eG nm v b.1)) (.own b.2.1)),(61,.int .i64 (b.1:Nat))])
   (fun b=>⟨upd h.objs h.n (some (.cells [.str v.o,.int .i64 v.id,.int .i64 v.sz,.int .i64 v.re,.int .i64 v.im,.bool v.g,.bool v.u,.str v.b])),h.n+1,b.2.1::h.toks,b.2.2⟩)
   (fun b=>b.1≤cn∧h.m≤b.2.1∧b.2.1<b.2.2) (fun b=>cn - b.1) (0,h.m,h.m+1) ⟨Nat.zero_le _,Nat.le_refl _,by simp⟩ rfl ?_ ?_
  ·exact xSb
  rintro ⟨k,t2,m2⟩ ⟨hk,hm1,hm2⟩
  simp only at hk hm1 hm2
  by_cases hck:k<cn
  ·obtain ⟨kg,k2,k3,ke,e8,e9⟩:=qL hck (Nat.le_trans h16 (by decide))
   have c7:=c6 k (Nat.le_trans hk (Nat.le_trans h16 (by decide)))
   have hx:=hsl k .any hck
   rw[hch k hck] at hx
   have hPk:=hPs k
   have hlk:=hPl k
   have hfl:List.filter (fun x=> !decide (x=t2)) h.toks=h.toks:=by
    have:=filter_lt hz2 hm1
    simpa using this
   generalize chs (eG nm v k)=row at*
   generalize dI (kyC nm v k)=kk at*
   generalize chunk v.b k=ck at*
   repeat (first
    |refine ah.nil ?_
    |((first|apply Wp.bw|apply Wp.cW|((first
      |(refine ah.aN ?_ ?_ (c7) ?_;(· simp only[go_sem,reduceIte,Nat.reduceEqDiff,Nat.reduceAdd,bx]);(· simp only[go_sem,reduceIte,Nat.reduceEqDiff,Nat.reduceAdd,bx,List.map,ax,if_true,if_false,Nat.reduceMul,Nat.reduceLeDiff,kg,k2,k3,hsl2,hx,hlk,e8,e9,Nat.mul_one,Nat.one_mul,List.length_cons,List.length_nil,Nat.zero_add,List.mem_cons,true_or,and_self,Int.toNat_natCast];exact al.cons (aa.agg (al.cons (aa.refl _) (al.cons (aa.refl _) (al.cons (aa.refl _) (al.cons aa.cap al.nil))))) (al.refl _))));apply ah.evF));(· simp only[go_sem,reduceIte,Nat.reduceEqDiff,Nat.reduceAdd,bx,ax,if_true,if_false,Nat.reduceMul,Nat.reduceLeDiff,kg,k2,k3,hsl2,hx,hlk,e8,e9,Nat.mul_one,Nat.one_mul,List.length_cons,List.length_nil,Nat.zero_add,List.mem_cons,true_or,and_self,Int.toNat_natCast];exact rfl))
    |(apply Wp.aL;(· simp only[go_sem,reduceIte,Nat.reduceEqDiff,Nat.reduceAdd,bx,ax,if_true,if_false,Nat.reduceMul,Nat.reduceLeDiff,kg,k2,k3,hsl2,hx,hlk,e8,e9,Nat.mul_one,Nat.one_mul,List.length_cons,List.length_nil,Nat.zero_add,List.mem_cons,true_or,and_self,Int.toNat_natCast];exact rfl);(· rfl))
    |refine Wp.skip ?_
    |refine Wp.label ?_
    |refine Wp.block ?_
    |refine Wp.exit ?_
    |refine Wp.seq ?_)
   refine ⟨(k+1,m2,m2+1),⟨hck,Nat.le_trans hm1 (Nat.le_of_lt hm2),Nat.lt_succ_self _⟩,Nat.sub_lt_sub_left hck (Nat.lt_succ_self _),?_⟩
   rw[hPk]
   refine aI.of (bE ?_) (OLe.uc _) (fun a ha=>?_) (Nat.le_refl _) (Nat.le_refl _)
   ·simp only[az,go_sem,reduceIte,Nat.reduceEqDiff,Nat.reduceAdd,bx,ke];and_intros<;>first|exact trivial|exact aa.refl _|exact aa.any _|(refine aa.int ?_;omega)
   ·simpa [hfl] using ha
  ·have hk2:k=cn:=by omega
   subst hk2
   have kg:=fO k
   refine Wp.le (s':=⟨tm [(0,.yld id),(1,.ref [.str nm,.int .i64 st,.sl 8 (vss l) .any]),(30,.sl 8 (vss l) .any),(31,.int .i64 l.length),(32,.int .i64 j),(9,.sl 3 (chs (eG nm v k)) (.own t2)),(60,.int .i64 k),(61,.int .i64 k)],
    ⟨h.objs,h.n+1,t2::h.toks,m2⟩⟩) (aI.of (bE ?_) (OLe.skip (hz1 _ (Nat.le_refl _))) (fun a ha=>ha) (Nat.le_refl _) (Nat.le_refl _)) ?_
   ·exact xSb
   have hY3:=hY2 {h with n:=h.n+1,m:=h.m} t2 m2 (hup _ _ _ _ hI (Nat.le_succ _) (Nat.le_refl _)) hm1 hm2
   refine rf0 kg ?_
   refine ah.yield (by simp only[go_sem]) (by simp only[go_sem,reduceIte,Nat.reduceEqDiff]) xA4 hY3 fun r h1 hq hn hm=>?_
   rcases hq with ⟨rfl,hi1⟩|⟨rfl,hE1⟩
   case inr=>
    refine ah.evF (by simp only[go_sem,reduceIte,Nat.reduceEqDiff,Nat.reduceAdd,bx,ax,if_true,if_false,Nat.reduceMul,Nat.reduceLeDiff];exact rfl) ?_
    refine rf0 @Bool.not_false ?_
    refine Wp.ret ⟨trivial,_,rfl,?_,.inr hE1⟩
    simp only[go_sem]
   refine ah.evF (by simp only[go_sem,reduceIte,Nat.reduceEqDiff,Nat.reduceAdd,bx,ax,if_true,if_false,Nat.reduceMul,Nat.reduceLeDiff];exact rfl) ?_
   refine rf0 @Bool.not_true ?_
   refine ⟨(j+1,h1),⟨hc,hi1⟩,Nat.sub_lt_sub_left hc (Nat.lt_succ_self _),?_⟩
   refine aI.tm ?_
   simp only[az,go_sem,reduceIte,Nat.reduceEqDiff,Nat.reduceAdd,bx,e1];and_intros<;>first|exact trivial|exact aa.refl _|exact aa.any _|(refine aa.int ?_;omega)
 ·have hj2:j=l.length:=by omega
  subst hj2
  have g1:=fO l.length
  refine rf0 g1 ?_
  refine ⟨trivial,_,rfl,?_,.inl hI⟩
  simp only[go_sem]
end Go.Proofs.YtjnoobmaedgooaaGreat.Arch
end
section
set_option maxRecDepth 100000
namespace Go.Proofs.YtjnoobmaedgooaaGreat.Batch
open Go Go.Proofs Go.Lib Go.RowKit Go.Shelf
def yJ:Go.Shelf.Ren:=⟨fun|6=>45|14=>94|15=>95|20=>139|21=>140|22=>141|23=>142|24=>143|25=>144|26=>145|27=>146|28=>147|29=>148|46=>189|47=>190|48=>191|49=>192|50=>193|57=>217|n=>n,fun|0=>0|3=>3|4=>4|5=>5|9=>9|22=>33|24=>50|25=>96|39=>170|45=>237|46=>238|50=>133|53=>165|55=>169|66=>281|70=>285|76=>306|77=>307|n=>n,fun n=>n⟩
theorem v7:SlLaysF0.n6 Tryz.prog yJ where
 mixed:=by kernel_rfl
 f6:=⟨Tryz.f45.name,by kernel_rfl,Tryz.func45.trans (congrArg some (by kernel_rfl))⟩
 f14:=⟨Tryz.f94.name,by kernel_rfl,Tryz.func94.trans (congrArg some (by kernel_rfl))⟩
 f15:=Tryz.func95.trans (congrArg some (by kernel_rfl))
 f20:=⟨Tryz.f139.name,by kernel_rfl,Tryz.func139.trans (congrArg some (by kernel_rfl))⟩
 f21:=⟨Tryz.f140.name,by kernel_rfl,Tryz.func140.trans (congrArg some (by kernel_rfl))⟩
 f22:=⟨Tryz.f141.name,by kernel_rfl,Tryz.func141.trans (congrArg some (by kernel_rfl))⟩
 f23:=⟨Tryz.f142.name,by kernel_rfl,Tryz.func142.trans (congrArg some (by kernel_rfl))⟩
 f24:=⟨Tryz.f143.name,by kernel_rfl,Tryz.func143.trans (congrArg some (by kernel_rfl))⟩
 f25:=⟨Tryz.f144.name,by kernel_rfl,Tryz.func144.trans (congrArg some (by kernel_rfl))⟩
 f26:=⟨Tryz.f145.name,by kernel_rfl,Tryz.func145.trans (congrArg some (by kernel_rfl))⟩
 f27:=⟨Tryz.f146.name,by kernel_rfl,Tryz.func146.trans (congrArg some (by kernel_rfl))⟩
 f28:=Tryz.func147.trans (congrArg some (by kernel_rfl))
 f29:=Tryz.func148.trans (congrArg some (by kernel_rfl))
 f46:=⟨Tryz.f189.name,by kernel_rfl,Tryz.func189.trans (congrArg some (by kernel_rfl))⟩
 f47:=Tryz.func190.trans (congrArg some (by kernel_rfl))
 f48:=Tryz.func191.trans (congrArg some (by kernel_rfl))
 f49:=⟨Tryz.f192.name,by kernel_rfl,Tryz.func192.trans (congrArg some (by kernel_rfl))⟩
 f50:=⟨Tryz.f193.name,by kernel_rfl,Tryz.func193.trans (congrArg some (by kernel_rfl))⟩
 f57:=⟨Tryz.f217.name,by kernel_rfl,Tryz.func217.trans (congrArg some (by kernel_rfl))⟩
 t0:=Tryz.underlying0
 a0:=Tryz.isAgg0
 z0:=Tryz.sizeOf0
 v0:=Tryz.zeroValue0
 t3:=Tryz.underlying3
 a3:=Tryz.isAgg3
 z3:=Tryz.sizeOf3
 v3:=Tryz.zeroValue3
 t4:=Tryz.underlying4
 a4:=Tryz.isAgg4
 z4:=Tryz.sizeOf4
 v4:=Tryz.zeroValue4
 t5:=Tryz.underlying5
 a5:=Tryz.isAgg5
 z5:=Tryz.sizeOf5
 v5:=Tryz.zeroValue5
 t9:=Tryz.underlying9
 a9:=Tryz.isAgg9
 z9:=Tryz.sizeOf9
 v9:=Tryz.zeroValue9
 t22:=Tryz.underlying33
 a22:=Tryz.isAgg33
 z22:=Tryz.sizeOf33
 v22:=Tryz.zeroValue33
 t25:=Tryz.underlying96
 a25:=Tryz.isAgg96
 z25:=Tryz.sizeOf96
 v25:=Tryz.zeroValue96
 t39:=Tryz.underlying170
 a39:=Tryz.isAgg170
 z39:=Tryz.sizeOf170
 v39:=Tryz.zeroValue170
 t45:=Tryz.underlying237
 a45:=Tryz.isAgg237
 z45:=Tryz.sizeOf237
 v45:=Tryz.zeroValue237
 t46:=Tryz.underlying238
 a46:=Tryz.isAgg238
 z46:=Tryz.sizeOf238
 v46:=Tryz.zeroValue238
 t50:=Tryz.underlying133
 a50:=Tryz.isAgg133
 z50:=Tryz.sizeOf133
 v50:=Tryz.zeroValue133
 t53:=Tryz.underlying165
 a53:=Tryz.isAgg165
 z53:=Tryz.sizeOf165
 v53:=Tryz.zeroValue165
 t55:=Tryz.underlying169
 a55:=Tryz.isAgg169
 z55:=Tryz.sizeOf169
 v55:=Tryz.zeroValue169
 t66:=Tryz.underlying281
 a66:=Tryz.isAgg281
 z66:=Tryz.sizeOf281
 v66:=Tryz.zeroValue281
 t70:=Tryz.underlying285
 a70:=Tryz.isAgg285
 z70:=Tryz.sizeOf285
 v70:=Tryz.zeroValue285
 t76:=Tryz.underlying306
 a76:=Tryz.isAgg306
 z76:=Tryz.sizeOf306
 v76:=Tryz.zeroValue306
 t77:=Tryz.underlying307
 a77:=Tryz.isAgg307
 z77:=Tryz.sizeOf307
 v77:=Tryz.zeroValue307
theorem ug (x:ByteArray) (w:World):Calls Tryz.prog 149 #[.string x] w fun e w'=>e= .returned (.bool false)∧w'=w:=by
 go_enter Tryz.func149,Tryz.ntmps149
 go_wp2
 go_ret
 exact ⟨by simp,rfl⟩
def yK (x y:List UInt8):Int:=if Op.bytesLess x y=true then -1 else if Op.bytesLess y x=true then 1 else 0
theorem AJ {x y:List UInt8} {b:Bool} (h:Op.bytesLess x y=false) (h2:Op.bytesLess y x=b) (he:b=false→x=y) (hn:b=true→x≠y) (w:World):
  Sem.run Tryz.prog (binOp .gtr 9 (.string ⟨x.toArray⟩) (.string ⟨y.toArray⟩)) w= .ok (.bool b) w:=by
 have hu:=Tryz.underlying9
 have e:((x == y):Bool)= !b:=by
  cases b with
  |true=>simpa using hn rfl
  |false=>simpa using he rfl
 simp[binOp,Op.stringOp,hu,ByteArray.toList_eq,h,h2,e]
set_option maxHeartbeats 1000000 in
theorem v8 (x y:List UInt8) (w:World):Calls Tryz.prog 96 #[.string ⟨x.toArray⟩,.string ⟨y.toArray⟩] w fun e w'=>e= .returned (.int .i64 (yK x y))∧w'=w:=by
 unfold yK
 cases h1:Op.bytesLess x y
 ·have hg:∀w,Sem.run Tryz.prog (binOp .gtr 9 (.string ⟨x.toArray⟩) (.string ⟨y.toArray⟩)) w= .ok (.bool (Op.bytesLess y x)) w:=fun w=>by
   refine AJ h1 rfl (fun h2=>?_) (fun h2 e=>?_) w
   ·rcases fg x y with h|h|h
    ·rw[h1] at h;cases h
    ·exact h
    ·rw[h2] at h;cases h
   ·rw[e,cf] at h2;cases h2
  cases h2:Op.bytesLess y x
  all_goals
   rw[h2] at hg
   go_enter Tryz.func96,Tryz.ntmps96
   go_wp2_with (go_at_call 149;refine (ug _ _).mono ?_;rintro e w' ⟨rfl,hw⟩;rw[hw])
   go_ret
   exact ⟨by simp,rfl⟩
 ·go_enter Tryz.func96,Tryz.ntmps96
  go_wp2_with (go_at_call 149;refine (ug _ _).mono ?_;rintro e w' ⟨rfl,hw⟩;rw[hw])
  go_ret
  exact ⟨by simp,rfl⟩
end Go.Proofs.YtjnoobmaedgooaaGreat.Batch
end
section
set_option maxRecDepth 100000
namespace Go.Proofs.YtjnoobmaedgooaaGreat.Batch
open Go Go.Proofs Go.Lib Go.RowKit Go.Shelf Go.Sort
def ni (p:Pr):List Value:=[.string ⟨p.k.toArray⟩,.string ⟨p.v.toArray⟩]
def cfP (x y:Pr):Int:=yK x.k y.k
set_option maxHeartbeats 1000000 in
theorem we (x y:Pr) (W:World):Calls Tryz.prog 46 #[.agg #[.string ⟨x.k.toArray⟩,.string ⟨x.v.toArray⟩],.agg #[.string ⟨y.k.toArray⟩,.string ⟨y.v.toArray⟩]] W fun e w'=>e= .returned (.int .i64 (cfP x y))∧∃q os',w'=grow (W.drewN q) os':=by
 have hcon:=fun W'=>v8 x.k y.k W'
 unfold cfP
 generalize yK x.k y.k=r at hcon ⊢
 go_enter Tryz.func46,Tryz.ntmps46
 go_wp2_with (go_at_call 96;refine (hcon _).mono ?_;rintro e w' ⟨rfl,rfl⟩)
 go_ret
 exact ⟨rfl,0,_,by rw[alloc_eq_grow,alloc_eq_grow,grow_grow];rfl⟩
theorem yL (blk off size:Nat) (w:World):CmpLays Tryz.prog 46 #[] ni 2 cfP blk off size w:=
 fun _ _ _ _ x y=>we x y _
theorem oB (x y:Pr):ltOf cfP x y=Op.bytesLess x.k y.k:=by
 unfold ltOf cfP yK
 cases h:Op.bytesLess x.k y.k<;>cases h2:Op.bytesLess y.k x.k<;>simp
theorem sO:SWO (ltOf cfP) where
 irrefl x:=by rw[oB,cf]
 trans x y z h1 h2:=by rw[oB] at*;exact cO h1 h2
 ntrans x y z h1 h2:=by
  rw[oB] at*
  cases h:Op.bytesLess x.k z.k with
  |false=>rfl
  |true=>
   rcases fg x.k y.k with h3|h3|h3
   ·rw[h1] at h3;cases h3
   ·rw[←h3,h] at h2;cases h2
   ·rw[cO h3 h] at h2;cases h2
end Go.Proofs.YtjnoobmaedgooaaGreat.Batch
end
section
namespace Go.Av
open Go.Sort Go.Proofs
section
variable {α:Type} [Inhabited α]
theorem gr {α:Type} {enc:α→List Value} {k:Nat} (hk:∀x,(enc x).length=k):∀l:List α,(l.flatMap enc).length=l.length*k
 |[]=>by simp
 |x::l=>by simp[gr hk l,hk,Nat.add_mul];omega
theorem qQ {enc:α→List Value} {k:Nat} (k0:0<k) (hk:∀x,(enc x).length=k):∀(l:List α) (t:Nat),t<l.length*k→(l.flatMap enc)[t]! =(enc (l.toArray[t/k]!))[t%k]!
 |[],t,h=>by simp at h
 |x::l,t,h=>by
  have ih:=qQ k0 hk l
  by_cases c:t<k
  ·have e1:t/k=0:=Nat.div_eq_of_lt c
   have e2:t%k=t:=Nat.mod_eq_of_lt c
   rw[e1,e2,List.flatMap_cons]
   have:t<(enc x).length:=by rw[hk];exact c
   simp[List.getElem!_eq_getElem?_getD,List.getElem?_append_left this]
  ·have hc:k≤t:=by omega
   have e1:t/k=(t - k)/k+1:=by
    rw[Nat.div_eq t k,if_pos ⟨k0,hc⟩]
   have e2:t%k=(t - k)%k:=Nat.mod_eq_sub_mod hc
   have hb:t - k<l.length*k:=by simp[Nat.add_mul] at h;omega
   have:=ih (t - k) hb
   rw[e1,e2,List.flatMap_cons]
   have e3:(enc x).length≤t:=by rw[hk];exact hc
   simp only[List.getElem!_eq_getElem?_getD] at this ⊢
   rw[List.getElem?_append_right e3,hk,this]
   have e4:∀i,(x::l).toArray[i+1]! =l.toArray[i]! :=fun i=>by simp[getElem!_def]
   rw[e4]
theorem uh {enc:α→List Value} {k:Nat} (k0:0<k) (hk:∀x,(enc x).length=k) (l:List α):flatK enc k l.toArray=(l.flatMap enc).toArray:=by
 refine ext_get! (by simp[gr hk]) fun t ht=>?_
 have ht':t<l.length*k:=by simpa using ht
 rw[get_flatK _ _ _ t (by simpa using ht')]
 have:=qQ k0 hk l t ht'
 simpa using this.symm
theorem pC {enc:α→List Value} {k:Nat} (k0:0<k) (hk:∀x,(enc x).length=k) {w:World} {blk n:Nat} {l l':List α} {os:Array Go.Obj} {rest:List Value} {T:TypeId} {fr:Nat × Nat} (hb:blk<w.heap.size) (hl:l'.length=l.length)
  (hg:w.heap[blk]? =some (.cells (l.flatMap enc++rest).toArray T fr)):
  (sortWorldK enc k w blk 0 n l'.toArray os).heap[blk]? =some (.cells (l'.flatMap enc++rest).toArray T fr)∧(∀b,b<w.heap.size→b≠blk→(sortWorldK enc k w blk 0 n l'.toArray os).heap[b]? =w.heap[b]?)∧w.heap.size≤(sortWorldK enc k w blk 0 n l'.toArray os).heap.size:=by
 have hf:=uh k0 hk l'
 have e:∀b,b<w.heap.size→(sortWorldK enc k w blk 0 n l'.toArray os).heap[b]? =(w.heap.modify blk (onCells (putCells id 0 (flatK enc k l'.toArray))))[b]? :=fun b hb=>by
  simp only[sortWorldK,grow,putRowK,putRow,mapBlock,ahead]
  rw[Array.getElem?_append_left (by simpa [ahead] using hb)]
  rfl
 refine ⟨?_,fun b hb hne=>?_,by simp[sortWorldK,grow,putRowK,putRow,mapBlock,ahead]⟩
 ·rw[e blk hb,Array.getElem?_modify,if_pos rfl,hg,Option.map_some,onCells,hf]
  congr 2
  apply Array.ext_getElem?
  intro j
  have l1:=gr hk l'
  have l2:=gr hk l
  simp only[putCells,Array.getElem?_mapIdx,List.getElem?_toArray,List.size_toArray,Nat.zero_le,true_and,Nat.zero_add,Nat.sub_zero,id]
  by_cases c:j<l'.length*k
  ·have a1:j<(l'.flatMap enc).length:=by omega
   have a2:j<(l.flatMap enc).length:=by rw[l2,←hl];exact c
   rw[List.getElem?_append_left a1,List.getElem?_append_left a2,List.getElem?_eq_getElem a1,List.getElem?_eq_getElem a2,Option.map_some,if_pos a1]
   simp only[List.getElem!_toArray,List.getElem!_eq_getElem?_getD,List.getElem?_eq_getElem a1,Option.getD_some]
  ·have a1:(l'.flatMap enc).length≤j:=by omega
   have a2:(l.flatMap enc).length≤j:=by rw[l2,←hl];omega
   rw[List.getElem?_append_right a1,List.getElem?_append_right a2,l1,l2,hl]
   cases rest[j - l.length*k]? with
   |none=>rfl
   |some v=>rw[Option.map_some,if_neg (by omega)]
 ·rw[e b hb,Array.getElem?_modify,if_neg (fun h=>hne h.symm)]
theorem Cv {P:Program} {f g:Nat} {enc:α→List Value} {encA:α→List AV} {k:Nat} (k0:0<k) (hk:∀x,(enc x).length=k) (hkA:∀l:List α,(l.flatMap encA).length=l.length*k)
  (hE:∀(l:List α) G w,aq G w (l.flatMap encA) (l.flatMap enc)) (hD:∀(l:List α) G w vs,aq G w (l.flatMap encA) vs→vs=l.flatMap enc) (h1:∀l:List α,∀v∈l.flatMap enc,One v)
  {lt:α→α→Bool} (l l':List α) (hln:0<l.length) (hll:l'.length=l.length)
  (hu:∀d':Array α,PermIn 0 l.length l.toArray d'→SortedIn lt 0 l.length d'→d'=l'.toArray)
  (hcon:∀(blk cap:Nat) (w:World),HoldsK enc k w blk 0 l.toArray→blk<w.heap.size→Calls P f #[.slice (some ⟨blk,0,none⟩) l.length cap,.func (.func g) #[] #[]] w fun e w'=>e= .returned (.tuple #[])∧∃d' n os,PermIn 0 l.length l.toArray d'∧SortedIn lt 0 l.length d'∧w'=sortWorldK enc k w blk 0 n d' os)
  {id:Nat} {h:H} (ho:h.objs id=some (.cells (l.flatMap encA))) (htk:h.toks=[]):
  aM P f [.tsl k id 0 l.length none,.clo (.func g) [] []] h (.tup []) {h with objs:=upd h.objs id (some (.cells (l'.flatMap encA)))}:=by
 intro G w vs hv R F
 simp only[aq,ak] at hv
 obtain ⟨v1,_,rfl,⟨hd1,hv1⟩,v2,_,rfl,⟨va,vb,rfl,rfl,rfl⟩,rfl⟩:=hv
 obtain ⟨C,c,T,fr,rfl,⟨hnC,hc63⟩,-,hg,hroom⟩|⟨hz,-⟩:=hv1
 rotate_left
 ·omega
 obtain ⟨-,hown,hB,us,rest,T',fr',hg',hvs,hfr,-⟩:=R.obj id _ ho
 have hus:=hD l G w us hvs
 subst hus
 have hH:HoldsK enc k w (G.ι id) 0 l.toArray:=by
  intro j hj
  rw[uh k0 hk] at hj ⊢
  have hj':j<(l.flatMap enc).length:=by simpa using hj
  constructor
  ·unfold World.cell?
   simp only[hg',Nat.zero_add]
   simp[List.getElem?_append_left hj',getElem!_def,hj',List.getElem?_eq_getElem hj']
  ·unfold World.frozen?
   simp only[hg']
   have:=hfr
   simp;omega
 refine (hcon (G.ι id) C w hH hB).mono fun e w' ⟨he,d',n,os,hp,hs,hw⟩=>?_
 have hdd:=hu d' hp hs
 subst hdd
 subst he hw
 obtain ⟨w1,w2,w3⟩:=pC k0 hk (n:=n) (os:=os) hB hll hg'
 obtain ⟨T1,R1⟩:=zY R ho htk w3 (by rfl) (by rfl) w2 (by rw[hg',w1];exact ⟨_,_,rfl,by simp[gr hk,hll],fun _ _ h=>h⟩) (by rw[hkA,gr hk]) (hE l') (h1 l') w1 hfr
 exact ⟨_,G,rfl,T1,R1,by simp[ak,aq]⟩
theorem Bi {α:Type} {r:α→α→Prop} (ir:∀x,¬r x x) (tr:∀x y z,r x y→r y z→r x z):∀{a b:List α},a.Pairwise r→b.Pairwise r→(∀x,x∈a↔x∈b)→a=b
 |[],[],_,_,_=>rfl
 |[],y::b,_,_,h=>by have:=(h y).2 (by simp);simp at this
 |x::a,[],_,_,h=>by have:=(h x).1 (by simp);simp at this
 |x::a,y::b,ha,hb,h=>by
  have ha':=List.pairwise_cons.1 ha
  have hb':=List.pairwise_cons.1 hb
  have hxy:x=y:=by
   rcases List.mem_cons.1 ((h x).1 (by simp)) with e|hx
   ·exact e
   ·rcases List.mem_cons.1 ((h y).2 (by simp)) with e|hy
    ·exact e.symm
    ·exact absurd (tr _ _ _ (hb'.1 x hx) (ha'.1 y hy)) (ir _)
  subst hxy
  congr 1
  refine Bi ir tr ha'.2 hb'.2 fun p=>⟨fun hp=>?_,fun hp=>?_⟩
  ·rcases List.mem_cons.1 ((h p).1 (by simp[hp])) with e|h1
   ·subst e;exact absurd (ha'.1 p hp) (ir _)
   ·exact h1
  ·rcases List.mem_cons.1 ((h p).2 (by simp[hp])) with e|h1
   ·subst e;exact absurd (hb'.1 p hp) (ir _)
   ·exact h1
theorem sP {α:Type} [Inhabited α] {lt:α→α→Bool} (ir:∀x,lt x x=false) (tr:∀x y z,lt x y=true→lt y z=true→lt x z=true) {l l':List α} (tot:∀x∈l,∀y∈l,x=y∨lt x y=true∨lt y x=true) (nd:l.Nodup)
  (hp:l'.Pairwise fun x y=>lt x y=true) (hm:∀x,x∈l'↔x∈l) {d':Array α} (h1:PermIn 0 l.length l.toArray d') (h2:SortedIn lt 0 l.length d'):d'=l'.toArray:=by
 obtain ⟨hs,-,hperm⟩:=h1
 have hs':d'.size=l.length:=by simpa using hs
 have e1:(d'.extract 0 l.length)=d':=by rw[←hs'];simp
 have e2:(l.toArray.extract 0 l.length)=l.toArray:=by simp
 rw[e1,e2] at hperm
 have hperm:d'.toList.Perm l:=by simpa using hperm
 have nd':d'.toList.Nodup:=hperm.nodup_iff.2 nd
 have pw:d'.toList.Pairwise fun x y=>lt x y=true:=by
  rw[List.pairwise_iff_getElem]
  intro i j hi hj hij
  have hi':i<d'.size:=by simpa using hi
  have hj':j<d'.size:=by simpa using hj
  have:=h2 i j (Nat.zero_le _) hij (by omega)
  rw[getElem!_pos d' i hi',getElem!_pos d' j hj'] at this
  have m1:d'[i]∈l:=hperm.mem_iff.1 (by simp)
  have m2:d'[j]∈l:=hperm.mem_iff.1 (by simp)
  rcases tot _ m1 _ m2 with e|e|e
  ·have:=(List.nodup_iff_pairwise_ne.1 nd')
   have:=List.pairwise_iff_getElem.1 this i j hi hj hij
   exact absurd (by simpa using e) this
  ·simpa using e
  ·rw[this] at e;cases e
 have:=Bi (r:=fun x y=>lt x y=true) (fun x=>by rw[ir];simp) tr pw hp fun x=>by rw[hperm.mem_iff,hm]
 rw[←this]
end
end Go.Av
end
section
set_option maxRecDepth 100000
namespace Go.Proofs.YtjnoobmaedgooaaGreat.Batch
open Go Go.Proofs Go.Lib Go.RowKit Go.Shelf Go.Sort Go.Av
def encA (p:Pr):List AV:=[.str p.k,.str p.v]
theorem yM (p:Pr) (G:aD) (w:World):aq G w (encA p) (ni p):=by
 simp[encA,ni,aq,ak]
theorem qR:∀(l:List Pr) (G:aD) (w:World),aq G w (l.flatMap encA) (l.flatMap ni)
 |[],G,w=>by simp[aq]
 |p::l,G,w=>by
  have:=qR l G w
  simp only[List.flatMap_cons]
  exact (yM p G w).append this
theorem ui:∀(l:List Pr) (G:aD) (w:World) (vs:List Value),aq G w (l.flatMap encA) vs→vs=l.flatMap ni
 |[],G,w,vs,h=>by simpa [aq] using h
 |p::l,G,w,vs,h=>by
  simp only[List.flatMap_cons,encA,List.cons_append,List.nil_append,aq,ak] at h
  obtain ⟨v,us,rfl,rfl,v',us',rfl,rfl,h⟩:=h
  rw[ui l G w us' h]
  rfl
theorem yN (l:List Pr):∀v∈l.flatMap ni,One v:=by
 intro v hv
 obtain ⟨p,-,hp⟩:=List.mem_flatMap.1 hv
 simp only[ni,List.mem_cons,List.not_mem_nil,or_false] at hp
 rcases hp with rfl|rfl<;>exact ⟨(fun _ e=>by cases e),(fun _ e=>by cases e)⟩
theorem qS (l:List Pr):(l.flatMap encA).length=l.length*2:=by
 induction l with
 |nil=>rfl
 |cons p l ih=>simp only[List.flatMap_cons,List.length_append,ih,encA,List.length_cons,List.length_nil];omega
theorem Cw (l l':List Pr) (h0:0<l.length) (hl:l.length<4611686018427387904) (hll:l'.length=l.length)
  (tot:∀x∈l,∀y∈l,x=y∨Op.bytesLess x.k y.k=true∨Op.bytesLess y.k x.k=true) (nd:l.Nodup) (hp:l'.Pairwise fun x y=>Op.bytesLess x.k y.k=true) (hm:∀x,x∈l'↔x∈l)
  {id:Nat} {h:H} (ho:h.objs id=some (.cells (l.flatMap encA))) (htk:h.toks=[]):
  aM Tryz.prog 45 [.tsl 2 id 0 l.length none,.clo (.func 46) [] []] h (.tup []) {h with objs:=upd h.objs id (some (.cells (l'.flatMap encA)))}:=by
 have eg:∀args w,(callFunc 46 args).run Tryz.prog w= .ok (.enter 46 args) w:=enters_of Tryz.func46 (by kernel_rfl) rfl
 have hlt:ltOf cfP=fun x y=>Op.bytesLess x.k y.k:=by funext x y;exact oB x y
 refine Cv (enc:=ni) (encA:=encA) (lt:=ltOf cfP) (by omega) (fun _=>rfl) qS qR ui yN l l' h0 hll (fun d' h1 h2=>?_) (fun blk cap w hH hb=>?_) ho htk
 ·refine sP (lt:=ltOf cfP) sO.irrefl sO.trans (fun x hx y hy=>?_) nd ?_ hm h1 h2
  ·rw[oB,oB];exact tot x hx y hy
  ·rw[hlt];exact hp
 ·have:=AnyQ.slices_SortFunc v7 2 Tryz.isAgg50 Tryz.sizeOf50 ni (fun _=>rfl) (fun x v hv=>by simp[ni] at hv;rcases hv with rfl|rfl<;>rfl) cfP sO 46 #[] blk 0 cap l.toArray w eg (yL blk 0 l.toArray.size w) hH hb (by simpa using hl)
  exact this
end Go.Proofs.YtjnoobmaedgooaaGreat.Batch
end
section
set_option maxRecDepth 100000
namespace Go.Proofs.YtjnoobmaedgooaaGreat.Arch
open Go Go.Av Go.Proofs Go.Proofs.YtjnoobmaedgooaaGreat.C Go.Proofs.YtjnoobmaedgooaaGreat.Batch Go.Proofs.YtjnoobmaedgooaaGreat.Desk
theorem AK {α:Type} {P:List α→Prop} (h0:P []) (h1:∀a x,P a→P (a++[x])) (l:List α):P l:=by
 have h:∀m:List α,P m.reverse:=fun m=>by
  induction m with
  |nil=>exact h0
  |cons x m ih=>rw[List.reverse_cons];exact h1 _ x ih
 have:=h l.reverse
 rwa [List.reverse_reverse] at this
theorem yO {α:Type} [Inhabited α] {r:α→α→Prop} (tr:∀x y z,r x y→r y z→r x z) {l:List α} (h:∀i,i+1<l.length→r (l.getD i default) (l.getD (i+1) default)):l.Pairwise r:=by
 have key:∀d i,i+d+1<l.length→r (l.getD i default) (l.getD (i+d+1) default):=by
  intro d
  induction d with
  |zero=>intro i hi;exact h i hi
  |succ d ih=>intro i hi;exact tr _ _ _ (ih i (by omega)) (h (i+d+1) (by omega))
 rw[List.pairwise_iff_getElem]
 intro i j hi hj hij
 have:=key (j - i - 1) i (by omega)
 rw[show i+(j - i - 1)+1=j by omega,Av.eu hi,Av.eu hj] at this
 exact this
theorem yP {l:List Pr} (h:l.Pairwise fun x y=>x.k≠y.k):∀x∈l,∀y∈l,x.k=y.k→x=y:=by
 intro x hx y hy e
 obtain ⟨i,hi,rfl⟩:=List.mem_iff_getElem.1 hx
 obtain ⟨j,hj,rfl⟩:=List.mem_iff_getElem.1 hy
 have hp:=List.pairwise_iff_getElem.1 h
 rcases Nat.lt_trichotomy i j with h1|h1|h1
 ·exact absurd e (hp i j hi hj h1)
 ·subst h1;rfl
 ·exact absurd e.symm (hp j i hj hi h1)
theorem sQ {l:List Pr} (h:l.Pairwise fun x y=>x.k≠y.k):l.Nodup:=h.imp fun h e=>h (by rw[e])
theorem kr {k v:Bs}:∀{l:List Pr} {b:Bool},(∀x∈l,x.k≠k)→(cg k v b l).length=l.length+(if b then 0 else 1)∧∀x,x∈cg k v b l↔(b=false∧x=⟨k,v⟩)∨x∈l
 |[],b,_=>by cases b<;>simp[cg]
 |p::l,b,h=>by
  have h1:=kr (k:=k) (v:=v) (l:=l) (b:=true) fun x hx=>h x (by simp[hx])
  have h2:=kr (k:=k) (v:=v) (l:=l) (b:=false) fun x hx=>h x (by simp[hx])
  have hp:=h p (by simp)
  simp only[if_true,if_false,Bool.false_eq_true,Nat.add_zero,Bool.true_eq_false,false_and,false_or,true_and] at h1 h2
  rw[cg]
  cases b<;>cases Op.bytesLess p.k k<;>simp[hp,h1.1,h2.1,h1.2,h2.2]
  all_goals (try intro x;try constructor)<;>(try (intro h;rcases h with h|h|h<;>simp[h]))
theorem sR {l:List Pr} (h:l.Pairwise fun x y=>x.k≠y.k) (hs:∀p∈l,shut p.k p.v=false):(aS l).length=l.length∧∀x,x∈aS l↔x∈l:=by
 revert h hs
 refine AK (P:=fun l=>(l.Pairwise fun x y=>x.k≠y.k)→(∀p∈l,shut p.k p.v=false)→(aS l).length=l.length∧∀x,x∈aS l↔x∈l) (fun _ _=>by simp[aS]) (fun a p ih h hs=>?_) l
 have hp:=List.pairwise_append.1 h
 obtain ⟨i1,i2⟩:=ih hp.1 fun q hq=>hs q (by simp[hq])
 have hsp:=hs p (by simp)
 rw[qM,gW,if_neg (by rw[hsp];simp)]
 have:=kr (k:=p.k) (v:=p.v) (l:=aS a) (b:=false) fun x hx=>hp.2.2 x ((i2 x).1 hx) p (by simp)
 refine ⟨by rw[this.1,i1];simp,fun x=>?_⟩
 rw[this.2,i2]
 simp only[true_and,List.mem_append,List.mem_singleton]
 exact or_comm
theorem qT (l:List Pr):(aS l).Pairwise fun x y=>Op.bytesLess x.k y.k=true:=(kq l).1
theorem kQ {a b c:List UInt8} (h1:Op.bytesLess a b=true) (h2:Op.bytesLess b c=true):Op.bytesLess a c=true:=Batch.cO h1 h2
def qU (n:List UInt8) (v:Vs):List Ky:=kyV n v::(List.range (de v.b)).map (kyC n v)
def qV (b:Bk):List Ky:=kyB b::(b.l.map (qU b.n)).flatten
def sS (m:List Bk):List Ky:=(m.map qV).flatten
theorem qW (n:List UInt8) (v:Vs):(ca n v).map (fun c=>c.k)=(qU n v).map dI:=by
 simp[ca,qU,chV,Function.comp_def,chC]
theorem sT (b:Bk):(gU b).map (fun p=>p.k)=(qV b).map dI:=by
 unfold gU bg qV
 simp only[List.flatten_cons,List.map_append,List.map_cons,List.map_nil,List.map_map,List.singleton_append,List.map_flatten,Function.comp_def]
 congr 1
 congr 1
 refine List.map_congr_left fun v _=>?_
 exact qW b.n v
theorem nb (m:List Bk):(bc m).map (fun p=>p.k)=(sS m).map dI:=by
 unfold bc sS
 simp only[List.map_flatten,List.map_map,Function.comp_def]
 congr 1
 exact List.map_congr_left fun b _=>sT b
theorem yQ {m:List Bk} (h:imB m=true) {b:Bk} (hb:b∈m):eH b=true:=by
 obtain ⟨i,hi,rfl⟩:=List.mem_iff_getElem.1 hb
 have:=(ow h).2 i hi
 rwa [show m.getD i default=m[i] by simp[List.getD_eq_getElem?_getD,List.getElem?_eq_getElem hi]] at this
theorem Bj {b:Bk} (h:eH b=true) {v:Vs} (hv:v∈b.l):v.okV=true:=by
 obtain ⟨i,hi,rfl⟩:=List.mem_iff_getElem.1 hv
 unfold eH at h
 simp only[Bool.and_eq_true] at h
 have:=gk h.2 i hi
 rwa [show b.l.getD i default=b.l[i] by simp[List.getD_eq_getElem?_getD,List.getElem?_eq_getElem hi]] at this
theorem Cy {v:Vs} (h:v.okV=true):aW v.o=0∧0≤v.id∧v.id≤1152921504606846976:=by
 simp only[Vs.okV,Bool.and_eq_true,decide_eq_true_eq] at h
 exact ⟨h.1.1.1,h.1.1.2,h.1.2⟩
theorem nc {m:List Bk} (h:imB m=true):∀x∈sS m,x.ok:=by
 intro x hx
 unfold sS at hx
 obtain ⟨l,hl,hx⟩:=List.mem_flatten.1 hx
 obtain ⟨b,hb,rfl⟩:=List.mem_map.1 hl
 have hob:=yQ h hb
 have hbn:aV b.n=0:=by
  unfold eH at hob
  simp only[Bool.and_eq_true,decide_eq_true_eq] at hob
  exact hob.1.1
 unfold qV at hx
 rcases List.mem_cons.1 hx with rfl|hx
 ·exact ⟨by simp[kyB],rfl,by simp[kyB],fun _=>rfl,hbn,fun h=>absurd rfl h⟩
 ·obtain ⟨l,hl,hx⟩:=List.mem_flatten.1 hx
  obtain ⟨v,hv,rfl⟩:=List.mem_map.1 hl
  have hov:=Bj hob hv
  obtain ⟨h1,h2,h3⟩:=Cy hov
  unfold qU at hx
  rcases List.mem_cons.1 hx with rfl|hx
  ·exact ⟨by simp[kyV],rfl,by simp[kyV];omega,fun h=>absurd h (by simp[kyV]),hbn,fun _=>h1⟩
  ·obtain ⟨k,hk,rfl⟩:=List.mem_map.1 hx
   have:=List.mem_range.1 hk
   have h16:=jQ (mX hov).2
   exact ⟨by simp[kyC],rfl,by simp[kyC];omega,fun h=>absurd h (by simp[kyC]),hbn,fun _=>h1⟩
theorem yR {m:List Bk} (h:imB m=true):m.Pairwise fun a b=>Op.bytesLess a.n b.n=true:=by
 refine yO (r:=fun a b:Bk=>Op.bytesLess a.n b.n=true) (fun x y z h1 h2=>kQ h1 h2) fun i hi=>?_
 unfold imB at h
 simp only[Bool.and_eq_true,List.all_eq_true,List.mem_range] at h
 have:=h.2 (i+1) hi
 unfold jO at this
 simp only[Bool.and_eq_true,Bool.or_eq_true,decide_eq_true_eq,Nat.add_sub_cancel] at this
 rcases this.2 with h|h
 ·omega
 ·exact h
theorem sU {a b c:Vs} (h1:a.next b=true) (h2:b.next c=true):a.next c=true:=by
 unfold Vs.next at*
 simp only[Bool.or_eq_true,Bool.and_eq_true,decide_eq_true_eq] at*
 rcases h1 with h1|⟨h1,h3⟩ <;>rcases h2 with h2|⟨h2,h4⟩
 ·exact .inl (kQ h1 h2)
 ·rw[←h2];exact .inl h1
 ·rw[h1];exact .inl h2
 ·exact .inr ⟨h1.trans h2,by omega⟩
theorem AL {b:Bk} (h:eH b=true):b.l.Pairwise fun u v=>u.next v=true:=by
 refine yO (r:=fun u v:Vs=>u.next v=true) (fun x y z h1 h2=>sU h1 h2) fun i hi=>?_
 unfold eH at h
 simp only[Bool.and_eq_true] at h
 have h:=h.2
 unfold br at h
 simp only[List.all_eq_true,List.mem_range] at h
 have:=h (i+1) hi
 unfold fo at this
 simp only[Bool.and_eq_true,Bool.or_eq_true,decide_eq_true_eq,Nat.add_sub_cancel] at this
 rcases this.1.2 with h|h
 ·omega
 ·exact h
theorem next_ne {u v:Vs} (h:u.next v=true):u.o≠v.o∨u.id≠v.id:=by
 unfold Vs.next at h
 simp only[Bool.or_eq_true,Bool.and_eq_true,decide_eq_true_eq] at h
 rcases h with h|⟨h1,h2⟩
 ·exact .inl (lG h)
 ·exact .inr (by omega)
theorem lI {n:List UInt8} {v:Vs} {x:Ky} (h:x∈qU n v):x.b=n∧x.o=v.o∧x.ns.head? =some v.id∧x.k≠1:=by
 unfold qU at h
 rcases List.mem_cons.1 h with rfl|h
 ·exact ⟨rfl,rfl,rfl,by simp[kyV]⟩
 ·obtain ⟨k,hk,rfl⟩:=List.mem_map.1 h
  exact ⟨rfl,rfl,rfl,by simp[kyC]⟩
theorem uj {b:Bk} {x:Ky} (h:x∈qV b):x.b=b.n:=by
 unfold qV at h
 rcases List.mem_cons.1 h with rfl|h
 ·rfl
 ·obtain ⟨l,hl,hx⟩:=List.mem_flatten.1 h
  obtain ⟨v,hv,rfl⟩:=List.mem_map.1 hl
  exact (lI hx).1
theorem sV (n:List UInt8) (v:Vs):(qU n v).Pairwise (· ≠ ·):=by
 unfold qU
 refine List.pairwise_cons.2 ⟨fun x hx=>?_,?_⟩
 ·obtain ⟨k,hk,rfl⟩:=List.mem_map.1 hx
  simp[kyV,kyC]
 ·refine List.pairwise_map.2 (List.Pairwise.imp (fun {a b} h e=>h ?_) (List.nodup_range:(List.range (de v.b)).Nodup))
  have e2:((a:Int))=(b:Int):=by simpa [kyC] using e
  omega
theorem sW {b:Bk} (h:eH b=true):(qV b).Pairwise (· ≠ ·):=by
 unfold qV
 refine List.pairwise_cons.2 ⟨fun x hx e=>?_,?_⟩
 ·obtain ⟨l,hl,hx⟩:=List.mem_flatten.1 hx
  obtain ⟨v,hv,rfl⟩:=List.mem_map.1 hl
  have:=(lI hx).2.2.2
  rw[←e] at this
  exact this rfl
 ·refine List.pairwise_flatten.2 ⟨fun l hl=>?_,?_⟩
  ·obtain ⟨v,hv,rfl⟩:=List.mem_map.1 hl
   exact sV _ _
  ·refine List.pairwise_map.2 (List.Pairwise.imp (fun {u v} hn x hx y hy e=>?_) (AL h))
   subst e
   obtain ⟨-,a2,a3,-⟩:=lI hx
   obtain ⟨-,b2,b3,-⟩:=lI hy
   rcases next_ne hn with h|h
   ·exact h (a2.symm.trans b2)
   ·exact h (Option.some.inj (a3.symm.trans b3))
theorem sX {m:List Bk} (h:imB m=true):(sS m).Pairwise (· ≠ ·):=by
 unfold sS
 refine List.pairwise_flatten.2 ⟨fun l hl=>?_,?_⟩
 ·obtain ⟨b,hb,rfl⟩:=List.mem_map.1 hl
  exact sW (yQ h hb)
 ·refine List.pairwise_map.2 (List.Pairwise.imp (fun {a b} hn x hx y hy e=>?_) (yR h))
  subst e
  exact lG hn ((uj hx).symm.trans (uj hy))
theorem pD {x:Ky} (h:x.ok):dI x=kf x:=by
 unfold dI
 have:iG x=0:=by
  unfold iG
  have h1:gT x=true:=by
   unfold gT jo
   simp only[Bool.and_eq_true,List.all_eq_true,decide_eq_true_eq,Bool.or_eq_true,Bool.not_eq_true',decide_eq_false_iff_not]
   refine ⟨⟨fun n hn=>(h.r n hn).1,h.n.symm⟩,?_⟩
   by_cases hk:x.k=1
   ·exact .inr (h.e hk)
   ·exact .inl hk
  rw[h1,if_pos rfl,if_pos h.b]
  split
  ·rfl
  ·exact h.o ‹_›
 rw[if_pos this]
theorem fm {m:List Bk} (h:imB m=true):(bc m).Pairwise fun x y=>x.k≠y.k:=by
 have h1:((sS m).map dI).Pairwise (· ≠ ·):=by
  refine List.pairwise_map.2 ?_
  refine List.Pairwise.imp_of_mem (fun {a b} ha hb hn e=>hn ?_) (sX h)
  rw[pD (nc h a ha),pD (nc h b hb)] at e
  exact key_inj (nc h a ha) (nc h b hb) e
 rw[←nb] at h1
 exact List.pairwise_map.1 h1
theorem wg (s:List UInt8) (k:Nat):(chunk s k).length≤160:=by
 unfold chunk
 rw[List.length_drop,List.length_take];omega
theorem wh (v:Vs):(ub v).length≤11:=by
 unfold ub cy
 split
 ·rw[dH];exact Nat.le_refl _
 ·simp
theorem AM (v:Int):(stS v).length≤1:=by unfold stS;split<;>simp
theorem sY {m:List Bk} (h:imB m=true):∀p∈bc m,shut p.k p.v=false:=by
 intro p hp
 have hk:p.k.length≤81:=by
  have:p.k∈(bc m).map (fun p=>p.k):=List.mem_map.2 ⟨p,hp,rfl⟩
  rw[nb] at this
  obtain ⟨x,hx,e⟩:=List.mem_map.1 this
  have ho:=nc h x hx
  rw[←e,pD ho]
  exact lF ho
 have hv:p.v.length≤160:=by
  unfold bc at hp
  obtain ⟨l,hl,hp⟩:=List.mem_flatten.1 hp
  obtain ⟨b,hb,rfl⟩:=List.mem_map.1 hl
  unfold gU at hp
  obtain ⟨c,hc,rfl⟩:=List.mem_map.1 hp
  obtain ⟨r,hr,hc⟩:=List.mem_flatten.1 hc
  unfold bg at hr
  rcases List.mem_cons.1 hr with rfl|hr
  ·simp only[List.mem_singleton] at hc
   subst hc
   have:=AM b.st
   show (stS b.st).length≤160
   omega
  ·obtain ⟨v,hv,rfl⟩:=List.mem_map.1 hr
   unfold ca at hc
   rcases List.mem_cons.1 hc with rfl|hc
   ·have:=wh v
    show (ub v).length≤160
    omega
   ·obtain ⟨k,hk,rfl⟩:=List.mem_map.1 hc
    exact wg _ _
 simp only[shut,Bool.or_eq_false_iff,decide_eq_false_iff_not]
 omega
theorem yS {l:List Pr} (h:l.Pairwise fun x y=>x.k≠y.k):∀x∈l,∀y∈l,x=y∨Op.bytesLess x.k y.k=true∨Op.bytesLess y.k x.k=true:=fun x hx y hy=>by
 rcases Batch.fg x.k y.k with h1|h1|h1
 ·exact .inr (.inl h1)
 ·exact .inl (yP h x hx y hy h1)
 ·exact .inr (.inr h1)
def ku (o:List Pr):Av.Obj:= .cells (o.flatMap encA)
def rV (o:List Pr) (k:Nat):AV:=if o=[] then .sl 2 [] (.exact 0) else .tsl 2 k 0 o.length none
def rO (o:List Pr) (k:Nat) (f:Nat→Option Av.Obj):Nat→Option Av.Obj:=upd (if o=[] then f else upd f k (some (ku o))) 1 (some (.cells [rV o k]))
theorem yU (o:List Pr) (k:Nat) (f:Nat→Option Av.Obj):rO o k f 1=some (.cells [rV o k]):=by simp[rO,upd]
theorem yV {o:List Pr} {k:Nat} {f:Nat→Option Av.Obj} (h:o≠[]) (hk:k≠1):rO o k f k=some (ku o):=by simp[rO,upd,h,hk]
theorem gO {o:List Pr} {k j:Nat} {f:Nat→Option Av.Obj} (h1:j≠1) (h2:o≠[]→j≠k):rO o k f j=f j:=by
 unfold rO
 by_cases ho:o=[]
 ·simp[upd,ho,h1]
 ·simp[upd,ho,h1,h2 ho]
theorem yW {o:List Pr} {k:Nat} {g f:Nat→Option Av.Obj} (h1:g 1=some (.cells [rV o k])) (h2:o≠[]→g k=some (ku o)) (h3:OLe g f):OLe g (rO o k f):=by
 intro j p hp
 unfold rO at hp
 simp only[upd] at hp
 split at hp
 ·rename_i e;subst e;cases hp;exact ⟨_,h1,cD.refl _⟩
 ·split at hp
  ·exact h3 j p hp
  ·rename_i ho
   simp only[upd] at hp
   split at hp
   ·rename_i e;subst e;cases hp;exact ⟨_,h2 ho,cD.refl _⟩
   ·exact h3 j p hp
theorem qX (o:List Pr) (p:Pr):o.flatMap encA++([.agg [.str p.k,.str p.v]]:List AV).flatMap cellsOf=(o++[p]).flatMap encA:=by simp[encA,cellsOf]
theorem sZ (o:List Pr):(o.flatMap encA).length=o.length*2:=qS o
theorem OLe.one {g:Nat→Option Av.Obj} {L:Nat} {A:Av.Obj} (h:g L=some A):OLe g (upd af L (some A)):=by
 intro j p hp
 simp only[upd,af] at hp
 split at hp
 ·rename_i e;subst e;cases hp;exact ⟨_,h,cD.refl _⟩
 ·cases hp
theorem pE {o:List Pr} {k L:Nat} {A B:Option Av.Obj} (h1:L≠1) (h2:o≠[]→k≠L):upd (rO o k (upd af L A)) L B=rO o k (upd af L B):=by
 funext j
 unfold rO
 by_cases ho:o=[]
 ·simp only[ho,if_true,upd]
  by_cases a:j=L
  ·subst a;simp[h1]
  ·simp[a]
 ·simp only[ho,if_false,upd]
  by_cases a:j=L
  ·subst a;simp[h1,Ne.symm (h2 ho)]
  ·simp[a]
theorem Cz {o:List Pr} {k L:Nat} {A:Option Av.Obj} (h1:L≠1) (h2:o≠[]→k≠L):(fun j=>if j=L then none else rO o k (upd af L A) j)=rO o k af:=by
 funext j
 unfold rO
 by_cases a:j=L
 ·subst a
  by_cases ho:o=[]
  ·simp[upd,ho,h1,af]
  ·simp[upd,ho,h1,Ne.symm (h2 ho),af]
 ·by_cases ho:o=[]
  ·simp[upd,ho,a]
  ·simp[upd,ho,a]
theorem yX (L:Nat):upd (af:Nat→Option Av.Obj) L none=af:=by
 funext j;simp[upd,af]
theorem CA {o:List Pr} {k L:Nat} {B:Option Av.Obj} (h1:L≠1) (h2:o≠[]→k≠L):upd (rO o k af) L B=rO o k (upd af L B):=by
 have:=pE (o:=o) (k:=k) (L:=L) (A:=none) (B:=B) h1 h2
 rwa [yX] at this
def kX (R:List (List Ch)) (j:Nat):List Pr:=(R.take j).flatten.map bU
def hIn (o:List Pr) (k L:Nat) (lp:Av.Obj) (n m:Nat):H:=⟨rO o k (upd af L (some lp)),n,[],m⟩
set_option maxHeartbeats 4000000 in
theorem yY (m:List Bk) (hf:Few m) (hF:imB m=true→(bc m).length≤100000):aB Tryz.prog 13 [bY m] (.tup [.sl 2 (prs (if imB m=true then aS (bc m) else [])) .any,.int .i64 (imE m)]):=by
 refine f13.zC (by simp) (by simp[aA,cA]) (by simp[aJ,aA,aZ,iE]) ?_
 unfold c13
 simp only[C.zz]
 have h1:=po m hf
 have len:=dy m
 unfold imE at*
 cases hm:imB m with
 |false=>
  rw[hm] at h1
  simp only[Bool.false_eq_true,if_false] at h1 ⊢
  unfold bY at*
  refine oY h1 ?_
  refine ay ?_
  exact .inl (aa.tup (al.cons aa.cap (al.refl _)))
 |true=>
  rw[hm] at h1
  simp only[if_true] at h1 ⊢
  unfold bY at*
  obtain ⟨hl,hok⟩:=ow hm
  replace hF:=hF hm
  refine rf1 @len h1 ?_
  refine Wp.le (s':=⟨tm [(5,.ptr 1 0),(17,.sl 3 (bks m) .any),(18,.int .i64 m.length),(19,.int .i64 0)],⟨rO [] 0 af,2,[],0⟩⟩) (aI.of (bE ?_) (yW ?_ (fun h=>absurd rfl h) (OLe.none _)) (fun a ha=>ha) (Nat.le_refl _) (Nat.le_refl _)) ?_
  ·exact xSb
  ·simp[upd,rV]
  refine Wp.dM [5,17,18] xA7 (fun b:Nat × Nat × Nat × Nat=>[(19,.int .i64 (b.1:Nat))]) (fun b=>⟨rO (bc (m.take b.1)) b.2.1 af,b.2.2.1,[],b.2.2.2⟩)
   (fun b=>b.1≤m.length∧2≤b.2.2.1∧(bc (m.take b.1)≠[]→b.2.1<b.2.2.1∧b.2.1≠1)) (fun b=>m.length - b.1) (0,0,2,0) ⟨Nat.zero_le _,Nat.le_refl _,fun h=>absurd rfl h⟩ rfl ?_ ?_
  ·exact xSb
  rintro ⟨j,k,n,mm⟩ ⟨hj,hn2,hk⟩
  simp only at hj hn2 hk
  by_cases hc:j<m.length
  ·obtain ⟨g1,g2,g3,e1⟩:=eh hc (Nat.le_trans hl (by decide))
   have hat:=dJ m j .any hc
   have hb:=hok j hc
   have hfe:=hf.at j
   have hsn:=na m j hc
   have hle:=qN m (j+1)
   rw[hsn,List.length_append] at hle
   have c1:=yA (m.getD j default)
   have hTH:=yI (m.getD j default) hb hfe
   have hFB:gU (m.getD j default)=(bg (m.getD j default)).flatten.map bU:=rfl
   rw[hFB] at hsn hle
   generalize bg (m.getD j default)=R at*
   generalize hP0:bc (m.take j)=P0 at*
   generalize m.getD j default=b at*
   clear hFB
   obtain ⟨nm,st,vl⟩:=b
   unfold cT at hat c1
   have n1:¬(1=n):=by omega
   refine rf1 (cj6 g1 g2 g3 @len hat @Int.toNat_natCast) c1 ?_
   refine Wp.le (s':=⟨tm [(5,.ptr 1 0),(17,.sl 3 (bks m) .any),(18,.int .i64 m.length),(19,.int .i64 j),(24,.clo (.func 91) [] [.ref [.str nm,.int .i64 st,.sl 8 (vss vl) .any]])],⟨rO P0 k af,n+1,[],mm⟩⟩) (aI.of (bE ?_) ?_ (fun a ha=>ha) (Nat.le_refl _) (Nat.le_refl _)) ?_
   ·exact xSb
   ·intro a u hu
    have hne:a≠n:=by
     rintro rfl
     rw[gO (by omega) (fun h=>by have:=(hk h).1;omega)] at hu
     cases hu
    exact ⟨u,by simp only[upd,hne,if_false];exact hu,cD.refl _⟩
   generalize hL:n+1=L at*
   have hkL:P0≠[]→k<L∧k≠1:=fun h=>⟨by have:=(hk h).1;omega,(hk h).2⟩
   have hL1:L≠1:=by omega
   have hL2:1<L:=by omega
   clear hk
   refine Wp.CR (fi:=91) (first:=[]) (caps:=[.ref [.str nm,.int .i64 st,.sl 8 (vss vl) .any]]) (by simp only[go_sem,reduceIte,Nat.reduceEqDiff]) (Tryz.func91) rfl (of_decide_eq_true (by kernel_rfl)) (gO hL1 (fun h=>by show L≠k;have:=(hkL h).1;omega)) fun asg body a1 a2 a3 a4=>?_
   generalize hT:tm [(5,AV.ptr 1 0),(17,.sl 3 (bks m) .any),(18,.int .i64 m.length),(19,.int .i64 j),(24,.clo (.func 91) [] [.ref [.str nm,.int .i64 st,.sl 8 (vss vl) .any]])]=tt at*
   have t5:tt 5= .ptr 1 0:=by rw[←hT];rfl
   refine (hTH L (fun i h=>∃k' n' m',h=hIn (P0++kX R i) k' L (.loop 45 tt [25] asg body .ready none) n' m'∧L<n'∧(P0++kX R i≠[]→k'<n'∧k'≠1∧k'≠L)) (fun _=>False) ?_ ?_ ?_ _ ?_).mono ?_
   ·rintro i h ⟨k',n',m',rfl,q1,q2⟩
    refine ⟨fun a ha=>?_,fun t ht=>by cases ht⟩
    have ha:n'≤a:=ha
    show rO _ _ _ a=none
    rw[gO (by omega) (fun h=>by have:=(q2 h).1;omega)]
    have:a≠L:=by omega
    simp[upd,this,af]
   ·rintro i h n2 m2 ⟨k',n',m',rfl,q1,q2⟩ hn hm
    have hn:n'≤n2:=hn
    exact ⟨k',n2,m2,rfl,by omega,fun h=>⟨by have:=(q2 h).1;omega,(q2 h).2⟩⟩
   ·rintro i h t m2 hi ⟨k',n',m',rfl,q1,q2⟩ ht1 ht2
    have hob:rO (P0++kX R i) k' (upd af L (some (Av.Obj.loop 45 tt [25] asg body .ready none))) L=some (.loop 45 tt [25] asg body .ready none):=by
     rw[gO hL1 (fun h=>Ne.symm (q2 h).2.2)];simp[upd]
    refine sk (t:=tt) (ps:=[25]) hob a1 a2 a3 a4 rfl (by simp) ?_
    refine Wp.jC (by simp only[go_sem,reduceIte,Nat.reduceEqDiff,iv];exact rfl) (by trivial) ⟨rfl,tt,hob,?_⟩
    clear hob
    simp only[hIn]
    rw[pE hL1 (fun h=>(q2 h).2.2)]
    have hsr:=oA R i hi
    have hlr:=ud R (i+1)
    rw[hsr,List.length_append] at hlr
    have hr1:kX R i=(R.take i).flatten.map bU:=rfl
    have hr2:kX R (i+1)=kX R i++(R.getD i []).map bU:=hsr
    rw[hr2]
    have cl:=mH (R.getD i [])
    generalize R.getD i []=r at*
    have hb2:(P0++kX R i).length+r.length≤100000:=by
     have q1:r.length=(r.map bU).length:=(List.length_map _).symm
     rw[List.length_append,q1,hr1]
     exact Nat.le_trans (by omega) hF
    rw[←List.append_assoc]
    generalize P0++kX R i=P1 at*
    clear hr1 hr2 hsr hlr ht1
    refine rf0 (cj2 cl t5) ?_
    refine Wp.le (s':=⟨tm [(5,.ptr 1 0),(26,.sl 3 (chs r) .any),(27,.int .i64 r.length),(28,.int .i64 0)],⟨rO P1 k' (upd af L (some (Av.Obj.loop 45 tt [25] asg body .busy none))),n',[],m2⟩⟩) (aI.of (bE ?_) (OLe.uc _) (fun a ha=>by cases ha) (Nat.le_refl _) (Nat.le_refl _)) ?_
    ·simp only[az,go_sem,reduceIte,Nat.reduceEqDiff,Nat.reduceAdd,bx,t5];and_intros<;>first|exact trivial|exact aa.refl _|exact aa.any _|exact aa.cap|(refine aa.int ?_;omega)
    generalize hbz:Av.Obj.loop 45 tt [25] asg body .busy none=bz at*
    refine Wp.dM [5,26,27] xA7 (fun b:Nat × Nat × Nat=>[(28,.int .i64 (b.1:Nat))]) (fun b=>⟨rO (P1++(r.take b.1).map bU) b.2.1 (upd af L (some bz)),b.2.2,[],m2⟩)
     (fun b=>b.1≤r.length∧L<b.2.2∧(P1++(r.take b.1).map bU≠[]→b.2.1<b.2.2∧b.2.1≠1∧b.2.1≠L)) (fun b=>r.length - b.1) (0,k',n') ⟨Nat.zero_le _,q1,by simpa using q2⟩ (by simp) ?_ ?_
    ·exact xSb
    rintro ⟨i2,k2,n2⟩ ⟨hi2,hn3,hk2⟩
    simp only at hi2 hn3 hk2
    by_cases hci:i2<r.length
    ·obtain ⟨i1,i3,i4,i5⟩:=eh hci (Nat.le_trans (Nat.le_trans (Nat.le_add_left _ _) hb2) (by decide))
     have hai:=qD r i2 .any hci
     have hsi:=jR bU r i2 hci
     have hPn:(P1++(r.take i2).map bU).length≤100000:=by
      rw[List.length_append,List.length_map,List.length_take];omega
     have hsn2:P1++(r.take (i2+1)).map bU=(P1++(r.take i2).map bU)++[bU (r.getD i2 default)]:=by rw[hsi,List.append_assoc]
     generalize r.getD i2 default=c at*
     generalize P1++(r.take i2).map bU=P at*
     clear hsi
     obtain ⟨ck,cv,cd⟩:=c
     unfold og at hai
     have x1:¬(1=n2):=by omega
     have x2:¬(1=n2+1):=by omega
     have x3:¬(n2=n2+1):=by omega
     have x4:¬(L=n2):=by omega
     have x5:¬(L=n2+1):=by omega
     have x6:¬(L=1):=hL1
     have hF1:=yU P k2 (upd af L (some bz))
     have hFL:rO P k2 (upd af L (some bz)) L=some bz:=by
      rw[gO hL1 (fun h=>Ne.symm (hk2 h).2.2)];simp[upd]
     by_cases ho:P=[]
     ·subst ho
      have hv:rV [] k2= .sl 2 [] (.exact 0):=rfl
      rw[hv] at hF1
      generalize rO [] k2 (upd af L (some bz))=F at*
      refine rf0 (cj6 i1 i3 i4 cl hai @Int.toNat_natCast) ?_
      refine Wp.xn ?_
      refine ah.op1 (by simp only[go_sem]) (by simp only[go_sem,reduceIte,Nat.reduceEqDiff,Nat.reduceAdd,bx,ax,if_true,if_false,Nat.reduceMul,Nat.reduceLeDiff,x1,hF1];exact rfl) ?_
      simp only[aY]
      refine ah.op1 (by simp only[go_sem]) (by simp only[go_sem,reduceIte,Nat.reduceEqDiff,Nat.reduceAdd,bx,ax,if_true,if_false,Nat.reduceMul,Nat.reduceLeDiff,x1,hF1];exact rfl) ?_
      simp only[aY]
      refine ah.op1 (by simp only[go_sem]) (by simp only[go_sem,reduceIte,Nat.reduceEqDiff,Nat.reduceAdd,bx,ax,if_true,if_false,Nat.reduceMul,Nat.reduceLeDiff,x1,hF1];exact rfl) ?_
      simp only[aY]
      refine ah.op1 (by simp only[go_sem]) (by simp only[go_sem,reduceIte,Nat.reduceEqDiff,Nat.reduceAdd,bx,ax,if_true,if_false,Nat.reduceMul,Nat.reduceLeDiff,x1,hF1];exact rfl) ?_
      simp only[aY]
      refine ah.op1 (by simp only[go_sem]) (by simp only[go_sem,reduceIte,Nat.reduceEqDiff,Nat.reduceAdd,bx,ax,if_true,if_false,Nat.reduceMul,Nat.reduceLeDiff,x1,hF1];exact rfl) ?_
      simp only[aY]
      refine ah.op1 (by simp only[go_sem]) (by simp only[go_sem,reduceIte,Nat.reduceEqDiff,Nat.reduceAdd,bx,ax,if_true,if_false,Nat.reduceMul,Nat.reduceLeDiff,x1,hF1];exact rfl) ?_
      simp only[aY]
      refine ah.op1 (by simp only[go_sem]) (by simp only[go_sem,reduceIte,Nat.reduceEqDiff,Nat.reduceAdd,bx,ax,if_true,if_false,Nat.reduceMul,Nat.reduceLeDiff,x1,hF1];exact rfl) ?_
      simp only[aY]
      refine ah.opT (by simp only[go_sem]) (by simp only[dr,go_sem,reduceIte,Nat.reduceEqDiff,Nat.reduceAdd,bx,List.all_cons,List.all_nil,List.length_cons,List.length_nil,Nat.reduceMul,Nat.reduceLeDiff,Nat.reduceLT,Nat.zero_lt_succ,and_self,if_true,decide_true,Bool.and_self];exact rfl) ?_
      simp only[aY]
      refine ah.evF (by simp only[go_sem,reduceIte,Nat.reduceEqDiff,Nat.reduceAdd,bx,ax,if_true,if_false,Nat.reduceMul,Nat.reduceLeDiff,x1,x2,x3,hF1];exact rfl) ?_
      refine gV ?_
      refine ⟨(i2+1,n2+1,n2+2),⟨hci,by show L<n2+2;omega,fun _=>⟨by show n2+1<n2+2;omega,by show n2+1≠1;omega,by show n2+1≠L;omega⟩⟩,Nat.sub_lt_sub_left hci (Nat.lt_succ_self _),?_⟩
      rw[hsn2]
      refine aI.of (bE ?_) (yW ?_ (fun _=>?_) (OLe.one ?_)) (fun _ h=>h) (Nat.le_refl _) (Nat.le_refl _)
      ·simp only[az,go_sem,reduceIte,Nat.reduceEqDiff,Nat.reduceAdd,bx,i5];and_intros<;>first|exact trivial|exact aa.refl _|exact aa.any _|(refine aa.int ?_;omega)
      ·simp[upd,rV,bU]
      ·simp only[upd]
       rw[if_neg (show ¬(n2+1=1) by omega),if_pos trivial]
       simp[ku,encA,bU,cellsOf]
      ·simp only[upd,x4,x5,x6,if_false];exact hFL
     ·have hv:rV P k2= .tsl 2 k2 0 P.length none:=by rw[rV,if_neg ho]
      obtain ⟨y1,y2,y3⟩:=hk2 ho
      have hFk:=yV (f:=upd af L (some bz)) ho y2
      rw[hv] at hF1
      generalize rO P k2 (upd af L (some bz))=F at*
      have x7:¬(k2=n2):=by omega
      have x8:¬(k2=1):=y2
      have x9:¬(1=k2):=Ne.symm y2
      have x10:¬(L=k2):=Ne.symm y3
      have hcl:=sZ P
      have r1:(P.length+1)*32≤140737488355328:=Nat.le_trans (Nat.mul_le_mul_right _ (Nat.succ_le_succ hPn)) (by decide)
      have r2:P.length+1<4611686018427387904:=by omega
      have hcs:=qX P ⟨ck,cv⟩
      simp only at hcs
      refine rf0 (cj6 i1 i3 i4 cl hai @Int.toNat_natCast) ?_
      refine Wp.xn ?_
      refine ah.evF (by simp only[go_sem,reduceIte,Nat.reduceEqDiff,Nat.reduceAdd,bx,ax,if_true,if_false,Nat.reduceMul,Nat.reduceLeDiff,x1,hF1];exact rfl) ?_
      refine ah.opK (by simp only[go_sem]) (by simp only[dX,go_sem,reduceIte,Nat.reduceEqDiff,Nat.reduceAdd,bx,List.all_cons,List.all_nil,List.length_cons,List.length_nil,x7,hFk,ku,hcl,r1,r2,and_self,if_true,if_false,decide_true,Bool.and_self,hcs];exact rfl) ?_
      simp only[aY]
      refine ah.evF (by simp only[go_sem,reduceIte,Nat.reduceEqDiff,Nat.reduceAdd,bx,ax,if_true,if_false,Nat.reduceMul,Nat.reduceLeDiff,x1,x2,x3,x9,hF1];exact rfl) ?_
      refine gV ?_
      refine ⟨(i2+1,n2+1,n2+2),⟨hci,by show L<n2+2;omega,fun _=>⟨by show n2+1<n2+2;omega,by show n2+1≠1;omega,by show n2+1≠L;omega⟩⟩,Nat.sub_lt_sub_left hci (Nat.lt_succ_self _),?_⟩
      rw[hsn2]
      refine aI.of (bE ?_) (yW ?_ (fun _=>?_) (OLe.one ?_)) (fun _ h=>h) (Nat.le_refl _) (Nat.le_refl _)
      ·simp only[az,go_sem,reduceIte,Nat.reduceEqDiff,Nat.reduceAdd,bx,i5];and_intros<;>first|exact trivial|exact aa.refl _|exact aa.any _|(refine aa.int ?_;omega)
      ·have:P++[bU ⟨ck,cv,cd⟩]≠[]:=by simp
       simp[upd,rV,this]
      ·simp only[upd]
       rw[if_neg (show ¬(n2+1=1) by omega),if_pos trivial]
       simp[ku,bU]
      ·simp only[upd,x4,x5,x6,x10,if_false];exact hFL
    ·have hi3:i2=r.length:=by omega
     subst hi3
     have ig:=fO r.length
     rw[List.take_length] at hk2 ⊢
     refine rf0 ig ?_
     simp only[aC.inBlock]
     refine ⟨tt,true,.ready,none,?_,.normal,fun _ _=> .inl ⟨rfl,k2,n2,m2,?_,hn3,hk2⟩⟩
     ·show rO _ _ _ L=_
      rw[gO hL1 (fun h=>Ne.symm (hk2 h).2.2),←hbz];simp[upd]
     ·simp only[hIn]
      rw[pE hL1 (fun h=>(hk2 h).2.2)]
   ·exact ⟨k,L+1,mm,by simp only[hIn,kX,List.take_zero,List.flatten_nil,List.map_nil,List.append_nil];rw[CA hL1 (fun h=>by have:=(hkL h).1;omega)],by omega,by simpa [kX] using fun h=>⟨by have:=(hkL h).1;omega,(hkL h).2,by have:=(hkL h).1;omega⟩⟩
   ·rintro r h' ⟨rfl,⟨k',n',m',rfl,q1,q2⟩|hx⟩
    case inr=>exact absurd hx (fun h=>h)
    have hall:kX R R.length=R.flatten.map bU:=by unfold kX;rw[List.take_length]
    rw[hall,←hsn] at q2 ⊢
    refine ⟨tt,.ready,none,.normal,?_,by simp,.none,?_⟩
    ·show rO _ _ _ L=_
     rw[gO hL1 (fun h=>Ne.symm (q2 h).2.2)];simp[upd]
    ·simp only[hIn]
     rw[Cz hL1 (fun h=>(q2 h).2.2)]
     simp only[aC.inBlock,aC.andThen]
     rw[←hT]
     refine rf0 e1 ?_
     refine ⟨(j+1,k',n',m'),⟨hc,by show 2≤n';omega,fun h=>⟨(q2 h).1,(q2 h).2.1⟩⟩,Nat.sub_lt_sub_left hc (Nat.lt_succ_self _),?_⟩
     refine aI.tm ?_
     exact xSb
  ·have hj2:j=m.length:=by omega
   subst hj2
   have g1:=fO m.length
   rw[List.take_length] at hk ⊢
   have hF1:=yU (bc m) k af
   by_cases ho:bc m=[]
   ·have hv:rV (bc m) k= .sl 2 [] (.exact 0):=by rw[rV,if_pos ho]
    have he:aS (bc m)=[]:=by rw[ho];rfl
    rw[hv] at hF1
    rw[he]
    generalize rO (bc m) k af=F at*
    repeat (first
     |refine ah.nil ?_
     |((first|apply Wp.bw|apply Wp.cW|((first
       |(refine ah.aN ?_ ?_ (Al) ?_;(· simp only[go_sem,reduceIte,Nat.reduceEqDiff,Nat.reduceAdd,bx]);(· simp only[go_sem,reduceIte,Nat.reduceEqDiff,Nat.reduceAdd,bx,List.map,ax,if_true,if_false,Nat.reduceMul,Nat.reduceLeDiff,g1,hF1];exact al.cons aa.cap (al.refl _))));apply ah.evF));(· simp only[go_sem,reduceIte,Nat.reduceEqDiff,Nat.reduceAdd,bx,ax,if_true,if_false,Nat.reduceMul,Nat.reduceLeDiff,g1,hF1];exact rfl))
     |(apply Wp.aL;(· simp only[go_sem,reduceIte,Nat.reduceEqDiff,Nat.reduceAdd,bx,ax,if_true,if_false,Nat.reduceMul,Nat.reduceLeDiff,g1,hF1];exact rfl);(· rfl))
     |refine Wp.skip ?_
     |refine Wp.label ?_
     |refine Wp.block ?_
     |refine Wp.exit ?_
     |refine Wp.seq ?_)
    refine ay ?_
    exact .inl (aa.tup (al.cons aa.cap (al.refl _)))
   ·have hv:rV (bc m) k= .tsl 2 k 0 (bc m).length none:=by rw[rV,if_neg ho]
    obtain ⟨y1,y2⟩:=hk ho
    have hFk:=yV (f:=af) ho y2
    rw[hv] at hF1
    obtain ⟨p1,p2⟩:=sR (fm hm) (sY hm)
    have hsort:=Cw (bc m) (aS (bc m)) (List.length_pos_iff.2 ho) (by omega) p1 (yS (fm hm)) (sQ (fm hm)) (qT _) p2 (id:=k) (h:=⟨rO (bc m) k af,n,[],mm⟩) hFk rfl
    have x9:¬(1=k):=Ne.symm y2
    generalize rO (bc m) k af=F at*
    refine rf0 (cj2 g1 hF1) ?_
    refine ah.kC (h':=⟨upd F k (some (.cells ((aS (bc m)).flatMap encA))),n,[],mm⟩) (by simp only[go_sem]) xA4 ⟨Nat.le_refl _,Nat.le_refl _⟩ hsort ?_
    refine ah.evF (by simp only[go_sem,reduceIte,Nat.reduceEqDiff,Nat.reduceAdd,bx,ax,if_true,if_false,Nat.reduceMul,Nat.reduceLeDiff];exact rfl) ?_
    refine rf0 (cj2 x9 hF1) ?_
    refine ay ?_
    refine .inr ⟨(aS (bc m)).map encA,k,2,[.int .i64 0],by rw[List.length_map,p1],fun x hx=>?_,?_,?_⟩
    ·obtain ⟨p,-,rfl⟩:=List.mem_map.1 hx
     rfl
    ·simp[upd,List.flatMap]
    ·refine aa.of_eq ?_
     simp[prs,gS,encA]
theorem yZ (a:List Pr) (ha:a.length≤1000000):aB Tryz.prog 17 [.sl 2 (prs a) .any,.sl 2 (prs a) .any] (.bool true):=by
 refine f17.aw (by simp) (by simp[aA,aJ,aZ,iE]) rfl ?_
 unfold c17
 simp only[C.zz]
 have len:=cw a
 have e0:decide (((a.length:Nat):Int)=((a.length:Nat):Int))=true:=decide_eq_true rfl
 refine rn0 (cj3 @len e0 @Bool.not_true) ?_
 refine Wp.cI [0,1] xA6 (fun j:Nat=>[(5,.int .i64 (j:Nat))]) (fun j=>j≤a.length) (fun j=>a.length - j) 0 (Nat.zero_le _) ?_ ?_
 ·exact xSb
 rintro j hj
 by_cases hc:j<a.length
 ·obtain ⟨g1,g2,g3,e1⟩:=eh hc (Nat.le_trans ha (by decide))
  have hat:=fh a j .any hc
  generalize a.getD j default=p at*
  unfold gS at hat
  refine rn0 (bj g1 g2 g3 @len hat @Int.toNat_natCast @beq_self_eq_true.{0} @bne_self_eq_false.{0} @decide_true @Bool.and_self @Option.map_some.{0,0} @Bool.not_true) ?_
  refine ⟨j+1,hc,Nat.sub_lt_sub_left hc (Nat.lt_succ_self _),?_⟩
  refine aI.tm (by simp only[az,go_sem,reduceIte,Nat.reduceEqDiff,Nat.reduceAdd,bx,e1];and_intros<;>first|exact trivial|exact aa.refl _|exact aa.any _|(refine aa.int ?_;omega))
 ·have hj2:j=a.length:=by omega
  subst hj2
  have g1:=fO a.length
  refine rn0 (cj2 g1 @len) ?_
  refine ay ?_
  exact aa.refl _
def fP (m:List Bk):Nat:=(m.map fun b=>b.l.length).sum
theorem y0 (m:List Bk) (j:Nat) (h:j<m.length):fP (m.take (j+1))=fP (m.take j)+(m.getD j default).l.length:=by
 unfold fP
 rw[jR _ m j h];simp
theorem CB (m:List Bk) (j:Nat):fP (m.take j)≤fP m:=by
 have h:fP m=fP (m.take j)+fP (m.drop j):=by unfold fP;rw[←List.sum_append,←List.map_append,List.take_append_drop]
 omega
def wj (m:List Bk):Bool:=decide (m.length+fP m≤60)
theorem AN (m:List Bk) (hl:m.length≤35184372088832) (hv:∀b∈m,b.l.length≤35184372088832):aB Tryz.prog 9 [bY m] (.bool (wj m)):=by
 refine f9.aw (by simp) (by simp[aA,cA]) rfl ?_
 unfold c9 bY
 have len:=dy m
 refine rn0 @len ?_
 refine Wp.cI [1] xA6 (fun j:Nat=>[(3,.int .i64 ((m.length+fP (m.take j):Nat):Int)),(4,.int .i64 (j:Nat))]) (fun j=>j≤m.length∧m.length+fP (m.take j)≤60+35184372088832∧(j≠0→m.length≤60)) (fun j=>m.length - j) 0 ⟨Nat.zero_le _,by simp[fP];omega,fun h=>absurd rfl h⟩ ?_ ?_
 ·simp only[az,go_sem,reduceIte,Nat.reduceEqDiff,Nat.reduceAdd,bx,fP,List.take_zero,List.map_nil,List.sum_nil,Nat.add_zero];and_intros<;>first|exact trivial|exact aa.refl _|exact aa.any _|(refine aa.int ?_;omega)
 rintro j ⟨hj,hs,hn⟩
 by_cases hc:j<m.length
 ·have g1:decide ((j:Int)<(m.length:Int))=true:=decide_eq_true (by omega)
  by_cases h60:m.length+fP (m.take j)≤60
  ·have g2:(0:Int)≤(j:Int):=by omega
   have g3:(j:Int)<(m.length:Int):=by omega
   have d1:decide (((m.length+fP (m.take j):Nat):Int)≤60)=true:=decide_eq_true (by omega)
   have hat:=dJ m j .any hc
   have hsn:=y0 m j hc
   have hbl:(m.getD j default).l.length≤35184372088832:=hv _ (by rw[Av.eu hc];exact List.getElem_mem hc)
   generalize m.getD j default=b at*
   have vl:=dw b.l
   have w1:IntKind.i64.wrap (((m.length+fP (m.take j):Nat):Int)+((b.l.length:Nat):Int))=((m.length+fP (m.take j)+b.l.length:Nat):Int):=by rw[IntWalk.i64_in _ (by omega)];omega
   have w2:IntKind.i64.wrap ((j:Int)+1)=((j+1:Nat):Int):=by rw[IntWalk.i64_in _ (by omega)];omega
   unfold cT at hat
   refine rn0 (kT g1 g2 g3 @len hat d1 vl w1 w2 @Int.toNat_natCast) ?_
   refine ⟨j+1,⟨hc,by omega,fun _=>by omega⟩,Nat.sub_lt_sub_left hc (Nat.lt_succ_self _),?_⟩
   rw[hsn,←Nat.add_assoc]
   exact xSu
  ·have d1:decide (((m.length+fP (m.take j):Nat):Int)≤60)=false:=decide_eq_false (by omega)
   have hfw:wj m=false:=decide_eq_false (by have:=CB m j;omega)
   refine rn0 (cj3 g1 @len d1) ?_
   refine ay ?_
   rw[hfw];exact aa.refl _
 ·have hj2:j=m.length:=by omega
  subst hj2
  have g1:=fO m.length
  rw[List.take_length] at hs ⊢
  have hfw:decide (((m.length+fP m:Nat):Int)≤60)=wj m:=by unfold wj;rw[decide_eq_decide];omega
  refine rn0 (cj3 g1 @len hfw) ?_
  refine ay ?_
  exact aa.refl _
theorem CC {l:List Nat} {x:Nat} (h:x∈l):x≤l.sum:=by
 induction l with
 |nil=>cases h
 |cons a l ih=>
  simp only[List.sum_cons]
  rcases List.mem_cons.1 h with rfl|h
  ·omega
  ·have:=ih h;omega
theorem wk {m:List Bk} (h:wj m=true):Few m∧m.length≤60∧(imB m=true→(bc m).length≤100000):=by
 have h:=of_decide_eq_true h
 have hb:∀b∈m,b.l.length≤60:=fun b hb=>by
  have:b.l.length≤fP m:=CC (List.mem_map.2 ⟨b,hb,rfl⟩)
  omega
 refine ⟨fun b hx=>by have:=hb b hx;omega,by omega,fun him=>?_⟩
 have key:∀b∈m,(gU b).length≤1100:=fun b hx=>by
  have ho:=yQ him hx
  have h60:=hb b hx
  have e:(gU b).length=1+((b.l.map (ca b.n)).flatten).length:=by
   unfold gU bg
   rw[List.length_map,List.flatten_cons,List.length_append];rfl
  rw[e]
  have hv:∀l:List Vs,(∀v∈l,v.okV=true)→((l.map (ca b.n)).flatten).length≤17*l.length:=by
   intro l
   induction l with
   |nil=>intro _;simp
   |cons v l ih=>
    intro hv
    have h1:=ih fun u hu=>hv u (by simp[hu])
    have h2:=jQ (mX (hv v (by simp))).2
    have h3:(ca b.n v).length=de v.b+1:=by simp[ca]
    simp only[List.map_cons,List.flatten_cons,List.length_append,List.length_cons,h3]
    omega
  have:=hv b.l fun v hv=>Bj ho hv
  omega
 have all:∀l:List Bk,(∀b∈l,(gU b).length≤1100)→(bc l).length≤1100*l.length:=by
  intro l
  induction l with
  |nil=>intro _;simp[bc]
  |cons b l ih=>
   intro hb
   have h1:=ih fun u hu=>hb u (by simp[hu])
   have h2:=hb b (by simp)
   unfold bc at*
   simp only[List.map_cons,List.flatten_cons,List.length_append,List.length_cons]
   omega
 have:=all m key
 omega
theorem qY (m:List Bk) (hl:m.length≤35184372088832) (hv:∀b∈m,b.l.length≤35184372088832):aB Tryz.prog 3 [bY m] (.bool true):=by
 refine f3.aw (by simp) (by simp[aA,cA]) rfl ?_
 unfold c3
 simp only[C.zz]
 have c1:=AN m hl hv
 cases hfw:wj m with
 |false=>
  rw[hfw] at c1
  unfold bY at*
  refine rn2 @Bool.not_false c1 nW ?_
  refine ay ?_
  exact aa.refl _
 |true=>
  obtain ⟨h1,h2,h3⟩:=wk hfw
  have b1:=AH m h1 (by omega)
  have b2:=yv m h1
  have b3:=yY m h1 h3
  have b4:=vZ m h1 h3
  have b5:=po m h1
  have b6:=mS m h1
  have hsl:(if imB m=true then aS (bc m) else []).length≤1000000:=by
   split
   ·rename_i him
    have:=ue (bc m)
    have:=h3 him
    omega
   ·simp
  have b7:=yZ _ hsl
  generalize (if imB m=true then aS (bc m) else [])=A at*
  generalize imE m=e at*
  generalize ov m=o at*
  rw[hfw] at c1
  unfold bY at*
  repeat (first
   |((first|apply Wp.bb|apply Wp.cr|((first
     |(refine ae.aN ?_ ?_ (c1) ?_;(· simp only[go_sem,reduceIte,Nat.reduceEqDiff,Nat.reduceAdd,bx]);(· simp only[go_sem,reduceIte,Nat.reduceEqDiff,Nat.reduceAdd,bx,List.map];first|exact al.refl _|(repeat (first|exact al.nil|refine al.cons xA5 ?_))))
     |(refine ae.aN ?_ ?_ (b1) ?_;(· simp only[go_sem,reduceIte,Nat.reduceEqDiff,Nat.reduceAdd,bx]);(· simp only[go_sem,reduceIte,Nat.reduceEqDiff,Nat.reduceAdd,bx,List.map];first|exact al.refl _|(repeat (first|exact al.nil|refine al.cons xA5 ?_))))
     |(refine ae.aN ?_ ?_ (b2) ?_;(· simp only[go_sem,reduceIte,Nat.reduceEqDiff,Nat.reduceAdd,bx]);(· simp only[go_sem,reduceIte,Nat.reduceEqDiff,Nat.reduceAdd,bx,List.map];first|exact al.refl _|(repeat (first|exact al.nil|refine al.cons xA5 ?_))))
     |(refine ae.aN ?_ ?_ (b3) ?_;(· simp only[go_sem,reduceIte,Nat.reduceEqDiff,Nat.reduceAdd,bx]);(· simp only[go_sem,reduceIte,Nat.reduceEqDiff,Nat.reduceAdd,bx,List.map];first|exact al.refl _|(repeat (first|exact al.nil|refine al.cons xA5 ?_))))
     |(refine ae.aN ?_ ?_ (b4) ?_;(· simp only[go_sem,reduceIte,Nat.reduceEqDiff,Nat.reduceAdd,bx]);(· simp only[go_sem,reduceIte,Nat.reduceEqDiff,Nat.reduceAdd,bx,List.map];first|exact al.refl _|(repeat (first|exact al.nil|refine al.cons xA5 ?_))))
     |(refine ae.aN ?_ ?_ (b5) ?_;(· simp only[go_sem,reduceIte,Nat.reduceEqDiff,Nat.reduceAdd,bx]);(· simp only[go_sem,reduceIte,Nat.reduceEqDiff,Nat.reduceAdd,bx,List.map];first|exact al.refl _|(repeat (first|exact al.nil|refine al.cons xA5 ?_))))
     |(refine ae.aN ?_ ?_ (b6) ?_;(· simp only[go_sem,reduceIte,Nat.reduceEqDiff,Nat.reduceAdd,bx]);(· simp only[go_sem,reduceIte,Nat.reduceEqDiff,Nat.reduceAdd,bx,List.map];first|exact al.refl _|(repeat (first|exact al.nil|refine al.cons xA5 ?_))))
     |(refine ae.aN ?_ ?_ (b7) ?_;(· simp only[go_sem,reduceIte,Nat.reduceEqDiff,Nat.reduceAdd,bx]);(· simp only[go_sem,reduceIte,Nat.reduceEqDiff,Nat.reduceAdd,bx,List.map];first|exact al.refl _|(repeat (first|exact al.nil|refine al.cons xA5 ?_))))
     |(refine ae.aN ?_ ?_ (nW) ?_;(· simp only[go_sem,reduceIte,Nat.reduceEqDiff,Nat.reduceAdd,bx]);(· simp only[go_sem,reduceIte,Nat.reduceEqDiff,Nat.reduceAdd,bx,List.map];first|exact al.refl _|(repeat (first|exact al.nil|refine al.cons xA5 ?_)))));apply ae.evR));(· simp only[go_sem,reduceIte,Nat.reduceEqDiff,Nat.reduceAdd,bx,ax,if_true,if_false,Nat.reduceMul,Nat.reduceLeDiff,Bool.not_true,bI,Option.map_some,true_or,decide_true];exact rfl))
   |(refine ae.nil ⟨?_,?_⟩;(· first|trivial|simp[aR,aP,apart,aF]))
   |(apply Wp.aL;(· simp only[go_sem,reduceIte,Nat.reduceEqDiff,Nat.reduceAdd,bx,ax,if_true,if_false,Nat.reduceMul,Nat.reduceLeDiff,Bool.not_true,bI,Option.map_some,true_or,decide_true];exact rfl);(· rfl))
   |refine Wp.skip ?_
   |refine Wp.label ?_
   |refine Wp.block ?_
   |refine Wp.exit ?_
   |refine Wp.seq ?_)
  refine ay ?_
  exact aa.refl _
end Go.Proofs.YtjnoobmaedgooaaGreat.Arch
end
section
set_option maxRecDepth 100000
namespace Go.Proofs.YtjnoobmaedgooaaGreat.Arch
open Go Go.Av Go.Proofs Go.Proofs.YtjnoobmaedgooaaGreat.C Go.Proofs.YtjnoobmaedgooaaGreat.Batch
theorem laid:laidOutB Tryz.prog=true:=by kernel_rfl
theorem D8:mapsRowed Tryz.prog=true:=by kernel_rfl
theorem full:∀t e,t<Tryz.prog.types.size→Tryz.prog.underlying t=some (.slice e)→0<Tryz.prog.cellsOf e:=slices_full_of Tryz.prog (by kernel_rfl)
theorem own:ownKnob Tryz.prog.godebug=none:=by kernel_rfl
theorem Ek {H:Type}:mF (H:=H) Rows.uptoBulk Rows.uptoBulkAll:=
 ⟨fun l=>by simp[Rows.uptoBulk],fun k n=>by simp[Rows.uptoBulk],fun b=>by simp[Rows.uptoBulk],by simp[Rows.uptoBulk],fun a b=>by simp[Rows.uptoBulk],fun a=>by simp[Rows.uptoBulk],by simp[Rows.uptoBulkAll],fun d l=>by simp[Rows.uptoBulkAll]⟩
theorem s5 {α:Type} {t:TypeId} {k:Nat} {enc:α→AV} {Q:α→Prop} (h1:∀cs,Fits Tryz.prog k t cs→∃x,dc Tryz.prog t cs=enc x∧Q x):∀{ys:List AV},(∀y∈ys,∃cs,Fits Tryz.prog k t cs∧y=dc Tryz.prog t cs)→∃l:List α,ys=l.map enc∧∀x∈l,Q x
 |[],_=>⟨[],rfl,by simp⟩
 |y::ys,h=>by
  obtain ⟨l,rfl,hl⟩:=s5 h1 (ys:=ys) (fun z hz=>h z (by simp[hz]))
  obtain ⟨cs,g1,g2⟩:=h y (by simp)
  obtain ⟨x,e,q⟩:=h1 cs g1
  refine ⟨x::l,by simp[g2,e],fun z hz=>?_⟩
  rcases List.mem_cons.1 hz with rfl|hz
  ·exact q
  ·exact hl z hz
theorem uk {n b:Nat} (hb:4≤b) (h:n*b≤reachBytes):n≤35184372088832:=by
 have:n*4≤n*b:=Nat.mul_le_mul_left n hb
 have e:reachBytes=140737488351232:=rfl
 omega
def D9 (v:Vs):Prop:=v.o.length≤reachBytes∧v.b.length≤reachBytes∧v.id<9223372036854775808
theorem AO {k:Nat} {cs:List AV} (h:Fits Tryz.prog (k+4) 88 cs):∃v:Vs,dc Tryz.prog 88 cs=bN v∧D9 v:=by
 have hw:∀cs,dc Tryz.prog 88 cs= .agg cs:=fun cs=>by
  unfold dc;rw[if_pos (by kernel_rfl)]
 rw[hw]
 unfold Fits at h
 rw[Tryz.underlying88] at h
 obtain ⟨xss,rfl,h⟩:=h
 cases h with|cons h0 h=>cases h with|cons h1 h=>cases h with|cons h2 h=>cases h with|cons h3 h=>
 cases h
 unfold Fits at h0 h1 h2 h3
 simp only at h0 h1 h2 h3
 rw[Tryz.underlying9] at h0 h3
 rw[Tryz.underlying3] at h1
 rw[Tryz.underlying86] at h2
 obtain ⟨o,rfl,ho⟩:=h0
 obtain ⟨id,rfl,hid⟩:=h1
 obtain ⟨b,rfl,hb⟩:=h3
 obtain ⟨yss,rfl,h2⟩:=h2
 cases h2 with|cons g0 h2=>cases h2 with|cons g1 h2=>cases h2 with|cons g2 h2=>cases h2 with|cons g3 h2=>
 cases h2
 unfold Fits at g0 g1 g2 g3
 simp only at g0 g1 g2 g3
 rw[Tryz.underlying3] at g0
 rw[Tryz.underlying84] at g1
 rw[Tryz.underlying4] at g2 g3
 obtain ⟨sz,rfl,-⟩:=g0
 obtain ⟨g,rfl⟩:=g2
 obtain ⟨u,rfl⟩:=g3
 obtain ⟨zss,rfl,g1⟩:=g1
 cases g1 with|cons e0 g1=>cases g1 with|cons e1 g1=>
 cases g1
 unfold Fits at e0 e1
 simp only at e0 e1
 rw[Tryz.underlying3] at e0 e1
 obtain ⟨re,rfl,-⟩:=e0
 obtain ⟨im,rfl,-⟩:=e1
 refine ⟨⟨o,id,sz,re,im,g,u,b⟩,rfl,ho,hb,?_⟩
 simp only
 have:=hid
 simp[Lit.wf,IntKind.max,IntKind.min,IntKind.signed,IntKind.bits] at this
 omega
structure Ea (b:Bk):Prop where
 n:b.n.length≤reachBytes
 l:b.l.length≤35184372088832
 v:∀v∈b.l,D9 v
theorem AP {k:Nat} {cs:List AV} (h:Fits Tryz.prog (k+6) 77 cs):∃b:Bk,dc Tryz.prog 77 cs=cT b∧Ea b:=by
 have hw:∀cs,dc Tryz.prog 77 cs= .agg cs:=fun cs=>by
  unfold dc;rw[if_pos (by kernel_rfl)]
 rw[hw]
 unfold Fits at h
 rw[Tryz.underlying77] at h
 obtain ⟨xss,rfl,h⟩:=h
 cases h with|cons h0 h=>cases h with|cons h1 h=>cases h with|cons h2 h=>
 cases h
 unfold Fits at h0 h1 h2
 simp only at h0 h1 h2
 rw[Tryz.underlying9] at h0
 rw[Tryz.underlying74] at h1
 rw[Tryz.underlying75] at h2
 obtain ⟨n,rfl,hn⟩:=h0
 obtain ⟨st,rfl,-⟩:=h1
 obtain ⟨xs,rfl,hlx,hx⟩:=h2
 obtain ⟨l,rfl,hv⟩:=s5 (fun cs h=>AO h) hx
 have c1:Tryz.prog.cellsOf 88=8:=by kernel_rfl
 have c2:4≤Tryz.prog.bytesOf 88:=by decide+kernel
 rw[List.length_map] at hlx
 refine ⟨⟨n,st,l⟩,?_,hn,uk c2 hlx,hv⟩
 simp[cT,vss,c1]
theorem AQ {a:AV} (h:lA Tryz.prog 9 24 a):∃m:List Bk,a=bY m∧m.length≤35184372088832∧∀b∈m,Ea b:=by
 obtain ⟨cs,h,rfl⟩:=h
 unfold Fits at h
 rw[Tryz.underlying24] at h
 obtain ⟨xss,rfl,h⟩:=h
 cases h with|cons h0 h=>
 cases h
 unfold Fits at h0
 simp only at h0
 rw[Tryz.underlying22] at h0
 obtain ⟨xs,rfl,hlx,hx⟩:=h0
 obtain ⟨l,rfl,hv⟩:=s5 (fun cs h=>AP h) hx
 have c1:Tryz.prog.cellsOf 77=3:=by kernel_rfl
 have c2:4≤Tryz.prog.bytesOf 77:=by decide+kernel
 rw[List.length_map] at hlx
 refine ⟨l,?_,uk c2 hlx,hv⟩
 unfold dc;rw[if_pos (by kernel_rfl)]
 simp[bY,bks,c1]
theorem jS {b:Nat} (avs:List AV) (h:qv (lA Tryz.prog 9) Tryz.f3.params.toList avs) (_:bq avs≤b):aB Tryz.prog 3 avs (.bool true):=by
 rw[Tryz.params3] at h
 cases h with|cons h0 h=>
 cases h
 obtain ⟨m,rfl,hl,hb⟩:=AQ h0
 exact qY m hl fun b hx=>(hb b hx).l
end Go.Proofs.YtjnoobmaedgooaaGreat.Arch
end
section
namespace Go.Proofs.YtjnoobmaedgooaaGreat.Arch
open Go Go.Av Go.Proofs Go.Proofs.YtjnoobmaedgooaaGreat.C
open Go.ChangeShapes Go.WideShapes Go.ChangeAt Go.RowKit
set_option maxRecDepth 100000 in
theorem iI (os:Os) (started:os.Started) (H:Type) (enc:TypeId × Value→H):
  ReturnsInHanded {} Tryz.checked os 3 .any (Rows.archiveWritesSpec.pre6 enc Tryz.prog Tryz.f3 Rows.archiveWritesRow.domain false) (Rows.archiveWritesSpec.post enc Tryz.prog Tryz.f3 false true false false):=by
 refine returnsInHanded_of_change_sized (C:=Tryz.checked) own started (by kernel_rfl) Tryz.func3
  (ChangeSpec.witness6 (enc:=enc) (C:=Tryz.checked) false ⟨#[],#[.agg #[.slice none 0 0]],[]⟩ 8 (by kernel_rfl) (by kernel_rfl) (by kernel_rfl) (by kernel_rfl)) ?_
 intro W base args ds gs before hval hW _ hwt _
 exact vE laid Ek D8 full rfl (fun l hl=>by match l,hl with|[_],_=>rfl) rfl Tryz.underlying4 (by kernel_rfl) (by kernel_rfl) hval hW hwt (fun avs h hb=>jS avs h hb)
theorem said_ArchiveWrites:Rows.ArchiveWritesSaid:=
 OpenClaim.holds_of_wide 3 Tryz.f3 rfl rfl rfl rfl rfl rfl rfl ⟨rfl,rfl,rfl,rfl,rfl⟩ rfl rfl rfl rfl rfl (by kernel_rfl) Tryz.func3 (by kernel_rfl)
  (of_decide_eq_true (by kernel_rfl)) (by unfold Func.isWrapper;first|(rw [if_pos (by decide+kernel)];kernel_rfl)|(rw [if_neg (by decide+kernel)];exact ⟨rfl,rfl⟩))
  (fun os started H enc _=>iI os started H enc)
#print axioms said_ArchiveWrites
end Go.Proofs.YtjnoobmaedgooaaGreat.Arch
end
