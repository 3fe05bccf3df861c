/- Parts of a proof: a layer of abstract values over the model, the functions' walks, plain laws. -/
import Derived.Deep.CondSized
import Derived.Defers
import Derived.IntWalk
import Derived.KernelRfl
import Derived.Laws.Append
import Derived.Laws.AppendOwn
import Derived.Laws.BytesArg
import Derived.Laws.ComplexArith
import Derived.Laws.Cover3
import Derived.Laws.Entries
import Derived.Laws.IdiomCopy
import Derived.Laws.IdiomStrings
import Derived.Laws.Pointers
import Derived.Laws.Small
import Derived.Laws.Strings
import Derived.Laws.StructEq
import Derived.MapKept
import Derived.OpenShut
import Derived.Orders
import Derived.OrdersIn
import Derived.ProofKit
import Derived.RangeFuncRecord
import Derived.RangeFuncSeq
import Derived.ReadAgain
import Derived.Recover
import Derived.Scope
import Derived.Shelf.Slices.Cells
import Derived.Shelf.Slices.Clone
import Derived.Shelf.Slices.Delete
import Derived.Shelf.Spec.SlicesInsertGrow
import Derived.SizedLaws
import Derived.Tactics
import Derived.Tactics2
import Derived.Test.YtbgmofhgfnmaiaaGreatProg
import Derived.Test.YtbgmofhgfnmaiaaGreatRows
import Derived.WalkSmall
import Derived.Test.YtbgmofhgfnmaiaaGreatZFuC
set_option linter.unusedSimpArgs false
set_option linter.unusedVariables false
section
set_option maxRecDepth 10000
namespace Go.Proofs.YtbgmofhgfnmaiaaGreat.Page
open Go Go.Av Go.Proofs Go.Proofs.YtbgmofhgfnmaiaaGreat.C
theorem xP (n:Node) (hn:Nb n) (hs:Ns n):bc Tryz.prog 119 [aC n] (ky (split n)):=by
 refine f119.dB af (by simp[aU,cW]) (qJ _) ?_
 have em:=BU n hs
 have hb:=BS n
 have sk:=hs.k
 unfold Gi zz
 refine Wp.aG (xAe @aC.eq_1) ag ?_
 refine Wp.aG xA1 ag ?_
 refine Wp.uh [1,2,4] xA6 [(6,.int .i64 (bet n))] ?_ ?_
 ·cases hl:n.leaf with
  |true=>
   have hbt:bet n=0:=by simp[bet,hl]
   refine an0 hl ?_
   exact xSu
  |false=>
   have hbt:bet n=1:=by simp[bet,hl]
   refine an0 hl ?_
   exact xSu
 ·refine Wp.aG (xAe em) ag ?_
  refine Wp.seq ?_
  by_cases hm:1≤most n
  ·have hd:decide ((n.keys.length:Int) - 1 - (bet n:Int)<1)=false:=decide_eq_false (by unfold most at hm;omega)
   by_cases hr:right n=true
   ·have hsp:splits n=true:=by simp[splits,hr,hm]
    obtain ⟨c1,c2⟩:=pW hm
    have hR:=fu hr
    have hmk:most n+1+bet n≤n.keys.length:=by unfold most at hm ⊢;omega
    have hvl:∀x,x≤n.keys.length→n.leaf=true→x≤n.vals.length:=fun x hx hl=>by rw[hR.vals hl];exact hx
    have hkl:∀x,x≤n.keys.length→n.leaf=false→x+1≤n.kids.length:=fun x hx hl=>by rw[hR.kids hl];omega
    have eh:IntKind.i64.wrap ((size n:Int).tdiv 2)=((size n/2:Nat):Int):=by
     rw[Int.tdiv_eq_ediv_of_nonneg ab,IntWalk.i64_in _ (by have:=size_le hn;omega)];omega
    have e2:IntKind.i64.wrap ((n.keys.length:Int) - 1 - (bet n:Int) - 1)=((most n - 1:Nat):Int):=by rw[IntWalk.i64_in _ ab];unfold most at hm ⊢;omega
    have e3:IntKind.i64.wrap (1+((cut n - 1:Nat):Int))=((cut n:Nat):Int):=by rw[IntWalk.i64_in _ ab];omega
    have ek:IntKind.i64.wrap ((cut n:Int)+(bet n:Int))=((cut n+bet n:Nat):Int):=by rw[IntWalk.i64_in _ ab];omega
    have x1:(0:Int)≤(cut n:Int):=by omega
    have x2:(cut n:Int)<(n.keys.length:Int):=by omega
    have x3:cut n<n.keys.length:=by omega
    refine an2 (cj4 hd hr eh e2) (fg n hn) (lW n hn) ?_
    refine ao.Bt [0,3] ae xA4 (objs:=upd (upd aB 0 (some (.cells (dp n)))) 3 (some (.cells [.int .i64 (size n/2:Nat)]))) ?_ ?_
     (pS (most n - 1) ab Tryz.func147 rfl (of_decide_eq_true (by kernel_rfl)) [.ptr 0 0,.ptr 3 0] _ [0,3] ?_ (cut n - 1) ab
      (fun i hi=>by have:=BT n hn hs i ab (hvl _ ab) (hkl _ ab) (upd (upd aB 0 (some (.cells (dp n)))) 3 (some (.cells [.int .i64 (size n/2:Nat)]))) 0 3 ab (by simp[upd]) (by simp[upd]);rw[lY ab] at this;exact this)
      (fun i h1 hi=>by have:=BT n hn hs i ab (hvl _ ab) (hkl _ ab) (upd (upd aB 0 (some (.cells (dp n)))) 3 (some (.cells [.int .i64 (size n/2:Nat)]))) 0 3 ab (by simp[upd]) (by simp[upd]);rw[zM h1 ab (wA ab)] at this;exact this)) ?_
    ·intro id o ho
     simp only[upd,aB,dp] at ho ⊢
     (repeat' split at ho)<;>simp_all
    ·intro id h
     simp only[upd,aB] at h
     (repeat' split at h)<;>simp_all
    ·intro id h
     simp only[upd,aB] at h
     (repeat' split at h)<;>simp_all
    ·refine ao.eval (xAe e3) ?_
     repeat (first
      |((first|apply Wp.seqItems|apply Wp.items|((first
        |(refine ao.cd ?_ ?_ (wz n hs 0 (cut n) (Nat.zero_le _) ab (hvl _ ab) (hkl _ ab)) ?_;(· simp only[go_sem,reduceIte,Nat.reduceEqDiff,Nat.reduceAdd,bx]);(· simp only[go_sem,reduceIte,Nat.reduceEqDiff,Nat.reduceAdd,bx,List.map];first|exact au.refl _|(repeat (first|exact au.nil|refine au.cons xA5 ?_))))
        |(refine ao.cd ?_ ?_ (wz n hs (cut n+bet n) n.keys.length ab ab (hvl _ ab) (hkl _ ab)) ?_;(· simp only[go_sem,reduceIte,Nat.reduceEqDiff,Nat.reduceAdd,bx]);(· simp only[go_sem,reduceIte,Nat.reduceEqDiff,Nat.reduceAdd,bx,List.map];first|exact au.refl _|(repeat (first|exact au.nil|refine au.cons xA5 ?_)))));apply ao.eval));(· simp only[go_sem,reduceIte,Nat.reduceEqDiff,Nat.reduceAdd,bx,ax,if_true,if_false,Nat.reduceMul,Nat.reduceLeDiff,ek,x1,x2,Int.toNat_natCast,and_self,if_true,dH _ _ _ x3];exact rfl))
      |(refine ao.nil ⟨?_,?_⟩;(· first|trivial|simp[bw,aV,apart,aT]))
      |(apply Wp.bu;(· simp only[go_sem,reduceIte,Nat.reduceEqDiff,Nat.reduceAdd,bx,ax,if_true,if_false,Nat.reduceMul,Nat.reduceLeDiff,ek,x1,x2,Int.toNat_natCast,and_self,if_true,dH _ _ _ x3];exact rfl);(· rfl))
      |refine Wp.skip ?_
      |refine Wp.label ?_
      |refine Wp.block ?_
      |refine Wp.exit ?_
      |refine Wp.seq ?_)
     refine cL ?_
     rw[split,if_pos hsp];exact ay.refl _
   ·have hr':right n=false:=by simpa using hr
    have hsp:splits n=false:=by simp[splits,hr']
    refine an1 (cj2 hr' hd) (fg n hn) ?_
    refine cL ?_
    rw[split,if_neg (by simp[hsp])]
    exact ay.tup (au.cons ay.lA (au.cons (ay.refl _) (au.cons ay.lA (au.cons (ay.refl _) au.nil))))
  ·have hd:decide ((n.keys.length:Int) - 1 - (bet n:Int)<1)=true:=decide_eq_true (by unfold most at hm;omega)
   have hsp:splits n=false:=by simp[splits,hm]
   refine an0 hd ?_
   refine cL ?_
   rw[split,if_neg (by simp[hsp])]
   exact ay.tup (au.cons ay.lA (au.cons (ay.refl _) (au.cons ay.lA (au.cons (ay.refl _) au.nil))))
theorem bD {α:Type} {l:List α} {i:Nat} {d:α} (h:i<l.length):l.getD i d=l[i]:=by
 rw[List.getD_eq_getElem?_getD,List.getElem?_eq_getElem h];rfl
def mW (l:List (List UInt8)):Prop:=(∀s∈l,s.length≤128)∧l.Pairwise (fun a b=>Op.bytesLess a b=true)
theorem gV (l:List (List UInt8)):gx l=true↔mW l:=by
 constructor
 ·intro h
  refine ⟨fun s hs=>?_,List.pairwise_iff_getElem.2 fun i j hi hj hij=>?_⟩
  ·obtain ⟨i,hi,rfl⟩:=List.getElem_of_mem hs
   have:=nP h hi
   simp only[gS,Bool.and_eq_true,decide_eq_true_eq] at this
   have h1:=this.1
   rwa [bD hi] at h1
  ·have:=rising h hij hj
   rwa [bD hi,bD hj] at this
 ·rintro ⟨h1,h2⟩
  refine oF fun i hi=>?_
  simp only[gS,Bool.and_eq_true,Bool.or_eq_true,decide_eq_true_eq]
  rw[bD hi]
  refine ⟨h1 _ (List.getElem_mem hi),?_⟩
  rcases Nat.eq_zero_or_pos i with h|h
  ·exact .inl h
  ·right
   rw[bD (show i - 1<l.length by omega)]
   exact List.pairwise_iff_getElem.1 h2 _ _ _ _ ab
theorem mW.sub {l m:List (List UInt8)} (h:mW l) (hs:m.Sublist l):mW m:=⟨fun s hm=>h.1 s (hs.subset hm),h.2.sublist hs⟩
theorem cO {n:Node} (hl:n.leaf=false):right n=true↔mW n.keys∧n.vals=[]∧n.kids.length=n.keys.length+1∧∀k∈n.kids,0≤k∧k<16384:=by
 have e:∀l:List Int,(l.any ly=false)↔∀k∈l,0≤k∧k<16384:=by
  intro l
  rw[List.any_eq_false]
  constructor
  ·intro h k hk
   have:=h k hk
   simp only[ly,Bool.or_eq_true,decide_eq_true_eq,not_or] at this
   omega
  ·intro h k hk
   have:=h k hk
   simp only[ly,Bool.or_eq_true,decide_eq_true_eq,not_or]
   omega
 rw[right,hl,Bool.and_eq_true,gV]
 simp only[Bool.false_eq_true,if_false,Bool.and_eq_true,decide_eq_true_eq,Bool.not_eq_true',e,List.length_eq_zero_iff,and_assoc]
theorem bA {n:Node} (hl:n.leaf=true):right n=true↔mW n.keys∧n.vals.length=n.keys.length∧n.kids=[]∧∀v∈n.vals,v.length≤200:=by
 have e:∀l:List (List UInt8),(l.any sN=false)↔∀k∈l,k.length≤200:=by
  intro l
  rw[List.any_eq_false]
  constructor
  ·intro h k hk
   have:=h k hk
   simp only[sN,decide_eq_true_eq] at this
   omega
  ·intro h k hk
   have:=h k hk
   simp only[sN,decide_eq_true_eq]
   omega
 rw[right,hl,Bool.and_eq_true,gV]
 simp only[if_true,Bool.and_eq_true,decide_eq_true_eq,Bool.not_eq_true',e,List.length_eq_zero_iff,and_assoc]
theorem mX {α:Type} (l:List α) (a b:Nat):((l.take b).drop a).Sublist l:=(List.drop_sublist _ _).trans (List.take_sublist _ _)
theorem jR {n:Node} (h:right n=true) (a b:Nat) (hab:a≤b) (hb:b≤n.keys.length):right (part n a b)=true:=by
 cases hl:n.leaf with
 |true=>
  obtain ⟨h1,h2,h3,h4⟩:=(bA hl).1 h
  refine (bA (n:=part n a b) hl).2 ⟨h1.sub (mX _ _ _),?_,?_,?_⟩
  ·simp[part,hl,h2]
  ·simp[part,hl]
  ·intro v hv
   simp only[part,hl,if_true] at hv
   exact h4 v ((mX _ _ _).subset hv)
 |false=>
  obtain ⟨h1,h2,h3,h4⟩:=(cO hl).1 h
  refine (cO (n:=part n a b) hl).2 ⟨h1.sub (mX _ _ _),?_,?_,?_⟩
  ·simp[part,hl]
  ·simp[part,hl,h3];omega
  ·intro v hv
   simp only[part,hl,if_false,Bool.false_eq_true] at hv
   exact h4 v ((mX _ _ _).subset hv)
def ins {α:Type} (l:List α) (i:Nat) (x:α):List α:=l.take i++x::l.drop i
theorem fm (a b:List (List UInt8)):tot (a++b)=tot a+tot b:=by simp[tot]
theorem gq (x:List UInt8) (b:List (List UInt8)):tot (x::b)=x.length+tot b:=by simp[tot]
theorem BV {l:List (List UInt8)} {key:List UInt8} {i:Nat} (h:mW l) (hk:key.length≤128) (h1:∀s∈l.take i,Op.bytesLess s key=true) (h2:∀s∈l.drop i,Op.bytesLess key s=true):mW (ins l i key):=by
 refine ⟨fun s hs=>?_,?_⟩
 ·rw[ins,List.mem_append,List.mem_cons] at hs
  rcases hs with hs|rfl|hs
  ·exact h.1 s ((List.take_sublist _ _).subset hs)
  ·exact hk
  ·exact h.1 s ((List.drop_sublist _ _).subset hs)
 ·rw[ins,List.pairwise_append]
  refine ⟨h.2.sublist (List.take_sublist _ _),List.pairwise_cons.2 ⟨h2,h.2.sublist (List.drop_sublist _ _)⟩,fun a ha b hb=>?_⟩
  rcases List.mem_cons.1 hb with rfl|hb
  ·exact h1 a ha
  ·exact dx (h1 a ha) (h2 b hb)
theorem BW {key k:List UInt8} (h:iH key k=false):Op.bytesLess k key=true∨k=key:=by
 unfold iH at h
 cases hx:Op.bytesLess k key
 ·rw[hx] at h;right;simpa using h
 ·exact .inl rfl
theorem zS {key k:List UInt8} (h:iH key k=true):Op.bytesLess key k=true:=by
 unfold iH at h
 simp only[Bool.not_eq_true',Bool.or_eq_false_iff,decide_eq_false_iff_not] at h
 rcases dy k key with g|g|g
 ·rw[h.1] at g;cases g
 ·exact absurd g h.2
 ·exact g
theorem kz {l:List (List UInt8)} {i:Nat} {s:List UInt8} (h:s∈l.take i):∃j,j<i∧j<l.length∧s=l.getD j []:=by
 obtain ⟨j,hj,rfl⟩:=List.getElem_of_mem h
 rw[List.length_take] at hj
 exact ⟨j,ab,ab,by rw[bD ab,List.getElem_take]⟩
theorem iI {l:List (List UInt8)} {i:Nat} {s:List UInt8} (h:s∈l.drop i):∃j,i≤j∧j<l.length∧s=l.getD j []:=by
 obtain ⟨j,hj,rfl⟩:=List.getElem_of_mem h
 rw[List.length_drop] at hj
 exact ⟨i+j,ab,ab,by rw[bD ab,List.getElem_drop]⟩
theorem ux {n:Node} (hl:n.leaf=false) (key:List UInt8):place n key=n.keys.findIdx (iH key):=by simp only[place,hl,Bool.false_eq_true,if_false]
theorem fw (l:List (List UInt8)) (k:Nat):tot l=tot (l.take k)+tot (l.drop k):=by rw[←fm,List.take_append_drop]
theorem sQ {m:Node} (hl:m.leaf=false) (hr:right m=true) (hm:1≤most m) (hs:size m≤1157):size (part m 0 (cut m))≤1024∧size (part m (cut m+bet m) m.keys.length)≤1024:=by
 obtain ⟨c1,c2⟩:=pW hm
 have hbt:bet m=1:=by simp[bet,hl]
 obtain ⟨r1,-,-,-⟩:=(cO hl).1 hr
 have hmost:most m+2=m.keys.length:=by unfold most at hm ⊢;omega
 have k128:∀j,j<m.keys.length→(m.keys.getD j []).length≤128:=fun j hj=>by rw[bD hj];exact r1.1 _ (List.getElem_mem hj)
 have hsz:size m=7+5*m.keys.length+tot m.keys:=by simp[size,hl]
 constructor
 ·rw[eH m _ ab,hl]
  simp only[Bool.false_eq_true,if_false]
  have h1:=gl m.keys (cut m - 1) ab
  have h2:=k128 (cut m - 1) ab
  rw[show cut m - 1+1=cut m by omega] at h1
  by_cases hc:cut m=1
  ·rw[hc] at h1 h2 ⊢
   simp[tot] at h1 h2 ⊢
   omega
  ·have hf:=lY (n:=m) (i:=cut m - 2) ab
   unfold fits at hf
   have hf:=of_decide_eq_false hf
   rw[show 1+(cut m - 2)=cut m - 1 by omega,eH m _ ab,hl] at hf
   simp only[Bool.false_eq_true,if_false] at hf
   omega
 ·have hb:size (part m (cut m+1) m.keys.length)=7+5*(m.keys.length - (cut m+1))+tot (m.keys.drop (cut m+1)):=by
   simp[size,part,hl]
  rw[hbt,hb]
  have h1:=fw m.keys (cut m+1)
  have h2:=gl m.keys (cut m) ab
  by_cases hc:cut m<most m
  ·have hf:=wA hc
   unfold fits at hf
   have hf:=of_decide_eq_true hf
   rw[show 1+(cut m - 1)=cut m by omega,eH m _ ab,hl] at hf
   simp only[Bool.false_eq_true,if_false] at hf
   omega
  ·have hd:m.keys.drop (cut m+1)=[m.keys.getD (cut m+1) []]:=by
    rw[List.drop_eq_getElem_cons (show cut m+1<m.keys.length by omega),List.drop_eq_nil_of_le ab,bD ab]
   have:=k128 (cut m+1) ab
   rw[hd,gq]
   simp only[tot,List.map_nil,List.sum_nil]
   omega
def val (l:List UInt8):Nat:=l.foldl (fun n c=>n*256+c.toNat) 0
theorem BX (l:List UInt8) (c:UInt8):val (l++[c])=val l*256+c.toNat:=by simp[val]
theorem sR (l:List UInt8):val l<256^l.length:=by
 have key:∀(l:List UInt8) (a:Nat),l.foldl (fun n c=>n*256+c.toNat) a<(a+1)*256^l.length:=by
  intro l
  induction l with
  |nil=>intro a;simp
  |cons c l ih=>
   intro a
   rw[List.foldl_cons,List.length_cons,Nat.pow_succ,Nat.mul_comm (256^l.length) 256,←Nat.mul_assoc]
   refine Nat.lt_of_lt_of_le (ih _) (Nat.mul_le_mul_right _ ?_)
   have:=c.toNat_lt
   omega
 simpa [val] using key l 0
theorem DR (v c:Nat) (hv:v<1099511627776) (hc:c<256):((BitVec.ofInt 64 ((v*256:Nat):Int)) ||| (BitVec.ofInt 64 (c:Int))).toNat=v*256+c:=by
 rw[BitVec.toNat_or,BitVec.ofInt_natCast,BitVec.ofInt_natCast,BitVec.toNat_ofNat,BitVec.toNat_ofNat,Nat.mod_eq_of_lt ab,Nat.mod_eq_of_lt ab]
 have:=Nat.two_pow_add_eq_or_of_lt (i:=8) (b:=c) hc v
 rw[Nat.mul_comm v 256]
 exact this.symm
structure Scan where
 pos:Nat
 ok:Bool
def dz (b:List UInt8) (s:Scan) (w:Nat):Nat × Scan:=if s.ok&&decide (s.pos+w≤b.length) then (val ((b.drop s.pos).take w),⟨s.pos+w,true⟩) else (0,⟨s.pos,false⟩)
def bJ (b:List UInt8) (s:Scan) (w:Nat):List UInt8 × Scan:=
 if (dz b s w).2.ok&&decide ((dz b s w).2.pos+(dz b s w).1≤b.length) then ((b.drop (dz b s w).2.pos).take (dz b s w).1,⟨(dz b s w).2.pos+(dz b s w).1,true⟩) else ([],⟨(dz b s w).2.pos,false⟩)
def cg (b:List UInt8) (s:Scan):Av.Obj:= .cells [.sl 1 (ar b) .any,.int .i64 s.pos,.bool s.ok]
theorem o9 {b:List UInt8} {s:Scan} {w:Nat} (h:s.pos≤b.length):(dz b s w).2.pos≤b.length:=by
 unfold dz;split
 ·rename_i hc;simp only[Bool.and_eq_true,decide_eq_true_eq] at hc;exact hc.2
 ·exact h
theorem BY {b:List UInt8} {s:Scan} {w:Nat}:(dz b s w).1<256^w:=by
 unfold dz;split
 ·refine Nat.lt_of_lt_of_le (sR _) (Nat.pow_le_pow_right ab ?_)
  simp;omega
 ·exact Nat.pow_pos ab
theorem kQ {b:List UInt8} {s:Scan} {w:Nat} (h:s.pos≤b.length):(bJ b s w).2.pos≤b.length:=by
 unfold bJ;split
 ·rename_i hc;simp only[Bool.and_eq_true,decide_eq_true_eq] at hc;exact hc.2
 ·exact o9 h
theorem BZ (l:List UInt8) (k:Nat) (h:k<l.length):val (l.take (k+1))=val (l.take k)*256+(l.getD k 0).toNat:=by
 rw[List.take_succ_eq_append_getElem h,BX,bD h]
theorem kA (b:List UInt8) (s:Scan) (w:Nat) (hb:b.length≤1099511627776) (hs:s.pos≤b.length) (hw:w≤4) (id n m:Nat):
  aI Tryz.prog 100 [.ptr id 0,.int .i64 w] (.only (upd aB id (some (cg b s))) [] n m) (.int .i64 (dz b s w).1) (.only (upd aB id (some (cg b (dz b s w).2))) [] n m):=by
 suffices h:∃r h',aI Tryz.prog 100 [.ptr id 0,.int .i64 w] (.only (upd aB id (some (cg b s))) [] n m) r h'∧r=(.int .i64 (dz b s w).1)∧h'=(.only (upd aB id (some (cg b (dz b s w).2))) [] n m) by
  obtain ⟨r,h',ha,rfl,rfl⟩:=h;exact ha
 refine f100.fC af ?_
 unfold F4 zz
 obtain ⟨at0,ok⟩:=s
 simp only at hs
 have eu:∀(x y:Av.Obj),upd (upd aB id (some x)) id (some y)=upd aB id (some y):=by intro x y;funext j;simp only[upd];split<;>rfl
 have g1:IntKind.i64.wrap ((b.length:Int) - (at0:Int))=(b.length:Int) - (at0:Int):=IntWalk.i64_in _ ab
 simp only[cg]
 refine Wp.aG xA1 ag ?_
 refine Wp.seq ?_
 by_cases hc:(ok&&decide (at0+w≤b.length))=true
 ·have hc':=hc
  simp only[Bool.and_eq_true,decide_eq_true_eq] at hc'
  obtain ⟨rfl,hc2⟩:=hc'
  have g2:decide ((w:Int)≤(b.length:Int) - (at0:Int))=true:=decide_eq_true ab
  have g3:IntKind.i64.wrap ((at0:Int)+(w:Int))=((at0+w:Nat):Int):=by rw[IntWalk.i64_in _ ab];omega
  have x1:(0:Int)≤(at0:Int):=by omega
  have x2:(at0:Int)≤((at0+w:Nat):Int):=by omega
  have x3:(0:Int)≤((at0+w:Nat):Int):=by omega
  have x4:((at0+w:Nat):Int)≤(b.length:Int):=by omega
  have lp:(((ar b).take (at0+w)).drop at0)=ar ((b.drop at0).take w):=by
   simp only[ar,←List.map_take,←List.map_drop]
   rw[List.drop_take];congr 2;congr 1;omega
  have lw:((b.drop at0).take w).length=w:=by simp;omega
  have hv:∀j,j≤w→val (((b.drop at0).take w).take j)<256^j:=fun j hj=>by
   have:=sR (((b.drop at0).take w).take j)
   rwa [List.length_take,lw,Nat.min_eq_left hj] at this
  rw[dz,if_pos (by simpa using hc2)]
  generalize hP:(b.drop at0).take w=P at*
  refine an0 (mN g1 g2 g3 x1 x2 x3 x4 lp lw eu) ?_
  refine Wp.mE [0,1,48,49] xA6 (fun j:Nat=>[(5,.int .i64 (val (P.take j))),(50,.int .i64 j)]) (fun j=>j≤w) (fun j=>w - j) 0 (Nat.zero_le _) ?_ ?_
  ·exact xSb
  ·intro j hj
   by_cases hlt:j<w
   ·have d1:decide ((j:Int)<(w:Int))=true:=decide_eq_true ab
    have h1:(0:Int)≤(j:Int):=by omega
    have h2:(j:Int)<(w:Int):=by omega
    have h3:j<P.length:=by omega
    have hvj:=hv j hj
    have hpw:(256:Nat)^j≤256^3:=Nat.pow_le_pow_right ab ab
    have hc:=(P.getD j 0).toNat_lt
    have e1:IntKind.i64.wrap (((val (P.take j):Nat):Int)*2^(min (Int.toNat 8) 64))=((val (P.take j)*256:Nat):Int):=by
     rw[show min (Int.toNat 8) 64=8 from rfl,IntWalk.i64_in _ ab];omega
    have e2:¬(8:Int)<0:=by omega
    have e3:IntKind.i64.wrap (((P.getD j 0).toNat:Nat):Int)=(((P.getD j 0).toNat:Nat):Int):=IntWalk.i64_in _ ab
    have e4:IntKind.i64.wrap (((((BitVec.ofInt (IntKind.bits .i64) ((val (P.take j)*256:Nat):Int)) ||| (BitVec.ofInt (IntKind.bits .i64) (((P.getD j 0).toNat:Nat):Int))).toNat:Nat)):Int)=((val (P.take (j+1)):Nat):Int):=by
     rw[show ((BitVec.ofInt (IntKind.bits .i64) ((val (P.take j)*256:Nat):Int)) ||| (BitVec.ofInt (IntKind.bits .i64) (((P.getD j 0).toNat:Nat):Int))).toNat=_ from DR _ _ ab hc,BZ P j h3,IntWalk.i64_in _ ab]
    have e5:IntKind.i64.wrap ((j:Int)+1)=((j+1:Nat):Int):=by rw[IntWalk.i64_in _ ab];omega
    repeat (first
     |((first|apply Wp.seqItems|apply Wp.items);(· simp only[go_sem,reduceIte,Nat.reduceEqDiff,Nat.reduceAdd,bx,ax,if_true,if_false,Nat.reduceMul,Nat.reduceLeDiff,d1,h1,h2,lw,jK P j _ h3,byte,IntKind.bits,e1,e2,e3,e5];exact rfl))
     |(refine ao.nil ⟨?_,?_⟩;(· first|trivial|simp[bw,aV,apart,aT]))
     |(apply Wp.bu;(· simp only[go_sem,reduceIte,Nat.reduceEqDiff,Nat.reduceAdd,bx,ax,if_true,if_false,Nat.reduceMul,Nat.reduceLeDiff,d1,h1,h2,lw,jK P j _ h3,byte,IntKind.bits,e1,e2,e3,e5];exact rfl);(· rfl))
     |refine Wp.skip ?_
     |refine Wp.label ?_
     |refine Wp.block ?_
     |refine Wp.exit ?_
     |refine Wp.seq ?_)
    refine ⟨j+1,ab,ab,?_⟩
    refine aK.tm (by simp only[ba,go_sem,reduceIte,Nat.reduceEqDiff,Nat.reduceAdd,bx];and_intros<;>first|exact trivial|exact ay.refl _|exact ay.any _|exact ay.of_eq (congrArg (AV.int .i64) e4)|(refine ay.int ?_;omega))
   ·have hjw:j=w:=by omega
    subst hjw
    have d1:decide ((j:Int)<(j:Int))=false:=decide_eq_false ab
    have hPt:P.take j=P:=List.take_of_length_le ab
    rw[hPt]
    refine an0 (cj3 d1 g3 eu) ?_
    refine Wp.ret ⟨trivial,_,rfl,?_,?_⟩
    ·first|rfl|simp only[go_sem,reduceIte,Nat.reduceEqDiff]
    ·first|rfl|simp only[go_sem,reduceIte,Nat.reduceEqDiff]
 ·rw[dz,if_neg (by simpa using hc)]
  cases ok with
  |false=>
   refine an0 (cj2 g1 eu) ?_
   refine Wp.ret ⟨trivial,_,rfl,?_,?_⟩
   ·first|rfl|simp only[go_sem,reduceIte,Nat.reduceEqDiff]
   ·first|rfl|simp only[go_sem,reduceIte,Nat.reduceEqDiff]
  |true=>
   have hlt:¬at0+w≤b.length:=by simpa using hc
   have g2:decide ((w:Int)≤(b.length:Int) - (at0:Int))=false:=decide_eq_false ab
   refine an0 (cj3 g1 g2 eu) ?_
   refine Wp.ret ⟨trivial,_,rfl,?_,?_⟩
   ·first|rfl|simp only[go_sem,reduceIte,Nat.reduceEqDiff]
   ·first|rfl|simp only[go_sem,reduceIte,Nat.reduceEqDiff]
theorem cS (id:Nat) (f:Nat→Option Av.Obj) (x y:Option Av.Obj):upd (upd f id x) id y=upd f id y:=by funext j;simp only[upd];split<;>rfl
theorem sS (b:List UInt8) (s:Scan) (w:Nat) (hb:b.length≤1099511627776) (hs:s.pos≤b.length) (hw:w≤4) (id n m:Nat):
  aI Tryz.prog 101 [.ptr id 0,.int .i64 w] (.only (upd aB id (some (cg b s))) [] n m) (.str (bJ b s w).1) (.only (upd aB id (some (cg b (bJ b s w).2))) [] n m):=by
 suffices h:∃r h',aI Tryz.prog 101 [.ptr id 0,.int .i64 w] (.only (upd aB id (some (cg b s))) [] n m) r h'∧r=(.str (bJ b s w).1)∧h'=(.only (upd aB id (some (cg b (bJ b s w).2))) [] n m) by
  obtain ⟨r,h',ha,rfl,rfl⟩:=h;exact ha
 refine f101.fC af ?_
 unfold F5 zz
 refine Wp.aG xA1 ag ?_
 refine Wp.seqItems xA1 ?_
 refine ao.cx ae xA4 (kA b s w hb hs hw id n m) (cb _ (id:=id) (ob:=cg b s) (ob':=cg b (dz b s w).2) (by simp[upd])) ?_
 have hv:=BY (b:=b) (s:=s) (w:=w)
 have hp:=o9 (b:=b) (w:=w) hs
 have hpw:(256:Nat)^w≤256^4:=Nat.pow_le_pow_right ab ab
 unfold bJ
 generalize (dz b s w).1=V at*
 generalize (dz b s w).2=s1 at*
 obtain ⟨p,ok⟩:=s1
 simp only at hp
 have g1:IntKind.i64.wrap ((b.length:Int) - (p:Int))=(b.length:Int) - (p:Int):=IntWalk.i64_in _ ab
 simp only[cg]
 refine ao.eval (xAe @cS) ?_
 refine ao.nil ⟨by trivial,?_⟩
 refine Wp.seq ?_
 by_cases hc:(ok&&decide (p+V≤b.length))=true
 ·have hc':=hc
  simp only[Bool.and_eq_true,decide_eq_true_eq] at hc'
  obtain ⟨rfl,hc2⟩:=hc'
  have g2:decide ((V:Int)≤(b.length:Int) - (p:Int))=true:=decide_eq_true ab
  have g3:IntKind.i64.wrap ((p:Int)+(V:Int))=((p+V:Nat):Int):=by rw[IntWalk.i64_in _ ab];omega
  have g4:IntKind.i64.wrap (((p+V:Nat):Int) - (V:Int))=(p:Int):=by rw[IntWalk.i64_in _ ab];omega
  have x1:(0:Int)≤(p:Int):=by omega
  have x2:(p:Int)≤((p+V:Nat):Int):=by omega
  have x3:(0:Int)≤((p+V:Nat):Int):=by omega
  have x4:((p+V:Nat):Int)≤(b.length:Int):=by omega
  have lp:(((ar b).take (p+V)).drop p)=ar ((b.drop p).take V):=by
   simp only[ar,←List.map_take,←List.map_drop]
   rw[List.drop_take];congr 2;congr 1;omega
  rw[if_pos (by simpa using hc2)]
  refine an0 (sH g1 g2 g3 g4 x1 x2 x3 x4 lp @cS @qH) ?_
  refine Wp.ret ⟨trivial,_,rfl,?_,?_⟩
  ·first|rfl|simp only[go_sem,reduceIte,Nat.reduceEqDiff]
  ·first|rfl|simp only[go_sem,reduceIte,Nat.reduceEqDiff]
 ·rw[if_neg (by simpa using hc)]
  cases ok with
  |false=>
   refine an0 (cj2 g1 @cS) ?_
   refine Wp.ret ⟨trivial,_,rfl,?_,?_⟩
   ·first|rfl|simp only[go_sem,reduceIte,Nat.reduceEqDiff]
   ·first|rfl|simp only[go_sem,reduceIte,Nat.reduceEqDiff]
  |true=>
   have hlt:¬p+V≤b.length:=by simpa using hc
   have g2:decide ((V:Int)≤(b.length:Int) - (p:Int))=false:=decide_eq_false ab
   refine an0 (cj3 g1 g2 @cS) ?_
   refine Wp.ret ⟨trivial,_,rfl,?_,?_⟩
   ·first|rfl|simp only[go_sem,reduceIte,Nat.reduceEqDiff]
   ·first|rfl|simp only[go_sem,reduceIte,Nat.reduceEqDiff]
structure Acc where
 keys:List (List UInt8)
 vals:List (List UInt8)
 kids:List Int
 s:Scan
def eA (leaf:Bool) (b:List UInt8) (a:Acc):Acc:=
 if leaf then ⟨a.keys++[(bJ b a.s 1).1],a.vals++[(bJ b (bJ b a.s 1).2 2).1],a.kids,(bJ b (bJ b a.s 1).2 2).2⟩
 else ⟨a.keys++[(bJ b a.s 1).1],a.vals,a.kids++[((dz b (bJ b a.s 1).2 4).1:Int)],(dz b (bJ b a.s 1).2 4).2⟩
def eW (leaf:Bool) (b:List UInt8):Nat→Acc→Acc
 |0,a=>a
 |c+1,a=>if a.s.ok then eW leaf b c (eA leaf b a) else a
def dK (leaf:Bool) (b:List UInt8):Acc:=if leaf then ⟨[],[],[],⟨3,true⟩⟩ else ⟨[],[],[((dz b ⟨3,true⟩ 4).1:Int)],(dz b ⟨3,true⟩ 4).2⟩
def bS (b:List UInt8):Bool:=decide (b.getD 0 0=76)
def bB (b:List UInt8):Acc:=eW (bS b) b (val ((b.drop 1).take 2)) (dK (bS b) b)
def cC (b:List UInt8):Node:=⟨bS b,(bB b).keys,(bB b).vals,(bB b).kids⟩
def fU (b:List UInt8):Bool:=decide (b.length=1024)&&(bB b).s.ok&&decide (check (cC b)=0)&&decide (bytesOf (cC b)=b)
def fF (b:List UInt8):Node:=if fU b then cC b else lA
def lB (b:List UInt8):Nat:=if fU b then 0 else 4
theorem kR (b:List UInt8):decide ((((b.getD 0 0).toNat:Nat):Int)=76)=bS b:=by
 unfold bS
 refine decide_eq_decide.2 ⟨fun h=>?_,fun h=>by rw[h];rfl⟩
 have:(b.getD 0 0).toNat=76:=by omega
 exact UInt8.toNat_inj.1 this
structure Inv (leaf:Bool) (b:List UInt8) (i:Nat) (a:Acc):Prop where
 pos:a.s.pos≤b.length
 k:a.keys.length≤i
 v:a.vals.length≤i
 d:a.kids.length≤i+1
 tk:tot a.keys≤i*b.length
 tv:tot a.vals≤i*b.length
theorem mY (b:List UInt8) (s:Scan) (w:Nat):(bJ b s w).1.length≤b.length:=by
 unfold bJ;split
 ·simp;omega
 ·simp
theorem Inv.step {leaf:Bool} {b:List UInt8} {i:Nat} {a:Acc} (h:Inv leaf b i a):Inv leaf b (i+1) (eA leaf b a):=by
 obtain ⟨h1,h2,h3,h4,h5,h6⟩:=h
 have p1:=kQ (w:=1) h1
 have l1:=mY b a.s 1
 have l2:=mY b (bJ b a.s 1).2 2
 unfold eA
 split
 ·refine ⟨kQ p1,by simp;omega,by simp;omega,by simp only;omega,?_,?_⟩
  ·simp only[fm,gq,Nat.add_mul];simp only[tot,List.map_nil,List.sum_nil] at h5 ⊢;omega
  ·simp only[fm,gq,Nat.add_mul];simp only[tot,List.map_nil,List.sum_nil] at h6 ⊢;omega
 ·refine ⟨o9 p1,by simp;omega,by simp only;omega,by simp;omega,?_,by simp only[Nat.add_mul];omega⟩
  simp only[fm,gq,Nat.add_mul];simp only[tot,List.map_nil,List.sum_nil] at h5 ⊢;omega
theorem Inv.start (leaf:Bool) (b:List UInt8) (hb:3≤b.length):Inv leaf b 0 (dK leaf b):=by
 unfold dK;split
 ·exact ⟨hb,by simp,by simp,by simp,by simp[tot],by simp[tot]⟩
 ·exact ⟨o9 hb,by simp,by simp,by simp,by simp[tot],by simp[tot]⟩
theorem Inv.loop {leaf:Bool} {b:List UInt8}:∀{c i:Nat} {a:Acc},Inv leaf b i a→Inv leaf b (i+c) (eW leaf b c a)
 |0,i,a,h=>h
 |c+1,i,a,h=>by
  unfold eW
  split
  ·have:=Inv.loop (c:=c) h.step
   rwa [Nat.add_assoc,Nat.add_comm 1 c] at this
  ·exact ⟨h.pos,by have:=h.k;omega,by have:=h.v;omega,by have:=h.d;omega,Nat.le_trans h.tk (Nat.mul_le_mul_right _ ab),Nat.le_trans h.tv (Nat.mul_le_mul_right _ ab)⟩
theorem pY (b:List UInt8):val ((b.drop 1).take 2)<65536:=by
 refine Nat.lt_of_lt_of_le (sR _) ?_
 have:((b.drop 1).take 2).length≤2:=by simp;omega
 exact Nat.pow_le_pow_right ab this
theorem xQ {b:List UInt8} (hb:b.length=1024):Nb (cC b):=by
 have h:=(Inv.start (bS b) b ab).loop (c:=val ((b.drop 1).take 2))
 have hc:=pY b
 rw[Nat.zero_add] at h
 obtain ⟨h1,h2,h3,h4,h5,h6⟩:=h
 rw[hb] at h5 h6
 exact ⟨by show (bB b).keys.length≤_;unfold bB;omega,by show (bB b).vals.length≤_;unfold bB;omega,by show (bB b).kids.length≤_;unfold bB;omega,by show tot (bB b).keys≤_;unfold bB;omega,by show tot (bB b).vals≤_;unfold bB;omega⟩
theorem kS (a:List (List UInt8)) (x:List UInt8):strs a++[.str x]=strs (a++[x]):=by simp[strs]
theorem kT (a:List Int) (x:Int):ints a++[.int .i64 x]=ints (a++[x]):=by simp[ints]
theorem dU {a b:Nat} (h:a≠b):(a=b)=False:=eq_false h
def dh:List AV:=[.bool false,.sl 1 [] (.exact 0),.sl 1 [] (.exact 0),.sl 1 [] (.exact 0)]
def lh (l:Bool) (a:Acc) (c1 c2 c3:Cap):List AV:=[.bool l,.sl 1 (strs a.keys) c1,.sl 1 (strs a.vals) c2,.sl 1 (ints a.kids) c3]
theorem uy (c:UInt8) (l:List UInt8):val (c::l)=c.toNat*256^l.length+val l:=by
 have key:∀(l:List UInt8) (a:Nat),l.foldl (fun n c=>n*256+c.toNat) a=a*256^l.length+val l:=by
  intro l
  induction l with
  |nil=>intro a;simp[val]
  |cons c l ih=>
   intro a
   rw[List.foldl_cons,ih,List.length_cons,Nat.pow_succ]
   have:val (c::l)=c.toNat*256^l.length+val l:=by
    show List.foldl _ (0*256+c.toNat) l=_
    rw[ih];simp
   rw[this,Nat.add_mul,Nat.mul_assoc,Nat.mul_comm 256 (256^l.length)]
   omega
 show List.foldl _ (0*256+c.toNat) l=_
 rw[key];simp
theorem wB:∀(n v k:Nat),be n (k*256^n+v)=be n v
 |0,v,k=>rfl
 |n+1,v,k=>by
  have e:k*256^(n+1)=(k*256)*256^n:=by rw[Nat.pow_succ,Nat.mul_comm (256^n) 256,Nat.mul_assoc]
  rw[be,be,e,wB n v (k*256)]
  congr 1
  have hp:0<256^n:=Nat.pow_pos ab
  rw[Nat.add_comm,Nat.add_mul_div_right _ _ hp]
  apply UInt8.toNat_inj.1
  simp only[UInt8.toNat_ofNat']
  omega
theorem wC:∀(l:List UInt8),be l.length (val l)=l
 |[]=>rfl
 |c::l=>by
  rw[List.length_cons,be,uy,wB,wC l]
  congr 1
  have hp:0<256^l.length:=Nat.pow_pos ab
  rw[Nat.add_comm,Nat.add_mul_div_right _ _ hp,Nat.div_eq_of_lt (sR l),Nat.zero_add]
  exact UInt8.ofNat_toNat
theorem sT {b:List UInt8} {s:Scan} {w:Nat} (h:(dz b s w).2.ok=true):s.ok=true∧(dz b s w).2.pos=s.pos+w∧s.pos+w≤b.length∧b.take (s.pos+w)=b.take s.pos++be w (dz b s w).1:=by
 unfold dz at h ⊢
 split at h
 ·rename_i hc
  rw[if_pos hc]
  simp only[Bool.and_eq_true,decide_eq_true_eq] at hc
  refine ⟨hc.1,rfl,hc.2,?_⟩
  have hl:((b.drop s.pos).take w).length=w:=by simp;omega
  have:=wC ((b.drop s.pos).take w)
  rw[hl] at this
  rw[this,←List.take_add]
 ·cases h
theorem nR {b:List UInt8} {s:Scan} {w:Nat} (h:(bJ b s w).2.ok=true):s.ok=true∧(bJ b s w).2.pos≤b.length∧b.take (bJ b s w).2.pos=b.take s.pos++(be w (bJ b s w).1.length++(bJ b s w).1):=by
 unfold bJ at h ⊢
 split at h
 ·rename_i hc
  rw[if_pos hc]
  simp only[Bool.and_eq_true,decide_eq_true_eq] at hc
  obtain ⟨h1,h2,h3,h4⟩:=sT hc.1
  refine ⟨h1,hc.2,?_⟩
  have hl:((b.drop (dz b s w).2.pos).take (dz b s w).1).length=(dz b s w).1:=by simp;omega
  simp only
  rw[hl,List.take_add,h2,h4,List.append_assoc]
 ·cases h
structure Reads (leaf:Bool) (b:List UInt8) (i:Nat) (a:Acc):Prop where
 k:a.keys.length=i
 v:if leaf then a.vals.length=i∧a.kids=[] else a.vals=[]∧a.kids.length=i+1
 pos:a.s.pos≤b.length
 eq:b.take a.s.pos=b.take 3++((if leaf then [] else be 4 (a.kids.getD 0 0).toNat)++rows ⟨leaf,a.keys,a.vals,a.kids⟩ i)
theorem mZ {α:Type} (l m:List α) (i:Nat) (d:α) (h:i<l.length):(l++m).getD i d=l.getD i d:=by
 rw[bD ak,bD h,List.getElem_append_left h]
theorem pZ (leaf:Bool) (ks vs ks' vs':List (List UInt8)) (is is':List Int):∀i,i≤ks.length→(leaf=true→i≤vs.length)→(leaf=false→i+1≤is.length)→rows ⟨leaf,ks++ks',vs++vs',is++is'⟩ i=rows ⟨leaf,ks,vs,is⟩ i
 |0,_,_,_=>rfl
 |i+1,h1,h2,h3=>by
  rw[rows,rows,pZ leaf ks vs ks' vs' is is' i ab (fun h=>by have:=h2 h;omega) (fun h=>by have:=h3 h;omega)]
  congr 1
  unfold row
  simp only
  rw[mZ _ _ _ _ h1]
  cases leaf
  ·simp only[Bool.false_eq_true,if_false];rw[mZ _ _ _ _ (h3 rfl)]
  ·simp only[if_true];rw[mZ _ _ _ _ (h2 rfl)]
theorem kV {α:Type} (l:List α) (x d:α):(l++[x]).getD l.length d=x:=by
 rw[bD af,List.getElem_append_right ab];simp
theorem Reads.step {leaf:Bool} {b:List UInt8} {i:Nat} {a:Acc} (h:a.s.ok=true→Reads leaf b i a) (hok:(eA leaf b a).s.ok=true):Reads leaf b (i+1) (eA leaf b a):=by
 cases leaf with
 |true=>
  simp only[eA,if_true] at hok ⊢
  obtain ⟨o1,p1,e1⟩:=nR hok
  obtain ⟨o2,p2,e2⟩:=nR o1
  obtain ⟨hk,hv,hp,he⟩:=h o2
  simp only[if_true] at hv
  obtain ⟨hv,hd⟩:=hv
  refine ⟨by simp[hk],by simp[hv,hd],p1,?_⟩
  have hr:=pZ true a.keys a.vals [(bJ b a.s 1).1] [(bJ b (bJ b a.s 1).2 2).1] a.kids [] i ab (fun _=>by omega) (fun h=>by cases h)
  rw[List.append_nil] at hr
  simp only[if_true] at he ⊢
  rw[e1,e2,he,rows,hr]
  unfold row
  simp only[if_true]
  have l1:=kV a.keys (bJ b a.s 1).1 []
  have l2:=kV a.vals (bJ b (bJ b a.s 1).2 2).1 []
  rw[hk] at l1
  rw[hv] at l2
  rw[l1,l2]
  simp[List.append_assoc]
 |false=>
  simp only[eA,Bool.false_eq_true,if_false] at hok ⊢
  obtain ⟨o1,p1,q1,e1⟩:=sT hok
  obtain ⟨o2,p2,e2⟩:=nR o1
  obtain ⟨hk,hv,hp,he⟩:=h o2
  simp only[Bool.false_eq_true,if_false] at hv
  obtain ⟨hv,hd⟩:=hv
  refine ⟨by simp[hk],by simp[hv,hd],by simp only;omega,?_⟩
  have hr:=pZ false a.keys a.vals [(bJ b a.s 1).1] [] a.kids [((dz b (bJ b a.s 1).2 4).1:Int)] i ab (fun h=>by cases h) (fun _=>by omega)
  rw[List.append_nil] at hr
  simp only[Bool.false_eq_true,if_false] at he ⊢
  rw[p1,e1,e2,he,rows,hr,mZ _ _ _ _ ab]
  unfold row
  simp only[Bool.false_eq_true,if_false]
  have l1:=kV a.keys (bJ b a.s 1).1 []
  have l2:=kV a.kids ((dz b (bJ b a.s 1).2 4).1:Int) 0
  rw[hk] at l1
  rw[hd] at l2
  rw[l1,l2]
  simp[List.append_assoc]
theorem Reads.loop {leaf:Bool} {b:List UInt8}:∀{c i:Nat} {a:Acc},(a.s.ok=true→Reads leaf b i a)→(eW leaf b c a).s.ok=true→Reads leaf b (i+c) (eW leaf b c a)
 |0,i,a,h,hok=>h hok
 |c+1,i,a,h,hok=>by
  unfold eW at hok ⊢
  split at hok
  ·rename_i ha
   rw[if_pos ha]
   have:=Reads.loop (c:=c) (i:=i+1) (fun hs=>Reads.step h hs) hok
   rwa [Nat.add_assoc,Nat.add_comm 1 c] at this
  ·rename_i ha;exact absurd hok ha
theorem Reads.start (leaf:Bool) (b:List UInt8) (hb:3≤b.length):(dK leaf b).s.ok=true→Reads leaf b 0 (dK leaf b):=by
 intro hok
 cases leaf with
 |true=>simp only[dK,if_true];exact ⟨rfl,by simp,hb,by simp[rows]⟩
 |false=>
  simp only[dK,Bool.false_eq_true,if_false] at hok ⊢
  obtain ⟨o1,p1,q1,e1⟩:=sT hok
  refine ⟨rfl,by simp,by simp only;omega,?_⟩
  simp only[Bool.false_eq_true,if_false] at p1 e1 ⊢
  rw[p1,e1]
  simp[rows]
def qa (b:List UInt8):Bool:=decide (b.getD 0 0=76)||decide (b.getD 0 0=73)
def jh (b:List UInt8) (p:Nat):Bool:= !(b.drop p).any (fun c=>decide (c≠0))
theorem zT (l:List UInt8) (n:Nat) (h:l.length=n):(!l.any (fun c=>decide (c≠0)))=true↔List.replicate n 0=l:=by
 rw[Bool.not_eq_true',List.any_eq_false]
 constructor
 ·intro hz
  symm
  rw[List.eq_replicate_iff]
  exact ⟨h,fun x hx=>by have:=hz x hx;simpa using this⟩
 ·intro e x hx
  rw[←e] at hx
  have:=List.eq_of_mem_replicate hx
  simp[this]
theorem qb {b:List UInt8} (hb:b.length=1024) (hok:(bB b).s.ok=true) (hc:check (cC b)=0):bytesOf (cC b)=b↔(qa b=true∧jh b (bB b).s.pos=true):=by
 obtain ⟨r1,r2⟩:=gT hc
 have hR:=Reads.loop (Reads.start (bS b) b ab) (c:=val ((b.drop 1).take 2)) hok
 rw[Nat.zero_add] at hR
 change Reads (bS b) b _ (bB b) at hR
 obtain ⟨hk,-,hp,he⟩:=hR
 have hl2:((b.drop 1).take 2).length=2:=by simp;omega
 have hb2:=wC ((b.drop 1).take 2)
 rw[hl2,←hk] at hb2
 rw[←hk] at he
 have h3:b.take 3=b.take 1++be 2 (bB b).keys.length:=by rw[hb2,←List.take_add]
 have htl:=kx (cC b) (fu r1).vals
 have htx:text (cC b)=(if bS b then [76] else [73])++(be 2 (bB b).keys.length++((if bS b then [] else be 4 ((bB b).kids.getD 0 0).toNat)++rows (cC b) (bB b).keys.length)):=by
  unfold text head
  simp only[cC,List.append_assoc]
  rfl
 have hbt:b.take (bB b).s.pos=b.take 1++(be 2 (bB b).keys.length++((if bS b then [] else be 4 ((bB b).kids.getD 0 0).toNat)++rows (cC b) (bB b).keys.length)):=by
  rw[he,h3,List.append_assoc];rfl
 generalize hT:be 2 (bB b).keys.length++((if bS b then [] else be 4 ((bB b).kids.getD 0 0).toNat)++rows (cC b) (bB b).keys.length)=T at*
 have hTl:(bB b).s.pos=1+T.length:=by
  have:=congrArg List.length hbt
  rw[List.length_take,List.length_append,List.length_take] at this
  omega
 have hsz:size (cC b)=1+T.length:=by
  rw[←htl,htx];cases bS b<;>simp<;>omega
 have hsplit:b=b.take 1++(T++b.drop (bB b).s.pos):=by
  conv=>lhs;rw[←List.take_append_drop (bB b).s.pos b]
  rw[hbt,List.append_assoc]
 have h1:b.take 1=[b.getD 0 0]:=by
  rw[bD ab]
  match b,hb with
  |x::l,_=>simp
 have hdl:(b.drop (bB b).s.pos).length=1024 - size (cC b):=by rw[List.length_drop,hsz,hTl,hb]
 have hbl:=zT (b.drop (bB b).s.pos) _ hdl
 have htag:(if bS b then [76] else [73])=b.take 1↔qa b=true:=by
  rw[h1]
  unfold qa bS
  by_cases h76:b.getD 0 0=76
  ·simp only[h76,decide_true,if_true,Bool.true_or]
  ·simp only[h76,decide_false,Bool.false_eq_true,if_false,Bool.false_or,decide_eq_true_eq,List.cons.injEq,and_true]
   exact eq_comm
 unfold jh
 rw[hbl,←htag]
 unfold bytesOf
 rw[htx]
 constructor
 ·intro h
  have h:=h.trans hsplit
  rw[List.append_assoc] at h
  have hlen:(if bS b then [76] else [73]:List UInt8).length=(b.take 1).length:=by rw[h1];split<;>rfl
  obtain ⟨a1,a2⟩:=List.append_inj h hlen
  exact ⟨a1,(List.append_inj a2 rfl).2⟩
 ·rintro ⟨a1,a2⟩
  rw[a1,a2,List.append_assoc];exact hsplit.symm
theorem DS (c:UInt8):bc Tryz.prog 102 [byte c] (.bool (decide (c≠0))):=by
 refine f102.dB af rfl rfl ?_
 unfold F6 zz
 have e:decide (((c.toNat:Nat):Int)=0)=decide (c=0):=decide_eq_decide.2 ⟨fun h=>UInt8.toNat_inj.1 (by omega:c.toNat=0),fun h=>by rw[h];rfl⟩
 refine an0 (cj2 @byte.eq_1 e) ?_
 refine cL ?_
 refine ay.of_eq ?_
 simp
theorem qc (l:List UInt8) (hl:l.length≤4611686018427387904):bc Tryz.prog 104 [.sl 1 (ar l) .any,.clo (.func 102) [] []] (.bool (l.any (fun c=>decide (c≠0)))):=
 jP f104 byte (fun _=>rfl) l _ (nN f140 byte (fun _=>rfl) (fun _=>rfl) l hl _ Tryz.func102 rfl (of_decide_eq_true (by kernel_rfl)) fun x _=>DS x)
theorem gW (l:List UInt8) (k:Nat):(ar l).take k=ar (l.take k):=by simp[ar]
theorem gX (l:List UInt8) (k:Nat):(ar l).drop k=ar (l.drop k):=by simp[ar]
theorem m4 (b:List UInt8):decide ((((b.getD 0 0).toNat:Nat):Int)=73)=decide (b.getD 0 0=73):=
 decide_eq_decide.2 ⟨fun h=>UInt8.toNat_inj.1 (by omega:(b.getD 0 0).toNat=73),fun h=>by rw[h];rfl⟩
theorem Fg (b:List UInt8):bc Tryz.prog 72 [.sl 1 (ar b) .any] (.tup [aC (fF b),.int .i64 (lB b)]):=by
 refine f72.dB af (by simp[aU,bq,cR,pK]) (by simp[aU,bq,cW]) ?_
 unfold c72 zz
 have fin:ay (.tup [.agg dh,.int .i64 4]) (.tup [aC lA,.int .i64 ((4:Nat):Int)]):=ay.tup (au.cons ay.lA (au.cons (ay.refl _) au.nil))
 refine Wp.aG xA1 ag ?_
 refine Wp.seq ?_
 by_cases hb:b.length=1024
 ·have d0:decide ((b.length:Int)=1024)=true:=decide_eq_true ab
  have x0:(0:Int)<(b.length:Int):=by omega
  have y0:(0:Int)≤(0:Int):=by omega
  have z0:(0:Int).toNat=0:=rfl
  have b0:=jK b 0 .any ab
  by_cases ht:qa b=true
  ·have en:dz b ⟨1,true⟩ 2=(val ((b.drop 1).take 2),⟨3,true⟩):=by rw[dz,if_pos ak]
   have hnum:=fun n m=>kA b ⟨1,true⟩ 2 ab ak ab 1 n m
   rw[en] at hnum
   have hcn:=pY b
   have hI0:=Inv.start (bS b) b ab
   have hacc:bB b=eW (bS b) b (val ((b.drop 1).take 2)) (dK (bS b) b):=rfl
   simp only at hnum
   generalize val ((b.drop 1).take 2)=C at*
   have hcond:(!bS b&& !decide (b.getD 0 0=73))=false:=by
    unfold qa at ht;unfold bS
    cases h1:decide (b.getD 0 0=76)<;>cases h2:decide (b.getD 0 0=73)<;>simp_all
   refine Wp.meet ⟨tm [(0,.sl 1 (ar b) .any),(2,.ptr 0 0)],⟨upd aB 0 (some (.cells dh)),1,[],0⟩⟩ ?_ ?_
   ·cases hl:bS b with
    |true=>
     refine an0 (cj9 d0 x0 y0 z0 b0 @byte.eq_1 @kR @m4 hl) ?_
     refine aK.of (bL ?_) (OLe.upd (OLe.none _) (ed.refl _)) af (Nat.le_refl _) (Nat.le_refl _)
     exact xSb
    |false=>
     have h73:decide (b.getD 0 0=73)=true:=by simpa [hl] using hcond
     refine an0 (mN d0 x0 y0 z0 b0 @byte.eq_1 @kR @m4 hl h73) ?_
     refine aK.of (bL ?_) (OLe.upd (OLe.none _) (ed.refl _)) af (Nat.le_refl _) (Nat.le_refl _)
     exact xSb
   ·repeat (first
     |((first|apply Wp.seqItems|apply Wp.items|((first
       |(refine ao.cx ?_ ?_ (hnum _ _) (cb _ ?_) ?_;(· simp only[go_sem,reduceIte,Nat.reduceEqDiff,Nat.reduceAdd,bx]);(· simp only[go_sem,reduceIte,Nat.reduceEqDiff,Nat.reduceAdd,bx,List.map];first|exact au.refl _|(repeat (first|exact au.nil|refine au.cons xA5 ?_)));(· first|rfl|simp only[go_sem,reduceIte,Nat.reduceEqDiff]|simp[upd])));apply ao.eval));(· simp only[go_sem,reduceIte,Nat.reduceEqDiff,Nat.reduceAdd,bx,ax,if_true,if_false,Nat.reduceMul,Nat.reduceLeDiff,x0,y0,z0,b0,byte,kR,cS,cg];exact rfl))
     |(refine ao.nil ⟨?_,?_⟩;(· first|trivial|simp[bw,aV,apart,aT]))
     |(apply Wp.bu;(· simp only[go_sem,reduceIte,Nat.reduceEqDiff,Nat.reduceAdd,bx,ax,if_true,if_false,Nat.reduceMul,Nat.reduceLeDiff,x0,y0,z0,b0,byte,kR,cS,cg];exact rfl);(· rfl))
     |refine Wp.skip ?_
     |refine Wp.label ?_
     |refine Wp.block ?_
     |refine Wp.exit ?_
     |refine Wp.seq ?_)
    refine Wp.meet ⟨tm [(0,.sl 1 (ar b) .any),(2,.ptr 0 0),(4,.ptr 1 0),(5,.ptr 2 0),(6,.int .i64 C)],⟨upd (upd (upd aB 0 (some (.cells dh))) 1 (some (cg b (dK (bS b) b).s))) 2 (some (.cells (lh (bS b) (dK (bS b) b) (.own 1) (.own 2) (.own 0)))),3,[2,1,0],3⟩⟩ ?_ ?_
    ·cases hl:bS b with
     |true=>
      refine Gy ?_
      refine aK.trans (aK.tok _ _) (aK.trans (aK.tok _ _) (aK.trans (aK.tok _ _) (aK.of (bL ?_) (OLe.put (OLe.put (OLe.put (OLe.none _) rfl (ed.refl _)) rfl (ed.refl _)) rfl (au.Hi rfl rfl rfl)) (fun _ h=>h) (Nat.le_refl _) (Nat.le_refl _))))
      exact xSb
     |false=>
      have hk:=fun n m=>kA b ⟨3,true⟩ 4 ab ak ab 1 n m
      simp only[cg] at hk
      repeat (first
       |((first|apply Wp.seqItems|apply Wp.items|((first
         |(refine ao.cx ?_ ?_ (hk _ _) (cb _ ?_) ?_;(· simp only[go_sem,reduceIte,Nat.reduceEqDiff,Nat.reduceAdd,bx]);(· simp only[go_sem,reduceIte,Nat.reduceEqDiff,Nat.reduceAdd,bx,List.map];first|exact au.refl _|(repeat (first|exact au.nil|refine au.cons xA5 ?_)));(· first|rfl|simp only[go_sem,reduceIte,Nat.reduceEqDiff]|simp[upd])));apply ao.eval));(· simp only[go_sem,reduceIte,Nat.reduceEqDiff,Nat.reduceAdd,bx,ax,if_true,if_false,Nat.reduceMul,Nat.reduceLeDiff,cS];exact rfl))
       |(refine ao.nil ⟨?_,?_⟩;(· first|trivial|simp[bw,aV,apart,aT]))
       |(apply Wp.bu;(· simp only[go_sem,reduceIte,Nat.reduceEqDiff,Nat.reduceAdd,bx,ax,if_true,if_false,Nat.reduceMul,Nat.reduceLeDiff,cS];exact rfl);(· rfl))
       |refine Wp.skip ?_
       |refine Wp.label ?_
       |refine Wp.block ?_
       |refine Wp.exit ?_
       |refine Wp.seq ?_)
      refine aK.trans (aK.tok _ _) (aK.trans (aK.tok _ _) (aK.of (bL ?_) (OLe.put (OLe.put (OLe.put (OLe.none _) rfl (ed.refl _)) rfl (ed.refl _)) rfl (au.cons (ay.refl _) (au.cons (ay.lR rfl) (au.cons (ay.lR rfl) (au.cons (ay.refl _) au.nil))))) af (Nat.le_refl _) (Nat.le_refl _)))
      exact xSb
    ·refine Wp.jI ⟨tm [(0,.sl 1 (ar b) .any),(2,.ptr 0 0),(4,.ptr 1 0),(5,.ptr 2 0)],⟨upd (upd (upd aB 0 (some (.cells dh))) 1 (some (cg b (bB b).s))) 2 (some (.cells (lh (bS b) (bB b) .any .any .any))),3,[],131075⟩⟩ ?_ ?_
     ·refine Wp.block ?_
      refine Wp.loop (β:=Nat × Acc × Nat × Nat × Nat × Nat) (fun j=>⟨tm [(0,.sl 1 (ar b) .any),(2,.ptr 0 0),(4,.ptr 1 0),(5,.ptr 2 0),(6,.int .i64 ((C - j.1:Nat):Int))],⟨upd (upd (upd aB 0 (some (.cells dh))) 1 (some (cg b j.2.1.s))) 2 (some (.cells (lh (bS b) j.2.1 (.own j.2.2.1) (.own j.2.2.2.1) (.own j.2.2.2.2.1)))),3,[j.2.2.1,j.2.2.2.1,j.2.2.2.2.1],j.2.2.2.2.2⟩⟩)
       (fun j=>j.1≤C∧Inv (bS b) b j.1 j.2.1∧eW (bS b) b (C - j.1) j.2.1=bB b∧j.2.2.1≠j.2.2.2.1∧j.2.2.1≠j.2.2.2.2.1∧j.2.2.2.1≠j.2.2.2.2.1∧j.2.2.1<j.2.2.2.2.2∧j.2.2.2.1<j.2.2.2.2.2∧j.2.2.2.2.1<j.2.2.2.2.2∧j.2.2.2.2.2≤3+2*j.1)
       (fun j=>C - j.1) (0,dK (bS b) b,1,2,0,3) ⟨Nat.zero_le _,hI0,hacc.symm,by simp,by simp,by simp,by simp,by simp,by simp,by simp⟩ (aK.of (bL ?_) (OLe.refl _) af (Nat.le_refl _) (Nat.le_refl _)) ?_
      ·exact xSb
      ·rintro ⟨i,a,tk,tv,td,m⟩ ⟨hi,hI,hL,n1,n2,n3,m1,m2,m3,hm⟩
       simp only at hi hI hL n1 n2 n3 m1 m2 m3 hm
       have hpos:=hI.pos
       have hpos1:=kQ (w:=1) hpos
       have hp:=fun n m=>sS b a.s 1 ab hpos ab 1 n m
       have hp2:=fun n m=>sS b (bJ b a.s 1).2 2 ab hpos1 ab 1 n m
       have hk2:=fun n m=>kA b (bJ b a.s 1).2 4 ab hpos1 ab 1 n m
       simp only[cg] at hp hp2 hk2
       have lk:=hI.k
       have lv:=hI.v
       have ld:=hI.d
       by_cases hc:i<C∧a.s.ok=true
       ·obtain ⟨hlt,hok⟩:=hc
        have hst:eW (bS b) b (C - (i+1)) (eA (bS b) b a)=bB b:=by
         rw[←hL,show C - i=(C - (i+1))+1 by omega,eW,if_pos hok]
        have hI':=hI.step
        have e1:IntKind.i64.wrap (((C - i:Nat):Int) - 1)=((C - (i+1):Nat):Int):=by rw[IntWalk.i64_in _ ab];omega
        have d1:decide ((0:Int)<((C - i:Nat):Int))=true:=decide_eq_true ab
        have r0:(a.keys.length+1)*16≤140737488355328:=by omega
        have r0':a.keys.length+1<4611686018427387904:=by omega
        have v0:(a.vals.length+1)*16≤140737488355328:=by omega
        have v0':a.vals.length+1<4611686018427387904:=by omega
        have d0:(a.kids.length+1)*8≤140737488355328:=by omega
        have d0':a.kids.length+1<4611686018427387904:=by omega
        cases hl:bS b with
        |true=>
         rw[hl] at hst hI'
         rw[hok] at hp
         repeat (first
          |((first|apply Wp.seqItems|apply Wp.items|((first
            |(refine ao.cx ?_ ?_ (hp _ _) (cb _ ?_) ?_;(· simp only[go_sem,reduceIte,Nat.reduceEqDiff,Nat.reduceAdd,bx]);(· simp only[go_sem,reduceIte,Nat.reduceEqDiff,Nat.reduceAdd,bx,List.map];first|exact au.refl _|(repeat (first|exact au.nil|refine au.cons xA5 ?_)));(· first|rfl|simp only[go_sem,reduceIte,Nat.reduceEqDiff]|simp[upd]))
            |(refine ao.cx ?_ ?_ (hp2 _ _) (cb _ ?_) ?_;(· simp only[go_sem,reduceIte,Nat.reduceEqDiff,Nat.reduceAdd,bx]);(· simp only[go_sem,reduceIte,Nat.reduceEqDiff,Nat.reduceAdd,bx,List.map];first|exact au.refl _|(repeat (first|exact au.nil|refine au.cons xA5 ?_)));(· first|rfl|simp only[go_sem,reduceIte,Nat.reduceEqDiff]|simp[upd]))
            |(refine ao.cx ?_ ?_ (hk2 _ _) (cb _ ?_) ?_;(· simp only[go_sem,reduceIte,Nat.reduceEqDiff,Nat.reduceAdd,bx]);(· simp only[go_sem,reduceIte,Nat.reduceEqDiff,Nat.reduceAdd,bx,List.map];first|exact au.refl _|(repeat (first|exact au.nil|refine au.cons xA5 ?_)));(· first|rfl|simp only[go_sem,reduceIte,Nat.reduceEqDiff]|simp[upd])));apply ao.eval));(· simp only[go_sem,reduceIte,Nat.reduceEqDiff,Nat.reduceAdd,bx,ax,if_true,if_false,Nat.reduceMul,Nat.reduceLeDiff,d1,hok,cg,lh,cS,kS,kT,e1,r0,r0',v0,v0',d0,d0',List.mem_cons,dU n1,dU n1.symm,dU n2,dU n2.symm,dU n3,dU n3.symm,dU (Nat.ne_of_gt m2),dU (Nat.ne_of_gt m3),dU (Nat.ne_of_lt m2),dU (Nat.ne_of_lt m3),eq_self];exact rfl))
          |(refine ao.nil ⟨?_,?_⟩;(· first|trivial|simp[bw,aV,apart,aT]))
          |(apply Wp.bu;(· simp only[go_sem,reduceIte,Nat.reduceEqDiff,Nat.reduceAdd,bx,ax,if_true,if_false,Nat.reduceMul,Nat.reduceLeDiff,d1,hok,cg,lh,cS,kS,kT,e1,r0,r0',v0,v0',d0,d0',List.mem_cons,dU n1,dU n1.symm,dU n2,dU n2.symm,dU n3,dU n3.symm,dU (Nat.ne_of_gt m2),dU (Nat.ne_of_gt m3),dU (Nat.ne_of_lt m2),dU (Nat.ne_of_lt m3),eq_self];exact rfl);(· rfl))
          |refine Wp.skip ?_
          |refine Wp.label ?_
          |refine Wp.block ?_
          |refine Wp.exit ?_
          |refine Wp.seq ?_)
         refine ⟨(i+1,eA true b a,m,m+1,td,m+2),⟨by simp only;omega,hI',hst,by simp only;omega,by simp only;omega,by simp only;omega,by simp only;omega,by simp only;omega,by simp only;omega,by simp only;omega⟩,by simp only;omega,?_⟩
         refine aK.of (bL ?_) (OLe.put (OLe.put (OLe.put (OLe.none _) rfl (ed.refl _)) rfl (ed.refl _)) rfl (au.refl _)) af (Nat.le_refl _) af
         simp only[ba,go_sem,reduceIte,Nat.reduceEqDiff,Nat.reduceAdd,bx,eA];and_intros<;>first|exact trivial|exact ay.refl _|exact ay.any _|(refine ay.int ?_;omega)
        |false=>
         rw[hl] at hst hI'
         rw[hok] at hp
         repeat (first
          |((first|apply Wp.seqItems|apply Wp.items|((first
            |(refine ao.cx ?_ ?_ (hp _ _) (cb _ ?_) ?_;(· simp only[go_sem,reduceIte,Nat.reduceEqDiff,Nat.reduceAdd,bx]);(· simp only[go_sem,reduceIte,Nat.reduceEqDiff,Nat.reduceAdd,bx,List.map];first|exact au.refl _|(repeat (first|exact au.nil|refine au.cons xA5 ?_)));(· first|rfl|simp only[go_sem,reduceIte,Nat.reduceEqDiff]|simp[upd]))
            |(refine ao.cx ?_ ?_ (hp2 _ _) (cb _ ?_) ?_;(· simp only[go_sem,reduceIte,Nat.reduceEqDiff,Nat.reduceAdd,bx]);(· simp only[go_sem,reduceIte,Nat.reduceEqDiff,Nat.reduceAdd,bx,List.map];first|exact au.refl _|(repeat (first|exact au.nil|refine au.cons xA5 ?_)));(· first|rfl|simp only[go_sem,reduceIte,Nat.reduceEqDiff]|simp[upd]))
            |(refine ao.cx ?_ ?_ (hk2 _ _) (cb _ ?_) ?_;(· simp only[go_sem,reduceIte,Nat.reduceEqDiff,Nat.reduceAdd,bx]);(· simp only[go_sem,reduceIte,Nat.reduceEqDiff,Nat.reduceAdd,bx,List.map];first|exact au.refl _|(repeat (first|exact au.nil|refine au.cons xA5 ?_)));(· first|rfl|simp only[go_sem,reduceIte,Nat.reduceEqDiff]|simp[upd])));apply ao.eval));(· simp only[go_sem,reduceIte,Nat.reduceEqDiff,Nat.reduceAdd,bx,ax,if_true,if_false,Nat.reduceMul,Nat.reduceLeDiff,d1,hok,cg,lh,cS,kS,kT,e1,r0,r0',v0,v0',d0,d0',List.mem_cons,dU n1,dU n1.symm,dU n2,dU n2.symm,dU n3,dU n3.symm,dU (Nat.ne_of_gt m2),dU (Nat.ne_of_gt m3),dU (Nat.ne_of_lt m2),dU (Nat.ne_of_lt m3),eq_self];exact rfl))
          |(refine ao.nil ⟨?_,?_⟩;(· first|trivial|simp[bw,aV,apart,aT]))
          |(apply Wp.bu;(· simp only[go_sem,reduceIte,Nat.reduceEqDiff,Nat.reduceAdd,bx,ax,if_true,if_false,Nat.reduceMul,Nat.reduceLeDiff,d1,hok,cg,lh,cS,kS,kT,e1,r0,r0',v0,v0',d0,d0',List.mem_cons,dU n1,dU n1.symm,dU n2,dU n2.symm,dU n3,dU n3.symm,dU (Nat.ne_of_gt m2),dU (Nat.ne_of_gt m3),dU (Nat.ne_of_lt m2),dU (Nat.ne_of_lt m3),eq_self];exact rfl);(· rfl))
          |refine Wp.skip ?_
          |refine Wp.label ?_
          |refine Wp.block ?_
          |refine Wp.exit ?_
          |refine Wp.seq ?_)
         refine ⟨(i+1,eA false b a,m,tv,m+1,m+2),⟨by simp only;omega,hI',hst,by simp only;omega,by simp only;omega,by simp only;omega,by simp only;omega,by simp only;omega,by simp only;omega,by simp only;omega⟩,by simp only;omega,?_⟩
         refine aK.of (bL ?_) (OLe.put (OLe.put (OLe.put (OLe.none _) rfl (ed.refl _)) rfl (ed.refl _)) rfl (au.refl _)) af (Nat.le_refl _) af
         simp only[ba,go_sem,reduceIte,Nat.reduceEqDiff,Nat.reduceAdd,bx,eA];and_intros<;>first|exact trivial|exact ay.refl _|exact ay.any _|(refine ay.int ?_;omega)
       ·have ha:a=bB b:=by
         rw[←hL]
         by_cases hlt:i<C
         ·have hok:a.s.ok=false:=by
           cases h:a.s.ok
           ·rfl
           ·exact absurd ⟨hlt,h⟩ hc
          rw[show C - i=(C - (i+1))+1 by omega,eW,if_neg (by simp[hok])]
         ·rw[show C - i=0 by omega,eW]
        subst ha
        by_cases hlt:i<C
        ·have hok:(bB b).s.ok=false:=by
          cases h:(bB b).s.ok
          ·rfl
          ·exact absurd ⟨hlt,h⟩ hc
         have d1:decide ((0:Int)<((C - i:Nat):Int))=true:=decide_eq_true ab
         refine an0 (cj3 d1 hok @cg.eq_1) ?_
         refine aK.of (bL ?_) (OLe.put (OLe.put (OLe.put (OLe.none _) rfl (ed.refl _)) rfl (by rw[cg,hok];exact ed.refl _)) rfl (au.cons (ay.refl _) (au.cons ay.cap (au.cons ay.cap (au.cons ay.cap au.nil))))) af (Nat.le_refl _) ab
         exact xSb
        ·have d1:decide ((0:Int)<((C - i:Nat):Int))=false:=decide_eq_false ab
         refine an0 (cj2 d1 @cg.eq_1) ?_
         refine aK.of (bL ?_) (OLe.put (OLe.put (OLe.put (OLe.none _) rfl (ed.refl _)) rfl (ed.refl _)) rfl (au.cons (ay.refl _) (au.cons ay.cap (au.cons ay.cap (au.cons ay.cap au.nil))))) af (Nat.le_refl _) ab
         exact xSb
     ·have hn:=xQ hb
      have hposE:(bB b).s.pos≤b.length:=by
       have:=(Inv.start (bS b) b ab).loop (c:=val ((b.drop 1).take 2))
       exact this.pos
      have hE:∀c1 c2 c3,ay (.agg (lh (bS b) (bB b) c1 c2 c3)) (aC (cC b)):=fun c1 c2 c3=>ay.bn
      unfold lh at hE
      have hpi:= @qb b hb
      have hp:fU b=((bB b).s.ok&&decide (check (cC b)=0)&&decide (bytesOf (cC b)=b)):=by simp[fU,hb]
      unfold fF lB
      rw[hp]
      clear hacc hI0 hp
      have x1:(0:Int)≤((bB b).s.pos:Int):=by omega
      have x2:((bB b).s.pos:Int)≤(b.length:Int):=by omega
      have hblank:=qc (b.drop (bB b).s.pos) ak
      cases hok:(bB b).s.ok with
      |false=>
       refine an0 (cj5 hok @lh.eq_1 @dh.eq_1 @cS @cg.eq_1) ?_
       refine cL ?_
       exact fin
      |true=>
       have hpi:=hpi hok
       by_cases hc:check (cC b)=0
       ·have d1:decide ((check (cC b):Int)=0)=true:=by rw[hc];rfl
        have hpi:=hpi hc
        cases hbl:(b.drop (bB b).s.pos).any (fun c=>decide (c≠0)) with
        |false=>
         rw[hbl] at hblank
         have hbb:bytesOf (cC b)=b:=hpi.2 ⟨ht,by rw[jh,hbl];rfl⟩
         repeat (first
          |((first|apply Wp.seqItems|apply Wp.items|((first
            |(refine ao.cd ?_ ?_ (mT _ hn) ?_;(· simp only[go_sem,reduceIte,Nat.reduceEqDiff,Nat.reduceAdd,bx]);(· simp only[go_sem,reduceIte,Nat.reduceEqDiff,Nat.reduceAdd,bx,List.map];exact au.cons (hE _ _ _) au.nil))
            |(refine ao.cd ?_ ?_ (hblank) ?_;(· simp only[go_sem,reduceIte,Nat.reduceEqDiff,Nat.reduceAdd,bx]);(· simp only[go_sem,reduceIte,Nat.reduceEqDiff,Nat.reduceAdd,bx,List.map];first|exact au.refl _|(repeat (first|exact au.nil|refine au.cons xA5 ?_)))));apply ao.eval));(· simp only[go_sem,reduceIte,Nat.reduceEqDiff,Nat.reduceAdd,bx,ax,if_true,if_false,Nat.reduceMul,Nat.reduceLeDiff,hok,d1,x1,x2,lh,dh,cS,cg,gW,gX,List.take_length];exact rfl))
          |(refine ao.nil ⟨?_,?_⟩;(· first|trivial|simp[bw,aV,apart,aT]))
          |(apply Wp.bu;(· simp only[go_sem,reduceIte,Nat.reduceEqDiff,Nat.reduceAdd,bx,ax,if_true,if_false,Nat.reduceMul,Nat.reduceLeDiff,hok,d1,x1,x2,lh,dh,cS,cg,gW,gX,List.take_length];exact rfl);(· rfl))
          |refine Wp.skip ?_
          |refine Wp.label ?_
          |refine Wp.block ?_
          |refine Wp.exit ?_
          |refine Wp.seq ?_)
         refine cL ?_
         simp only[hc,hbb,decide_true,Bool.and_self,if_true]
         exact ay.tup (au.cons (hE _ _ _) (au.cons (ay.refl _) au.nil))
        |true=>
         rw[hbl] at hblank
         have hbb:¬bytesOf (cC b)=b:=fun h=>by
          have:=(hpi.1 h).2
          rw[jh,hbl] at this;cases this
         repeat (first
          |((first|apply Wp.seqItems|apply Wp.items|((first
            |(refine ao.cd ?_ ?_ (mT _ hn) ?_;(· simp only[go_sem,reduceIte,Nat.reduceEqDiff,Nat.reduceAdd,bx]);(· simp only[go_sem,reduceIte,Nat.reduceEqDiff,Nat.reduceAdd,bx,List.map];exact au.cons (hE _ _ _) au.nil))
            |(refine ao.cd ?_ ?_ (hblank) ?_;(· simp only[go_sem,reduceIte,Nat.reduceEqDiff,Nat.reduceAdd,bx]);(· simp only[go_sem,reduceIte,Nat.reduceEqDiff,Nat.reduceAdd,bx,List.map];first|exact au.refl _|(repeat (first|exact au.nil|refine au.cons xA5 ?_)))));apply ao.eval));(· simp only[go_sem,reduceIte,Nat.reduceEqDiff,Nat.reduceAdd,bx,ax,if_true,if_false,Nat.reduceMul,Nat.reduceLeDiff,hok,d1,x1,x2,lh,dh,cS,cg,gW,gX,List.take_length];exact rfl))
          |(refine ao.nil ⟨?_,?_⟩;(· first|trivial|simp[bw,aV,apart,aT]))
          |(apply Wp.bu;(· simp only[go_sem,reduceIte,Nat.reduceEqDiff,Nat.reduceAdd,bx,ax,if_true,if_false,Nat.reduceMul,Nat.reduceLeDiff,hok,d1,x1,x2,lh,dh,cS,cg,gW,gX,List.take_length];exact rfl);(· rfl))
          |refine Wp.skip ?_
          |refine Wp.label ?_
          |refine Wp.block ?_
          |refine Wp.exit ?_
          |refine Wp.seq ?_)
         refine cL ?_
         simp only[hc,hbb,decide_true,decide_false,Bool.and_false,Bool.false_eq_true,if_false]
         exact fin
       ·have d1:decide ((check (cC b):Int)=0)=false:=decide_eq_false ab
        repeat (first
         |((first|apply Wp.seqItems|apply Wp.items|((first
           |(refine ao.cd ?_ ?_ (mT _ hn) ?_;(· simp only[go_sem,reduceIte,Nat.reduceEqDiff,Nat.reduceAdd,bx]);(· simp only[go_sem,reduceIte,Nat.reduceEqDiff,Nat.reduceAdd,bx,List.map];exact au.cons (hE _ _ _) au.nil)));apply ao.eval));(· simp only[go_sem,reduceIte,Nat.reduceEqDiff,Nat.reduceAdd,bx,ax,if_true,if_false,Nat.reduceMul,Nat.reduceLeDiff,hok,d1,lh,dh,cS,cg];exact rfl))
         |(refine ao.nil ⟨?_,?_⟩;(· first|trivial|simp[bw,aV,apart,aT]))
         |(apply Wp.bu;(· simp only[go_sem,reduceIte,Nat.reduceEqDiff,Nat.reduceAdd,bx,ax,if_true,if_false,Nat.reduceMul,Nat.reduceLeDiff,hok,d1,lh,dh,cS,cg];exact rfl);(· rfl))
         |refine Wp.skip ?_
         |refine Wp.label ?_
         |refine Wp.block ?_
         |refine Wp.exit ?_
         |refine Wp.seq ?_)
        refine cL ?_
        simp only[hc,decide_false,Bool.and_false,Bool.false_and,Bool.false_eq_true,if_false]
        exact fin
  ·have hcond:(!bS b&& !decide (b.getD 0 0=73))=true:=by
    unfold qa at ht;unfold bS
    cases h1:decide (b.getD 0 0=76)<;>cases h2:decide (b.getD 0 0=73)<;>simp_all
   have hl:bS b=false:=by cases h:bS b<;>simp_all
   have h73:decide (b.getD 0 0=73)=false:=by simpa [hl] using hcond
   have hp:fU b=false:=by
    cases h:fU b
    ·rfl
    ·exfalso
     simp only[fU,Bool.and_eq_true,decide_eq_true_eq] at h
     exact ht ((qb hb h.1.1.2 h.1.2).1 h.2).1
   refine an0 (sH d0 x0 y0 z0 b0 @byte.eq_1 @kR @m4 hl h73 @cS) ?_
   refine cL ?_
   simp only[fF,lB,hp,Bool.false_eq_true,if_false]
   exact fin
 ·have d0:decide ((b.length:Int)=1024)=false:=decide_eq_false ab
  have hp:fU b=false:=by simp[fU,hb]
  refine an0 (cj2 d0 @cS) ?_
  refine cL ?_
  simp only[fF,lB,hp,Bool.false_eq_true,if_false]
  exact fin
theorem B0:∀(w v:Nat),v<256^w→val (be w v)=v
 |0,v,h=>by simp at h;subst h;rfl
 |w+1,v,h=>by
  have hp:0<256^w:=Nat.pow_pos ab
  have e:be w v=be w (v%256^w):=by
   conv=>lhs;rw[←Nat.div_add_mod v (256^w),Nat.mul_comm]
   exact wB w _ _
  rw[be,uy,cm,e,B0 w _ (Nat.mod_lt _ hp)]
  have hq:v/256^w<256:=by
   rw[Nat.div_lt_iff_lt_mul hp]
   rw[Nat.pow_succ,Nat.mul_comm] at h
   exact h
  generalize hQ:v/256^w=Q at*
  have:(UInt8.ofNat Q).toNat=Q:=by simp only[UInt8.toNat_ofNat'];omega
  rw[this,Nat.mul_comm,←hQ]
  exact Nat.div_add_mod v (256^w)
theorem pc {b P R:List UInt8} {w v:Nat} (hb:b=P++(be w v++R)) (hv:v<256^w):dz b ⟨P.length,true⟩ w=(v,⟨P.length+w,true⟩):=by
 have hl:b.length=P.length+(w+R.length):=by rw[hb];simp[cm]
 have e:(b.drop P.length).take w=be w v:=by
  rw[hb,List.drop_left]
  rw[List.take_append_of_le_length (by rw[cm];exact Nat.le_refl _)]
  exact List.take_of_length_le (by rw[cm];exact Nat.le_refl _)
 rw[dz,if_pos ak]
 simp only[e,B0 w v hv]
theorem nT {b P R s:List UInt8} {w:Nat} (hb:b=P++(be w s.length++(s++R))) (hv:s.length<256^w):bJ b ⟨P.length,true⟩ w=(s,⟨P.length+w+s.length,true⟩):=by
 have hn:=pc hb hv
 have hl:b.length=P.length+(w+(s.length+R.length)):=by rw[hb];simp[cm]
 unfold bJ
 rw[hn]
 simp only
 rw[if_pos ak]
 have e:(b.drop (P.length+w)).take s.length=s:=by
  have:b=(P++be w s.length)++(s++R):=by rw[hb];simp
  rw[this]
  have hl2:P.length+w=(P++be w s.length).length:=by simp[cm]
  rw[hl2,List.drop_left,List.take_left]
 rw[e]
theorem uz (n:Node) (i:Nat):∀d,∃S,rows n (i+d)=rows n i++S
 |0=>⟨[],by simp⟩
 |d+1=>by
  obtain ⟨S,h⟩:=uz n i d
  exact ⟨S++row n (i+d),by rw[←Nat.add_assoc,rows,h,List.append_assoc]⟩
def ji (n:Node) (i:Nat):Acc:=⟨n.keys.take i,if n.leaf then n.vals.take i else [],if n.leaf then [] else n.kids.take (i+1),⟨(head n++rows n i).length,true⟩⟩
theorem DT {n:Node} {b Z:List UInt8} (hr:right n=true) (hb:b=text n++Z) {i:Nat} (hi:i<n.keys.length):eA n.leaf b (ji n i)=ji n (i+1):=by
 have hR:=fu hr
 obtain ⟨S,hS⟩:=uz n (i+1) (n.keys.length - (i+1))
 rw[show i+1+(n.keys.length - (i+1))=n.keys.length by omega,rows] at hS
 have hk:=hR.keys i hi
 have hkl:(n.keys.getD i []).length<256^1:=by omega
 cases hl:n.leaf with
 |true=>
  have hv:=hR.val hl i hi
  have hvl:(n.vals.getD i []).length<256^2:=by omega
  have hvi:i<n.vals.length:=by rw[hR.vals hl];exact hi
  have e1:b=(head n++rows n i)++(be 1 (n.keys.getD i []).length++(n.keys.getD i []++((be 2 (n.vals.getD i []).length++n.vals.getD i [])++S++Z))):=by
   rw[hb,text,hS,row,hl];simp only[if_true,List.append_assoc]
  have p1:=nT e1 hkl
  have e2:b=((head n++rows n i)++be 1 (n.keys.getD i []).length++n.keys.getD i [])++(be 2 (n.vals.getD i []).length++(n.vals.getD i []++(S++Z))):=by
   rw[e1];simp only[List.append_assoc]
  have p2:=nT e2 hvl
  have hlen:((head n++rows n i)++be 1 (n.keys.getD i []).length++n.keys.getD i []).length=(head n++rows n i).length+1+(n.keys.getD i []).length:=by simp only[List.length_append,cm]
  rw[hlen] at p2
  simp only[eA,ji,hl,if_true,p1,p2]
  rw[List.take_succ_eq_append_getElem hi,List.take_succ_eq_append_getElem hvi,bD hi,bD hvi]
  congr 2
  rw[rows,row,hl]
  simp only[if_true,List.length_append,cm,bD hi,bD hvi]
  omega
 |false=>
  have hv:=hR.kid hl (i+1) ab
  have hvl:(n.kids.getD (i+1) 0).toNat<256^4:=by omega
  have hvi:i+1<n.kids.length:=by rw[hR.kids hl];omega
  have e1:b=(head n++rows n i)++(be 1 (n.keys.getD i []).length++(n.keys.getD i []++(be 4 (n.kids.getD (i+1) 0).toNat++S++Z))):=by
   rw[hb,text,hS,row,hl];simp only[Bool.false_eq_true,if_false,List.append_assoc]
  have p1:=nT e1 hkl
  have e2:b=((head n++rows n i)++be 1 (n.keys.getD i []).length++n.keys.getD i [])++(be 4 (n.kids.getD (i+1) 0).toNat++(S++Z)):=by
   rw[e1];simp only[List.append_assoc]
  have p2:=pc e2 hvl
  have hlen:((head n++rows n i)++be 1 (n.keys.getD i []).length++n.keys.getD i []).length=(head n++rows n i).length+1+(n.keys.getD i []).length:=by simp only[List.length_append,cm]
  rw[hlen] at p2
  simp only[eA,ji,hl,Bool.false_eq_true,if_false,p1,p2]
  rw[List.take_succ_eq_append_getElem hi,List.take_succ_eq_append_getElem hvi,bD hi,bD hvi]
  have hc:((n.kids[i+1].toNat:Nat):Int)=n.kids[i+1]:=by rw[bD hvi] at hv;omega
  rw[hc]
  congr 2
  rw[rows,row,hl]
  simp only[Bool.false_eq_true,if_false,List.length_append,cm,bD hi]
  omega
theorem xR {n:Node} {b Z:List UInt8} (hr:right n=true) (hb:b=text n++Z):∀(c i:Nat),i+c≤n.keys.length→eW n.leaf b c (ji n i)=ji n (i+c)
 |0,i,_=>rfl
 |c+1,i,h=>by
  rw[eW,if_pos (show (ji n i).s.ok=true from rfl),DT hr hb ab,xR hr hb c (i+1) ab,Nat.add_assoc,Nat.add_comm 1 c]
theorem DU {n:Node} {b Z:List UInt8} (hr:right n=true) (hs:size n≤1024) (hb:b=text n++Z):cC b=n∧(bB b).s.ok=true:=by
 have hR:=fu hr
 have hkl:n.keys.length<256^2:=by unfold size at hs;split at hs<;>omega
 have hlf:bS b=n.leaf:=by
  unfold bS
  rw[hb,text,head]
  cases n.leaf<;>rfl
 have e1:b=[b.getD 0 0]++(be 2 n.keys.length++((if n.leaf then [] else be 4 (n.kids.getD 0 0).toNat)++rows n n.keys.length++Z)):=by
  have:b=(if n.leaf then [76] else [73])++(be 2 n.keys.length++((if n.leaf then [] else be 4 (n.kids.getD 0 0).toNat)++rows n n.keys.length++Z)):=by
   rw[hb,text,head];simp only[List.append_assoc]
  rw[this]
  cases n.leaf<;>rfl
 have hcount:val ((b.drop 1).take 2)=n.keys.length:=by
  have:=pc e1 hkl
  rw[dz,if_pos (by rw[e1];simp[cm])] at this
  exact (Prod.mk.inj this).1
 have hstart:dK n.leaf b=ji n 0:=by
  cases hl:n.leaf with
  |true=>
   simp only[dK,ji,hl,if_true,rows,List.append_nil,iG,List.take_zero]
  |false=>
   have hv:=hR.kid hl 0 ab
   have hvl:(n.kids.getD 0 0).toNat<256^4:=by omega
   have hvi:0<n.kids.length:=by rw[hR.kids hl];omega
   have e2:b=([b.getD 0 0]++be 2 n.keys.length)++(be 4 (n.kids.getD 0 0).toNat++(rows n n.keys.length++Z)):=by
    conv=>lhs;rw[e1]
    rw[hl];simp only[Bool.false_eq_true,if_false,List.append_assoc]
   have p:=pc e2 hvl
   have h3:([b.getD 0 0]++be 2 n.keys.length).length=3:=by simp[cm]
   rw[h3] at p
   simp only[dK,ji,hl,Bool.false_eq_true,if_false,p,rows,List.append_nil,iG,List.take_zero]
   rw[List.take_succ_eq_append_getElem hvi,bD hvi]
   have hc:((n.kids[0].toNat:Nat):Int)=n.kids[0]:=by rw[bD hvi] at hv;omega
   rw[hc]
   rfl
 have hacc:bB b=ji n n.keys.length:=by
  unfold bB
  rw[hlf,hcount,hstart,xR hr hb _ _ ab,Nat.zero_add]
 refine ⟨?_,by rw[hacc];rfl⟩
 unfold cC
 rw[hacc,hlf]
 cases hl:n.leaf with
 |true=>
  obtain ⟨-,r2,r3,-⟩:=(bA hl).1 hr
  simp only[ji,hl,if_true,List.take_length]
  rw[←r2,List.take_length]
  cases n;simp only at hl r3 ⊢;subst hl r3;rfl
 |false=>
  obtain ⟨-,r2,r3,-⟩:=(cO hl).1 hr
  simp only[ji,hl,Bool.false_eq_true,if_false,List.take_length]
  rw[←r3,List.take_length]
  cases n;simp only at hl r2 ⊢;subst hl r2;rfl
theorem fG {n:Node} (hc:check n=0):(bytesOf n).length=1024:=by
 obtain ⟨hr,hs⟩:=gT hc
 have:=kx n (fu hr).vals
 simp only[bytesOf,List.length_append,List.length_replicate]
 omega
theorem zU {n:Node} (hc:check n=0):fU (bytesOf n)=true∧cC (bytesOf n)=n:=by
 obtain ⟨hr,hs⟩:=gT hc
 obtain ⟨h1,h2⟩:=DU (b:=bytesOf n) (Z:=List.replicate (1024 - size n) 0) hr hs rfl
 refine ⟨?_,h1⟩
 unfold fU
 rw[h1,h2,fG hc,hc]
 simp
end Go.Proofs.YtbgmofhgfnmaiaaGreat.Page
end
section
namespace Go.Av
open Classical in
section
variable {P:Program} {N:Nat} {G:aL} {w:World} {h:H}
theorem bc.EI {f:FuncId} {q args:List AV} {r:AV} (hc:bc P f args r) (hs:au (gP h (fun _=>true) q) args) (hr:∀G G' w v,aw G w r v→aw G' w r v):aI P f q h r h:=by
 intro G w vs hv R F
 have hv':aD (G.frz h fun _=>true) w args vs:=hs _ _ _ (gQ R _ q vs hv)
 refine (hc 0 0 _ w vs hv' gL ⟨fun j h1 h2=>by simp only[H0,H.only] at h1 h2;omega,fun j h1 h2=>by simp only[H0,H.only] at h1 h2;omega⟩).mono ?_
 rintro e w' ⟨v,G',rfl,T,R',V⟩
 have hDO:∀B,¬h.O G B→¬h.DO G (fun _=>true) B:=fun B h1 h2=>h1 (DB h2)
 have hT:∀{G:aL} B,¬(H0 0 0).T G B:=fun B ⟨t,ht,_⟩=>by simp[H0,H.only] at ht
 let G3:aL:={own:=fun B=>h.O G B∨G'.own B,lim:=fun B=>if h.O G B then G.lim B else G'.lim B,dom:=G.dom,ι:=G.ι,tdom:=G.tdom,τ:=G.τ}
 have hkeep:∀B,B<w.heap.size→w'.heap[B]? =w.heap[B]? :=fun B hB=>T.keep B hB (eY B) (hT B)
 have hown:∀B,B<w.heap.size→¬h.O G B→(G'.own B↔G.own B):=fun B hB h1=>by
  have e1:=T.own_keep B hB (eY B)
  simp only[e1,aL.frz,hDO B h1,not_false_eq_true,and_true]
 have hlim:∀B,B<w.heap.size→¬h.O G B→G'.lim B=G.lim B:=fun B hB h1=>by
  have e1:=T.lim_keep B hB (eY B) (hT B)
  simp only[e1,aL.frz,hDO B h1,if_false]
 have T3:Trans G w h G3 w' h:=by
  constructor
  ·exact fun _ x=>x
  ·exact fun _=> .inl
  ·exact fun _ _=>rfl
  ·exact fun _ x=>x
  ·exact fun _=> .inl
  ·exact fun _ _=>rfl
  ·exact Nat.le_refl _
  ·exact Nat.le_refl _
  ·exact T.size_le
  ·exact T.os
  ·exact T.output
  ·exact T.form
  ·exact fun B hB _ _=>hkeep B hB
  ·intro B hB h1
   simp only[G3,h1,false_or]
   exact hown B hB h1
  ·intro B hB h1 _
   simp only[G3,h1,if_false]
   exact hlim B hB h1
  ·intro B hB h1 h2 e he
   refine ⟨fun j _=>?_,fun e' he'=>?_⟩
   ·have:=hkeep B hB
    unfold World.cell?
    simp only[this]
   ·simp only[G3,h2,if_false,hlim B hB h2] at he'
    rw[he] at he';cases he';exact Nat.le_refl _
  ·exact fun B _ x=>x
  ·exact fun B _ x=>x
  ·exact fun j o x=> .inl ⟨o,x⟩
  ·exact fun t x=> .inl x
 refine ⟨v,G3,rfl,T3,⟨fun j o hj=>?_,fun i j o o' a b e=>R.inj _ _ _ _ a b e,fun t ht=>?_,R.tinj⟩,hr G' G3 w' v V⟩
 ·obtain ⟨p1,p2,p3,p4⟩:=R.obj j o hj
  refine ⟨p1,.inl ⟨j,o,hj,rfl⟩,Nat.lt_of_lt_of_le p3 T.size_le,?_⟩
  show iS G3 w' o w'.heap[G.ι j]?
  rw[hkeep _ p3]
  exact p4.mono R T3
 ·refine ⟨(R.tok t ht).1,fun B e he=>?_⟩
  obtain ⟨b1,b2,b3⟩:=(R.tok t ht).2 B e he
  have hO:¬h.O G B:=fun ⟨j,o,x1,x2⟩=>b2 (by rw[←x2];exact (R.obj j o x1).2.1)
  refine ⟨?_,?_,Nat.lt_of_lt_of_le b3 T.size_le⟩
  ·simp only[G3,hO,if_false];rw[hlim B b3 hO];exact b1
  ·simp only[G3,hO,false_or];exact fun x=>b2 ((hown B b3 hO).1 x)
theorem Wp.ex {β:Type} {x:AC} {s0:St} (sb:β→St) (I:β→Prop) {K:St→Prop} {Q:aQ→St→Prop} (h1:Wp P N x s0 (aQ.andThen (fun s'=>∃b,I b∧aK s' (sb b)) Q)) (h2:∀b s',I b→aK s' (sb b)→K s'):Wp P N x s0 (aQ.andThen K Q):=
 h1.mono fun e s' q=>by
  cases e with
  |normal=>obtain ⟨b,q1,q2⟩:=q;exact h2 b s' q1 q2
  |_=>exact q
end
end Go.Av
end
section
open Go Go.Lib Go.RowKit
namespace Go.Proofs.YtbgmofhgfnmaiaaGreat.Page
def cX:Go.Shelf.Ren:=⟨fun|22=>88|29=>120|30=>121|36=>149|17=>161|n=>n,fun|24=>83|9=>9|3=>3|4=>4|0=>0|n=>n,fun|n=>n⟩
theorem qd:Lays2.n22 Tryz.prog cX where
 mixed:=by kernel_rfl
 f17:=Tryz.func161.trans (congrArg some (by kernel_rfl))
 f22:=Tryz.func88.trans (congrArg some (by kernel_rfl))
 f29:=Tryz.func120.trans (congrArg some (by kernel_rfl))
 f30:=Tryz.func121.trans (congrArg some (by kernel_rfl))
 f36:=Tryz.func149.trans (congrArg some (by kernel_rfl))
 t0:=Tryz.underlying0
 a0:=Tryz.isAgg0
 z0:=Tryz.sizeOf0
 v0:=Tryz.zeroValue0
 t3:=Tryz.underlying3
 a3:=Tryz.isAgg3
 z3:=Tryz.sizeOf3
 v3:=Tryz.zeroValue3
 t4:=Tryz.underlying4
 a4:=Tryz.isAgg4
 z4:=Tryz.sizeOf4
 v4:=Tryz.zeroValue4
 t9:=Tryz.underlying9
 a9:=Tryz.isAgg9
 z9:=Tryz.sizeOf9
 v9:=Tryz.zeroValue9
 t24:=Tryz.underlying83
 a24:=Tryz.isAgg83
 z24:=Tryz.sizeOf83
 v24:=Tryz.zeroValue83
 i9:=by kernel_rfl
def wD:Go.Shelf.Ren:=⟨fun|24=>80|n=>n,fun|24=>83|9=>9|3=>3|4=>4|0=>0|n=>n,fun|n=>n⟩
theorem Fh:Lays2.n24 Tryz.prog wD where
 mixed:=by kernel_rfl
 f24:=Tryz.func80.trans (congrArg some (by kernel_rfl))
 t0:=Tryz.underlying0
 a0:=Tryz.isAgg0
 z0:=Tryz.sizeOf0
 v0:=Tryz.zeroValue0
 t3:=Tryz.underlying3
 a3:=Tryz.isAgg3
 z3:=Tryz.sizeOf3
 v3:=Tryz.zeroValue3
 t4:=Tryz.underlying4
 a4:=Tryz.isAgg4
 z4:=Tryz.sizeOf4
 v4:=Tryz.zeroValue4
 t9:=Tryz.underlying9
 a9:=Tryz.isAgg9
 z9:=Tryz.sizeOf9
 v9:=Tryz.zeroValue9
 t24:=Tryz.underlying83
 a24:=Tryz.isAgg83
 z24:=Tryz.sizeOf83
 v24:=Tryz.zeroValue83
 i9:=by kernel_rfl
end Go.Proofs.YtbgmofhgfnmaiaaGreat.Page
end
section
open Go Go.Lib Go.RowKit
namespace Go.Proofs.YtbgmofhgfnmaiaaGreat.Page
def fo:Go.Shelf.Ren:=⟨fun|21=>89|27=>122|28=>123|35=>150|39=>162|n=>n,fun|22=>61|3=>3|4=>4|0=>0|n=>n,fun|n=>n⟩
theorem sU:Lays2.n21 Tryz.prog fo where
 mixed:=by kernel_rfl
 f21:=Tryz.func89.trans (congrArg some (by kernel_rfl))
 f27:=Tryz.func122.trans (congrArg some (by kernel_rfl))
 f28:=Tryz.func123.trans (congrArg some (by kernel_rfl))
 f35:=Tryz.func150.trans (congrArg some (by kernel_rfl))
 f39:=Tryz.func162.trans (congrArg some (by kernel_rfl))
 t0:=Tryz.underlying0
 a0:=Tryz.isAgg0
 z0:=Tryz.sizeOf0
 v0:=Tryz.zeroValue0
 t3:=Tryz.underlying3
 a3:=Tryz.isAgg3
 z3:=Tryz.sizeOf3
 v3:=Tryz.zeroValue3
 t4:=Tryz.underlying4
 a4:=Tryz.isAgg4
 z4:=Tryz.sizeOf4
 v4:=Tryz.zeroValue4
 t22:=Tryz.underlying61
 a22:=Tryz.isAgg61
 z22:=Tryz.sizeOf61
 v22:=Tryz.zeroValue61
 i3:=by kernel_rfl
def wE:Go.Shelf.Ren:=⟨fun|23=>79|n=>n,fun|22=>61|3=>3|4=>4|0=>0|n=>n,fun|n=>n⟩
theorem Fi:Lays2.n23 Tryz.prog wE where
 mixed:=by kernel_rfl
 f23:=Tryz.func79.trans (congrArg some (by kernel_rfl))
 t0:=Tryz.underlying0
 a0:=Tryz.isAgg0
 z0:=Tryz.sizeOf0
 v0:=Tryz.zeroValue0
 t3:=Tryz.underlying3
 a3:=Tryz.isAgg3
 z3:=Tryz.sizeOf3
 v3:=Tryz.zeroValue3
 t4:=Tryz.underlying4
 a4:=Tryz.isAgg4
 z4:=Tryz.sizeOf4
 v4:=Tryz.zeroValue4
 t22:=Tryz.underlying61
 a22:=Tryz.isAgg61
 z22:=Tryz.sizeOf61
 v22:=Tryz.zeroValue61
 i3:=by kernel_rfl
end Go.Proofs.YtbgmofhgfnmaiaaGreat.Page
end
section
set_option maxRecDepth 10000
namespace Go.Proofs.YtbgmofhgfnmaiaaGreat.Page
open Go Go.Av Go.Proofs Go.Proofs.YtbgmofhgfnmaiaaGreat.C
def sv (l:List (List UInt8)):List Value:=l.map fun s=> .string ⟨s.toArray⟩
theorem gH (l:List (List UInt8)):(sv l).length=l.length:=by simp[sv]
theorem B1 {G:aL} {w:World}:∀{l:List (List UInt8)} {vs:List Value},aD G w (strs l) vs→vs=sv l
 |[],vs,h=>by simpa [strs,aD,sv] using h
 |s::l,vs,h=>by
  simp only[strs,List.map_cons,aD,aw] at h
  obtain ⟨v,us,rfl,rfl,h⟩:=h
  rw[B1 (l:=l) h]
  rfl
theorem m8 (l:List (List UInt8)) (G:aL) (w:World):aF G w 1 (strs l) (sv l):=by
 induction l with
 |nil=>simp[strs,sv,aF]
 |cons s l ih=>
  simp only[strs,sv,List.map_cons,aF]
  exact ⟨.string ⟨s.toArray⟩,sv l,rfl,rfl,by simp[aw],ih⟩
theorem sV {l:List (List UInt8)} {v:Value} (h:v∈sv l):One v:=by
 obtain ⟨s,_,rfl⟩:=List.mem_map.1 h
 exact ⟨(fun _ e=>by cases e),(fun _ e=>by cases e)⟩
theorem xS {l:List (List UInt8)} {v:Value} (h:v∈sv l):v.oneCell'=true:=by
 obtain ⟨s,_,rfl⟩:=List.mem_map.1 h
 rfl
theorem cell_of {w:World} {B:Nat} {T:TypeId} {fr:Nat × Nat} {L R:List Value} (hg:w.heap[B]? =some (.cells (L++R).toArray T fr)) (j:Nat) (v:Value) (h:L[j]? =some v):w.cell? ⟨B,0+j,none⟩=some v:=by
 have hj:=(List.getElem?_eq_some_iff.1 h).1
 unfold World.cell?
 simp only[hg,Nat.zero_add]
 simpa [List.getElem?_append_left hj] using h
theorem kW (l:List (List UInt8)) (i:Nat) (x:List UInt8):sv (l.take i++x::l.drop i)=(sv l).take i++ .string ⟨x.toArray⟩::(sv l).drop i:=by simp[sv]
theorem xU {A R:List Value} {X:Value} {n:Nat} (hn:A.length=n):(A++R).take (0+n)++[X]++(A++R).drop (0+n+1)=A.take n++X::A.drop n++R.drop 1:=by
 subst hn
 rw[Nat.zero_add,List.take_left,List.take_length,List.drop_length,List.drop_append,List.drop_eq_nil_of_le ab]
 simp
theorem xV {A R:List Value} {X:Value} {n i:Nat} (hn:A.length=n) (hi:i<n):
  ((A++R).take (0+(i+1))++A.drop i++(A++R).drop (0+(i+1)+(A.drop i).length)).take (0+i)++[X]++((A++R).take (0+(i+1))++A.drop i++(A++R).drop (0+(i+1)+(A.drop i).length)).drop (0+i+1)=A.take i++X::A.drop i++(A++R).drop (n+1):=by
 subst hn
 have e2:((A++R).take (i+1)).length=i+1:=by simp;omega
 have e1:((A++R).take (i+1)).take i=A.take i:=by
  rw[List.take_take,Nat.min_eq_left ab,List.take_append_of_le_length ab]
 have e3:i+1+(A.drop i).length=A.length+1:=by simp;omega
 rw[Nat.zero_add,Nat.zero_add,e3]
 have c1:((A++R).take (i+1)++A.drop i++(A++R).drop (A.length+1)).take i=A.take i:=by
  rw[List.append_assoc,List.take_append_of_le_length ab,e1]
 have c2:((A++R).take (i+1)++A.drop i++(A++R).drop (A.length+1)).drop (i+1)=A.drop i++(A++R).drop (A.length+1):=by
  rw[List.append_assoc,List.drop_append,e2,List.drop_eq_nil_of_le ab,Nat.sub_self,List.drop_zero,List.nil_append]
 rw[c1,c2]
 simp
theorem uA {A Z:List Value} {X:Value} {n i:Nat} (hn:A.length=n) (hi:i<n):
  ((A.take i++Z).take i++[X]++(A.take i++Z).drop (i+1)).take (i+1)++A.drop i++((A.take i++Z).take i++[X]++(A.take i++Z).drop (i+1)).drop (i+1+(A.drop i).length)=A.take i++X::A.drop i++((A.take i++Z).take i++[X]++(A.take i++Z).drop (i+1)).drop (i+1+(A.drop i).length):=by
 subst hn
 have e2:(A.take i).length=i:=by simp;omega
 have e1:(A.take i++Z).take i=A.take i:=by
  rw[List.take_append_of_le_length ab,List.take_take,Nat.min_self]
 have e4:((A.take i++Z).take i++[X]++(A.take i++Z).drop (i+1)).take (i+1)=A.take i++[X]:=by
  rw[e1,List.take_append_of_le_length ak,List.take_of_length_le ak]
 rw[e4]
 simp
theorem uB (l:List (List UInt8)) (i:Nat) (x:List UInt8) (hi:i≤l.length) (hl:l.length<1099511627776) (h0:0<l.length) {id id2:Nat} (hne:id≠id2) {h:H} (ho:h.objs id=some (.cells (strs l))) (ho2:h.objs id2=some (.cells [.str x])) (htk:h.toks=[]):
  aI Tryz.prog 88 [.tsl 1 id 0 l.length none,.int .i64 i,.tsl 1 id2 0 1 none] h (.sl 1 (strs (l.take i++x::l.drop i)) .any) (h.less id):=by
 intro G w vs hv R F
 simp only[aD,aw] at hv
 obtain ⟨v1,_,rfl,⟨hd1,hv1⟩,v2,_,rfl,rfl,v3,_,rfl,⟨hd2,hv3⟩,rfl⟩:=hv
 obtain ⟨C,c,T,fr,rfl,⟨hnC,hc63⟩,-,hg,hroom⟩|⟨hz,-⟩:=hv1
 rotate_left
 ·omega
 obtain ⟨C2,c2,T2,fr2,rfl,⟨hnC2,-⟩,-,hg2,hroom2⟩|⟨hz,-⟩:=hv3
 rotate_left
 ·omega
 obtain ⟨-,hown,hB,us,rest,T',fr',hg',hvs,hfr,-⟩:=R.obj id _ ho
 obtain ⟨-,hown2,hB2,us2,rest2,T2',fr2',hg2',hvs2,hfr2,-⟩:=R.obj id2 _ ho2
 have hus:=B1 hvs
 subst hus
 have hus2:us2=[.string ⟨x.toArray⟩]:=by
  simp only[aD,aw] at hvs2
  obtain ⟨v,_,rfl,rfl,rfl⟩:=hvs2
  rfl
 subst hus2
 have hbb:G.ι id2≠G.ι id:=fun e=>hne (R.inj _ _ _ _ ho ho2 e.symm)
 rw[hg] at hg'
 obtain ⟨rfl,rfl,rfl⟩:c=(sv l++rest).toArray∧T=T'∧fr=fr':=by simpa using hg'
 rw[hg2] at hg2'
 obtain ⟨rfl,rfl,rfl⟩:c2=([Value.string ⟨x.toArray⟩]++rest2).toArray∧T2=T2'∧fr2=fr2':=by simpa using hg2'
 have hsl:=gH l
 have hrl:C≤l.length+rest.length:=by simpa [hsl] using hroom
 have hcs:∀(j:Nat) v,(sv l)[j]? =some v→w.cell? ⟨G.ι id,0+j,none⟩=some v:=fun j v=>cell_of hg j v
 have hvs':∀(j:Nat) v,([Value.string ⟨x.toArray⟩]:List Value)[j]? =some v→w.cell? ⟨G.ι id2,0+j,none⟩=some v:=fun j v=>cell_of hg2 j v
 have h1v:∀v∈([Value.string ⟨x.toArray⟩]:List Value),v.oneCell'=true:=by simp[Value.oneCell']
 have hsome:∀j,j<C→(w.cell? ⟨G.ι id,0+j,none⟩).isSome=true:=fun j hj=>by
  unfold World.cell?;simp only[hg];simp[hsl];omega
 have hfz:∀j,w.frozen? ⟨G.ι id,j,none⟩=false:=fun j=>by
  unfold World.frozen?;simp only[hg]
  have:=hfr
  simp;omega
 have hfz2:∀j,w.frozen? ⟨G.ι id2,j,none⟩=false:=fun j=>by
  unfold World.frozen?;simp only[hg2]
  have:=hfr2
  simp;omega
 have hout:(strs (l.take i++x::l.drop i)).length=l.length+1:=by simp[strs];omega
 have hso:(sv (l.take i++x::l.drop i)).length=l.length+1:=by rw[gH];simp;omega
 have newb:∀(w':World) (L2:List Value) (T0:TypeId) (C0:Nat),l.length+1≤C0→w'.heap[w.heap.size]? =some (.cells (sv (l.take i++x::l.drop i)++L2).toArray T0 (0,0))→w.heap.size≤w'.heap.size→w'.os=w.os→w'.output=w.output→(∀b,b<w.heap.size→w'.heap[b]? =w.heap[b]?)→
   ∃v G',Ending.returned (.slice (some ⟨w.heap.size,0,none⟩) (l.length+1) C0)= .returned v∧Trans G w h G' w' (h.less id)∧aX G' (h.less id) w'∧aw G' w' (.sl 1 (strs (l.take i++x::l.drop i)) .any) v:=by
  intro w' L2 T0 C0 q1 q2 q3 q4 q5 q6
  obtain ⟨G',T1,R1,V⟩:=jM (B:=w.heap.size) (off:=0) (C:=C0) (w':=w') R ho htk q3 q4 q5 (fun b hb _=>q6 b hb) (by rw[q6 _ hB];exact bX.refl _) (.inr (Nat.le_refl _)) (by rw[hout];exact q1) (by rw[hso,hout]) (m8 _) (fun v hv=>sV hv) (cell_of q2)
  exact ⟨_,G',rfl,T1,R1,by rw[hout] at V;exact V⟩
 have inpl:∀(w':World) (L2:List Value),w'.heap[G.ι id]? =some (.cells (sv (l.take i++x::l.drop i)++L2).toArray T fr)→(sv (l.take i++x::l.drop i)++L2).length=(sv l++rest).length→w'.heap.size=w.heap.size→w'.os=w.os→w'.output=w.output→(∀b,b≠G.ι id→w'.heap[b]? =w.heap[b]?)→l.length+1≤C→
   ∃v G',Ending.returned (.slice (some ⟨G.ι id,0,none⟩) (l.length+1) C)= .returned v∧Trans G w h G' w' (h.less id)∧aX G' (h.less id) w'∧aw G' w' (.sl 1 (strs (l.take i++x::l.drop i)) .any) v:=by
  intro w' L2 q1 q2 q3 q4 q5 q6 q7
  obtain ⟨G',T1,R1,V⟩:=jM (B:=G.ι id) (off:=0) (C:=C) (w':=w') R ho htk (Nat.le_of_eq q3.symm) q4 q5 (fun b _ hb=>q6 b hb) (by rw[hg,q1];exact ⟨_,_,rfl,by simpa using q2,fun _ _ h=>h⟩) (.inl rfl) (by rw[hout];exact q7) (by rw[hso,hout]) (m8 _) (fun v hv=>sV hv) (cell_of q1)
  exact ⟨_,G',rfl,T1,R1,by rw[hout] at V;exact V⟩
 by_cases hfit:l.length+1≤C
 ·by_cases hie:i=l.length
  ·subst hie
   refine (Any2.slices_Insert_string_end_room qd (G.ι id) 0 l.length C (G.ι id2) 0 1 C2 [.string ⟨x.toArray⟩] w ab hfit hc63 rfl (fun j hj=>by have:=hsome (l.length+j) ab;rwa [←Nat.add_assoc] at this) (fun j hj=>hfz _) hvs' h1v).mono ?_
   rintro e w' ⟨rfl,rfl⟩
   obtain ⟨a1,a2,a3,a4,a5⟩:=bM (G.ι id) T fr [.string ⟨x.toArray⟩] (0+l.length) (sv l++rest) w hg (by simp[hsl];omega)
   refine inpl _ (rest.drop 1) ?_ ?_ a3 a4 a5 a2 hfit
   ·rw[a1,kW,List.length_singleton,xU hsl]
   ·rw[List.length_append,List.length_append,hso,hsl,List.length_drop];omega
  ·have hlt:i<l.length:=by omega
   refine (Any2.slices_Insert_string_shift qd (G.ι id) 0 l.length C i (G.ι id2) 0 1 C2 (sv l) [.string ⟨x.toArray⟩] w hlt ab hfit hc63 hbb hsl rfl hcs (fun j hj=>hsome j ab) (fun j hj=>hfz _) hvs' (fun v hv=>xS hv) h1v T2 T ([Value.string ⟨x.toArray⟩]++rest2).toArray.size (sv l++rest).toArray.size (by unfold World.shape?;simp only[hg2]) (by unfold World.shape?;simp only[hg]) (by rw[List.size_toArray,List.length_append,hsl];omega) (hfz2 _) (hfz2 _)).mono ?_
   rintro e w' ⟨rfl,rfl⟩
   obtain ⟨a1,a2,a3,a4,a5⟩:=bM (G.ι id) T fr ((sv l).drop i) (0+(i+1)) (sv l++rest) w.drew hg (by simp[hsl];omega)
   obtain ⟨b1,b2,b3,b4,b5⟩:=bM (G.ι id) T fr [.string ⟨x.toArray⟩] (0+i) _ _ a1 (by simp[hsl];omega)
   refine inpl _ ((sv l++rest).drop (l.length+1)) ?_ ?_ (b3.trans a3) (b4.trans a4) (b5.trans a5) (fun b hb=>(b2 b hb).trans (a2 b hb)) hfit
   ·rw[b1,kW,List.length_singleton,xV hsl hlt]
   ·rw[List.length_append,hso,List.length_drop,List.length_append,hsl];omega
 ·have hCl:C=l.length:=by omega
  subst hCl
  have hbig:(l.length+1)*16≤140737488355328:=by omega
  have hgc:∀e,l.length+1≤grownCap w (l.length+1) l.length e:=fun e=>by simp[grownCap,Question.cut]
  by_cases hie:i=l.length
  ·subst hie
   refine (Any2.slices_Insert_string_end_grow qd (some ⟨G.ι id,0,none⟩) l.length l.length (G.ι id2) 0 1 C2 (sv l) [.string ⟨x.toArray⟩] w ab (Nat.le_refl _) ab hbig hsl rfl (fun e=>by cases e) (fun a ha j v hj=>by cases ha;rw[Addr.add_lit];exact hcs j v hj) hvs' h1v).mono ?_
   rintro e w' ⟨rfl,rfl⟩
   have hgc':=hgc (cX.t 9)
   generalize grownCap w (l.length+1) l.length (cX.t 9)=C0 at hgc' ⊢
   generalize Builtin.zeroCells (Value.string ⟨#[]⟩).cells (C0 - (l.length+1))=Zc
   refine newb _ Zc.toList (cX.t 9) _ hgc' ?_ ?_ rfl rfl ?_
   ·show (w.heap.push _)[w.heap.size]? =_
    rw[Array.getElem?_push_size]
    refine congrArg some (congrArg (fun c=>Go.Obj.cells c _ (0,0)) (Array.ext' ?_))
    simp only[Array.toList_append,kW,←hsl,List.take_length,List.drop_length]
   ·show _≤(w.heap.push _).size
    rw[Array.size_push];omega
   ·intro b hb
    show (w.heap.push _)[b]? =_
    rw[Array.getElem?_push,if_neg (Nat.ne_of_lt hb)]
  ·have hlt:i<l.length:=by omega
   refine (Any2.slices_Insert_string_grow qd (G.ι id) 0 l.length l.length i (G.ι id2) 0 1 C2 (sv l) [.string ⟨x.toArray⟩] w hlt ab (Nat.le_refl _) ab hbig hsl rfl hcs hvs' (fun v hv=>xS hv) h1v).mono ?_
   rintro e w' ⟨rfl,rfl⟩
   generalize hC0:grownCap w (l.length+1) l.length (cX.t 9)=C0
   have hC1:l.length+1≤C0:=hC0▸hgc _
   generalize hA:w.alloc (.cells (((sv l).take i).toArray++Builtin.zeroCells (Value.string ⟨#[]⟩).cells (l.length+1 - i)++Builtin.zeroCells (Value.string ⟨#[]⟩).cells (C0 - (l.length+1))) (cX.t 9))=A0
   obtain ⟨Z,hZl,g1⟩:∃Z:List Value,Z.length=C0 - i∧A0.drew.heap[w.heap.size]? =some (.cells ((sv l).take i++Z).toArray (cX.t 9) (0,0)):=by
    refine ⟨(Builtin.zeroCells (Value.string ⟨#[]⟩).cells (l.length+1 - i)++Builtin.zeroCells (Value.string ⟨#[]⟩).cells (C0 - (l.length+1))).toList,?_,?_⟩
    ·have hz:(Value.string ⟨#[]⟩).cells.size=1:=rfl
     generalize (Value.string ⟨#[]⟩).cells=zc at hz
     simp[Builtin.zeroCells,hz];omega
    ·subst hA
     show (w.heap.push _)[w.heap.size]? =_
     rw[Array.getElem?_push_size]
     refine congrArg some (congrArg (fun c=>Go.Obj.cells c _ (0,0)) (Array.ext' ?_))
     simp only[Array.toList_append,List.append_assoc]
   have k3:A0.heap.size=w.heap.size+1:=by
    rw[←hA]
    show (w.heap.push _).size=_
    rw[Array.size_push]
   have k4:A0.os=w.os:=by rw[←hA];rfl
   have k5:A0.output=w.output:=by rw[←hA];rfl
   have k2:∀b,b<w.heap.size→A0.heap[b]? =w.heap[b]? :=fun b hb=>by
    rw[←hA]
    show (w.heap.push _)[b]? =_
    rw[Array.getElem?_push,if_neg (Nat.ne_of_lt hb)]
   clear hA
   have hT':((sv l).take i).length=i:=by rw[List.length_take,hsl];omega
   have hD:((sv l).drop i).length=l.length - i:=by rw[List.length_drop,hsl]
   obtain ⟨a1,a2,a3,a4,a5⟩:=bM w.heap.size _ (0,0) [.string ⟨x.toArray⟩] i _ A0.drew g1 (by rw[List.length_append,hT',hZl,List.length_singleton];omega)
   obtain ⟨b1,b2,b3,b4,b5⟩:=bM w.heap.size _ (0,0) ((sv l).drop i) (i+1) _ (World.setCells A0.drew w.heap.size i [.string ⟨x.toArray⟩]).drew a1 (by simp only[List.length_append,List.length_take,List.length_drop,hsl,hZl,List.length_singleton];omega)
   rw[List.length_singleton,uA hsl hlt,←kW] at b1
   refine newb _ _ _ _ hC1 b1 ?_ ?_ ?_ ?_
   ·rw[b3];show _≤(World.setCells A0.drew _ _ _).heap.size;rw[a3];show _≤A0.heap.size;omega
   ·rw[b4];show (World.setCells A0.drew _ _ _).os=_;rw[a4];exact k4
   ·rw[b5];show (World.setCells A0.drew _ _ _).output=_;rw[a5];exact k5
   ·intro b hb
    rw[b2 b (Nat.ne_of_lt hb)];show (World.setCells A0.drew _ _ _).heap[b]? =_
    rw[a2 b (Nat.ne_of_lt hb)]
    exact k2 b hb
theorem uC (l:List (List UInt8)) (i:Nat) (hi:i<l.length) (hl:l.length<1099511627776) {id:Nat} {h:H} (ho:h.objs id=some (.cells (strs l))) (htk:h.toks=[]):
  aI Tryz.prog 80 [.tsl 1 id 0 l.length none,.int .i64 i,.int .i64 ((i+1:Nat):Int)] h (.sl 1 (strs (l.take i++l.drop (i+1))) .any) (h.less id):=by
 intro G w vs hv R F
 simp only[aD,aw] at hv
 obtain ⟨v1,_,rfl,⟨hd1,hv1⟩,v2,_,rfl,rfl,v3,_,rfl,rfl,rfl⟩:=hv
 obtain ⟨C,c,T,fr,rfl,⟨hnC,hc63⟩,-,hg,hroom⟩|⟨hz,-⟩:=hv1
 rotate_left
 ·omega
 obtain ⟨-,hown,hB,us,rest,T',fr',hg',hvs,hfr,-⟩:=R.obj id _ ho
 have hus:=B1 hvs
 subst hus
 rw[hg] at hg'
 obtain ⟨rfl,rfl,rfl⟩:c=(sv l++rest).toArray∧T=T'∧fr=fr':=by simpa using hg'
 have hsl:=gH l
 have hfz:∀j,w.frozen? ⟨G.ι id,j,none⟩=false:=fun j=>by
  unfold World.frozen?;simp only[hg]
  have:=hfr
  simp;omega
 have hout:(strs (l.take i++l.drop (i+1))).length=l.length - (i+1 - i):=by simp[strs];omega
 have hcell:∀j,j<l.length→w.cell? ⟨G.ι id,0+j,none⟩=some (.string (⟨(l.getD j []).toArray⟩:ByteArray)):=fun j hj=>cell_of hg j _ (by
  simp[sv,List.getElem?_map,List.getElem?_eq_getElem hj,List.getD_eq_getElem?_getD])
 have hS:Lib.strsOf (fun j=>(⟨(l.getD j []).toArray⟩:ByteArray)) l.length=l:=by
  refine List.ext_getElem (Lib.strsOf_length _ _) fun j h1 h2=>?_
  simp[Lib.strsOf,List.getD_eq_getElem?_getD,List.getElem?_eq_getElem h2]
 refine (Any.slices_Delete_string_cells Fh (G.ι id) 0 l.length C i (i+1) (fun j=>(⟨(l.getD j []).toArray⟩:ByteArray)) w hnC hc63 ab ab hcell (fun j hj=>hfz _)).mono ?_
 rintro e w' ⟨rfl,q,rfl⟩
 rw[hS]
 have hm:∀m:List (List UInt8),m.map encStr=sv m:=fun m=>rfl
 rw[hm]
 have hsv:sv (l.take i++l.drop (i+1)++List.replicate (i+1 - i) [])=sv (l.take i++l.drop (i+1))++[.string ⟨#[]⟩]:=by
  rw[show i+1 - i=1 by omega];simp[sv]
 have hlen:(sv (l.take i++l.drop (i+1)++List.replicate (i+1 - i) [])).length=l.length:=by rw[gH];simp;omega
 obtain ⟨a1,a2,a3,a4,a5⟩:=bM (G.ι id) T fr (sv (l.take i++l.drop (i+1)++List.replicate (i+1 - i) [])) 0 (sv l++rest) (w.drewN q) hg (by rw[hlen,List.length_append,hsl];omega)
 have e1:(sv l++rest).take 0++sv (l.take i++l.drop (i+1)++List.replicate (i+1 - i) [])++(sv l++rest).drop (0+(sv (l.take i++l.drop (i+1)++List.replicate (i+1 - i) [])).length)=sv (l.take i++l.drop (i+1))++(Value.string ⟨#[]⟩::rest):=by
  rw[hlen,hsv,Nat.zero_add,←hsl,List.drop_left,List.take_zero];simp
 rw[e1] at a1
 obtain ⟨G',T1,R1,V⟩:=jM (B:=G.ι id) (off:=0) (C:=C) (xs:=strs (l.take i++l.drop (i+1))) (vs:=sv (l.take i++l.drop (i+1))) R ho htk (Nat.le_of_eq a3.symm) a4 a5 (fun b _ hb=>a2 b hb) (by
  rw[hg,a1]
  refine ⟨_,_,rfl,?_,fun _ _ h=>h⟩
  simp only[List.size_toArray,List.length_append,gH,List.length_cons,List.length_take,List.length_drop]
  omega) (.inl rfl) (by rw[hout];omega) (by rw[hout,gH];simp;omega) (m8 _) (fun v hv=>sV hv) (cell_of a1)
 exact ⟨_,G',rfl,T1,R1,by rw[hout] at V;exact V⟩
theorem uD (x:List UInt8) {id2:Nat} {h:H} (ho2:h.objs id2=some (.cells [.str x])) (htk:h.toks=[]):
  aI Tryz.prog 88 [.sl 1 [] (.exact 0),.int .i64 0,.tsl 1 id2 0 1 none] h (.sl 1 (strs [x]) .any) (h.less id2):=by
 intro G w vs hv R F
 simp only[aD] at hv
 obtain ⟨v1,_,rfl,hv1,v2,_,rfl,hv2,v3,_,rfl,hv3,rfl⟩:=hv
 have hbase:∃a0,v1= .slice a0 0 0:=by
  simp only[aw,de] at hv1
  rcases hv1 with ⟨-,h,-⟩|⟨B,off,C,vs,q1,-,-,-,-,q6⟩
  ·exact h
  ·subst q6;exact ⟨_,by simpa using q1⟩
 obtain ⟨a0,rfl⟩:=hbase
 simp only[aw] at hv2 hv3
 subst hv2
 obtain ⟨hd2,hv3⟩:=hv3
 obtain ⟨C2,c2,T2,fr2,rfl,⟨hnC2,-⟩,-,hg2,hroom2⟩|⟨hz,-⟩:=hv3
 rotate_left
 ·omega
 obtain ⟨-,hown2,hB2,us2,rest2,T2',fr2',hg2',hvs2,hfr2,-⟩:=R.obj id2 _ ho2
 have hus2:us2=[.string ⟨x.toArray⟩]:=by
  simp only[aD,aw] at hvs2
  obtain ⟨v,_,rfl,rfl,rfl⟩:=hvs2
  rfl
 subst hus2
 rw[hg2] at hg2'
 obtain ⟨rfl,rfl,rfl⟩:c2=([Value.string ⟨x.toArray⟩]++rest2).toArray∧T2=T2'∧fr2=fr2':=by simpa using hg2'
 have hvs':∀(j:Nat) v,([Value.string ⟨x.toArray⟩]:List Value)[j]? =some v→w.cell? ⟨G.ι id2,0+j,none⟩=some v:=fun j v=>cell_of hg2 j v
 have h1v:∀v∈([Value.string ⟨x.toArray⟩]:List Value),v.oneCell'=true:=by simp[Value.oneCell']
 have key:=Any2.slices_Insert_string_end_grow qd a0 0 0 (G.ι id2) 0 1 C2 [] [.string ⟨x.toArray⟩] w ab (Nat.le_refl _) ab ab rfl rfl (fun _=>rfl) (fun a ha j v hj=>by simp at hj) hvs' h1v
 refine key.mono ?_
 rintro e w' ⟨rfl,rfl⟩
 have hgc':0+1≤grownCap w (0+1) 0 (cX.t 9):=by simp[grownCap,Question.cut]
 generalize grownCap w (0+1) 0 (cX.t 9)=C0 at hgc' ⊢
 generalize Builtin.zeroCells (Value.string ⟨#[]⟩).cells (C0 - (0+1))=Zc
 have hs:(w.drew.alloc (.cells (([]++[Value.string ⟨x.toArray⟩]).toArray++Zc) (cX.t 9))).heap.size=w.heap.size+1:=by
  show (w.heap.push _).size=_
  rw[Array.size_push]
 have hold:∀b,b<w.heap.size→(w.drew.alloc (.cells (([]++[Value.string ⟨x.toArray⟩]).toArray++Zc) (cX.t 9))).heap[b]? =w.heap[b]? :=fun b hb=>by
  show (w.heap.push _)[b]? =_
  rw[Array.getElem?_push,if_neg (Nat.ne_of_lt hb)]
 have hnew:(w.drew.alloc (.cells (([]++[Value.string ⟨x.toArray⟩]).toArray++Zc) (cX.t 9))).heap[w.heap.size]? =some (.cells (sv [x]++Zc.toList).toArray (cX.t 9) (0,0)):=by
  show (w.heap.push _)[w.heap.size]? =_
  rw[Array.getElem?_push_size]
  refine congrArg some (congrArg (fun c=>Go.Obj.cells c _ (0,0)) (Array.ext' ?_))
  simp only[Array.toList_append]
  rfl
 obtain ⟨G',T1,R1,V⟩:=jM (w':=w.drew.alloc (.cells (([]++[Value.string ⟨x.toArray⟩]).toArray++Zc) (cX.t 9))) (B:=w.heap.size) (off:=0) (C:=C0) (xs:=strs [x]) (vs:=sv [x]) R ho2 htk ab rfl rfl (fun b hb _=>hold b hb) (by rw[hold _ hB2];exact bX.refl _) (.inr (Nat.le_refl _)) (by simpa [strs] using hgc') rfl (m8 _) (fun v hv=>sV hv) (cell_of hnew)
 exact ⟨_,G',rfl,T1,R1,V⟩
theorem kB (l:List (List UInt8)):(strs l).all shaped=true:=by
 simp[strs,shaped,aP]
theorem lZ (l:List (List UInt8)):(strs l).flatMap cellsOf=strs l:=by
 induction l with
 |nil=>rfl
 |cons s l ih=>simp only[strs,List.map_cons,List.flatMap_cons] at ih ⊢;rw[ih];rfl
theorem B2 (l:List (List UInt8)) (i:Nat) (x:List UInt8) (hi:i≤l.length) (hl:l.length<1099511627776) (h0:0<l.length):
  aI Tryz.prog 88 [.tsl 1 0 0 l.length none,.int .i64 i,.tsl 1 1 0 1 none] ⟨upd (upd aB 0 (some (.cells ((strs l).flatMap cellsOf)))) 1 (some (.cells [.str x])),2,[],0⟩ (.sl 1 (strs (l.take i++x::l.drop i)) .any) (H.less ⟨upd (upd aB 0 (some (.cells ((strs l).flatMap cellsOf)))) 1 (some (.cells [.str x])),2,[],0⟩ 0):=
 uB l i x hi hl h0 (id2:=1) ah (by simp[upd,lZ]) (by simp[upd]) rfl
theorem B3 (l:List (List UInt8)) (i:Nat) (x:List UInt8) (hi:i≤l.length) (hl:l.length<1099511627776):
  bc Tryz.prog 117 [.sl 1 (strs l) .any,.int .i64 i,.str x] (.sl 1 (strs (l.take i++x::l.drop i)) .any):=by
 refine f117.dB af (by simp[aU,bq,cR,gG]) (by simp[bq,cR,gG]) ?_
 unfold Gg zz
 refine Wp.aG xA1 ag ?_
 refine Wp.seq (Wp.DF ?_)
 refine sI ?_
 cases l with
 |nil=>
  have hi0:i=0:=by simpa using hi
  subst hi0
  refine bI.cd ae (by simp only[go_sem,List.map];exact au.refl _) (vT (sz:=1) (bytes:=16) f116) ?_
  refine sI ?_
  refine sI ?_
  refine bI.opT xA2 (by simp only[gC,go_sem,reduceIte,Nat.reduceEqDiff,Nat.reduceAdd,bx,List.all_cons,List.all_nil,List.length_cons,List.length_nil,Nat.reduceMul,Nat.reduceLeDiff,and_self,if_true,decide_true,Bool.and_self];exact rfl) ?_
  refine bI.cx ae (by simp only[go_sem,List.map];exact au.refl _) (uD x (by simp[upd,cellsOf]) rfl) (nL _ _ _ (ids:=[0]) ?_ rfl rfl ?_ (Nat.le_refl _) (Nat.le_refl _)) ?_
  ·exact ⟨fun j o h=>h,fun t h=>h⟩
  ·intro id h;simp only[H0,H.only,upd,aB] at h;split at h<;>simp_all
  refine sI ?_
  refine ao.toN (log:=[]) (ao.nil ?_)
  refine cL ?_
  exact ay.refl _
 |cons s l=>
  simp only[List.length_cons] at hi hl
  refine bI.cx ae (by simp only[go_sem,List.map];exact au.refl _) (lS (sz:=1) (bytes:=16) f116 (.str s) (strs l) (kB (s::l)) (by rw[da];omega) (by rw[da];omega) 0 0) (eg (H0 0 0) _) ?_
  refine sI ?_
  refine sI ?_
  refine bI.opT xA2 (by simp only[gC,go_sem,reduceIte,Nat.reduceEqDiff,Nat.reduceAdd,bx,List.all_cons,List.all_nil,List.length_cons,List.length_nil,Nat.reduceMul,Nat.reduceLeDiff,and_self,if_true,decide_true,Bool.and_self];exact rfl) ?_
  refine bI.cx ae (by simp only[go_sem,List.map];exact au.refl _) (B2 (s::l) i x hi (by simpa using hl) af) (nL _ _ _ (ids:=[0,1]) ?_ rfl rfl ?_ (Nat.le_refl _) (Nat.le_refl _)) ?_
  ·exact ⟨fun j o h=>h,fun t h=>h⟩
  ·intro id h;simp only[H0,H.only,upd,aB] at h;split at h<;>simp_all
  refine sI ?_
  refine ao.toN (log:=[]) (ao.nil ?_)
  refine cL ?_
  exact ay.refl _
theorem B4 (l:List (List UInt8)) (i:Nat) (hi:i<l.length) (hl:l.length<1099511627776):
  aI Tryz.prog 80 [.tsl 1 0 0 l.length none,.int .i64 i,.int .i64 ((i+1:Nat):Int)] (.only (upd aB 0 (some (.cells ((strs l).flatMap cellsOf)))) [] 1 0) (.sl 1 (strs (l.take i++l.drop (i+1))) .any) (H.less (.only (upd aB 0 (some (.cells ((strs l).flatMap cellsOf)))) [] 1 0) 0):=
 uC l i hi hl (by simp[H.only,upd,lZ]) rfl
theorem rE (l:List (List UInt8)) (i:Nat) (hi:i<l.length) (hl:l.length<1099511627776):
  bc Tryz.prog 108 [.sl 1 (strs l) .any,.int .i64 i] (.sl 1 (strs (l.take i++l.drop (i+1))) .any):=by
 refine f108.dB af (by simp[aU,bq,cR,gG]) (by simp[bq,cR,gG]) ?_
 unfold Ga zz
 have hw:IntKind.i64.wrap ((i:Int)+1)=((i+1:Nat):Int):=by rw[IntWalk.i64_in _ ab];rfl
 refine Wp.aG xA1 ag ?_
 refine Wp.seq (Wp.DF ?_)
 refine sI ?_
 cases l with
 |nil=>simp at hi
 |cons s l=>
  simp only[List.length_cons] at hi hl
  refine bI.cx ae (by simp only[go_sem,List.map];exact au.refl _) (lS (sz:=1) (bytes:=16) f116 (.str s) (strs l) (kB (s::l)) (by rw[da];omega) (by rw[da];omega) 0 0) (eg (H0 0 0) _) ?_
  refine xOp hw ?_
  refine xOp hw ?_
  refine xOp hw ?_
  refine bI.cx ae (by simp only[go_sem,List.map];exact au.refl _) (B4 (s::l) i hi (by simpa using hl)) (nL _ _ _ (ids:=[0]) ?_ rfl rfl ?_ (Nat.le_refl _) (Nat.le_refl _)) ?_
  ·exact ⟨fun j o h=>h,fun t h=>h⟩
  ·intro id h;simp only[H0,H.only,upd,aB] at h;split at h<;>simp_all
  refine sI ?_
  refine ao.toN (log:=[]) (ao.nil ?_)
  refine cL ?_
  exact ay.refl _
def gY:Node:=⟨false,[],[],[]⟩
def zW (n:Node) (i:Nat):Node:=⟨true,n.keys.take i++n.keys.drop (i+1),n.vals.take i++n.vals.drop (i+1),[]⟩
def oG (n:Node) (key:List UInt8):Node:=if bE n key then zW n (place n key) else gY
theorem dW {n:Node} {key:List UInt8} (h:bE n key=true):right n=true∧n.leaf=true∧place n key<n.keys.length∧n.vals.length=n.keys.length∧n.keys.getD (place n key) []=key:=by
 simp only[bE,found,Bool.and_eq_true,decide_eq_true_eq] at h
 obtain ⟨h1,⟨h2,h3⟩,h4⟩:=h
 refine ⟨h1,h2,h3,?_,h4⟩
 simp[right,h2] at h1
 exact h1.2.1.1
theorem B5 (n:Node) (hn:Nb n) (hs:Ns n) (key:List UInt8):bc Tryz.prog 77 [aC n,.str key] (.tup [aC (oG n key),.bool (bE n key)]):=by
 refine f77.dB af (by simp[aU,cW,bq]) (by simp[bq,aU,cW]) ?_
 unfold c77 zz
 obtain ⟨sk,sv',si⟩:=hs
 refine Wp.aG (xAe @aC.eq_1) ag ?_
 refine Wp.seqItems xA1 ?_
 refine ao.cd xA2 xAb (nQ n hn key) ?_
 refine ao.eval xA1 ?_
 refine ao.nil ⟨by trivial,?_⟩
 refine Wp.seq ?_
 refine Wp.aG xA1 ag ?_
 cases hf:bE n key with
 |false=>
  refine Wp.cond_true (by simp only[go_sem,reduceIte,Nat.reduceEqDiff,Nat.reduceAdd,bx,hf]) ?_
  refine Wp.aG xA1 ag ?_
  refine Wp.ret ⟨trivial,_,rfl,?_⟩
  simp only[go_sem,reduceIte,Nat.reduceEqDiff,Nat.reduceAdd,bx,hf]
  simp only[oG,hf,if_false,Bool.false_eq_true,gY,aC]
  exact ay.tup (au.cons (ay.agg (au.cons (ay.refl _) (au.cons ay.cap (au.cons ay.cap (au.cons ay.cap au.nil))))) (au.cons (ay.refl _) au.nil))
 |true=>
  obtain ⟨h1,h2,h3,h4,-⟩:=dW hf
  have hp:dR n key=place n key:=by simp[dR,h1]
  refine Wp.cond_false (by simp only[go_sem,reduceIte,Nat.reduceEqDiff,Nat.reduceAdd,bx,hf]) ?_
  refine Wp.skip ?_
  refine Wp.seqItems (xAe hp) ?_
  refine ao.cd xA2 xAb (rE n.keys (place n key) h3 ab) ?_
  refine ao.eval (xAe hp) ?_
  refine ao.cd xA2 xAb (rE n.vals (place n key) ab ab) ?_
  refine ao.eval xA1 ?_
  refine ao.nil ⟨by simp[bw,aV,apart,aT],?_⟩
  refine Wp.ret ⟨trivial,_,rfl,?_⟩
  simp only[go_sem,reduceIte,Nat.reduceEqDiff,Nat.reduceAdd,bx,hf]
  simp only[oG,hf,if_true,zW,aC]
  exact ay.tup (au.cons (ay.agg (au.cons (ay.refl _) (au.cons (ay.refl _) (au.cons (ay.refl _) (au.cons ay.cap au.nil))))) (au.cons (ay.refl _) au.nil))
def iv (l:List Int):List Value:=l.map fun s=> .int .i64 s
theorem gI (l:List Int):(iv l).length=l.length:=by simp[iv]
theorem B6 {G:aL} {w:World}:∀{l:List Int} {vs:List Value},aD G w (ints l) vs→vs=iv l
 |[],vs,h=>by simpa [ints,aD,iv] using h
 |s::l,vs,h=>by
  simp only[ints,List.map_cons,aD,aw] at h
  obtain ⟨v,us,rfl,rfl,h⟩:=h
  rw[B6 (l:=l) h]
  rfl
theorem qe (l:List Int) (G:aL) (w:World):aF G w 1 (ints l) (iv l):=by
 induction l with
 |nil=>simp[ints,iv,aF]
 |cons s l ih=>
  simp only[ints,iv,List.map_cons,aF]
  exact ⟨.int .i64 s,iv l,rfl,rfl,by simp[aw],ih⟩
theorem wF {l:List Int} {v:Value} (h:v∈iv l):One v:=by
 obtain ⟨s,_,rfl⟩:=List.mem_map.1 h
 exact ⟨(fun _ e=>by cases e),(fun _ e=>by cases e)⟩
theorem xW {l:List Int} {v:Value} (h:v∈iv l):v.oneCell'=true:=by
 obtain ⟨s,_,rfl⟩:=List.mem_map.1 h
 rfl
theorem kX (l:List Int) (i:Nat) (x:Int):iv (l.take i++x::l.drop i)=(iv l).take i++ .int .i64 x::(iv l).drop i:=by simp[iv]
theorem zY (l:List Int) (i:Nat) (x:Int) (hi:i≤l.length) (hl:l.length<1099511627776) (h0:0<l.length) {id id2:Nat} (hne:id≠id2) {h:H} (ho:h.objs id=some (.cells (ints l))) (ho2:h.objs id2=some (.cells [.int .i64 x])) (htk:h.toks=[]):
  aI Tryz.prog 89 [.tsl 1 id 0 l.length none,.int .i64 i,.tsl 1 id2 0 1 none] h (.sl 1 (ints (l.take i++x::l.drop i)) .any) (h.less id):=by
 intro G w vs hv R F
 simp only[aD,aw] at hv
 obtain ⟨v1,_,rfl,⟨hd1,hv1⟩,v2,_,rfl,rfl,v3,_,rfl,⟨hd2,hv3⟩,rfl⟩:=hv
 obtain ⟨C,c,T,fr,rfl,⟨hnC,hc63⟩,-,hg,hroom⟩|⟨hz,-⟩:=hv1
 rotate_left
 ·omega
 obtain ⟨C2,c2,T2,fr2,rfl,⟨hnC2,-⟩,-,hg2,hroom2⟩|⟨hz,-⟩:=hv3
 rotate_left
 ·omega
 obtain ⟨-,hown,hB,us,rest,T',fr',hg',hvs,hfr,-⟩:=R.obj id _ ho
 obtain ⟨-,hown2,hB2,us2,rest2,T2',fr2',hg2',hvs2,hfr2,-⟩:=R.obj id2 _ ho2
 have hus:=B6 hvs
 subst hus
 have hus2:us2=[.int .i64 x]:=by
  simp only[aD,aw] at hvs2
  obtain ⟨v,_,rfl,rfl,rfl⟩:=hvs2
  rfl
 subst hus2
 have hbb:G.ι id2≠G.ι id:=fun e=>hne (R.inj _ _ _ _ ho ho2 e.symm)
 rw[hg] at hg'
 obtain ⟨rfl,rfl,rfl⟩:c=(iv l++rest).toArray∧T=T'∧fr=fr':=by simpa using hg'
 rw[hg2] at hg2'
 obtain ⟨rfl,rfl,rfl⟩:c2=([Value.int .i64 x]++rest2).toArray∧T2=T2'∧fr2=fr2':=by simpa using hg2'
 have hsl:=gI l
 have hrl:C≤l.length+rest.length:=by simpa [hsl] using hroom
 have hcs:∀(j:Nat) v,(iv l)[j]? =some v→w.cell? ⟨G.ι id,0+j,none⟩=some v:=fun j v=>cell_of hg j v
 have hvs':∀(j:Nat) v,([Value.int .i64 x]:List Value)[j]? =some v→w.cell? ⟨G.ι id2,0+j,none⟩=some v:=fun j v=>cell_of hg2 j v
 have h1v:∀v∈([Value.int .i64 x]:List Value),v.oneCell'=true:=by simp[Value.oneCell']
 have hsome:∀j,j<C→(w.cell? ⟨G.ι id,0+j,none⟩).isSome=true:=fun j hj=>by
  unfold World.cell?;simp only[hg];simp[hsl];omega
 have hfz:∀j,w.frozen? ⟨G.ι id,j,none⟩=false:=fun j=>by
  unfold World.frozen?;simp only[hg]
  have:=hfr
  simp;omega
 have hfz2:∀j,w.frozen? ⟨G.ι id2,j,none⟩=false:=fun j=>by
  unfold World.frozen?;simp only[hg2]
  have:=hfr2
  simp;omega
 have hout:(ints (l.take i++x::l.drop i)).length=l.length+1:=by simp[ints];omega
 have hso:(iv (l.take i++x::l.drop i)).length=l.length+1:=by rw[gI];simp;omega
 have newb:∀(w':World) (L2:List Value) (T0:TypeId) (C0:Nat),l.length+1≤C0→w'.heap[w.heap.size]? =some (.cells (iv (l.take i++x::l.drop i)++L2).toArray T0 (0,0))→w.heap.size≤w'.heap.size→w'.os=w.os→w'.output=w.output→(∀b,b<w.heap.size→w'.heap[b]? =w.heap[b]?)→
   ∃v G',Ending.returned (.slice (some ⟨w.heap.size,0,none⟩) (l.length+1) C0)= .returned v∧Trans G w h G' w' (h.less id)∧aX G' (h.less id) w'∧aw G' w' (.sl 1 (ints (l.take i++x::l.drop i)) .any) v:=by
  intro w' L2 T0 C0 q1 q2 q3 q4 q5 q6
  obtain ⟨G',T1,R1,V⟩:=jM (B:=w.heap.size) (off:=0) (C:=C0) (w':=w') R ho htk q3 q4 q5 (fun b hb _=>q6 b hb) (by rw[q6 _ hB];exact bX.refl _) (.inr (Nat.le_refl _)) (by rw[hout];exact q1) (by rw[hso,hout]) (qe _) (fun v hv=>wF hv) (cell_of q2)
  exact ⟨_,G',rfl,T1,R1,by rw[hout] at V;exact V⟩
 have inpl:∀(w':World) (L2:List Value),w'.heap[G.ι id]? =some (.cells (iv (l.take i++x::l.drop i)++L2).toArray T fr)→(iv (l.take i++x::l.drop i)++L2).length=(iv l++rest).length→w'.heap.size=w.heap.size→w'.os=w.os→w'.output=w.output→(∀b,b≠G.ι id→w'.heap[b]? =w.heap[b]?)→l.length+1≤C→
   ∃v G',Ending.returned (.slice (some ⟨G.ι id,0,none⟩) (l.length+1) C)= .returned v∧Trans G w h G' w' (h.less id)∧aX G' (h.less id) w'∧aw G' w' (.sl 1 (ints (l.take i++x::l.drop i)) .any) v:=by
  intro w' L2 q1 q2 q3 q4 q5 q6 q7
  obtain ⟨G',T1,R1,V⟩:=jM (B:=G.ι id) (off:=0) (C:=C) (w':=w') R ho htk (Nat.le_of_eq q3.symm) q4 q5 (fun b _ hb=>q6 b hb) (by rw[hg,q1];exact ⟨_,_,rfl,by simpa using q2,fun _ _ h=>h⟩) (.inl rfl) (by rw[hout];exact q7) (by rw[hso,hout]) (qe _) (fun v hv=>wF hv) (cell_of q1)
  exact ⟨_,G',rfl,T1,R1,by rw[hout] at V;exact V⟩
 by_cases hfit:l.length+1≤C
 ·by_cases hie:i=l.length
  ·subst hie
   refine (Any2.slices_Insert_int_end_room sU (G.ι id) 0 l.length C (G.ι id2) 0 1 C2 [.int .i64 x] w ab hfit hc63 rfl (fun j hj=>by have:=hsome (l.length+j) ab;rwa [←Nat.add_assoc] at this) (fun j hj=>hfz _) hvs' h1v).mono ?_
   rintro e w' ⟨rfl,rfl⟩
   obtain ⟨a1,a2,a3,a4,a5⟩:=bM (G.ι id) T fr [.int .i64 x] (0+l.length) (iv l++rest) w hg (by simp[hsl];omega)
   refine inpl _ (rest.drop 1) ?_ ?_ a3 a4 a5 a2 hfit
   ·rw[a1,kX,List.length_singleton,xU hsl]
   ·rw[List.length_append,List.length_append,hso,hsl,List.length_drop];omega
  ·have hlt:i<l.length:=by omega
   refine (Any2.slices_Insert_int_shift sU (G.ι id) 0 l.length C i (G.ι id2) 0 1 C2 (iv l) [.int .i64 x] w hlt ab hfit hc63 hbb hsl rfl hcs (fun j hj=>hsome j ab) (fun j hj=>hfz _) hvs' (fun v hv=>xW hv) h1v T2 T ([Value.int .i64 x]++rest2).toArray.size (iv l++rest).toArray.size (by unfold World.shape?;simp only[hg2]) (by unfold World.shape?;simp only[hg]) (by rw[List.size_toArray,List.length_append,hsl];omega) (hfz2 _) (hfz2 _)).mono ?_
   rintro e w' ⟨rfl,rfl⟩
   obtain ⟨a1,a2,a3,a4,a5⟩:=bM (G.ι id) T fr ((iv l).drop i) (0+(i+1)) (iv l++rest) w.drew hg (by simp[hsl];omega)
   obtain ⟨b1,b2,b3,b4,b5⟩:=bM (G.ι id) T fr [.int .i64 x] (0+i) _ _ a1 (by simp[hsl];omega)
   refine inpl _ ((iv l++rest).drop (l.length+1)) ?_ ?_ (b3.trans a3) (b4.trans a4) (b5.trans a5) (fun b hb=>(b2 b hb).trans (a2 b hb)) hfit
   ·rw[b1,kX,List.length_singleton,xV hsl hlt]
   ·rw[List.length_append,hso,List.length_drop,List.length_append,hsl];omega
 ·have hCl:C=l.length:=by omega
  subst hCl
  have hbig:(l.length+1)*8≤140737488355328:=by omega
  have hgc:∀e,l.length+1≤grownCap w (l.length+1) l.length e:=fun e=>by simp[grownCap,Question.cut]
  by_cases hie:i=l.length
  ·subst hie
   refine (Any2.slices_Insert_int_end_grow sU (some ⟨G.ι id,0,none⟩) l.length l.length (G.ι id2) 0 1 C2 (iv l) [.int .i64 x] w ab (Nat.le_refl _) ab hbig hsl rfl (fun e=>by cases e) (fun a ha j v hj=>by cases ha;rw[Addr.add_lit];exact hcs j v hj) hvs' h1v).mono ?_
   rintro e w' ⟨rfl,rfl⟩
   have hgc':=hgc (fo.t 3)
   generalize grownCap w (l.length+1) l.length (fo.t 3)=C0 at hgc' ⊢
   generalize Builtin.zeroCells (Value.int .i64 0).cells (C0 - (l.length+1))=Zc
   refine newb _ Zc.toList (fo.t 3) _ hgc' ?_ ?_ rfl rfl ?_
   ·show (w.heap.push _)[w.heap.size]? =_
    rw[Array.getElem?_push_size]
    refine congrArg some (congrArg (fun c=>Go.Obj.cells c _ (0,0)) (Array.ext' ?_))
    simp only[Array.toList_append,kX,←hsl,List.take_length,List.drop_length]
   ·show _≤(w.heap.push _).size
    rw[Array.size_push];omega
   ·intro b hb
    show (w.heap.push _)[b]? =_
    rw[Array.getElem?_push,if_neg (Nat.ne_of_lt hb)]
  ·have hlt:i<l.length:=by omega
   refine (Any2.slices_Insert_int_grow sU (G.ι id) 0 l.length l.length i (G.ι id2) 0 1 C2 (iv l) [.int .i64 x] w hlt ab (Nat.le_refl _) ab hbig hsl rfl hcs hvs' (fun v hv=>xW hv) h1v).mono ?_
   rintro e w' ⟨rfl,rfl⟩
   generalize hC0:grownCap w (l.length+1) l.length (fo.t 3)=C0
   have hC1:l.length+1≤C0:=hC0▸hgc _
   generalize hA:w.alloc (.cells (((iv l).take i).toArray++Builtin.zeroCells (Value.int .i64 0).cells (l.length+1 - i)++Builtin.zeroCells (Value.int .i64 0).cells (C0 - (l.length+1))) (fo.t 3))=A0
   obtain ⟨Z,hZl,g1⟩:∃Z:List Value,Z.length=C0 - i∧A0.drew.heap[w.heap.size]? =some (.cells ((iv l).take i++Z).toArray (fo.t 3) (0,0)):=by
    refine ⟨(Builtin.zeroCells (Value.int .i64 0).cells (l.length+1 - i)++Builtin.zeroCells (Value.int .i64 0).cells (C0 - (l.length+1))).toList,?_,?_⟩
    ·have hz:(Value.int .i64 0).cells.size=1:=rfl
     generalize (Value.int .i64 0).cells=zc at hz
     simp[Builtin.zeroCells,hz];omega
    ·subst hA
     show (w.heap.push _)[w.heap.size]? =_
     rw[Array.getElem?_push_size]
     refine congrArg some (congrArg (fun c=>Go.Obj.cells c _ (0,0)) (Array.ext' ?_))
     simp only[Array.toList_append,List.append_assoc]
   have k3:A0.heap.size=w.heap.size+1:=by
    rw[←hA]
    show (w.heap.push _).size=_
    rw[Array.size_push]
   have k4:A0.os=w.os:=by rw[←hA];rfl
   have k5:A0.output=w.output:=by rw[←hA];rfl
   have k2:∀b,b<w.heap.size→A0.heap[b]? =w.heap[b]? :=fun b hb=>by
    rw[←hA]
    show (w.heap.push _)[b]? =_
    rw[Array.getElem?_push,if_neg (Nat.ne_of_lt hb)]
   clear hA
   have hT':((iv l).take i).length=i:=by rw[List.length_take,hsl];omega
   have hD:((iv l).drop i).length=l.length - i:=by rw[List.length_drop,hsl]
   obtain ⟨a1,a2,a3,a4,a5⟩:=bM w.heap.size _ (0,0) [.int .i64 x] i _ A0.drew g1 (by rw[List.length_append,hT',hZl,List.length_singleton];omega)
   obtain ⟨b1,b2,b3,b4,b5⟩:=bM w.heap.size _ (0,0) ((iv l).drop i) (i+1) _ (World.setCells A0.drew w.heap.size i [.int .i64 x]).drew a1 (by simp only[List.length_append,List.length_take,List.length_drop,hsl,hZl,List.length_singleton];omega)
   rw[List.length_singleton,uA hsl hlt,←kX] at b1
   refine newb _ _ _ _ hC1 b1 ?_ ?_ ?_ ?_
   ·rw[b3];show _≤(World.setCells A0.drew _ _ _).heap.size;rw[a3];show _≤A0.heap.size;omega
   ·rw[b4];show (World.setCells A0.drew _ _ _).os=_;rw[a4];exact k4
   ·rw[b5];show (World.setCells A0.drew _ _ _).output=_;rw[a5];exact k5
   ·intro b hb
    rw[b2 b (Nat.ne_of_lt hb)];show (World.setCells A0.drew _ _ _).heap[b]? =_
    rw[a2 b (Nat.ne_of_lt hb)]
    exact k2 b hb
theorem zZ (l:List Int) (i:Nat) (hi:i<l.length) (hl:l.length<1099511627776) {id:Nat} {h:H} (ho:h.objs id=some (.cells (ints l))) (htk:h.toks=[]):
  aI Tryz.prog 79 [.tsl 1 id 0 l.length none,.int .i64 i,.int .i64 ((i+1:Nat):Int)] h (.sl 1 (ints (l.take i++l.drop (i+1))) .any) (h.less id):=by
 intro G w vs hv R F
 simp only[aD,aw] at hv
 obtain ⟨v1,_,rfl,⟨hd1,hv1⟩,v2,_,rfl,rfl,v3,_,rfl,rfl,rfl⟩:=hv
 obtain ⟨C,c,T,fr,rfl,⟨hnC,hc63⟩,-,hg,hroom⟩|⟨hz,-⟩:=hv1
 rotate_left
 ·omega
 obtain ⟨-,hown,hB,us,rest,T',fr',hg',hvs,hfr,-⟩:=R.obj id _ ho
 have hus:=B6 hvs
 subst hus
 rw[hg] at hg'
 obtain ⟨rfl,rfl,rfl⟩:c=(iv l++rest).toArray∧T=T'∧fr=fr':=by simpa using hg'
 have hsl:=gI l
 have hfz:∀j,w.frozen? ⟨G.ι id,j,none⟩=false:=fun j=>by
  unfold World.frozen?;simp only[hg]
  have:=hfr
  simp;omega
 have hout:(ints (l.take i++l.drop (i+1))).length=l.length - (i+1 - i):=by simp[ints];omega
 have hcell:∀j,j<l.length→w.cell? ⟨G.ι id,0+j,none⟩=some (.int .i64 (l.getD j 0)):=fun j hj=>cell_of hg j _ (by
  simp[iv,List.getElem?_map,List.getElem?_eq_getElem hj,List.getD_eq_getElem?_getD])
 refine (Any.slices_Delete_int_cells Fi (G.ι id) 0 l.length C i (i+1) l w (Nat.le_refl _) hnC hc63 ab ab hcell (fun j hj=>hfz _)).mono ?_
 rintro e w' ⟨rfl,q,rfl⟩
 rw[List.take_length]
 have hm:∀m:List Int,m.map (Value.int .i64)=iv m:=fun m=>rfl
 rw[hm]
 have hsv:iv (l.take i++l.drop (i+1)++List.replicate (i+1 - i) 0)=iv (l.take i++l.drop (i+1))++[.int .i64 0]:=by
  rw[show i+1 - i=1 by omega];simp[iv]
 have hlen:(iv (l.take i++l.drop (i+1)++List.replicate (i+1 - i) 0)).length=l.length:=by rw[gI];simp;omega
 obtain ⟨a1,a2,a3,a4,a5⟩:=bM (G.ι id) T fr (iv (l.take i++l.drop (i+1)++List.replicate (i+1 - i) 0)) 0 (iv l++rest) (w.drewN q) hg (by rw[hlen,List.length_append,hsl];omega)
 have e1:(iv l++rest).take 0++iv (l.take i++l.drop (i+1)++List.replicate (i+1 - i) 0)++(iv l++rest).drop (0+(iv (l.take i++l.drop (i+1)++List.replicate (i+1 - i) 0)).length)=iv (l.take i++l.drop (i+1))++(Value.int .i64 0::rest):=by
  rw[hlen,hsv,Nat.zero_add,←hsl,List.drop_left,List.take_zero];simp
 rw[e1] at a1
 obtain ⟨G',T1,R1,V⟩:=jM (B:=G.ι id) (off:=0) (C:=C) (xs:=ints (l.take i++l.drop (i+1))) (vs:=iv (l.take i++l.drop (i+1))) R ho htk (Nat.le_of_eq a3.symm) a4 a5 (fun b _ hb=>a2 b hb) (by
  rw[hg,a1]
  refine ⟨_,_,rfl,?_,fun _ _ h=>h⟩
  simp only[List.size_toArray,List.length_append,gI,List.length_cons,List.length_take,List.length_drop]
  omega) (.inl rfl) (by rw[hout];omega) (by rw[hout,gI];simp;omega) (qe _) (fun v hv=>wF hv) (cell_of a1)
 exact ⟨_,G',rfl,T1,R1,by rw[hout] at V;exact V⟩
def stop (leaf:Bool) (key k:List UInt8):Bool:= !(Op.bytesLess k key||(!leaf&&decide (k=key)))
theorem qf (n:Node) (key:List UInt8):place n key=n.keys.findIdx (stop n.leaf key):=by
 unfold place
 cases n.leaf with
 |true=>simp only[if_true];exact congrArg (fun p=>n.keys.findIdx p) (funext fun k=>by simp[least,stop])
 |false=>simp only[if_false,Bool.false_eq_true];exact congrArg (fun p=>n.keys.findIdx p) (funext fun k=>by simp[iH,stop])
theorem B7 {n:Node} {key:List UInt8} {j:Nat} (hj:j<n.keys.length) (h:∀i,i<j→stop n.leaf key (n.keys.getD i [])=false) (hs:stop n.leaf key (n.keys.getD j [])=true):place n key=j:=by
 rw[qf]
 refine (List.findIdx_eq hj).2 ⟨?_,fun i hi=>?_⟩
 ·rw[List.getD_eq_getElem?_getD,List.getElem?_eq_getElem hj] at hs;exact hs
 ·have:=h i hi
  rw[List.getD_eq_getElem?_getD,List.getElem?_eq_getElem ab] at this;exact this
def fM (n:Node) (key val:List UInt8):Bool:=right n&&n.leaf&&decide (key.length≤128)&&decide (val.length≤200)
def uE (n:Node) (i:Nat) (val:List UInt8):Node:=⟨true,n.keys,n.vals.take i++val::n.vals.drop (i+1),[]⟩
def uF (n:Node) (i:Nat) (key val:List UInt8):Node:=⟨true,n.keys.take i++key::n.keys.drop i,n.vals.take i++val::n.vals.drop i,[]⟩
def na (n:Node) (key val:List UInt8):Node:=if fM n key val then (if bE n key then uE n (place n key) val else uF n (place n key) key val) else gY
def uG (n:Node) (key val:List UInt8):Nat:=if fM n key val then 0 else 2
theorem B8 (l:List (List UInt8)) (h0:0<l.length) (hl:l.length≤1099511627776) (n m:Nat):
  aI Tryz.prog 116 [.sl 1 (strs l) .any] (H0 n m) (.tsl 1 n 0 l.length none) (.only (upd aB n (some (.cells (strs l)))) [] (n+1) m):=by
 cases l with
 |nil=>simp at h0
 |cons s l=>
  simp only[List.length_cons] at hl
  have:=lS (sz:=1) (bytes:=16) f116 (.str s) (strs l) (kB (s::l)) (by rw[da];omega) (by rw[da];omega) n m
  rw[da] at this
  have e:(AV.str s::strs l).flatMap cellsOf=strs (s::l):=lZ (s::l)
  rw[e] at this
  exact this
theorem EJ (n:Node) (hn:Nb n) (hs:Ns n) (key val:List UInt8) (hkey:Ls key):bc Tryz.prog 85 [aC n,.str key,.str val] (.tup [aC (na n key val),.int .i64 (uG n key val)]):=by
 refine f85.DE af (by simp[aU,cW,bq]) (by simp[bq,aU,cW]) ?_
 unfold c85 zz
 obtain ⟨sk,sv',si⟩:=hs
 have bad:∀{h:H} {x:AV},fM n key val=false→ay (unT h (fun _=>true) (.tup [.agg [.bool false,.sl 1 [] (.exact 0),.sl 1 [] (.exact 0),.sl 1 [] (.exact 0)],.int .i64 2])) (.tup [aC (na n key val),.int .i64 (uG n key val)]):=by
  intro h x e
  simp only[na,uG,e,if_false,Bool.false_eq_true,gY,aC,unT,gP]
  exact ay.tup (au.cons (ay.agg (au.cons (ay.refl _) (au.cons ay.cap (au.cons ay.cap (au.cons ay.cap au.nil))))) (au.cons (ay.refl _) au.nil))
 cases hr:right n with
 |false=>
  refine an1 (cj2 @aC.eq_1 hr) (fg n hn) ?_
  refine cL ?_
  exact bad (x:= .any) (by simp[fM,hr])
 |true=>
  cases hl:n.leaf with
  |false=>
   have hE:ay (.agg [.bool false,.sl 1 (strs n.keys) .any,.sl 1 (strs n.vals) .any,.sl 1 (ints n.kids) .any]) (aC n):=by rw[aC,hl];exact ay.refl _
   refine an1 (cj3 @aC.eq_1 hr hl) (fg n hn) ?_
   refine cL ?_
   exact bad (x:= .any) (by simp[fM,hl])
  |true=>
   have hE:ay (.agg [.bool true,.sl 1 (strs n.keys) .any,.sl 1 (strs n.vals) .any,.sl 1 (ints n.kids) .any]) (aC n):=by rw[aC,hl];exact ay.refl _
   by_cases hk:key.length≤128
   ·have d1:decide ((128:Int)<(key.length:Int))=false:=decide_eq_false ab
    by_cases hv:val.length≤200
    ·have d2:decide ((200:Int)<(val.length:Int))=false:=decide_eq_false ab
     have hok:fM n key val=true:=by simp[fM,hr,hl,hk,hv]
     have hpl:dR n key=place n key:=by simp[dR,hr]
     have hvl:n.vals.length=n.keys.length:=by
      have:=hr
      simp[right,hl] at this
      exact this.2.1.1
     cases hf:bE n key with
     |false=>
      have hple:place n key≤n.keys.length:=by
       simp only[place];split<;>exact findIdx_le _ _
      refine an4 (cj7 @aC.eq_1 hr hl d1 d2 hpl hf) (fg n hn) (nQ n hn key) (B3 n.keys (place n key) key ab ab) (B3 n.vals (place n key) val ab ab) ?_
      refine cL ?_
      simp only[na,uG,hok,hf,if_true,if_false,Bool.false_eq_true,uF,aC,unT,gP]
      exact ay.tup (au.cons (ay.agg (au.cons (ay.refl _) (au.cons (ay.refl _) (au.cons (ay.refl _) (au.cons ay.cap au.nil))))) (au.cons (ay.refl _) au.nil))
     |true=>
      obtain ⟨-,-,f3,f4,-⟩:=dW hf
      have g1:(0:Int)≤(place n key:Int):=by omega
      have g2:(place n key:Int)<(n.vals.length:Int):=by omega
      have g3:place n key+1≤n.vals.length:=by omega
      refine an2 (cj7 @aC.eq_1 hr hl d1 d2 hpl hf) (fg n hn) (nQ n hn key) ?_
      refine ao.cd xA2 xAb (pV n.keys ab) ?_
      refine ao.eval xA1 ?_
      refine ao.cx ae (by simp only[go_sem,List.map];exact au.refl _) (B8 n.vals ab ab 2 0) (eg _ _) ?_
      refine ao.eval xA1 ?_
      refine ao.nil ⟨by simp[bw,aV,apart,aT],?_⟩
      refine Wp.aG (xAd (cj9 g1 g2 g3 @Int.toNat_natCast @Nat.zero_add @Nat.mul_one @da @and_self @true_and)) ag ?_
      refine Wp.aG xA1 ag ?_
      refine cL ?_
      have hW:(strs n.vals).take (place n key)++[.str val]++(strs n.vals).drop (place n key+1)=strs (n.vals.take (place n key)++val::n.vals.drop (place n key+1)):=by simp[strs]
      have hL:(strs (n.vals.take (place n key)++val::n.vals.drop (place n key+1))).length=n.vals.length:=by rw[da];simp;omega
      have hL':0+n.vals.length≤(strs (n.vals.take (place n key)++val::n.vals.drop (place n key+1))).length:=by rw[hL];omega
      have hT:((strs (n.vals.take (place n key)++val::n.vals.drop (place n key+1))).drop 0).take n.vals.length=strs (n.vals.take (place n key)++val::n.vals.drop (place n key+1)):=by rw[List.drop_zero];exact List.take_of_length_le (by rw[hL];omega)
      rw[hW]
      simp only[unT,gP,upd,and_self,if_true,Nat.reduceEqDiff,reduceIte,if_pos hL',hT,na,uG,hok,hf,uE,aC]
      exact ay.tup (au.cons (ay.agg (au.cons (ay.refl _) (au.cons (ay.refl _) (au.cons (ay.refl _) (au.cons ay.cap au.nil))))) (au.cons (ay.refl _) au.nil))
    ·have d2:decide ((200:Int)<(val.length:Int))=true:=decide_eq_true ab
     refine an1 (cj5 @aC.eq_1 hr hl d1 d2) (fg n hn) ?_
     refine cL ?_
     exact bad (x:= .any) (by simp[fM,hv])
   ·have d1:decide ((128:Int)<(key.length:Int))=true:=decide_eq_true ab
    refine an1 (cj4 @aC.eq_1 hr hl d1) (fg n hn) ?_
    refine cL ?_
    exact bad (x:= .any) (by simp[fM,hk])
theorem fH {α:Type} (l:List α) (i:Nat):(l.take i++l.drop (i+1)).Sublist l:=by
 rw[←List.eraseIdx_eq_take_drop_succ]
 exact List.eraseIdx_sublist _ _
theorem z6 {n:Node} (hl:n.leaf=true) (h:right n=true) {i:Nat} (hi:i<n.keys.length):right (zW n i)=true:=by
 obtain ⟨h1,h2,h3,h4⟩:=(bA hl).1 h
 refine (bA (n:=zW n i) rfl).2 ⟨h1.sub (fH _ _),?_,rfl,fun v hv=>h4 v ((fH _ _).subset hv)⟩
 simp[zW];omega
theorem sW {l m:List (List UInt8)} (h:m.Sublist l):tot m≤tot l:=by
 induction h with
 |slnil=>exact Nat.le_refl _
 |cons a _ ih=>simp only[tot,List.map_cons,List.sum_cons] at ih ⊢;omega
 |cons_cons a _ ih=>simp only[tot,List.map_cons,List.sum_cons] at ih ⊢;omega
theorem DV {l:List (List UInt8)} {c:Nat} (h:∀s∈l,s.length≤c):tot l≤c*l.length:=by
 induction l with
 |nil=>simp[tot]
 |cons s l ih=>
  have h1:=h s af
  have h2:=ih fun x hx=>h x (by simp[hx])
  simp only[tot,List.map_cons,List.sum_cons,List.length_cons,Nat.mul_add] at h2 ⊢
  omega
theorem qg {n:Node} {key val:List UInt8} (h:fM n key val=true):right n=true∧n.leaf=true∧key.length≤128∧val.length≤200:=by
 simp only[fM,Bool.and_eq_true,decide_eq_true_eq] at h
 exact ⟨h.1.1.1,h.1.1.2,h.1.2,h.2⟩
theorem l9 {n:Node} (hl:n.leaf=true) (key:List UInt8):place n key≤n.keys.length∧(∀j,j<place n key→Op.bytesLess (n.keys.getD j []) key=true)∧(place n key<n.keys.length→Op.bytesLess (n.keys.getD (place n key) []) key=false):=by
 have hp:=qf n key
 rw[hl] at hp
 refine ⟨by rw[hp];exact findIdx_le _ _,fun j hj=>?_,fun h=>?_⟩
 ·rw[hp] at hj
  have:=jQ hj
  simpa [stop] using this
 ·have hlt:n.keys.findIdx (stop true key)<n.keys.length:=by rw[←hp];exact h
  have:=List.findIdx_getElem (w:=hlt)
  rw[bD h]
  simp only[hp]
  simpa [stop] using this
theorem Aa {n:Node} {key val:List UInt8} (h:fM n key val=true) (hf:bE n key=false):right (uF n (place n key) key val)=true:=by
 obtain ⟨hr,hl,hk,hv⟩:=qg h
 obtain ⟨h1,h2,h3,h4⟩:=(bA hl).1 hr
 obtain ⟨p1,p2,p3⟩:=l9 hl key
 refine (bA (n:=uF n (place n key) key val) rfl).2 ⟨?_,by simp[uF];omega,rfl,fun v hv'=>?_⟩
 ·refine BV (i:=place n key) h1 hk (fun s hs=>?_) (fun s hs=>?_)
  ·obtain ⟨j,hj,_,rfl⟩:=kz hs
   exact p2 j hj
  ·obtain ⟨j,hj,hjl,rfl⟩:=iI hs
   have hlt:place n key<n.keys.length:=by omega
   have hne:n.keys.getD (place n key) []≠key:=fun e=>by
    simp[bE,found,hr,hl,hlt,e] at hf
    exact hf (by rw[←bD hlt (d:=[])];exact e)
   have h0:Op.bytesLess key (n.keys.getD (place n key) [])=true:=by
    rcases dy key (n.keys.getD (place n key) []) with g|g|g
    ·exact g
    ·exact absurd g.symm hne
    ·rw[p3 hlt] at g;cases g
   rcases Nat.eq_or_lt_of_le hj with e|e
   ·rw[←e];exact h0
   ·exact dx h0 (rising ((gV _).2 h1) e hjl)
 ·simp only[uF,List.mem_append,List.mem_cons] at hv'
  rcases hv' with hv'|rfl|hv'
  ·exact h4 v (List.mem_of_mem_take hv')
  ·exact hv
  ·exact h4 v (List.mem_of_mem_drop hv')
theorem Ab {n:Node} {key val:List UInt8} (h:fM n key val=true) (hf:bE n key=true):right (uE n (place n key) val)=true:=by
 obtain ⟨hr,hl,hk,hv⟩:=qg h
 obtain ⟨h1,h2,h3,h4⟩:=(bA hl).1 hr
 obtain ⟨-,-,f3,-,-⟩:=dW hf
 refine (bA (n:=uE n (place n key) val) rfl).2 ⟨h1,by simp[uE];omega,rfl,fun v hv'=>?_⟩
 simp only[uE,List.mem_append,List.mem_cons] at hv'
 rcases hv' with hv'|rfl|hv'
 ·exact h4 v (List.mem_of_mem_take hv')
 ·exact hv
 ·exact h4 v (List.mem_of_mem_drop hv')
theorem Ac {n:Node} {key val:List UInt8} (h:fM n key val=true):right (na n key val)=true:=by
 unfold na
 rw[if_pos h]
 cases hf:bE n key with
 |true=>rw[if_pos rfl];exact Ab h hf
 |false=>simp only[Bool.false_eq_true,if_false];exact Aa h hf
theorem uH {n:Node} {key val:List UInt8} (h:fM n key val=true):(na n key val).leaf=true:=by
 unfold na
 rw[if_pos h]
 split<;>rfl
theorem uI {n:Node} (hl:n.leaf=true) (hr:right n=true) {i:Nat} (hi:i<n.keys.length) {key:List UInt8} (hk:n.keys.getD i []=key):place n key=i∧bE n key=true:=by
 have h1:=((bA hl).1 hr).1
 have hp:place n key=i:=by
  refine B7 hi (fun j hj=>?_) ?_
  ·have:=rising ((gV _).2 h1) hj hi
   rw[hk] at this
   rw[hl]
   simp only[stop,this,Bool.true_or,Bool.not_true]
  ·rw[hl,hk]
   simp[stop,cN]
 refine ⟨hp,?_⟩
 simp only[bE,found,hr,hl,hp,hk,Bool.true_and,Bool.and_eq_true,decide_eq_true_eq]
 exact ⟨hi,trivial⟩
theorem size_leaf {n:Node} (hl:n.leaf=true):size n=3+3*n.keys.length+tot n.keys+tot n.vals:=by
 simp[size,hl]
theorem gM {n:Node} {key val:List UInt8} (h:fM n key val=true):size (na n key val)≤size n+331:=by
 obtain ⟨hr,hl,hk,hv⟩:=qg h
 obtain ⟨h1,h2,h3,h4⟩:=(bA hl).1 hr
 obtain ⟨p1,-,-⟩:=l9 hl key
 rw[size_leaf (uH h),size_leaf hl]
 unfold na
 rw[if_pos h]
 split
 ·have e:=fw n.vals (place n key)
  have e2:=pX (n.vals.drop (place n key)) 1
  rw[List.drop_drop] at e2
  simp only[uE,fm,gq]
  omega
 ·have e:=fw n.vals (place n key)
  have e3:=fw n.keys (place n key)
  simp only[uF,fm,gq,List.length_append,List.length_cons,List.length_take,List.length_drop]
  omega
theorem uJ {m:Node} (hl:m.leaf=true) (hr:right m=true) (hm:1≤most m) (hs:size m≤1355):size (part m 0 (cut m))≤1024∧size (part m (cut m+bet m) m.keys.length)≤1024:=by
 obtain ⟨c1,c2⟩:=pW hm
 have hbt:bet m=0:=by simp[bet,hl]
 obtain ⟨r1,r2,r3,r4⟩:=(bA hl).1 hr
 have hmost:most m+1=m.keys.length:=by unfold most at hm ⊢;omega
 have k128:∀j,j<m.keys.length→(m.keys.getD j []).length≤128:=fun j hj=>by rw[bD hj];exact r1.1 _ (List.getElem_mem hj)
 have v200:∀j,j<m.vals.length→(m.vals.getD j []).length≤200:=fun j hj=>by rw[bD hj];exact r4 _ (List.getElem_mem hj)
 have hsz:=size_leaf hl
 constructor
 ·rw[eH m _ ab,hl]
  simp only[if_true]
  have h1:=gl m.keys (cut m - 1) ab
  have h2:=k128 (cut m - 1) ab
  have h3:=gl m.vals (cut m - 1) ab
  have h4:=v200 (cut m - 1) ab
  rw[show cut m - 1+1=cut m by omega] at h1 h3
  by_cases hc:cut m=1
  ·rw[hc] at h1 h2 h3 h4 ⊢
   have z1:tot (m.keys.take 0)=0:=by simp[tot]
   have z2:tot (m.vals.take 0)=0:=by simp[tot]
   rw[show 1 - 1=0 by rfl] at h1 h2 h3 h4
   omega
  ·have hf:=lY (n:=m) (i:=cut m - 2) ab
   unfold fits at hf
   have hf:=of_decide_eq_false hf
   rw[show 1+(cut m - 2)=cut m - 1 by omega,eH m _ ab,hl] at hf
   simp only[if_true] at hf
   omega
 ·have hb:size (part m (cut m) m.keys.length)=3+3*(m.keys.length - cut m)+tot (m.keys.drop (cut m))+tot (m.vals.drop (cut m)):=by
   rw[size_leaf (n:=part m (cut m) m.keys.length) hl]
   simp only[part,hl,if_true,List.take_length,List.length_drop]
   rw[←r2,List.take_length]
  rw[hbt,Nat.add_zero,hb]
  have h1:=fw m.keys (cut m)
  have h2:=fw m.vals (cut m)
  by_cases hc:cut m<most m
  ·have hf:=wA hc
   unfold fits at hf
   have hf:=of_decide_eq_true hf
   rw[show 1+(cut m - 1)=cut m by omega,eH m _ ab,hl] at hf
   simp only[if_true] at hf
   omega
  ·have hd:m.keys.drop (cut m)=[m.keys.getD (cut m) []]:=by
    rw[List.drop_eq_getElem_cons (show cut m<m.keys.length by omega),List.drop_eq_nil_of_le ab,bD ab]
   have hd2:m.vals.drop (cut m)=[m.vals.getD (cut m) []]:=by
    rw[List.drop_eq_getElem_cons (show cut m<m.vals.length by omega),List.drop_eq_nil_of_le ab,bD ab]
   have:=k128 (cut m) ab
   have:=v200 (cut m) ab
   rw[hd,hd2,gq,gq]
   simp only[tot,List.map_nil,List.sum_nil]
   omega
theorem Ad {m:Node} (hl:m.leaf=true) (hr:right m=true) (hm:m.keys.length<2):size m≤1024:=by
 obtain ⟨r1,r2,r3,r4⟩:=(bA hl).1 hr
 rw[size_leaf hl]
 have h1:=fw m.keys 0
 match hk:m.keys,hv:m.vals with
 |[],[]=>simp[tot]
 |[a],[b]=>
  have:=r1.1 a (by rw[hk];simp)
  have:=r4 b (by rw[hv];simp)
  simp[tot];omega
 |[],_::_=>rw[hk,hv] at r2;simp at r2
 |[_],[]=>rw[hk,hv] at r2;simp at r2
 |[_],_::_::_=>rw[hk,hv] at r2;simp at r2
 |_::_::_,_=>rw[hk] at hm;simp only[List.length_cons] at hm;omega
end Go.Proofs.YtbgmofhgfnmaiaaGreat.Page
end
section
set_option maxRecDepth 10000
namespace Go.Proofs.YtbgmofhgfnmaiaaGreat.Batch
open Go Go.Av Go.Proofs Go.Proofs.YtbgmofhgfnmaiaaGreat.C
theorem lX (b:List UInt8):Op.bytesLess [] b=decide (0<b.length):=by cases b<;>simp[Op.bytesLess]
theorem dc (a:List UInt8):Op.bytesLess a []=false:=by cases a<;>simp[Op.bytesLess]
theorem sM {a b:List UInt8} {j:Nat} (ha:j<a.length) (hb:j<b.length):Op.bytesLess (a.drop j) (b.drop j)=(decide (a.getD j 0<b.getD j 0)||(a.getD j 0 == b.getD j 0&&Op.bytesLess (a.drop (j+1)) (b.drop (j+1)))):=by
 rw[List.drop_eq_getElem_cons ha,List.drop_eq_getElem_cons hb]
 simp[Op.bytesLess,List.getD,List.getElem?_eq_getElem ha,List.getElem?_eq_getElem hb]
theorem ku {a b:List UInt8} {j:Nat} (ha:j≤a.length) (hb:j≤b.length) (h:¬(j<a.length∧j<b.length)):Op.bytesLess (a.drop j) (b.drop j)=decide ((a.length:Int)<(b.length:Int)):=by
 by_cases h1:j<a.length
 ·have:b.drop j=[]:=List.drop_eq_nil_of_le ab
  rw[this,dc];symm;simp;omega
 ·have:a.drop j=[]:=List.drop_eq_nil_of_le ab
  rw[this,lX];simp;omega
def Ls (l:List UInt8):Prop:=l.length≤9223372036854775806
theorem xL (a b:List UInt8) (la:Ls a) (lb:Ls b):bc Tryz.prog 43 [.str a,.str b] (.bool (Op.bytesLess a b)):=by
 refine f43.fD af (bN _ rfl) (cD _ rfl) fun k m=>?_
 unfold Ls at la lb
 unfold c43 zz
 refine Wp.aG xA1 ag ?_
 refine Wp.seq ?_
 refine Wp.aG xA1 ag ?_
 refine Wp.block ?_
 refine Wp.mE [0,1] xA6 (fun j:Nat=>[(5,.int .i64 j)]) (fun j=>j≤a.length∧j≤b.length∧Op.bytesLess (a.drop j) (b.drop j)=Op.bytesLess a b) (fun j=>a.length - j) 0 ⟨Nat.zero_le _,Nat.zero_le _,rfl⟩ ?_ ?_
 ·exact xSb
 ·intro j hj
  obtain ⟨h1,h2,h3⟩:=hj
  refine Wp.seq ?_
  by_cases hc:j<a.length∧j<b.length
  ·have ha:decide ((j:Int)<(a.length:Int))=true:=by simp;omega
   have hb:decide ((j:Int)<(b.length:Int))=true:=by simp;omega
   have h4:(0:Int)≤(j:Int):=by omega
   have h5:(j:Int)<(a.length:Int):=by omega
   have h6:(j:Int)<(b.length:Int):=by omega
   refine Wp.aG (xAe (cj2 ha hb)) ag ?_
   refine Wp.cond_true (by simp only[go_sem,reduceIte,Nat.reduceEqDiff,Bool.false_eq_true]) ?_
   refine Wp.skip ?_
   refine Wp.seq ?_
   refine Wp.block ?_
   refine Wp.aG (xAd (cj6 h4 h5 h6 @and_self @Int.toNat_natCast @byte.eq_1)) ag ?_
   have hs:=sM hc.1 hc.2
   refine Wp.bU (b:= !decide (((a.getD j 0).toNat:Int)=((b.getD j 0).toNat:Int))) xA2 (fun hd=>?_) (fun hd=>?_)
   ·refine Wp.aG (xAd (cj6 h4 h5 h6 @and_self @Int.toNat_natCast @byte.eq_1)) ag ?_
    refine cL ?_
    refine ay.of_eq ?_
    congr 1
    rw[←h3,hs]
    have hne:¬(a.getD j 0=b.getD j 0):=fun he=>by rw[he] at hd;simp at hd
    have:(a.getD j 0 == b.getD j 0)=false:=by simpa using hne
    rw[this,Bool.false_and,Bool.or_false]
    congr 1
    rw[UInt8.lt_iff_toNat_lt]
    simp
   ·refine Wp.skip ?_
    refine Wp.lg (by simp only[go_sem,reduceIte,Nat.reduceEqDiff,Nat.reduceAdd,bx];simp (disch:=omega) only[IntWalk.i64_in];exact rfl) ag ?_
    have he:a.getD j 0=b.getD j 0:=by
     apply UInt8.toNat_inj.1
     have:((a.getD j 0).toNat:Int)=((b.getD j 0).toNat:Int):=by simpa using hd
     omega
    refine ⟨j+1,⟨ab,ab,?_⟩,ab,?_⟩
    ·rw[←h3,hs,he];simp[UInt8.lt_irrefl]
    ·exact xSu
  ·have hx:(decide ((j:Int)<(a.length:Int))&&decide ((j:Int)<(b.length:Int)))=false:=by
    by_cases h:j<a.length
    ·have:¬j<b.length:=fun h'=>hc ⟨h,h'⟩
     simp;omega
    ·simp;omega
   by_cases ha:j<a.length
   ·have h7:decide ((j:Int)<(a.length:Int))=true:=by simp;omega
    have h8:decide ((j:Int)<(b.length:Int))=false:=by rw[h7,Bool.true_and] at hx;exact hx
    refine Wp.aG (xAe (cj2 h7 h8)) ag ?_
    refine Wp.cond_false (by simp only[go_sem,reduceIte,Nat.reduceEqDiff,Bool.false_eq_true]) ?_
    refine Wp.exit ?_
    refine Wp.aG xA1 ag ?_
    refine cL ?_
    rw[←h3,ku h1 h2 hc]
    exact ay.refl _
   ·have h7:decide ((j:Int)<(a.length:Int))=false:=by simp;omega
    refine Wp.aG (xAe h7) ag ?_
    refine Wp.cond_false (by simp only[go_sem,reduceIte,Nat.reduceEqDiff,Bool.false_eq_true]) ?_
    refine Wp.exit ?_
    refine Wp.aG xA1 ag ?_
    refine cL ?_
    rw[←h3,ku h1 h2 hc]
    exact ay.refl _
theorem cN:∀a,Op.bytesLess a a=false
 |[]=>rfl
 |x::a=>by simp[Op.bytesLess,cN a,UInt8.lt_irrefl]
theorem dx:∀{a b c},Op.bytesLess a b=true→Op.bytesLess b c=true→Op.bytesLess a c=true
 |a,b,[],_,h=>by rw[dc] at h;cases h
 |a,[],c::cs,h,_=>by rw[dc] at h;cases h
 |[],b::bs,c::cs,_,_=>rfl
 |a::x,b::y,c::z,h1,h2=>by
  simp only[Op.bytesLess,Bool.or_eq_true,decide_eq_true_eq,Bool.and_eq_true,beq_iff_eq] at h1 h2 ⊢
  rcases h1 with h1|⟨rfl,h1⟩
  ·rcases h2 with h2|⟨rfl,h2⟩
   ·exact .inl (UInt8.lt_trans h1 h2)
   ·exact .inl h1
  ·rcases h2 with h2|⟨rfl,h2⟩
   ·exact .inl h2
   ·exact .inr ⟨rfl,dx h1 h2⟩
theorem dy:∀a b,Op.bytesLess a b=true∨a=b∨Op.bytesLess b a=true
 |[],[]=> .inr (.inl rfl)
 |[],_::_=> .inl rfl
 |_::_,[]=> .inr (.inr rfl)
 |x::a,y::b=>by
  simp only[Op.bytesLess,Bool.or_eq_true,decide_eq_true_eq,Bool.and_eq_true,beq_iff_eq,List.cons.injEq]
  rcases Nat.lt_trichotomy x.toNat y.toNat with h|h|h
  ·exact .inl (.inl (UInt8.lt_iff_toNat_lt.2 h))
  ·have:=UInt8.toNat_inj.1 h
   subst this
   rcases dy a b with h|h|h
   ·exact .inl (.inr ⟨rfl,h⟩)
   ·exact .inr (.inl ⟨rfl,h⟩)
   ·exact .inr (.inr (.inr ⟨rfl,h⟩))
  ·exact .inr (.inr (.inl (UInt8.lt_iff_toNat_lt.2 h)))
theorem gU {a b} (h:Op.bytesLess a b=true):Op.bytesLess b a=false:=by
 cases h':Op.bytesLess b a
 ·rfl
 ·have:=dx h h'
  rw[cN] at this;cases this
abbrev Bs:=List UInt8
structure Pr where
 k:Bs
 v:Bs
 deriving DecidableEq
structure Ch where
 k:Bs
 v:Bs
 d:Bool
 deriving DecidableEq
instance:Inhabited Pr:=⟨⟨[],[]⟩⟩
instance:Inhabited Ch:=⟨⟨[],[],false⟩⟩
def aS (p:Pr):AV:= .agg [.str p.k,.str p.v]
def prs (l:List Pr):List AV:=l.map aS
theorem cz (l:List Pr):(prs l).length=l.length:=by simp[prs]
theorem fh (l:List Pr) (k:Nat) (d:AV) (h:k<l.length):(prs l).getD k d=aS (l.getD k default):=by
 simp[prs,List.getD,List.getElem?_map,List.getElem?_eq_getElem h]
theorem dr {α:Type} {f:α→AV} (h:∀x,bq (f x)=true):∀l:List α,aU (l.map f)=true
 |[]=>rfl
 |x::l=>by simp only[List.map_cons,aU,h x,Bool.true_and];exact dr h l
theorem jl (l:List Pr):aU (prs l)=true:=dr (fun x=>by simp[aS,bq,aU]) l
theorem xX {α:Type} [Inhabited α] {l:List α} {i:Nat} (h:i<l.length):l.drop i=l.getD i default::l.drop (i+1):=by
 rw[List.drop_eq_getElem_cons h,List.getD_eq_getElem?_getD,List.getElem?_eq_getElem h];rfl
end Go.Proofs.YtbgmofhgfnmaiaaGreat.Batch
end
section
namespace Go.Av
theorem aK.Hm (t:Tm) (h:H) (d:Nat→Bool) (o1:Nat) {cs:List AV} (hd:d o1=false) (h1:h.objs o1=some (.cells cs)):
  aK ⟨t,h⟩ ⟨fun j=>unT h d (t j),{h.drop d with objs:=upd (h.drop d).objs o1 (some (.cells (gP h d cs)))}⟩ where
 n:=Nat.le_refl _
 m:=Nat.le_refl _
 go:=fun N G w a r _=>by
  have R:=xF r.h d
  have hd1:(h.drop d).objs o1=some (.cells cs):=by
   simp only[H.drop,hd]
   exact h1
  have hex:∀j o,upd (h.drop d).objs o1 (some (.cells (gP h d cs))) j=some o→∃o',(h.drop d).objs j=some o':=fun j o hj=>by
   simp only[upd] at hj
   by_cases e:j=o1
   ·subst e;exact ⟨_,hd1⟩
   ·rw[if_neg e] at hj;exact ⟨o,hj⟩
  have T2:=Trans.Gz (bZ (G:=G) (h:=h) (w:=w) d) hex
  refine ⟨G.frz h _,T2,⟨r.size,fun j=>sD r.h _ _ _ (r.t j),⟨fun j o hj=>?_,fun i j o o' a b e=>?_,R.tok,R.tinj⟩,r.df.mono T2⟩⟩
  ·simp only[upd] at hj
   by_cases e:j=o1
   ·subst e
    rw[if_pos rfl] at hj
    cases hj
    obtain ⟨p1,p2,p3,p4⟩:=R.obj _ _ hd1
    refine ⟨p1,p2,p3,?_⟩
    obtain ⟨-,-,-,vs,rest,T,fr,y1,y2,y3,y4⟩:=r.h.obj _ _ h1
    exact ⟨vs,rest,T,fr,y1,gQ r.h d _ _ y2,y3,y4⟩
   ·rw[if_neg e] at hj
    exact R.obj j o hj
  ·obtain ⟨o2,a2⟩:=hex _ _ a
   obtain ⟨o3,b2⟩:=hex _ _ b
   exact R.inj _ _ _ _ a2 b2 e
end Go.Av
end
section
namespace Go.Av
open Go.ChangeShapes Go.WideShapes Go.ChangeAt Go.RowKit
section
variable {H:Type} {enc:TypeId × Value→H} {P:Program} {w:World}
def G0:aL:=⟨fun _=>False,fun _=>0,fun _=>False,fun _=>none,fun _=>False,fun _=>none⟩
def fI (P:Program) (e:TypeId) (cs:List AV):AV:=if cu P e then .agg cs else cs.headD .any
mutual
def nc:AV→Nat
 | .int _ _=>1
 | .bool _=>1
 | .str l=>l.length+1
 | .sl _ xs _=>cY xs+1
 | .agg cs=>cY cs
 |_=>0
def cY:List AV→Nat
 |[]=>0
 |x::xs=>nc x+cY xs
end
theorem iN:∀l m:List AV,cY (l++m)=cY l+cY m
 |[],m=>by simp[cY]
 |x::l,m=>by simp[cY,iN l m];omega
theorem rF (P:Program) (e:TypeId) (cs:List AV):nc (fI P e cs)≤cY cs:=by
 unfold fI
 split
 ·simp[nc]
 ·cases cs with
  |nil=>simp[nc,cY]
  |cons x cs=>simp[cY]
structure qh (B:DataW H→Nat) (BL:List (DataW H)→Nat):Prop where
 str:∀l,B (.lit (.string l))=l.length+1
 int:∀k n,B (.lit (.int k n))=1
 bool:∀b,B (.lit (.bool b))=1
 nil:B .nil=1
 slice:∀a b,B (.slice a b)=BL a+BL b+1
 agg:∀a,B (.agg a)=BL a+1
 nils:BL []=0
 cons:∀d l,BL (d::l)=B d+BL l
theorem qh.snoc {B:DataW H→Nat} {BL:List (DataW H)→Nat} (hB:qh B BL):∀(l:List (DataW H)) (d:DataW H),BL (l++[d])=BL l+B d
 |[],d=>by simp[hB.cons,hB.nils]
 |x::l,d=>by simp[hB.cons,qh.snoc hB l d];omega
theorem qh.take {B:DataW H→Nat} {BL:List (DataW H)→Nat} (hB:qh B BL):∀(l:List (DataW H)) (m:Nat),BL (l.take m)≤BL l
 |[],m=>by simp
 |x::l,0=>by simp[hB.nils]
 |x::l,m+1=>by simp[hB.cons,qh.take hB l m]
theorem jW {P:Program} {e:TypeId} {n:Nat}:∀{l:List (DataW H)} {d:DataW H},d∈l→n∈d.weights P e→n∈DataW.weightsAll P e l
 |x::l,d,h,hn=>by
  simp only[DataW.weightsAll,List.mem_append]
  rcases List.mem_cons.1 h with rfl|h
  ·exact .inl hn
  ·exact .inr (jW h hn)
inductive uK {α β:Type} (R:α→β→Prop):List α→List β→Prop
 |nil:uK R [] []
 |cons {a b l m}:R a b→uK R l m→uK R (a::l) (b::m)
def Fits (P:Program):Nat→TypeId→List AV→Prop
 |0,_,_=>False
 |k+1,t,xs=>match P.underlying t with
  |some .bool=>∃b,xs=[.bool b]
  |some (.int q)=>∃n,xs=[.int q n]∧(Lit.int q n).wf=true
  |some .string=>∃l,xs=[.str l]∧l.length≤reachBytes
  |some (.slice e)=>∃ys,xs=[.sl (P.cellsOf e) ys .any]∧ys.length*P.bytesOf e≤reachBytes∧∀y∈ys,∃cs,Fits P k e cs∧y=fI P e cs
  |some (.struct fs)=>∃xss,xs=xss.flatten∧uK (fun (f:Field) cs=>Fits P k f.type cs) fs.toList xss
  |_=>False
def iO (P:Program):Nat→TypeId→Bool
 |0,_=>false
 |k+1,t=>match P.underlying t with
  |some .bool|some (.int _)|some .string=>true
  |some (.slice e)=>decide (e<P.types.size)&&decide (0<P.cellsOf e)&&(cu P e||decide (P.cellsOf e=1))&&iO P k e
  |some (.struct fs)=>decide (t<P.types.size)&&fs.all fun f=>iO P k f.type
  |_=>false
theorem rG {a:Addr} {v:Value} (h:w.cell? a=some v):a.spot=none:=by
 unfold World.cell? at h
 split at h
 ·split at h
  ·cases h
  ·rename_i hs;cases hh:a.spot with
   |none=>rfl
   |some x=>simp[hh] at hs
 ·cases h
theorem uL (b:Bool):One (.bool b):=⟨fun _=>by simp,fun _=>by simp⟩
theorem wG (k:IntKind) (n:Int):One (.int k n):=⟨fun _=>by simp,fun _=>by simp⟩
theorem wH (s:ByteArray):One (.string s):=⟨fun _=>by simp,fun _=>by simp⟩
theorem rH (a:Option Addr) (l c:Nat):One (.slice a l c):=⟨fun _=>by simp,fun _=>by simp⟩
theorem ng {R:Field→List AV→Prop} {G:aL} {B:DataW H→Nat} {BL:List (DataW H)→Nat} (hB:qh B BL) (full:List Value) (rd:Field→List Value→DataW H→Prop)
  (hrd:∀f cs d,rd f cs d→∃xs,R f xs∧aD G w xs cs∧(∀v∈cs,One v)∧cY xs≤B d):∀(fs:List Field) (ds:List (DataW H)) (off:Nat),ds.length=fs.length→
  (∀(j:Nat) f,fs[j]? =some f→f.offset=off+((fs.take j).map fun f=>P.cellsOf f.type).sum)→full.length=off+(fs.map fun f=>P.cellsOf f.type).sum→
  (∀(j:Nat) f d,fs[j]? =some f→ds[j]? =some d→rd f ((full.drop f.offset).take (P.cellsOf f.type)) d)→∃xss,uK R fs xss∧aD G w xss.flatten (full.drop off)∧(∀v∈full.drop off,One v)∧cY xss.flatten≤BL ds
 |[],ds,off,hl,h1,h2,h3=>by
  have e:full.drop off=[]:=List.drop_eq_nil_of_le (by simp at h2;omega)
  exact ⟨[],.nil,by rw[e];exact .nil,by rw[e];simp,by simp[cY]⟩
 |f::fs,[],off,hl,h1,h2,h3=>by cases hl
 |f::fs,d::ds,off,hl,h1,h2,h3=>by
  have o0:f.offset=off:=by simpa using h1 0 f rfl
  have hf:=h3 0 f d rfl rfl
  rw[o0] at hf
  obtain ⟨xs,r1,r2,r3,r4⟩:=hrd f _ d hf
  obtain ⟨xss,q1,q2,q3,q4⟩:=ng hB full rd hrd fs ds (off+P.cellsOf f.type) (by simpa using hl) (fun j g hj=>by
   have:=h1 (j+1) g (by simpa using hj)
   simp only[List.take_succ_cons,List.map_cons,List.sum_cons] at this;omega) (by simp only[List.map_cons,List.sum_cons] at h2;omega) (fun j g d' hg hd=>h3 (j+1) g d' (by simpa using hg) (by simpa using hd))
  have e:full.drop off=(full.drop off).take (P.cellsOf f.type)++full.drop (off+P.cellsOf f.type):=by
   rw[←List.drop_drop,List.take_append_drop]
  refine ⟨xs::xss,.cons r1 q1,?_,?_,?_⟩
  ·rw[e,List.flatten_cons];exact r2.append q2
  ·rw[e];intro v hv
   rcases List.mem_append.1 hv with hv|hv
   ·exact r3 v hv
   ·exact q3 v hv
  ·rw[List.flatten_cons,iN,hB.cons];omega
theorem Ae {e:TypeId} {cs:List AV} {vs:List Value} (hs:vs.length=P.cellsOf e) (hr:aD G0 w cs vs) (ho:∀v∈vs,One v) (hc:cu P e=false→P.cellsOf e=1):
  ∃v:Value,v.cells.toList=vs∧aw G0 w (fI P e cs) v:=by
 unfold fI
 cases ha:cu P e with
 |true=>exact ⟨.agg vs.toArray,by simp[Value.cells],by simp only[if_true,aw];exact ⟨vs,rfl,hr⟩⟩
 |false=>
  rw[hc ha] at hs
  obtain ⟨v,rfl⟩:=List.length_eq_one_iff.1 hs
  have hl:=hr.length
  obtain ⟨x,rfl⟩:=List.length_eq_one_iff.1 (show cs.length=1 by simpa using hl.symm)
  simp only[aD] at hr
  obtain ⟨v',us,e1,hv,e2⟩:=hr
  cases e1
  refine ⟨v,?_,by simpa using hv⟩
  have:=ho v af
  cases v<;>first|rfl|exact absurd rfl (this.1 _)|exact absurd rfl (this.2 _)
theorem Fits.slice {k:Nat} {t e:TypeId} {ys:List AV} (ht:P.underlying t=some (.slice e)) (h1:ys.length*P.bytesOf e≤reachBytes) (h2:∀y∈ys,∃cs,Fits P k e cs∧y=fI P e cs):Fits P (k+1) t [.sl (P.cellsOf e) ys .any]:=by
 unfold Fits;rw[ht];exact ⟨ys,rfl,h1,h2⟩
theorem Af (hl:laidOutB P=true) {B:DataW H→Nat} {BL:List (DataW H)→Nat} (hB:qh B BL):∀(k:Nat) (t:TypeId),iO P k t=true→∀(fuel:Nat) (cs:List Value) (x:DataW H × List MemPlace),
  DataW.trod enc P w 0 (fun _=>true) true fuel t cs=some x→(∀n∈x.1.weights P t,n≤reachBytes)→∃xs,Fits P k t xs∧aD G0 w xs cs∧(∀v∈cs,One v)∧cY xs≤B x.1:=by
 intro k
 induction k with
 |zero=>intro t h;cases h
 |succ k ih=>
  intro t hp fuel cs x hx hwt
  simp only[iO] at hp
  split at hp
  ·rename_i ht
   obtain ⟨b,rfl,rfl⟩:=DataW.trod_bool ht hx
   exact ⟨[.bool b],by simp only[Fits,ht];exact ⟨b,rfl⟩,.cons (by simp[aw]) .nil,by simp[uL],by simp[hB.bool,cY,nc]⟩
  ·rename_i q ht
   obtain ⟨n,rfl,rfl,hw⟩:=DataW.trod_int ht hx
   exact ⟨[.int q n],by simp only[Fits,ht];exact ⟨n,rfl,hw⟩,.cons (by simp[aw]) .nil,by simp[wG],by simp[hB.int,cY,nc]⟩
  ·rename_i ht
   obtain ⟨s,rfl,rfl,-⟩:=DataW.trod_string ht hx
   refine ⟨[.str s.data.toList],by simp only[Fits,ht];exact ⟨_,rfl,hwt _ (by simp[DataW.weights])⟩,.cons (by simp[aw]) .nil,by simp[wH],by simp[hB.str,cY,nc]⟩
  ·rename_i e ht
   simp only[Bool.and_eq_true,decide_eq_true_eq] at hp
   obtain ⟨⟨⟨-,hsz⟩,hag⟩,hpe⟩:=hp
   rcases DataW.trod_slice ht hx with ⟨rfl,rfl⟩|⟨a,len,cap,elems,rest,n,rfl,rfl,rfl,hb,hlc,hcm,hel,hread,hrest,-⟩
   ·refine ⟨[.sl (P.cellsOf e) [] .any],Fits.slice ht af (fun y hy=>by cases hy),.cons ?_ .nil,by simp[rH],by simp[hB.nil,cY,nc]⟩
    unfold aw;exact .inl ⟨rfl,⟨none,rfl⟩,trivial⟩
   ·have hone:cu P e=false→P.cellsOf e=1:=by
     intro ha
     simpa [ha] using hag
    have each:∀i,i<len→∃vs xs,w.cells? 0 (a.add (i*P.cellsOf e)) (P.cellsOf e)=some vs∧Fits P k e xs∧aD G0 w xs vs∧(∀v∈vs,One v)∧∀y,elems[i]? =some y→cY xs≤B y.1:=by
     intro i hi
     have h:=hread i hi
     rw[List.getElem?_eq_getElem ab] at h
     obtain ⟨vs,h1,h2⟩:=Option.bind_eq_some_iff.1 h
     obtain ⟨xs,h3,h4,h5,h6⟩:=ih e hpe n vs _ h2 (fun m hm=>hwt m (by
      simp only[DataW.weights,ht,List.mem_cons,List.mem_append]
      exact .inr (.inl (jW (List.mem_map.2 ⟨_,List.getElem_mem ab,rfl⟩) hm))))
     exact ⟨vs,xs,h1,h3,h4,h5,fun y hy=>by rw[List.getElem?_eq_getElem ab] at hy;cases hy;exact h6⟩
    have build:∀m,m≤len→∃ys vs,ys.length=m∧vs.length=m*P.cellsOf e∧(∀y∈ys,∃cs,Fits P k e cs∧y=fI P e cs)∧aF G0 w (P.cellsOf e) ys vs∧(∀(i:Nat) v,vs[i]? =some v→w.cell? (a.add i)=some v∧One v)∧cY ys≤BL ((elems.map (·.1)).take m):=by
     intro m
     induction m with
     |zero=>intro _;exact ⟨[],[],rfl,by simp,by simp,by simp[aF],by simp,by simp[cY]⟩
     |succ m ihm=>
      intro hm
      obtain ⟨ys,vs,k1,k2,k3,k4,k5,k6⟩:=ihm ab
      obtain ⟨us,xs,e1,e2,e3,e4,eb⟩:=each m ab
      obtain ⟨-,e5,e6⟩:=World.cells?_some e1
      obtain ⟨v,hv1,hv2⟩:=Ae e5 e3 e4 hone
      refine ⟨ys++[fI P e xs],vs++us,by simp[k1],by simp[k2,e5,Nat.add_mul],?_,?_,?_,?_⟩
      ·intro y hy
       rcases List.mem_append.1 hy with hy|hy
       ·exact k3 y hy
       ·simp at hy;exact ⟨xs,e2,hy⟩
      ·refine k4.append ?_
       simp only[aF]
       exact ⟨v,[],by simp[hv1],by rw[←Array.length_toList,hv1,e5],hv2,rfl⟩
      ·intro i z hz
       rcases Nat.lt_or_ge i vs.length with hi|hi
       ·rw[List.getElem?_append_left hi] at hz;exact k5 i z hz
       ·rw[List.getElem?_append_right hi] at hz
        have hlt:i - vs.length<us.length:=(List.getElem?_eq_some_iff.1 hz).1
        have:=e6 (i - vs.length) ab
        rw[hz] at this
        have ea:(a.add (m*P.cellsOf e)).add (i - vs.length)=a.add i:=by
         rw[←k2]
         unfold Addr.add
         by_cases h0:vs.length=0
         ·simp[h0]
         ·by_cases h1:i - vs.length=0
          ·have:i=vs.length:=by omega
           subst this;simp
          ·have:i≠0:=by omega
           simp[h0,h1,this];omega
        rw[ea] at this
        exact ⟨this,e4 z (List.mem_of_getElem? hz)⟩
      ·have hlt:m<(elems.map (·.1)).length:=by simp;omega
       rw[List.take_succ_eq_append_getElem hlt,hB.snoc,iN]
       have h1:=eb _ (List.getElem?_eq_getElem ab)
       have h2:=rF P e xs
       simp only[List.getElem_map,cY]
       omega
    obtain ⟨ys,vs,k1,k2,k3,k4,k5,k6⟩:=build len (Nat.le_refl _)
    refine ⟨[.sl (P.cellsOf e) ys .any],Fits.slice ht ?_ k3,.cons ?_ .nil,by simp[rH],?_⟩
    ·have:=hwt ((elems.length+rest.length)*P.bytesOf e) (by simp[DataW.weights,ht])
     exact Nat.le_trans (Nat.mul_le_mul_right _ ab) this
    rotate_left
    ·have:=hB.take (elems.map (·.1)) len
     simp only[hB.slice,cY,nc]
     omega
    unfold aw
    by_cases hcap:cap=0
    ·have:ys=[]:=List.length_eq_zero_iff.1 ab
     exact .inl ⟨this,⟨some a,by simp;omega⟩,by simp[jy]⟩
    ·have hspot:a.spot=none:=by
      by_cases hl0:len=0
      ·obtain ⟨hr1,hr2⟩:=hrest rfl
       have h:=hr2 0 ab
       rw[List.getElem?_eq_getElem ab] at h
       obtain ⟨vs',h1,h2⟩:=Option.bind_eq_some_iff.1 h
       obtain ⟨-,g1,g2⟩:=World.cells?_some h1
       have:=g2 0 hsz
       rw[List.getElem?_eq_getElem ab] at this
       have:=rG this
       simpa [hl0,Addr.add] using this
      ·obtain ⟨us,xs,e1,e2,e3,e4,-⟩:=each 0 ab
       obtain ⟨-,g1,g2⟩:=World.cells?_some e1
       have:=g2 0 hsz
       rw[List.getElem?_eq_getElem ab] at this
       have:=rG this
       simpa [Addr.add] using this
     obtain ⟨B,off,sp⟩:=a
     simp only at hspot
     subst hspot
     refine .inr ⟨B,off,cap,vs,by simp[k1],ab,by rw[k2,k1],k4,fun i v hv=>?_,by simp[de]⟩
     obtain ⟨c1,c2⟩:=k5 i v hv
     rw[add_plain] at c1
     exact ⟨c1,c2,by simp[G0],by simp[G0]⟩
  ·rename_i fs ht
   simp only[Bool.and_eq_true,decide_eq_true_eq] at hp
   obtain ⟨hlt,hp⟩:=hp
   rw[Array.all_eq_true_iff_forall_mem] at hp
   obtain ⟨xs,n,rfl,rfl,hlen,hxl,hread⟩:=DataW.trod_struct ht hx
   obtain ⟨-,hsum,hoff⟩:=kid_struct hl hlt ht
   obtain ⟨xss,q1,q2,q3,q4⟩:=ng (P:=P) (R:=fun (f:Field) cs=>Fits P k f.type cs) (G:=G0) (w:=w) hB cs
    (fun f us d=>iO P k f.type=true∧∃y,DataW.trod enc P w 0 (fun _=>true) true n f.type us=some y∧y.1=d∧∀m∈d.weights P f.type,m≤reachBytes)
    (fun f us d ⟨h1,y,h2,h3,h4⟩=>by subst h3;exact ih f.type h1 n us y h2 h4) fs.toList (xs.map (·.1)) 0 (by simp[hxl]) (fun j f hj=>by rw[hoff j f hj];omega) (by rw[hlen,hsum];omega)
    (fun i f d hi hd=>by
     refine ⟨hp f (by have:=List.mem_of_getElem? hi;simpa using this),?_⟩
     have h:=hread i f (by simpa using hi)
     rw[List.getElem?_map] at hd
     cases hxi:xs[i]? with
     |none=>rw[hxi] at hd;cases hd
     |some y=>
      rw[hxi] at h hd
      refine ⟨y,h,by simpa using hd,fun m hm=>hwt m ?_⟩
      simp only[DataW.weights,ht]
      exact DataW.weights_mem_each (j:=i) (t:=f.type) (d:=d) (by rw[List.getElem?_map,hi];rfl) (by rw[List.getElem?_map,hxi];exact hd) m hm)
   refine ⟨xss.flatten,by simp only[Fits,ht];exact ⟨xss,rfl,q1⟩,by simpa using q2,by simpa using q3,?_⟩
   rw[hB.agg];omega
  ·cases hp
def nh (P:Program) (k:Nat) (t:TypeId) (a:AV):Prop:=∃cs,Fits P k t cs∧a=fI P t cs
theorem DW {k:Nat} {t:TypeId} {v:Value} {xs:List AV} {base:Nat} (hp:iO P k t=true) (hok:Value.okWide P w .any base t v) (hr:aD G0 w xs v.cells.toList) (ho:∀u∈v.cells.toList,One u):aw G0 w (fI P t xs) v:=by
 unfold fI
 cases ha:cu P t with
 |true=>
  have:∃cs,v= .agg cs:=by
   unfold cu at ha
   unfold Value.okWide at hok
   split at ha
   ·rename_i h;rw[h] at hok;obtain ⟨cs,h,-⟩:=hok;exact ⟨cs,h⟩
   ·rename_i h;rw[h] at hok;obtain ⟨cs,h,-⟩:=hok;exact ⟨cs,h⟩
   ·cases ha
  obtain ⟨cs,rfl⟩:=this
  simp only[if_true,aw]
  exact ⟨cs.toList,by simp,by simpa [Value.cells] using hr⟩
 |false=>
  have hv:v.cells= #[v]:=by
   cases v<;>try rfl
   exfalso
   cases k with
   |zero=>cases hp
   |succ k=>
    unfold iO at hp
    unfold cu at ha
    unfold Value.okWide Cell.okWide Cell.ok at hok
    split at hp
    all_goals (try (rename_i h;rw[h] at hok ha;simp at hok ha;done))
    all_goals (try (rename_i h;rw[h] at hok ha;simp at hok;done))
    all_goals simp_all
  rw[hv] at hr
  have hl:=hr.length
  obtain ⟨x,rfl⟩:=List.length_eq_one_iff.1 (show xs.length=1 by simpa using hl.symm)
  simp only[aD] at hr
  obtain ⟨v',us,e1,hx,e2⟩:=hr
  cases e1
  simpa using hx
theorem uM (hl:laidOutB P=true) {B:DataW H→Nat} {BL:List (DataW H)→Nat} (hB:qh B BL) {k:Nat} {base:Nat}:∀{ts us:List TypeId} {vs:List Value} {ds:List (DataW H)} {ps:List MemPlace},(∀t∈ts,iO P k t=true)→
  (∀(j:Nat) t v,ts[j]? =some t→vs[j]? =some v→Value.okWide P w .any base t v)→(∀n∈DataW.weightsEach P (ts++us) ds,n≤reachBytes)→DataW.TrodAll enc P w 0 (fun _=>true) true ts vs ds ps→∃avs,uK (nh P k) ts avs∧aD G0 w avs vs∧cY avs≤BL ds
 |[],us,[],[],_,_,_,_,_=>⟨[],.nil,.nil,by simp[cY]⟩
 |t::ts,us,v::vs,d::ds,_,hp,hok,hwt,⟨p,q,⟨fuel,h1⟩,h2,_⟩=>by
  obtain ⟨xs,f1,f2,f3,f4⟩:=Af hl hB k t (hp t af) fuel _ _ h1 (fun n hn=>hwt n (by simp only[List.cons_append,DataW.weightsEach,List.mem_append];exact .inl hn))
  obtain ⟨avs,g1,g2,g3⟩:=uM hl hB (us:=us) (fun t ht=>hp t (by simp[ht])) (fun j t v a b=>hok (j+1) t v (by simpa using a) (by simpa using b)) (fun n hn=>hwt n (by simp only[List.cons_append,DataW.weightsEach,List.mem_append];exact .inr hn)) h2
  refine ⟨fI P t xs::avs,.cons ⟨xs,f1,rfl⟩ g1,.cons (DW (hp t af) (hok 0 t v rfl rfl) f2 f3) g2,?_⟩
  have:=rF P t xs
  simp only[cY,hB.cons] at f4 ⊢
  omega
theorem oH {sp:Nat→Bool}:∀{ts:List TypeId} {vs:List Value} {ds:List (DataW H)} {ps:List MemPlace},DataW.TrodAll enc P w 0 sp true ts vs ds ps→ds.length=ts.length
 |[],[],[],_,h=>rfl
 |t::ts,v::vs,d::ds,_,⟨p,q,h1,h2,e⟩=>by simp[oH h2]
theorem lC {w':World} {sp:Nat→Bool}:∀{ts:List TypeId} {vs:List Value} {ds:List (DataW H)} {ps:List MemPlace},DataW.TrodAll enc P w 0 sp true ts vs ds ps→(∀p∈ps,w.sameAt w' p)→DataW.TrodAll enc P w' 0 sp true ts vs ds ps
 |[],[],[],_,h,_=>h
 |t::ts,v::vs,d::ds,_,⟨p,q,⟨fuel,h1⟩,h2,e⟩,hs=>by
  subst e
  exact ⟨p,q,⟨fuel,DataW.trod_carry fuel _ _ _ h1 (fun x hx=>hs x (List.mem_append_left _ hx))⟩,lC h2 (fun x hx=>hs x (List.mem_append_right _ hx)),rfl⟩
theorem Ag (hl:laidOutB P=true) {B:DataW H→Nat} {BL:List (DataW H)→Nat} (hB:qh B BL) (hm:mapsRowed P=true) (hz:∀t e,t<P.types.size→P.underlying t=some (.slice e)→0<P.cellsOf e) {f:FuncId} {fn:Func} {s:ChangeSpec} {k base:Nat} {W:World} {args:Array Value} {ds gs:List (DataW H)} {before:List MemPlace} {tb:TypeId}
  (hvars:s.vars=[]) (hfn:∀l:List (DataW H),l.length=fn.params.size→s.fn H l= {results:=[.lit (.bool true)],args:=l}) (hrt:fn.resultTypes= #[tb]) (htb:P.underlying tb=some .bool)
  (hpl':fn.params.toList.all (iO P k)=true) (hlt':fn.params.toList.all (fun t=>decide (t<P.types.size))=true)
  (hval:∀(j:Nat) t v,fn.params[j]? =some t→args[j]? =some v→Value.okWide P W .any base t v) (hW:DataW.Whole enc P fn.params.toList s.vars false W args.toList ds gs before)
  {us:List TypeId} (hwt:(DataW.weightsEach P (fn.params.toList++us) (ds++gs)).all (· ≤reachBytes)=true)
  (law:∀avs,uK (nh P k) fn.params.toList avs→cY avs≤BL (ds++gs)→bc P f avs (.bool true)):
  Calls P f args W fun e W'=>∃v,e= .returned v∧s.post enc P fn false true false false W args v W':=by
 have hpl:∀t∈fn.params.toList,iO P k t=true:=List.all_eq_true.1 hpl'
 have hlt:∀t∈fn.params.toList,t<P.types.size:=fun t ht=>of_decide_eq_true (List.all_eq_true.1 hlt' t ht)
 have hW':=hW
 obtain ⟨p,q,hA,hV,rfl,-,-⟩:=hW
 rw[hvars] at hV
 obtain ⟨rfl,rfl⟩:=trodVars_none hV
 rw[List.append_nil] at hwt law
 obtain ⟨avs,g1,g2,g3⟩:=uM hl hB hpl (fun j t v a b=>hval j t v (by simpa using a) (by simpa using b)) (fun n hn=>of_decide_eq_true (List.all_eq_true.1 hwt n hn)) hA
 have hlaw:=law avs g1 g3 0 0 G0 W args.toList g2 gL ⟨fun _ _ _ h=>h,fun _ _ _ h=>h⟩
 rw[show args.toList.toArray=args from Array.toArray_toList] at hlaw
 refine hlaw.mono ?_
 rintro e W' ⟨v,G',he,T,-,hv⟩
 subst he
 simp only[aw] at hv
 subst hv
 have keep:∀B,B<W.heap.size→W'.heap[B]? =W.heap[B]? :=fun B hB=>T.keep B hB (fun x=>eY B x) (fun ⟨t,ht,_⟩=>by simp[H0,Av.H.only] at ht)
 have hlt':∀x∈p,x.block<W.heap.size:=DataW.TrodAll.lt hA
 have hlen:=oH hA
 refine ⟨_,rfl,ds,[],p++[],[],p,[],hW',?_,?_,?_,?_,fun h=>by cases h⟩
 ·rw[hfn _ (by simpa using hlen),hrt]
  exact trodAll_mk1 (shut_bool htb _)
 ·rw[hfn _ (by simpa using hlen)]
  have:=DataW.TrodAll.respare (kids_rows hl hm) hz (spare':=fun b=>decide (b<W.heap.size)) hlt hA (fun x hx=>by simpa using hlt' x hx)
  simp only[List.append_nil]
  refine lC this fun x hx=>?_
  have hb:=hlt' x hx
  cases x with
  |cell b off=>unfold World.sameAt World.cell?;simp only;rw[keep b hb]
  |map b=>exact keep b hb
 ·rw[hvars,hfn _ (by simpa using hlen)]
  rfl
 ·refine ⟨T.os,T.output,fun i hi=>?_⟩
  rw[keep i hi]
  generalize W.heap[i]? =o
  cases o with
  |none=>rfl
  |some o=>cases o<;>simp
end
end Go.Av
end
section
set_option maxRecDepth 100000
namespace Go.Proofs.YtbgmofhgfnmaiaaGreat.Tree
open Go Go.Av Go.Proofs Go.Proofs.YtbgmofhgfnmaiaaGreat.C Go.Proofs.YtbgmofhgfnmaiaaGreat.Page
open Go.Proofs.YtbgmofhgfnmaiaaGreat.Batch (Bs Pr prs aS)
def dkO (K n:Nat) (pa:AV):Av.Obj:= .cells [.tsl 128 K 0 n none,pa,.int .i64 (-1),.bool false]
section
variable {h:H} {D K n:Nat} {pa:AV}
theorem B9 (ho:h.objs D=some (dkO K n pa)) (hn:0<n):aI Tryz.prog 58 [.ptr D 0] h (.bool true) h:=by
 refine f58.bW af ?_
 unfold c58 zz
 have d1:decide ((0:Int)<(n:Int))=true:=decide_eq_true ab
 unfold dkO at ho
 refine rf0 (cj2 ho d1) ?_
 refine Wp.ret ⟨trivial,_,?_,ay.refl _,rfl⟩
 simp only[go_sem]
 exact rfl
theorem Fj (ho:h.objs D=some (dkO K n pa)) (hn:0<n):aI Tryz.prog 67 [.ptr D 0] h (.int .i64 n) h:=by
 refine f67.bW af ?_
 unfold c67 zz
 have c1:=B9 ho hn
 unfold dkO at ho
 refine rg1 (cj2 ho @Bool.not_true) c1 ?_
 refine Wp.ret ⟨trivial,_,?_,ay.refl _,rfl⟩
 simp only[go_sem]
 exact rfl
theorem EL (ho:h.objs D=some (dkO K n pa)) (hn:0<n):aI Tryz.prog 49 [.ptr D 0] h (.int .i64 0) h:=by
 refine f49.bW af ?_
 unfold c49 zz
 have c1:=B9 ho hn
 unfold dkO at ho
 refine rg1 (cj2 ho @Bool.not_true) c1 ?_
 refine Wp.ret ⟨trivial,_,?_,ay.refl _,rfl⟩
 simp only[go_sem]
 exact rfl
theorem uN (ho:h.objs D=some (dkO K n pa)) {i:Nat} (hi:i<n):aI Tryz.prog 138 [.ptr D 0,.int .i64 i] h (.int .i64 0) h:=by
 refine f138.bW af ?_
 unfold Gm zz
 have c1:=EL ho ab
 have d1:decide ((i:Int)<0)=false:=decide_eq_false ab
 have d2:decide ((n:Int)≤(i:Int))=false:=decide_eq_false ab
 unfold dkO at ho
 refine rg1 (cj5 ho d1 d2 @decide_true @Bool.not_true) c1 ?_
 refine Wp.ret ⟨trivial,_,?_,ay.refl _,rfl⟩
 simp only[go_sem]
 exact rfl
theorem Ca (ho:h.objs D=some (dkO K n pa)):aI Tryz.prog 50 [.ptr D 0] h (.int .i64 0) h:=by
 refine f50.bW af ?_
 unfold c50 zz
 have d1:decide ((-1:Int)=0)=false:=by decide
 have d2:decide ((0:Int)< -1)=false:=by decide
 unfold dkO at ho
 refine rf0 (cj3 ho d1 d2) ?_
 refine Wp.ret ⟨trivial,_,?_,ay.refl _,rfl⟩
 simp only[go_sem]
 exact rfl
end
def wAV (x:Nat × List UInt8):AV:= .agg (ar x.2++[.int .i64 x.1])
def tkC:Option Nat→Cap
 |some t=> .own t
 |none=> .exact 0
def tkT:Option Nat→List Nat→List Nat
 |some t,T=>t::T
 |none,T=>T
def cZ (p:List (Nat × List UInt8)) (tk:Option Nat):AV:= .sl 129 (p.map wAV) (tkC tk)
theorem DX {F:Nat→Option Av.Obj} {n m K N D W off i:Nat} {tk:Option Nat} {T:List Nat} {cap:Option Nat} {p:List (Nat × List UInt8)} {l:List UInt8} {cs:List AV} (ho:F D=some (dkO K N (cZ p tk))) (hW:F W=some (.cells cs)) (hl:l.length=128) (hcs:(cs.drop off).take 128=ar l) (hle:off+128≤cs.length)
  (hi:i<N) (hD:D<n) (hWn:W<n) (hn:F n=none) (ht:∀t,tk=some t→t∉T) (h0:tk=none→p=[]) (hp:p.length<1000000):
  aI Tryz.prog 146 [.ptr D 0,.int .i64 i,.tsl 1 W off 128 cap] ⟨F,n,tkT tk T,m⟩ (.int .i64 0) ⟨upd F D (some (dkO K N (cZ (p++[(i,l)]) (some m)))),n+1,m::T,m+1⟩:=by
 refine f146.bW af ?_
 unfold Gq
 have c1:=uN (h:=⟨F,n,tkT tk T,m⟩) ho hi
 have c2:=Ca (h:=⟨F,n,tkT tk T,m⟩) ho
 have d1:decide ((128:Int)<((128:Nat):Int))=false:=by decide
 refine rg2 (cj2 d1 @decide_true) c1 c2 ?_
 have hDn:¬(D=n):=Nat.ne_of_lt hD
 have hWn1:¬(W=n):=Nat.ne_of_lt hWn
 have hnD:¬(n=D):=fun e=>hDn e.symm
 obtain ⟨Z,hZ⟩:∃Z,Z=List.replicate 128 (AV.int .u8 0):=⟨_,rfl⟩
 rw[←hZ]
 have hZl:Z.length=128:=by rw[hZ];simp
 have hZc:Z.all aP=true:=by rw[hZ];simp[aP]
 clear hZ
 have z1:∀x:AV,(Z++[x]).length=129:=fun x=>by simp[hZl]
 have z2:∀x:AV,List.take 128 (Z++[x])=Z:=fun x=>by rw[←hZl,List.take_left]
 have z7:∀x:AV,List.drop 129 (Z++[x])=[]:=fun x=>List.drop_eq_nil_of_le (by rw[z1];exact Nat.le_refl _)
 have z3:(Z++[AV.int .i64 0]).all aP=true:=by simp only[List.all_append,hZc];rfl
 have z4:(Z++[AV.int .i64 (i:Int)]).all aP=true:=by simp only[List.all_append,hZc];rfl
 have z8:∀x:AV,List.drop 128 (Z++[x])=[x]:=fun x=>by rw[←hZl,List.drop_left]
 have z9:(ar l).length=128:=by simp[ar,hl]
 refine rf0 (sH z1 z2 z3 z4 z7 @List.append_nil.{0} @List.take_zero.{0} @List.nil_append.{0} @Nat.zero_add @List.length_cons.{0} @List.length_nil.{0}) ?_
 refine an.opA ae (by simp only[fE,jO,jN,go_sem,reduceIte,Nat.reduceEqDiff,Nat.reduceAdd,bx,ax,if_true,if_false,Nat.reduceMul,Nat.reduceLeDiff,z1,List.map,Nat.zero_add,Nat.one_mul,Nat.mul_one,Nat.reduceLeDiff,and_self,Int.toNat_zero,Nat.sub_zero,Nat.reduceMul];exact rfl) ?_
 simp only[bY]
 refine an.evF xAc ?_
 refine an.opA ae (by simp only[fE,jO,jN,go_sem,reduceIte,Nat.reduceEqDiff,Nat.reduceAdd,bx,ax,if_true,if_false,Nat.reduceMul,Nat.reduceLeDiff,hWn1,hW,z1,z8,z9,hle,hcs,Nat.min_self,List.take_zero,List.nil_append,Nat.zero_add,Nat.reduceLeDiff,ne_eq,not_false_eq_true,not_true,and_self,hDn,hnD];exact rfl) ?_
 simp only[bY]
 refine an.nil ?_
 rw[show List.take (min 128 (Int.toNat 128)) (List.drop off cs)=ar l from hcs,z9,z8,bg,bg]
 refine Wp.le (s':=⟨tm [(0,.ptr D 0),(8,.ptr n 0)],⟨upd F n (some (.cells (ar l++[.int .i64 i]))),n+1,tkT tk T,m⟩⟩) (aK.tm ?_) ?_
 ·exact xSb
 have y1:(ar l++[AV.int .i64 (i:Int)]).length=129:=by simp[z9]
 have y2:(ar l++[AV.int .i64 (i:Int)]).all aP=true:=by simp[ar,byte,aP]
 have y3:List.take 129 (ar l++[AV.int .i64 (i:Int)])=ar l++[AV.int .i64 (i:Int)]:=List.take_of_length_le (by rw[y1];exact Nat.le_refl _)
 have y4:(p.map wAV).length=p.length:=by simp
 have r1:(p.length+1)*136≤140737488355328:=by omega
 have r2:p.length+1<4611686018427387904:=by omega
 have ey:dkO K N (cZ (p++[(i,l)]) (some m))= .cells [.tsl 128 K 0 N none,.sl 129 (List.map wAV p++[.agg (ar l++[.int .i64 i])]) (.own m),.int .i64 (-1),.bool false]:=by simp[dkO,cZ,wAV,tkC]
 cases tk with
 |some t=>
  have y5:List.filter (fun x=> !decide (x=t)) T=T:=List.filter_eq_self.2 fun x hx=>by
   have:x≠t:=fun e=>ht t rfl (e▸hx)
   simp[this]
  unfold dkO cZ tkC at ho
  unfold tkT
  refine rn0 (cT ho hDn hnD y1 y2 y3 y4 y5 r1 r2 @Nat.zero_add (cj9 @List.drop_zero.{0} @List.mem_cons.{0} @true_or @and_self @Nat.one_mul @List.all_cons.{0} @List.all_nil.{0} @List.length_cons.{0} @List.length_nil.{0})) ?_
  refine Wp.le (s':=⟨tm [(6,.int .i64 0)],⟨upd F D (some (dkO K N (cZ (p++[(i,l)]) (some m)))),n+1,m::T,m+1⟩⟩) (aK.of (bL ?_) ?_ (fun x hx=>?_) (Nat.le_refl _) (Nat.le_refl _)) ?_
  ·exact xSb
  ·rw[ey]
   exact OLe.upd (OLe.skip hn) (ed.refl _)
  ·simpa [y5] using hx
  refine Wp.ret ⟨trivial,_,?_,ay.refl _,rfl⟩
  simp only[go_sem]
  exact rfl
 |none=>
  obtain rfl:=h0 rfl
  replace ho:F D=some (.cells [.tsl 128 K 0 N none,.sl 129 [] (.exact 0),.int .i64 (-1),.bool false]):=ho
  unfold tkT
  have r4:(1:Nat)<4611686018427387904:=by decide
  refine rn0 (cT ho hDn hnD y1 y2 y3 r4 @true_or @or_true @List.nil_append.{0} @List.map_nil.{0,0} (mN @Nat.zero_add @List.drop_zero.{0} @List.mem_cons.{0} @true_or @and_self @Nat.one_mul @List.all_cons.{0} @List.all_nil.{0} @List.length_cons.{0} @List.length_nil.{0})) ?_
  refine Wp.le (s':=⟨tm [(6,.int .i64 0)],⟨upd F D (some (dkO K N (cZ ([]++[(i,l)]) (some m)))),n+1,m::T,m+1⟩⟩) (aK.of (bL ?_) ?_ (fun x hx=>?_) (Nat.le_refl _) (Nat.le_refl _)) ?_
  ·exact xSb
  ·rw[ey]
   exact OLe.upd (OLe.skip hn) (ed.refl _)
  ·exact hx
  refine Wp.ret ⟨trivial,_,?_,ay.refl _,rfl⟩
  simp only[go_sem]
  exact rfl
theorem rI (p:List (Nat × List UInt8)) {j:Nat} (h:j<p.length) (d:AV):(p.map wAV).getD j d=wAV (p.getD j (0,[])):=by
 simp[List.getD_eq_getElem?_getD,List.getElem?_eq_getElem h]
theorem wI {p:List (Nat × List UInt8)} {c:Cap} {B:Nat} (hp:p.length<1000000) (hl:∀x∈p,x.2.length=128) (id:Nat) (Inv:Nat→H→Prop) (E:H→Prop)
  (hB:∀j h,Inv j h→h.objs B=some (.cells [.sl 129 (p.map wAV) c]))
  (hY:∀j h,j<p.length→Inv (j+1) h→sK Tryz.prog id [.int .i64 (j:Nat),wAV (p.getD j (0,[]))] h fun r h'=>(r= .bool true∧Inv j h')∨(r= .bool false∧E h'))
  (h0:H) (hi:Inv p.length h0):aM Tryz.prog 158 [.yld id,.ptr B 0] h0 fun r h'=>r= .tup []∧(Inv 0 h'∨E h'):=by
 refine f158.cq af ?_
 unfold Gu zz
 have b0:=hB _ _ hi
 have len:(p.map wAV).length=p.length:=by simp
 have w1:IntKind.i64.wrap ((p.length:Int) - 1)=(p.length:Int) - 1:=IntWalk.i64_in _ ab
 refine rf0 (cj3 b0 @len w1) ?_
 refine Wp.le (s':=⟨tm [(0,.yld id),(1,.ptr B 0),(3,.int .i64 ((p.length:Int) - 1))],h0⟩) (aK.tm ?_) ?_
 ·exact xSb
 refine Wp.eV [0,1] xA7 (fun b:Nat × H=>[(3,.int .i64 ((b.1:Int) - 1))]) (fun b=>b.2) (fun b=>b.1≤p.length∧Inv b.1 b.2) (fun b=>b.1) (p.length,h0) ⟨Nat.le_refl _,hi⟩ rfl ?_ ?_
 ·exact xSb
 clear b0 hi h0 w1
 rintro ⟨j,h⟩ ⟨hj,hI⟩
 simp only at hj hI
 cases j with
 |zero=>
  have g1:decide ((0:Int)≤((0:Nat):Int) - 1)=false:=by decide
  refine rf0 g1 ?_
  refine ⟨trivial,_,rfl,?_,.inl hI⟩
  simp only[go_sem]
 |succ j=>
  have g1:decide ((0:Int)≤((j+1:Nat):Int) - 1)=true:=decide_eq_true ab
  have e0:((j+1:Nat):Int) - 1=(j:Int):=by omega
  rw[e0] at g1 ⊢
  have b0:=hB _ _ hI
  have hs:=rI p (j:=j) ab .any
  have hy:=hY j h ab hI
  have h3:(j:Int)<(p.length:Int):=by omega
  have h2:(0:Int)≤(j:Int):=by omega
  have hx:(p.getD j (0,[])).2.length=128:=by
   rw[List.getD_eq_getElem?_getD,List.getElem?_eq_getElem (show j<p.length by omega)]
   exact hl _ (List.getElem_mem _)
  generalize p.getD j (0,[])=x at hs hy hx
  change _=AV.agg (ar x.2++[AV.int .i64 (x.1:Int)]) at hs
  have sh:(ar x.2++[AV.int .i64 (x.1:Int)]).all aP=true:=by simp[ar,byte,aP]
  have y1:(ar x.2++[AV.int .i64 (x.1:Int)]).length=129:=by simp[ar,hx]
  have y3:List.take 129 (ar x.2++[AV.int .i64 (x.1:Int)])=ar x.2++[AV.int .i64 (x.1:Int)]:=List.take_of_length_le (by rw[y1];exact Nat.le_refl _)
  refine rf0 (cT b0 @len g1 hs h2 h3 @Int.toNat_natCast @and_self sh y1 y3 (cj4 @Bool.or_true @Bool.false_or @Nat.zero_add @List.drop_zero.{0})) ?_
  refine an.yield ae (by simp only[go_sem,reduceIte,Nat.reduceEqDiff]) xA4 hy fun r h1 hq hn hm=>?_
  have w2:IntKind.i64.wrap ((j:Int) - 1)=(j:Int) - 1:=IntWalk.i64_in _ ab
  rcases hq with ⟨rfl,hi1⟩|⟨rfl,hE1⟩
  ·refine an.evF xAc ?_
   refine rf0 (cj2 @Bool.not_true w2) ?_
   refine ⟨(j,h1),⟨ab,hi1⟩,Nat.lt_succ_self _,?_⟩
   refine aK.tm ?_
   exact xSb
  ·refine an.evF xAc ?_
   refine rf0 @Bool.not_false ?_
   refine Wp.ret ⟨trivial,_,rfl,?_,.inr hE1⟩
   simp only[go_sem]
def rdP (p:List (Nat × List UInt8)) (d:List (Nat × List UInt8)) (i:Nat):List UInt8:=p.foldl (fun a x=>if x.1=i then x.2 else a) (eD d i)
theorem gZ (p d:List (Nat × List UInt8)) (x:Nat × List UInt8) (i:Nat):rdP (p++[x]) d i=if x.1=i then x.2 else rdP p d i:=by
 simp[rdP,List.foldl_append]
theorem jm {α:Type} {M:List α→Prop} (h0:M []) (h1:∀l x,M l→M (l++[x])):∀l,M l:=by
 intro l
 rw[←List.reverse_reverse l]
 induction l.reverse with
 |nil=>exact h0
 |cons x r ih=>rw[List.reverse_cons];exact h1 _ _ ih
theorem Cb {p d:List (Nat × List UInt8)} {i:Nat} (h:∀x∈p,x.1≠i):rdP p d i=eD d i:=by
 revert h
 refine jm (M:=fun p=>(∀x∈p,x.1≠i)→rdP p d i=eD d i) (fun _=>rfl) (fun p x ih h=>?_) p
 rw[gZ,if_neg (h x af),ih fun y hy=>h y (by simp[hy])]
theorem Fk {p d:List (Nat × List UInt8)} {i j:Nat} (hj:j<p.length) (h:∀k,j<k→k<p.length→(p.getD k (0,[])).1≠i) (he:(p.getD j (0,[])).1=i):rdP p d i=(p.getD j (0,[])).2:=by
 revert hj h he
 refine jm (M:=fun p=>j<p.length→(∀k,j<k→k<p.length→(p.getD k (0,[])).1≠i)→(p.getD j (0,[])).1=i→rdP p d i=(p.getD j (0,[])).2) (fun hj=>by simp at hj) (fun p x ih hj h he=>?_) p
 rw[gZ]
 simp only[List.length_append,List.length_cons,List.length_nil] at hj
 have e1:(p++[x]).getD p.length (0,[])=x:=by simp[List.getD]
 have e2:∀k,k<p.length→(p++[x]).getD k (0,[])=p.getD k (0,[]):=fun k hk=>by simp[List.getD,List.getElem?_append_left hk]
 by_cases e:j=p.length
 ·subst e
  rw[e1] at he ⊢
  rw[if_pos he]
 ·have hj2:j<p.length:=by omega
  have hx:=h p.length hj2 af
  rw[e1] at hx
  rw[if_neg hx,e2 j hj2]
  rw[e2 j hj2] at he
  exact ih hj2 (fun k h1 h2=>by rw[←e2 k h2];exact h k h1 ak) he
theorem Ah {h:H} {xs:List AV} {c:Cap}:aI Tryz.prog 139 [.sl 129 xs c] h (.clo (.func 158) [] [.ptr h.n 0]) {h with objs:=upd h.objs h.n (some (.cells [.sl 129 xs c])),n:=h.n+1}:=by
 refine f139.bW af ?_
 unfold Gn zz
 refine wg ?_
 refine Wp.ret ⟨trivial,_,?_,ay.refl _,rfl⟩
 simp only[go_sem]
 exact rfl
def rdG (F:Nat→Option Av.Obj) (n i:Nat) (PA:AV) (v:List UInt8):Nat→Option Av.Obj:=upd (upd (upd F n (some (.cells [.int .i64 i]))) (n+1) (some (.cells (ar v)))) (n+1+1) (some (.cells [PA]))
set_option maxHeartbeats 1000000 in
theorem Fl {F:Nat→Option Av.Obj} {n m K N D i:Nat} {tk:Option Nat} {T:List Nat} {p d:List (Nat × List UInt8)} (ho:F D=some (dkO K N (cZ p tk))) (hK:F K=some (.bk ⟨N,d⟩)) (hd:∀x∈d,x.2.length=128) (hl:∀x∈p,x.2.length=128)
  (hi:i<N) (hD:D<n) (hKn:K<n) (hf:∀j,n≤j→F j=none) (hp:p.length<1000000):
  ∃n',n≤n'∧aI Tryz.prog 99 [.ptr D 0,.int .i64 i] ⟨F,n,T,m⟩ (.tup [.sl 1 (ar (rdP p d i)) .any,.int .i64 0]) ⟨F,n',T,m⟩:=by
 have key:aM Tryz.prog 99 [.ptr D 0,.int .i64 i] ⟨F,n,T,m⟩ fun r h'=>∃n',n≤n'∧r= .tup [.tsl 1 (n+1) 0 128 (some 128),.int .i64 0]∧h'=⟨upd F (n+1) (some (.cells (ar (rdP p d i)))),n',T,m⟩:=by
  refine f99.cq af ?_
  unfold c99
  have hDn:¬(D=n):=Nat.ne_of_lt hD
  have hnD:¬(n=D):=fun e=>hDn e.symm
  have hKn1:¬(K=n):=Nat.ne_of_lt hKn
  have c1:=uN (h:=⟨upd F n (some (.cells [.int .i64 i])),n+1,T,m⟩) (D:=D) (K:=K) (n:=N) (pa:=cZ p tk) (by simp only[upd,if_neg hDn];exact ho) hi
  refine Hj c1 ?_
  refine Wp.le (s':=⟨tm [(0,.ptr D 0),(3,.ptr n 0)],⟨upd F n (some (.cells [.int .i64 i])),n+1,T,m⟩⟩) (aK.tm ?_) ?_
  ·exact xSb
  have ho2:=ho
  unfold dkO cZ at ho2
  have h2:(0:Int)≤(i:Int):=by omega
  have h3:(i:Int)<(N:Int):=by omega
  have m1:i*128%128=0:=by omega
  have m2:i*128/128=i:=by omega
  refine Wp.reg ?_
  refine ao.part 6 (xAe (cj8 ho2 hDn hnD h2 h3 @Int.toNat_natCast @and_self @Nat.zero_add)) ?_
  simp only[List.drop_succ_cons,List.drop_zero,List.drop_nil]
  refine ao.opA xA2 (by simp only[fE,jO,jN,go_sem,reduceIte,Nat.reduceEqDiff,Nat.reduceAdd,bx,ax,if_true,if_false,Nat.reduceMul,Nat.reduceLeDiff,hK,hKn1,m1,m2,hi];exact rfl) ?_
  obtain ⟨Z,hZ⟩:∃Z,Z=List.replicate 128 (AV.int .u8 0):=⟨_,rfl⟩
  rw[←hZ]
  have hZl:Z.length=128:=by rw[hZ];simp
  have hZc:Z.all aP=true:=by rw[hZ];simp[aP]
  clear hZ
  obtain ⟨v0,hv0⟩:∃v0,v0=eD d i:=⟨_,rfl⟩
  have v0l:v0.length=128:=by rw[hv0];exact je hd i
  rw[←hv0]
  have v1:(ar v0).length=128:=by simp[ar,v0l]
  have v2:(ar v0).all aP=true:=by simp[ar,byte,aP]
  have v3:List.drop 128 Z=[]:=List.drop_eq_nil_of_le ab
  refine ao.part 2 (xAd (cj9 hZc hZl v1 v2 v3 @Nat.zero_add @List.take_zero.{0} @List.nil_append.{0} @List.append_nil.{0})) ?_
  simp only[List.drop_succ_cons,List.drop_zero,List.drop_nil]
  refine ao.nil ⟨by simp[bw,aV,apart,aT];omega,?_⟩
  rw[bg]
  refine Wp.le (s':=⟨tm [(0,.ptr D 0),(3,.ptr n 0),(7,.ptr (n+1) 0)],⟨upd (upd F n (some (.cells [.int .i64 i]))) (n+1) (some (.cells (ar v0))),n+1+1,T,m⟩⟩) (aK.tm ?_) ?_
  ·exact xSb
  have hDn2:¬(D=n+1):=by omega
  have hnn:¬(n=n+1):=by omega
  have c2:=Ah (h:=⟨upd (upd F n (some (.cells [.int .i64 i]))) (n+1) (some (.cells (ar v0))),n+1+1,T,m⟩) (xs:=p.map wAV) (c:=tkC tk)
  refine rf0 (cj3 ho2 hDn hDn2) ?_
  simp only at c2
  refine an.cx xA2 xAb (by exact ⟨Nat.le_succ _,Nat.le_refl _⟩) (c2) ?_
  refine an.nil ?_
  refine Wp.block ?_
  obtain ⟨PA,hPA⟩:∃PA,PA=AV.sl 129 (p.map wAV) (tkC tk):=⟨_,rfl⟩
  refine Wp.le (s':=⟨tm [(3,.ptr n 0),(7,.ptr (n+1) 0),(27,.clo (.func 158) [] [.ptr (n+1+1) 0])],⟨rdG F n i PA v0,n+1+1+1,T,m⟩⟩) (aK.of (bL ?_) ?_ (fun x hx=>hx) (Nat.le_refl _) (Nat.le_refl _)) ?_
  ·exact xSb
  ·rw[hPA];exact OLe.refl _
  refine Wp.GA (fi:=158) (first:=[]) (caps:=[.ptr (n+1+1) 0]) (by simp only[go_sem,reduceIte,Nat.reduceEqDiff]) Tryz.func158 rfl (of_decide_eq_true (by kernel_rfl)) (by
   simp only[rdG,upd]
   rw[if_neg ab,if_neg ab,if_neg ab]
   exact hf _ ab) ?_
  intro asg body a1 a2 a3 a4
  generalize hT:tm [(3,AV.ptr n 0),(7,.ptr (n+1) 0),(27,.clo (.func 158) [] [.ptr (n+1+1) 0])]=tt at*
  have t3:tt 3= .ptr n 0:=by rw[←hT];rfl
  have t7:tt 7= .ptr (n+1) 0:=by rw[←hT];rfl
  obtain ⟨L,hL⟩:∃L,L=n+1+1+1:=⟨_,rfl⟩
  rw[←hL]
  have fin:∀(v:List UInt8),v=rdP p d i→∀(Hh:Nat→Option Av.Obj) (n':Nat),L<n'→Hh (n+1)=some (.cells (ar v))→(∀k o,F k=some o→Hh k=some o)→
    Wp Tryz.prog 37 (.seq (.reg [⟨some 36,none,.raw (.slp 1 128) [(.t 7),(.c (.int .i64 0)),(.c (.int .i64 128))]⟩,⟨some 4,none,.mov (.t 36)⟩,⟨some 5,none,.mov (.c (.int .i64 0))⟩] none) .ret) ⟨tt,⟨Hh,n',T,m⟩⟩ fun e s'=>jb e∧∃q,cJ [RV.tmp 4,RV.tmp 5] s'.t s'.h=some q∧∃n',n≤n'∧q= .tup [.tsl 1 (n+1) 0 128 (some 128),.int .i64 0]∧s'.h=⟨upd F (n+1) (some (.cells (ar (rdP p d i)))),n',T,m⟩:=by
   intro v hv Hh n' hn' h1 h2
   have hl2:(rdP p d i).length=128:=by
    refine jm (M:=fun p=>(∀x∈p,x.2.length=128)→(rdP p d i).length=128) (fun _=>je hd i) (fun p x ih h=>?_) p hl
    rw[gZ]
    split
    ·exact h x af
    ·exact ih fun y hy=>h y (by simp[hy])
   refine Wp.le (s':=⟨tm [(7,.ptr (n+1) 0)],⟨upd F (n+1) (some (.cells (ar (rdP p d i)))),n',T,m⟩⟩) (aK.of (bL ?_) (fun j o' hj=>?_) (fun x hx=>hx) (Nat.le_refl _) (Nat.le_refl _)) ?_
   ·simp only[ba,go_sem,reduceIte,Nat.reduceEqDiff,Nat.reduceAdd,bx,t7];and_intros<;>first|exact trivial|exact ay.refl _|exact ay.any _|(refine ay.int ?_;omega)
   ·simp only[upd] at hj
    by_cases e:j=n+1
    ·rw[if_pos e] at hj
     cases hj
     exact ⟨_,by rw[e,h1,hv],ed.refl _⟩
    ·rw[if_neg e] at hj
     exact ⟨_,h2 j o' hj,ed.refl _⟩
   have w1:(ar (rdP p d i)).length=128:=by simp[ar,hl2]
   refine Wp.seq (Wp.DL ?_)
   refine an.opA ae (by simp only[fE,jO,jN,go_sem,reduceIte,Nat.reduceEqDiff,Nat.reduceAdd,bx,ax,if_true,if_false,Nat.reduceMul,Nat.reduceLeDiff,w1,List.map,Nat.zero_add,Nat.one_mul,Nat.mul_one,Nat.reduceLeDiff,and_self,Int.toNat_zero,Nat.sub_zero,Nat.reduceMul];exact rfl) ?_
   simp only[bY]
   refine an.evF xAc ?_
   refine an.nil ?_
   refine Wp.ret ⟨trivial,_,?_,n',ab,rfl,rfl⟩
   simp only[go_sem]
   exact rfl
  refine (wI (p:=p) (c:=tkC tk) (B:=n+1+1) hp hl L (fun j h=>(∀k,j≤k→k<p.length→(p.getD k (0,[])).1≠i)∧∃n',L<n'∧h=⟨upd (rdG F n i PA v0) L (some (.loop 37 tt [28,29] asg body .ready none)),n',T,m⟩)
   (fun h=>∃n' t2,L<n'∧h=⟨upd (rdG F n i PA (rdP p d i)) L (some (.loop 37 t2 [28,29] asg body .done (some (.exit 0)))),n',T,m⟩) ?_ ?_ _ ?_).mono ?_
  ·rintro j h ⟨-,n',q1,rfl⟩
   simp only[rdG,upd]
   rw[if_neg ab,if_pos trivial,hPA]
  ·rintro j h hj ⟨hI,n',q1,rfl⟩
   have hob:upd (rdG F n i PA v0) L (some (.loop 37 tt [28,29] asg body .ready none)) L=some (.loop 37 tt [28,29] asg body .ready none):=by simp[upd]
   refine we (t:=tt) (ps:=[28,29]) hob a1 a2 a3 a4 rfl af ?_
   have hx:(p.getD j (0,[])).2.length=128:=by
    rw[List.getD_eq_getElem?_getD,List.getElem?_eq_getElem hj]
    exact hl _ (List.getElem_mem _)
   have hmiss:=fun (e:(p.getD j (0,[])).1≠i) (k:Nat) (h1:j≤k) (h2:k<p.length)=>(by
    by_cases q:k=j
    ·rw[q];exact e
    ·exact hI k ab h2:(p.getD k (0,[])).1≠i)
   have hhit:=fun (e:(p.getD j (0,[])).1=i)=>Fk (p:=p) (d:=d) hj (fun k h1 h2=>hI k ab h2) e
   generalize p.getD j (0,[])=x at hx hmiss hhit
   have z1:∀y:AV,(Z++[y]).length=129:=fun y=>by simp[hZl]
   have z3:(Z++[AV.int .i64 0]).all aP=true:=by simp only[List.all_append,hZc];rfl
   have z7:∀y:AV,List.drop 129 (Z++[y])=[]:=fun y=>List.drop_eq_nil_of_le (by rw[z1];exact Nat.le_refl _)
   have y1:(ar x.2++[AV.int .i64 (x.1:Int)]).length=129:=by simp[ar,hx]
   have y2:(ar x.2++[AV.int .i64 (x.1:Int)]).all aP=true:=by simp[ar,byte,aP]
   refine Wp.lg (by simp only[go_sem,reduceIte,Nat.reduceEqDiff,mK,wAV,z1,z3,z7,y1,y2,Nat.zero_add,List.take_zero,List.nil_append,List.append_nil,Nat.reduceLeDiff,and_self];exact rfl) ag ⟨rfl,tt,?_,?_⟩
   ·simp only[upd]
    rw[if_neg ab,if_neg ab,if_pos trivial]
   obtain ⟨bz,hbz⟩:∃bz,bz=Av.Obj.loop 37 tt [28,29] asg body .busy none:=⟨_,rfl⟩
   rw[←hbz]
   obtain ⟨Bf,hBf⟩:∃Bf,Bf=upd (rdG F n i PA v0) L (some bz):=⟨_,rfl⟩
   have fB1:Bf n=some (.cells [.int .i64 i]):=by
    rw[hBf]
    simp only[rdG,upd]
    rw[if_neg ab,if_neg ab,if_neg ab,if_pos trivial]
   have fB2:Bf (n+1)=some (.cells (ar v0)):=by
    rw[hBf]
    simp only[rdG,upd]
    rw[if_neg ab,if_neg ab,if_pos trivial]
   have fBL:Bf L=some bz:=by
    rw[hBf]
    simp only[upd]
    rw[if_pos trivial]
   have fBn:Bf n'=none:=by
    rw[hBf]
    simp only[rdG,upd]
    rw[if_neg ab,if_neg ab,if_neg ab,if_neg ab]
    exact hf _ ab
   refine Wp.le (s':=⟨tm [(3,.ptr n 0),(7,.ptr (n+1) 0),(9,.ptr n' 0)],⟨upd Bf n' (some (.cells (ar x.2++[.int .i64 x.1]))),n'+1,T,m⟩⟩) (aK.of (bL ?_) ?_ (fun x hx=>hx) (Nat.le_refl _) (Nat.le_refl _)) ?_
   ·simp only[ba,go_sem,reduceIte,Nat.reduceEqDiff,Nat.reduceAdd,bx,t3,t7];and_intros<;>first|exact trivial|exact ay.refl _|exact ay.any _|(refine ay.int ?_;omega)
   ·simp only
    rw[bg,jg _ _ _ (show n'≠L by omega),bg,←hBf]
    exact OLe.refl _
   have hn1:¬(n=n'):=by omega
   have hn2:¬(n+1=n'):=by omega
   have hn3:¬(n'=n+1):=by omega
   have y5:(ar x.2++[AV.int .i64 (x.1:Int)])[128]? =some (.int .i64 (x.1:Int)):=by
    have:(ar x.2).length=128:=by simp[ar,hx]
    rw[List.getElem?_append_right ab,this];rfl
   have y6:List.take 128 (ar x.2++[AV.int .i64 (x.1:Int)])=ar x.2:=by
    have:(ar x.2).length=128:=by simp[ar,hx]
    rw[←this,List.take_left]
   have y7:(ar x.2).length=128:=by simp[ar,hx]
   have y8:(ar x.2).all aP=true:=by simp[ar,byte,aP]
   have y9:List.drop 128 (ar v0)=[]:=List.drop_eq_nil_of_le ab
   by_cases e:x.1=i
   ·have dE:decide ((x.1:Int)=(i:Int))=true:=decide_eq_true ab
    refine Wp.block ?_
    refine Wp.seq ?_
    refine Wp.cB (xAd (cT fB1 fB2 hn1 hn2 hn3 y5 y6 y7 y8 y9 v1 (cj7 dE y1 @Nat.zero_add @List.drop_zero.{0} @List.take_zero.{0} @List.nil_append.{0} @List.append_nil.{0}))) ?_
    refine an.nil ?_
    refine Wp.cond_true (by simp only[go_sem,reduceIte,Nat.reduceEqDiff]) ?_
    refine Wp.seq ?_
    refine Wp.cB (xAd (cT fB1 fB2 hn1 hn2 hn3 y5 y6 y7 y8 y9 v1 (cj7 dE y1 @Nat.zero_add @List.drop_zero.{0} @List.take_zero.{0} @List.nil_append.{0} @List.append_nil.{0}))) ?_
    refine an.nil ?_
    refine Wp.le (s':=⟨fun _=> .any,⟨upd Bf (n+1) (some (.cells (ar x.2))),n'+1,T,m⟩⟩) (aK.of (fun _=>ay.any _) ?_ (fun x hx=>hx) (Nat.le_refl _) (Nat.le_refl _)) ?_
    ·exact OLe.upd (OLe.skip fBn) (ed.refl _)
    refine Wp.exit ?_
    refine ⟨tt,false,.done,some (.exit 0),?_,.exit 0,fun _ _=> .inr ⟨rfl,n'+1,tt,ab,?_⟩⟩
    ·simp only[upd]
     rw[if_neg ab]
     rw[←hbz];exact fBL
    ·have hr:=hhit e
     simp only[hBf]
     rw[jg _ _ _ (show L≠n+1 by omega),bg,hr]
     congr 2
     simp only[rdG]
     rw[jg _ _ _ (show n+1+1≠n+1 by omega),bg]
   ·have dE:decide ((x.1:Int)=(i:Int))=false:=decide_eq_false ab
    refine Wp.block ?_
    refine Wp.seq ?_
    refine Wp.cB (xAd (cT fB1 fB2 hn1 hn2 hn3 y5 y6 y7 y8 y9 v1 (cj7 dE y1 @Nat.zero_add @List.drop_zero.{0} @List.take_zero.{0} @List.nil_append.{0} @List.append_nil.{0}))) ?_
    refine an.nil ?_
    refine Wp.cond_false (by simp only[go_sem,reduceIte,Nat.reduceEqDiff]) ?_
    refine Wp.le (s':=⟨fun _=> .any,⟨Bf,n'+1,T,m⟩⟩) (aK.of (fun _=>ay.any _) (OLe.skip fBn) (fun x hx=>hx) (Nat.le_refl _) (Nat.le_refl _)) ?_
    refine Wp.skip ?_
    refine ⟨tt,true,.ready,none,by rw[←hbz];exact fBL,.normal,fun _ _=> .inl ⟨rfl,hmiss e,n'+1,ab,?_⟩⟩
    simp only[hBf]
    rw[bg]
  ·refine ⟨fun k h1 h2=>by omega,n+1+1+1+1,ab,?_⟩
   rw[hL]
  ·rintro r h' ⟨rfl,⟨hI,n',q1,rfl⟩|⟨n',t2,q1,rfl⟩⟩
   ·refine ⟨tt,.ready,none,_,by simp[upd],by simp,.none,?_⟩
    refine fin v0 ?_ _ n' q1 ?_ ?_
    ·rw[hv0]
     exact (Cb fun x hx=>by
      obtain ⟨k,hk,e⟩:=List.getElem_of_mem hx
      have:=hI k (Nat.zero_le _) hk
      rw[List.getD_eq_getElem?_getD,List.getElem?_eq_getElem hk,Option.getD_some,e] at this
      exact this).symm
    ·simp only[rdG,upd]
     rw[if_neg ab,if_neg ab,if_neg ab,if_pos trivial]
    ·intro k o hk
     have hkn:k<n:=by
      rcases Nat.lt_or_ge k n with h|h
      ·exact h
      ·rw[hf k h] at hk;cases hk
     simp only[rdG,upd]
     rw[if_neg ab,if_neg ab,if_neg ab,if_neg ab,if_neg ab]
     exact hk
   ·refine ⟨t2,.done,some (.exit 0),_,by simp[upd],by simp,.exit 0,?_⟩
    refine fin _ rfl _ n' q1 ?_ ?_
    ·simp only[rdG,upd]
     rw[if_neg ab,if_neg ab,if_neg ab,if_pos trivial]
    ·intro k o hk
     have hkn:k<n:=by
      rcases Nat.lt_or_ge k n with h|h
      ·exact h
      ·rw[hf k h] at hk;cases hk
     simp only[rdG,upd]
     rw[if_neg ab,if_neg ab,if_neg ab,if_neg ab,if_neg ab]
     exact hk
 obtain ⟨r,h',hc,-,-,n',hn',rfl,rfl⟩:=key
 refine ⟨n',hn',?_⟩
 have fr:=hc.frz fun j=>decide (j=n+1)
 have hl2:(rdP p d i).length=128:=by
  refine jm (M:=fun p=>(∀x∈p,x.2.length=128)→(rdP p d i).length=128) (fun _=>je hd i) (fun p x ih h=>?_) p hl
  rw[gZ]
  split
  ·exact h x af
  ·exact ih fun y hy=>h y (by simp[hy])
 have e1:unT ⟨upd F (n+1) (some (.cells (ar (rdP p d i)))),n',T,m⟩ (fun j=>decide (j=n+1)) (.tup [.tsl 1 (n+1) 0 128 (some 128),.int .i64 0])= .tup [.sl 1 (ar (rdP p d i)) .any,.int .i64 0]:=by
  have h1:(ar (rdP p d i)).length=128:=by simp[ar,hl2]
  simp only[unT,gP,upd,if_true,decide_true,and_self,h1,Nat.zero_add,Nat.le_refl,List.drop_zero,List.take_of_length_le (Nat.le_of_eq h1)]
 have e2:(⟨upd F (n+1) (some (.cells (ar (rdP p d i)))),n',T,m⟩:H).drop (fun j=>decide (j=n+1))=⟨F,n',T,m⟩:=by
  refine H.ext (fun j=>?_) rfl rfl rfl
  simp only[H.drop,upd,decide_eq_true_eq]
  split
  ·rename_i e;rw[e,hf _ ab]
  ·rfl
 rw[e1,e2] at fr
 exact fr
def kd (pick:Nat→Bool) (p d:List (Nat × List UInt8)):Nat→List (Nat × List UInt8)
 |0=>d
 |k+1=>if pick k then p.getD k (0,[])::kd pick p d k else kd pick p d k
theorem wK {pick:Nat→Bool} {p d:List (Nat × List UInt8)} (hd:∀x∈d,x.2.length=128) (hl:∀x∈p,x.2.length=128):∀k,k≤p.length→∀x∈kd pick p d k,x.2.length=128
 |0,_,x,hx=>hd x hx
 |k+1,hk,x,hx=>by
  unfold kd at hx
  split at hx
  ·rcases List.mem_cons.1 hx with rfl|h
   ·rw[List.getD_eq_getElem?_getD,List.getElem?_eq_getElem (show k<p.length by omega)]
    exact hl _ (List.getElem_mem _)
   ·exact wK hd hl k ab x h
  ·exact wK hd hl k ab x hx
theorem Fm {p d:List (Nat × List UInt8)} (i:Nat):eD (kd (fun _=>true) p d p.length) i=rdP p d i:=by
 have key:∀(q r:List (Nat × List UInt8)),eD (kd (fun _=>true) (q++r) d q.length) i=rdP q d i:=by
  refine jm (fun r=>rfl) fun q x ih r=>?_
  rw[gZ,List.length_append,List.length_singleton]
  simp only[kd,if_true]
  have e1:(q++[x]++r).getD q.length (0,[])=x:=by simp[List.getD]
  rw[e1,show x=(x.1,x.2) from rfl,kN]
  have:=ih ([x]++r)
  rw[←List.append_assoc] at this
  by_cases e:x.1=i
  ·rw[if_pos e.symm,if_pos e]
  ·rw[if_neg fun h=>e h.symm,if_neg e];exact this
 simpa using key p []
theorem Cc (c:UInt8):unB (byte c)=some c:=by
 unfold unB byte
 have h:Nat.ble c.toNat 255=true:=Nat.ble_eq_true_of_le (by have:=c.toNat_lt;omega)
 change (match Nat.ble c.toNat 255 with|true=>some (UInt8.ofNat c.toNat)|false=>none)=_
 rw[h]
 simp
theorem ma:∀l:List UInt8,sF (ar l)=some l
 |[]=>rfl
 |c::l=>by
  have:=ma l
  unfold ar at this ⊢
  simp only[List.map,sF,Cc,this]
theorem an.Fo {P:Program} {N:Nat} {dst:Option Nat} {g:Option (Nat × Bool)} {f:FuncId} {fn:Func} {y:Opd} {l:List Opd} {its:List aO} {t:Tm} {h:H} {K:Tm→H→Prop} {first caps vals:List AV} {r:AV} (hg:guardOf t g=some true) (hy:ev t y= .clo (.func f) first caps)
  (hf:P.funcs[f]? =some fn) (hb:fn.body.isSome=true) (hn:fn.name≠ "runtime.NumGoroutine") (hs:au (first++l.map (ev t)++caps) vals) (hc:aI P f vals h r h)
  (rest:an P N its (bY t dst r) h K):an P N (⟨dst,g,.callv y l⟩::its) t h K:=
 an.step (fun ops i o ho hit=>mO.full ⟨Nat.le_refl _,Nat.le_refl _⟩ (iB ho hit hg rfl hy hf hb hn hs hc)) rest
theorem Fp {F:Nat→Option Av.Obj} {n m K N D fi:Nat} {tk:Option Nat} {T:List Nat} {p d:List (Nat × List UInt8)} {pick:Nat→Bool} {caps:List AV} {fn:Func} (ho:F D=some (dkO K N (cZ p tk))) (hK:F K=some (.bk ⟨N,d⟩))
  (hl:∀x∈p,x.2.length=128∧x.1<N) (hD:D<n) (hKn:K<n) (hDK:D≠K) (hf:∀j,n≤j→F j=none) (hp:p.length<1000000)
  (h1:Tryz.prog.funcs[fi]? =some fn) (h2:fn.body.isSome=true) (h3:fn.name≠ "runtime.NumGoroutine")
  (pk:∀(k:Nat) (h:H),(∀j,j≠K→j<n→h.objs j=F j)→k<p.length→aI Tryz.prog fi (.int .i64 k::caps) h (.bool (pick k)) h):
  aM Tryz.prog 51 [.ptr D 0,.clo (.func fi) [] caps] ⟨F,n,tkT tk T,m⟩ fun r h'=>r= .tup []∧∃n',n≤n'∧h'=⟨upd (upd F K (some (.bk ⟨N,kd pick p d p.length⟩))) D (some (dkO K N (cZ [] none))),n',T,m⟩:=by
 refine f51.cq af ?_
 unfold c51
 have ho2:=ho
 unfold dkO cZ at ho2
 have len:(p.map wAV).length=p.length:=by simp
 refine rf0 (cj2 ho2 @len) ?_
 refine Wp.le (s':=⟨tm [(0,.ptr D 0),(1,.clo (.func fi) [] caps),(9,.sl 129 (p.map wAV) (tkC tk)),(10,.int .i64 p.length),(11,.int .i64 0)],⟨upd F K (some (.bk ⟨N,kd pick p d 0⟩)),n,T,m⟩⟩) (aK.of (bL ?_) ?_ (fun x hx=>by unfold tkT;split<;>simp[hx]) (Nat.le_refl _) (Nat.le_refl _)) ?_
 ·exact xSb
 ·intro j o' hj
  simp only[upd] at hj
  by_cases e:j=K
  ·rw[if_pos e] at hj;cases hj;exact ⟨_,by rw[e];exact hK,ed.refl _⟩
  ·rw[if_neg e] at hj;exact ⟨_,hj,ed.refl _⟩
 refine Wp.eV [0,1,9,10] xA7 (fun b:Nat × Nat=>[(11,.int .i64 b.1)]) (fun b=>⟨upd F K (some (.bk ⟨N,kd pick p d b.1⟩)),b.2,T,m⟩) (fun b=>b.1≤p.length∧n≤b.2) (fun b=>p.length - b.1) (0,n) ⟨Nat.zero_le _,Nat.le_refl _⟩ rfl ?_ ?_
 ·exact xSb
 rintro ⟨k,n'⟩ ⟨hk,hn'⟩
 simp only at hk hn'
 by_cases hkp:k<p.length
 ·have g1:decide ((k:Int)<(p.length:Int))=true:=decide_eq_true ab
  have q2:(0:Int)≤(k:Int):=by omega
  have q3:(k:Int)<(p.length:Int):=by omega
  have hs:=rI p (j:=k) hkp .any
  have hx:(p.getD k (0,[])).2.length=128∧(p.getD k (0,[])).1<N:=by
   rw[List.getD_eq_getElem?_getD,List.getElem?_eq_getElem hkp]
   exact hl _ (List.getElem_mem _)
  have ek:kd pick p d (k+1)=if pick k then p.getD k (0,[])::kd pick p d k else kd pick p d k:=rfl
  generalize p.getD k (0,[])=x at hs hx ek
  change _=AV.agg (ar x.2++[AV.int .i64 (x.1:Int)]) at hs
  have y0:(ar x.2).length=128:=by simp[ar,hx.1]
  have y1:(ar x.2++[AV.int .i64 (x.1:Int)]).length=129:=by simp[y0]
  have y2:(ar x.2++[AV.int .i64 (x.1:Int)]).all aP=true:=by simp[ar,byte,aP]
  have y3:List.take 129 (ar x.2++[AV.int .i64 (x.1:Int)])=ar x.2++[AV.int .i64 (x.1:Int)]:=List.take_of_length_le (by rw[y1];exact Nat.le_refl _)
  have y5:(ar x.2++[AV.int .i64 (x.1:Int)])[128]? =some (.int .i64 (x.1:Int)):=by
   rw[List.getElem?_append_right ab,y0];rfl
  have y6:List.take 128 (ar x.2++[AV.int .i64 (x.1:Int)])=ar x.2:=by rw[←y0,List.take_left]
  obtain ⟨Z,hZ⟩:∃Z,Z=List.replicate 128 (AV.int .u8 0):=⟨_,rfl⟩
  rw[←hZ]
  have hZl:Z.length=128:=by rw[hZ];simp
  have hZc:Z.all aP=true:=by rw[hZ];simp[aP]
  clear hZ
  have z1:∀y:AV,(Z++[y]).length=129:=fun y=>by simp[hZl]
  have z3:(Z++[AV.int .i64 0]).all aP=true:=by simp only[List.all_append,hZc];rfl
  have z7:∀y:AV,List.drop 129 (Z++[y])=[]:=fun y=>List.drop_eq_nil_of_le (by rw[z1];exact Nat.le_refl _)
  refine rf0 (cT g1 @len hs @q2 q3 @Int.toNat_natCast @and_self y1 y2 y3 z1 (cj7 z3 z7 @Nat.zero_add @List.take_zero.{0} @List.nil_append.{0} @List.append_nil.{0} @List.drop_zero.{0})) ?_
  have kn:¬(n'=K):=by omega
  have kn1:¬(K=n'):=by omega
  have kn2:¬(D=n'):=by omega
  have x1:(0:Int)≤(x.1:Int):=by omega
  have x2:(x.1:Int)<(N:Int):=by have:=hx.2;omega
  have m1:x.1*128%128=0:=by omega
  have m2:x.1*128/128=x.1:=by omega
  refine an.Fo (first:=[]) (caps:=caps) ae (by simp only[go_sem,reduceIte,Nat.reduceEqDiff]) h1 h2 h3 (by simp only[go_sem,reduceIte,Nat.reduceEqDiff,List.map,List.nil_append,List.cons_append];exact au.refl _) (pk k _ (fun j j1 j2=>?_) hkp) ?_
  ·simp only[upd]
   rw[if_neg ab,if_neg ab,if_neg j1]
  have hnk:∀b,(upd F K (some b):Nat→Option Av.Obj) n'=none:=fun b=>by
   simp only[upd]
   rw[if_neg kn]
   exact hf _ hn'
  have w1:IntKind.i64.wrap ((k:Int)+1)=((k+1:Nat):Int):=by rw[IntWalk.i64_in _ ab];rfl
  refine an.evF xAc ?_
  refine an.nil ?_
  rw[bg]
  obtain ⟨B,hB⟩:∃B,B=kd pick p d k:=⟨_,rfl⟩
  rw[←hB] at ek ⊢
  cases hpk:pick k with
  |false=>
   rw[hpk] at ek
   refine Wp.cond_false (by simp only[go_sem,reduceIte,Nat.reduceEqDiff]) ?_
   refine Wp.le (s':=⟨tm [(0,.ptr D 0),(1,.clo (.func fi) [] caps),(9,.sl 129 (p.map wAV) (tkC tk)),(10,.int .i64 p.length),(11,.int .i64 k)],⟨upd F K (some (.bk ⟨N,kd pick p d (k+1)⟩)),n'+1,T,m⟩⟩) (aK.of (bL ?_) ?_ (fun x hx=>hx) (Nat.le_refl _) (Nat.le_refl _)) ?_
   ·exact xSb
   ·rw[ek,if_neg ah]
    exact OLe.skip (hnk _)
   refine Wp.skip ?_
   refine rf0 w1 ?_
   refine ⟨(k+1,n'+1),⟨by simp only;omega,by simp only;omega⟩,by simp only;omega,?_⟩
   refine aK.tm ?_
   exact xSb
  |true=>
   rw[hpk] at ek
   refine Wp.cond_true (by simp only[go_sem,reduceIte,Nat.reduceEqDiff]) ?_
   refine Wp.reg ?_
   refine ao.part 9 (xAd (cT ho2 kn kn1 kn2 hDK y5 y6 y1 x1 x2 @Int.toNat_natCast (cj3 @and_self @Nat.zero_add @List.drop_zero.{0}))) ?_
   simp only[List.drop_succ_cons,List.drop_zero,List.drop_nil]
   refine ao.opA xA2 (by simp only[fE,jO,jN,go_sem,reduceIte,Nat.reduceEqDiff,Nat.reduceAdd,bx,ax,if_true,if_false,Nat.reduceMul,Nat.reduceLeDiff,kn,kn1,m1,m2,hx.2,hx.1,ma,and_self];exact rfl) ?_
   refine ao.nil ⟨by simp[bw,aV,apart,aT],?_⟩
   refine Wp.le (s':=⟨tm [(0,.ptr D 0),(1,.clo (.func fi) [] caps),(9,.sl 129 (p.map wAV) (tkC tk)),(10,.int .i64 p.length),(11,.int .i64 k)],⟨upd F K (some (.bk ⟨N,kd pick p d (k+1)⟩)),n'+1,T,m⟩⟩) (aK.of (bL ?_) ?_ (fun x hx=>hx) (Nat.le_refl _) (Nat.le_refl _)) ?_
   ·exact xSb
   ·rw[ek,if_pos rfl]
    rw[jg _ _ _ kn,bg]
    exact OLe.skip (hnk _)
   refine rf0 w1 ?_
   refine ⟨(k+1,n'+1),⟨by simp only;omega,by simp only;omega⟩,by simp only;omega,?_⟩
   refine aK.tm ?_
   exact xSb
 ·obtain rfl:k=p.length:=by omega
  have g1:decide ((p.length:Int)<(p.length:Int))=false:=decide_eq_false ab
  have dk:¬D=K:=hDK
  refine rf0 (cj3 g1 ho2 dk) ?_
  exact ⟨trivial,.tup [],rfl,rfl,n',hn',rfl⟩
theorem GF (k:Int) (h:H):aI Tryz.prog 52 [.int .i64 k] h (.bool true) h:=by
 refine f52.bW af ?_
 unfold c52 zz
 refine wg ?_
 refine Wp.ret ⟨trivial,_,?_,ay.refl _,rfl⟩
 simp only[go_sem]
 exact rfl
theorem DY {F:Nat→Option Av.Obj} {n m K N D:Nat} {tk:Option Nat} {T:List Nat} {p d:List (Nat × List UInt8)} (ho:F D=some (dkO K N (cZ p tk))) (hK:F K=some (.bk ⟨N,d⟩))
  (hl:∀x∈p,x.2.length=128∧x.1<N) (hD:D<n) (hKn:K<n) (hDK:D≠K) (hf:∀j,n≤j→F j=none) (hp:p.length<1000000) (hN:0<N):
  aM Tryz.prog 21 [.ptr D 0] ⟨F,n,tkT tk T,m⟩ fun r h'=>r= .int .i64 0∧∃n',n≤n'∧h'=⟨upd (upd F K (some (.bk ⟨N,kd (fun _=>true) p d p.length⟩))) D (some (dkO K N (cZ [] none))),n',T,m⟩:=by
 refine f21.cq af ?_
 unfold c21 zz
 have c1:=EL (h:=⟨F,n,tkT tk T,m⟩) ho hN
 have c2:=Ca (h:=⟨F,n,tkT tk T,m⟩) ho
 have c3:=Fp (T:=T) (m:=m) (pick:=fun _=>true) (caps:=[]) ho hK hl hD hKn hDK hf hp Tryz.func52 rfl (of_decide_eq_true (by kernel_rfl)) fun k h _ _=>GF k h
 refine rg2 @decide_true c1 c2 ?_
 refine an.aY ae xA4 c3 fun r h' ⟨hr,n',hn',hh⟩ _ _=>?_
 subst hr hh
 refine an.evF xAc ?_
 refine an.nil ?_
 refine wg ?_
 refine Wp.ret ⟨trivial,.int .i64 0,?_,rfl,n',hn',rfl⟩
 simp only[go_sem]
 exact rfl
abbrev W:=BitVec 64
def nU (w:W):AV:= .int .u64 (w.toNat:Int)
def di (l:List W):List AV:=l.map nU
def alO (np U nw:Nat):Av.Obj:= .cells [.int .i64 np,.tsl 1 U 0 nw none]
def eI (ws:List W) (i:Nat):Bool:=(ws.getD (i/64) 0).getLsbD (i%64)
def setW (ws:List W) (i:Nat) (b:Bool):List W:=ws.set (i/64) (if b then ws.getD (i/64) 0 ||| BitVec.twoPow 64 (i%64) else ws.getD (i/64) 0 &&& ~~~(BitVec.twoPow 64 (i%64)))
theorem jn (ws:List W) (i:Nat) (b:Bool):(setW ws i b).length=ws.length:=by simp[setW]
theorem rJ {ws:List W} {i:Nat} (h:i/64<ws.length) (b:Bool) (j:Nat):eI (setW ws i b) j=if j=i then b else eI ws j:=by
 unfold eI setW
 rw[List.getD_eq_getElem?_getD,List.getElem?_set]
 by_cases e:i/64=j/64
 ·rw[if_pos e,if_pos h,Option.getD_some,e]
  have hj:j%64<64:=Nat.mod_lt _ ah
  have hi:i%64<64:=Nat.mod_lt _ ah
  by_cases e2:j=i
  ·subst e2
   rw[if_pos rfl]
   cases b<;>simp[BitVec.getLsbD_twoPow,hj]
  ·have e3:¬(i%64=j%64):=by omega
   have e4:¬(j%64=i%64):=by omega
   rw[if_neg e2]
   cases b<;>simp[BitVec.getLsbD_twoPow,hj,e3,e4]
 ·rw[if_neg e,if_neg ab,←List.getD_eq_getElem?_getD]
theorem wrap_u64 (w:W):IntKind.u64.wrap ((w.toNat:Nat):Int)=(w.toNat:Int):=by
 have:=w.isLt
 unfold IntKind.wrap
 simp[IntKind.bits,IntKind.signed]
 omega
theorem Cd (a b:W):oR .u64 (a.toNat:Int) (b.toNat:Int)=((a &&& b).toNat:Int):=by
 have e:∀c:W,BitVec.ofInt IntKind.u64.bits (c.toNat:Int)=c:=fun c=>by
  show BitVec.ofInt 64 (c.toNat:Int)=c
  simp
 unfold oR
 rw[e,e]
 exact wrap_u64 _
theorem GG (a b:W):orI .u64 (a.toNat:Int) (b.toNat:Int)=((a ||| b).toNat:Int):=by
 have e:∀c:W,BitVec.ofInt IntKind.u64.bits (c.toNat:Int)=c:=fun c=>by
  show BitVec.ofInt 64 (c.toNat:Int)=c
  simp
 unfold orI
 rw[e,e]
 exact wrap_u64 _
theorem Fq (a b:W):AU .u64 (a.toNat:Int) (b.toNat:Int)=((a &&& ~~~b).toNat:Int):=by
 have e:∀c:W,BitVec.ofInt IntKind.u64.bits (c.toNat:Int)=c:=fun c=>by
  show BitVec.ofInt 64 (c.toNat:Int)=c
  simp
 unfold AU
 rw[e,e]
 exact wrap_u64 _
theorem DZ (a:W) {j:Nat} (hj:j<64):(!decide (((a &&& BitVec.twoPow 64 j).toNat:Int)=0))=a.getLsbD j:=by
 have e:a &&& BitVec.twoPow 64 j=if a.getLsbD j then BitVec.twoPow 64 j else 0:=by
  rw[BitVec.and_twoPow];rfl
 rw[e]
 cases a.getLsbD j
 ·simp
 ·have h2:(BitVec.twoPow 64 j).toNat=2^j:=by rw[BitVec.toNat_twoPow,Nat.mod_eq_of_lt (Nat.pow_lt_pow_right ah hj)]
  have:0<2^j:=Nat.pow_pos ah
  simp only[if_true,h2,Bool.not_eq_true',decide_eq_false_iff_not]
  omega
theorem Ce (i:Nat) (hi:i<1000000):bc Tryz.prog 151 [.int .i64 i] (.tup [.int .i64 ((i/64:Nat):Int),nU (BitVec.twoPow 64 (i%64))]):=by
 refine f151.dB af (by simp[aU,bq]) rfl ?_
 unfold Gt zz
 have hj:i%64<64:=Nat.mod_lt _ ah
 have e1:IntKind.i64.wrap ((i:Int).tdiv 64)=((i/64:Nat):Int):=by
  rw[Int.tdiv_eq_ediv_of_nonneg ab,IntWalk.i64_in _ ab];omega
 have e2:(i:Int).tmod 64=((i%64:Nat):Int):=by
  rw[Int.tmod_eq_emod_of_nonneg ab];omega
 have e3:¬(((i%64:Nat):Int)<0):=by omega
 have e4:min (Int.toNat ((i%64:Nat):Int)) IntKind.u64.bits=i%64:=by
  show min _ 64=_
  omega
 have e5:IntKind.u64.wrap (1*2^(i%64))=((BitVec.twoPow 64 (i%64)).toNat:Int):=by
  have h2:(BitVec.twoPow 64 (i%64)).toNat=2^(i%64):=by rw[BitVec.toNat_twoPow,Nat.mod_eq_of_lt (Nat.pow_lt_pow_right ah hj)]
  have:=wrap_u64 (BitVec.twoPow 64 (i%64))
  rw[h2] at this ⊢
  rw[Int.one_mul]
  simpa using this
 refine rn0 (cj3 e1 e2 e3) ?_
 refine Wp.ret ⟨trivial,.tup [.int .i64 ((i/64:Nat):Int),.int .u64 (IntKind.u64.wrap (1*2^min (Int.toNat ((i%64:Nat):Int)) IntKind.u64.bits))],?_,?_⟩
 ·simp only[go_sem]
  exact rfl
 ·rw[e4,e5]
  exact ay.refl _
section
variable {h:H} {A U np:Nat} {ws:List W}
theorem sX (ho:h.objs A=some (alO np U ws.length)) (hn:0<np):aI Tryz.prog 97 [.ptr A 0] h (.bool true) h:=by
 refine f97.bW af ?_
 unfold c97 zz
 have d1:decide ((0:Int)<(np:Int))=true:=decide_eq_true ab
 unfold alO at ho
 refine rf0 (cj2 ho d1) ?_
 refine Wp.ret ⟨trivial,_,?_,ay.refl _,rfl⟩
 simp only[go_sem]
 exact rfl
theorem GH (ho:h.objs A=some (alO np U ws.length)) (hu:h.objs U=some (.cells (di ws))) {i:Nat} (hi:i/64<ws.length) (hi2:i<1000000):aI Tryz.prog 125 [.ptr A 0,.int .i64 i] h (.bool (eI ws i)) h:=by
 refine f125.bW af ?_
 unfold Gk zz
 unfold alO at ho
 have g1:(0:Int)≤((i/64:Nat):Int):=by omega
 have g2:((i/64:Nat):Int)<(ws.length:Int):=by omega
 have g3:(di ws)[i/64]? =some (nU (ws.getD (i/64) 0)):=by simp[di,List.getD,List.getElem?_eq_getElem hi]
 have g4:oR .u64 ((ws.getD (i/64) 0).toNat:Int) ((BitVec.twoPow 64 (i%64)).toNat:Int)=_:=Cd _ _
 have g5:=DZ (ws.getD (i/64) 0) (j:=i%64) (Nat.mod_lt _ ah)
 have e:eI ws i=(ws.getD (i/64) 0).getLsbD (i%64):=rfl
 rw[←e] at g5
 have c1:=Ce i hi2
 unfold nU at g3 c1
 refine rf1 (sH ho hu g1 g2 g3 g4 g5 @and_self @Nat.zero_add @Nat.mul_one @Int.toNat_natCast) c1 ?_
 refine Wp.ret ⟨trivial,_,?_,ay.refl _,rfl⟩
 simp only[go_sem]
 exact rfl
end
section
variable {F:Nat→Option Av.Obj} {n m A U np:Nat} {T:List Nat} {ws:List W}
theorem xY {ws:List W} {i:Nat} (hi:i/64<ws.length) (w:W):setAt (di ws) (i/64) [nU w]=di (ws.set (i/64) w):=by
 unfold setAt di
 rw[List.map_set,List.set_eq_take_append_cons_drop,if_pos (by simpa using hi)]
 simp
theorem EM (ho:F A=some (alO np U ws.length)) (hu:F U=some (.cells (di ws))) (hAU:A≠U) {i:Nat} (hi:i/64<ws.length) (hi2:i<900000) (b:Bool):
  aI Tryz.prog 126 [.ptr A 0,.int .i64 i,.int .i64 1,.bool b] ⟨F,n,T,m⟩ (.tup []) ⟨upd F U (some (.cells (di (setW ws i b)))),n,T,m⟩:=by
 refine f126.bW af ?_
 unfold Gl zz
 unfold alO at ho
 have g1:(0:Int)≤((i/64:Nat):Int):=by omega
 have g2:((i/64:Nat):Int)<(ws.length:Int):=by omega
 have g3:(di ws)[i/64]? =some (nU (ws.getD (i/64) 0)):=by simp[di,List.getD,List.getElem?_eq_getElem hi]
 have g4:orI .u64 ((ws.getD (i/64) 0).toNat:Int) ((BitVec.twoPow 64 (i%64)).toNat:Int)=_:=GG _ _
 have g5:AU .u64 ((ws.getD (i/64) 0).toNat:Int) ((BitVec.twoPow 64 (i%64)).toNat:Int)=_:=Fq _ _
 have g6:i/64+1≤(di ws).length:=by simp[di];omega
 have c1:=Ce i ab
 unfold nU at g3 c1
 have w1:IntKind.i64.wrap ((i:Int)+1)=(i:Int)+1:=IntWalk.i64_in _ ab
 refine wg ?_
 refine Wp.eV [0,1,2,3] xA7 (fun q:Bool=>[(8,.int .i64 (if q then (i:Int)+1 else i))]) (fun q=>⟨if q then upd F U (some (.cells (di (setW ws i b)))) else F,n,T,m⟩) (fun _=>True) (fun q=>if q then 0 else 1) false trivial rfl ?_ ?_
 ·exact xSb
 rintro q -
 cases q with
 |true=>
  have d1:decide ((i:Int)+1<(i:Int)+1)=false:=decide_eq_false ab
  simp only[if_true]
  refine rf0 (cj2 w1 d1) ?_
  exact ⟨trivial,_,rfl,ay.refl _,rfl⟩
 |false=>
  have d1:decide ((i:Int)<(i:Int)+1)=true:=decide_eq_true ab
  cases b with
  |true=>
   simp only[Bool.false_eq_true,if_false]
   refine rf1 (cT w1 d1 ho hu g1 g2 g3 g4 g6 @and_self @Nat.zero_add (cj2 @Nat.mul_one @Int.toNat_natCast)) c1 ?_
   refine ⟨true,trivial,by decide,?_⟩
   refine aK.of (bL ?_) ?_ (fun x hx=>hx) (Nat.le_refl _) (Nat.le_refl _)
   ·exact xSb
   ·have hs:=xY hi (ws.getD (i/64) 0 ||| BitVec.twoPow 64 (i%64))
    unfold setAt nU at hs
    simp only[List.length_singleton] at hs
    rw[hs]
    exact OLe.refl _
  |false=>
   simp only[Bool.false_eq_true,if_false]
   refine rf1 (cT w1 d1 ho hu g1 g2 g3 g5 g6 @and_self @Nat.zero_add (cj2 @Nat.mul_one @Int.toNat_natCast)) c1 ?_
   refine ⟨true,trivial,by decide,?_⟩
   refine aK.of (bL ?_) ?_ (fun x hx=>hx) (Nat.le_refl _) (Nat.le_refl _)
   ·exact xSb
   ·have hs:=xY hi (ws.getD (i/64) 0 &&& ~~~BitVec.twoPow 64 (i%64))
    unfold setAt nU at hs
    simp only[List.length_singleton] at hs
    rw[hs]
    exact OLe.refl _
end
section
variable {h:H} {A U np:Nat} {ws:List W}
theorem GI (ho:h.objs A=some (alO np U ws.length)) (hu:h.objs U=some (.cells (di ws))) (hnp:np≤64*ws.length) (hn2:np<100000) {i:Nat} (hi:i<np):
  aI Tryz.prog 159 [.ptr A 0,.int .i64 i,.int .i64 1] h (.int .i64 (if eI ws i then 0 else 1)) h:=by
 refine f159.bW af ?_
 unfold Gv zz
 have c1:=GH ho hu (i:=i) ab ab
 unfold alO at ho
 obtain ⟨z,hz⟩:∃z:Int,z=0:=⟨_,rfl⟩
 obtain ⟨one,h1⟩:∃one:Int,one=1:=⟨_,rfl⟩
 have w0:IntKind.i64.wrap ((i:Int)+z)=(i:Int):=by rw[hz,Int.add_zero];exact IntWalk.i64_in _ ab
 have w1:IntKind.i64.wrap (z+one)=one:=by rw[hz,h1];decide
 have d0:decide ((i:Int)<(np:Int))=true:=decide_eq_true ab
 have d1:decide (z<one)=true:=decide_eq_true ab
 have d2:decide (one<one)=false:=decide_eq_false ab
 refine wg ?_
 rw[←h1]
 refine Wp.eV [0,1,2] xA7 (fun q:Bool=>[(7,.int .i64 (if q then one else z))]) (fun q=>h) (fun q=>q=true→eI ws i=false) (fun q=>if q then 0 else 1) false (fun h=>by cases h) rfl ?_ ?_
 ·exact xSb
 rintro q hq
 cases q with
 |true=>
  have hb:=hq rfl
  simp only[if_true]
  refine rf0 d2 ?_
  refine Wp.ret ⟨trivial,.int .i64 one,?_,?_,rfl⟩
  ·simp only[go_sem]
   exact rfl
  ·rw[hb,h1]
   exact ay.refl _
 |false=>
  simp only[Bool.false_eq_true,if_false]
  cases hb:eI ws i with
  |false=>
   rw[hb] at c1
   refine rg1 (cj6 w0 w1 d0 d1 ho @Bool.not_false) c1 ?_
   refine ⟨true,fun _=>rfl,by decide,?_⟩
   refine aK.tm ?_
   exact xSb
  |true=>
   rw[hb] at c1
   refine rg1 (cj6 w0 w1 d0 d1 ho @Bool.not_true) c1 ?_
   refine Wp.ret ⟨trivial,.int .i64 z,?_,?_,rfl⟩
   ·simp only[go_sem]
    exact rfl
   ·rw[hz]
    exact ay.refl _
def hM (ws:List W) (np:Nat):Option Nat:=(List.range np).find? fun i=> !eI ws i
theorem Cf {ws:List W} {i:Nat} (h0:i%64=0) (h:ws.getD (i/64) 0=BitVec.allOnes 64) {j:Nat} (h1:i≤j) (h2:j<i+64):eI ws j=true:=by
 have e:j/64=i/64:=by omega
 unfold eI
 rw[e,h]
 rw[BitVec.getLsbD_allOnes]
 exact decide_eq_true (Nat.mod_lt _ ah)
theorem Cg (ho:h.objs A=some (alO np U ws.length)) (hu:h.objs U=some (.cells (di ws))) (hnp:np≤64*ws.length) (hn2:np<100000):
  aI Tryz.prog 145 [.ptr A 0,.int .i64 1] h (match hM ws np with|some i=> .tup [.int .i64 i,.bool true]|none=> .tup [.int .i64 0,.bool false]) h:=by
 refine f145.bW af ?_
 unfold Gp zz
 have ho2:=ho
 unfold alO at ho2
 refine wg ?_
 refine Wp.BA ?_
 refine wg ?_
 refine Wp.eV [0,1] xA7 (fun i:Nat=>[(6,.int .i64 i)]) (fun q=>h) (fun i=>(∀j,j<i→j<np→eI ws j=true)∧i≤np+64) (fun i=>np+64 - i) 0 ⟨fun j hj=>by omega,ab⟩ rfl ?_ ?_
 ·exact xSb
 rintro i ⟨hi,hi2⟩
 by_cases hin:i<np
 ·have d1:decide ((i:Int)<(np:Int))=true:=decide_eq_true ab
  have c1:=Ce i ab
  have e2:(i:Int).tmod 64=((i%64:Nat):Int):=by
   rw[Int.tmod_eq_emod_of_nonneg ab];omega
  have c2:=GI ho hu hnp hn2 hin
  have z01:decide ((0:Int)=1)=false:=by decide
  have z11:decide ((1:Int)=1)=true:=by decide
  have w0:IntKind.i64.wrap ((0:Int)+1)=1:=by decide
  unfold nU at c1
  have hw:i/64<ws.length:=by omega
  have g1:(0:Int)≤((i/64:Nat):Int):=by omega
  have g2:((i/64:Nat):Int)<(ws.length:Int):=by omega
  have g3:(di ws)[i/64]? =some (nU (ws.getD (i/64) 0)):=by simp[di,List.getD,List.getElem?_eq_getElem hw]
  unfold nU at g3
  by_cases hs:i%64=0∧ws.getD (i/64) 0=BitVec.allOnes 64
  ·have d2:decide (((i%64:Nat):Int)=0)=true:=decide_eq_true ab
   have d3:decide (((ws.getD (i/64) 0).toNat:Int)=18446744073709551615)=true:=by rw[hs.2];decide
   have w1:IntKind.i64.wrap ((i:Int)+64)=((i+64:Nat):Int):=by rw[IntWalk.i64_in _ ab];rfl
   refine rf1 (cj2 d1 ho2) c1 ?_
   refine Wp.DF ?_
   refine xOp (cT e2 d2 d3 ho2 hu g1 g2 g3 @and_self @Nat.zero_add @Nat.mul_one @Int.toNat_natCast) ?_
   refine xOp (cT e2 d2 d3 ho2 hu g1 g2 g3 @and_self @Nat.zero_add @Nat.mul_one @Int.toNat_natCast) ?_
   refine xOp (cT e2 d2 d3 ho2 hu g1 g2 g3 @and_self @Nat.zero_add @Nat.mul_one @Int.toNat_natCast) ?_
   refine xOp (cT e2 d2 d3 ho2 hu g1 g2 g3 @and_self @Nat.zero_add @Nat.mul_one @Int.toNat_natCast) ?_
   refine xOp (cT e2 d2 d3 ho2 hu g1 g2 g3 @and_self @Nat.zero_add @Nat.mul_one @Int.toNat_natCast) ?_
   refine xOp (cT e2 d2 d3 ho2 hu g1 g2 g3 @and_self @Nat.zero_add @Nat.mul_one @Int.toNat_natCast) ?_
   refine xOp (cT e2 d2 d3 ho2 hu g1 g2 g3 @and_self @Nat.zero_add @Nat.mul_one @Int.toNat_natCast) ?_
   refine xOp (cT e2 d2 d3 ho2 hu g1 g2 g3 @and_self @Nat.zero_add @Nat.mul_one @Int.toNat_natCast) ?_
   refine xOp (cT e2 d2 d3 ho2 hu g1 g2 g3 @and_self @Nat.zero_add @Nat.mul_one @Int.toNat_natCast) ?_
   refine xOp (cT e2 d2 d3 ho2 hu g1 g2 g3 @and_self @Nat.zero_add @Nat.mul_one @Int.toNat_natCast) ?_
   refine xOp (cT e2 d2 d3 ho2 hu g1 g2 g3 @and_self @Nat.zero_add @Nat.mul_one @Int.toNat_natCast) ?_
   refine xOp (cT e2 d2 d3 ho2 hu g1 g2 g3 @and_self @Nat.zero_add @Nat.mul_one @Int.toNat_natCast) ?_
   refine xOp (cT e2 d2 d3 ho2 hu g1 g2 g3 @and_self @Nat.zero_add @Nat.mul_one @Int.toNat_natCast) ?_
   refine ao.toN (log:=[]) (ao.nil ?_)
   refine rf0 w1 ?_
   refine ⟨i+64,⟨fun j hj hj2=>?_,ab⟩,ab,?_⟩
   ·by_cases e:j<i
    ·exact hi j e hj2
    ·exact Cf hs.1 hs.2 ab hj
   ·refine aK.tm ?_
    exact xSb
  ·have d3:(if decide (((i%64:Nat):Int)=0)=true then decide (((ws.getD (i/64) 0).toNat:Int)=18446744073709551615) else false)=false:=by
    by_cases h0:i%64=0
    ·rw[if_pos (decide_eq_true ab)]
     refine decide_eq_false fun h1=>hs ⟨h0,BitVec.eq_of_toNat_eq ?_⟩
     rw[show (BitVec.allOnes 64).toNat=18446744073709551615 from rfl]
     omega
    ·rw[if_neg]
     simp
     omega
   by_cases h0:i%64=0
   ·have d2:decide (((i%64:Nat):Int)=0)=true:=decide_eq_true ab
    rw[d2,if_pos rfl] at d3
    refine rf1 (cj2 d1 ho2) c1 ?_
    refine Wp.DF ?_
    refine xOp (cT e2 d2 d3 ho2 hu g1 g2 g3 @and_self @Nat.zero_add @Nat.mul_one @Int.toNat_natCast) ?_
    refine xOp (cT e2 d2 d3 ho2 hu g1 g2 g3 @and_self @Nat.zero_add @Nat.mul_one @Int.toNat_natCast) ?_
    refine xOp (cT e2 d2 d3 ho2 hu g1 g2 g3 @and_self @Nat.zero_add @Nat.mul_one @Int.toNat_natCast) ?_
    refine xOp (cT e2 d2 d3 ho2 hu g1 g2 g3 @and_self @Nat.zero_add @Nat.mul_one @Int.toNat_natCast) ?_
    refine xOp (cT e2 d2 d3 ho2 hu g1 g2 g3 @and_self @Nat.zero_add @Nat.mul_one @Int.toNat_natCast) ?_
    refine xOp (cT e2 d2 d3 ho2 hu g1 g2 g3 @and_self @Nat.zero_add @Nat.mul_one @Int.toNat_natCast) ?_
    refine xOp (cT e2 d2 d3 ho2 hu g1 g2 g3 @and_self @Nat.zero_add @Nat.mul_one @Int.toNat_natCast) ?_
    refine xOp (cT e2 d2 d3 ho2 hu g1 g2 g3 @and_self @Nat.zero_add @Nat.mul_one @Int.toNat_natCast) ?_
    refine xOp (cT e2 d2 d3 ho2 hu g1 g2 g3 @and_self @Nat.zero_add @Nat.mul_one @Int.toNat_natCast) ?_
    refine xOp (cT e2 d2 d3 ho2 hu g1 g2 g3 @and_self @Nat.zero_add @Nat.mul_one @Int.toNat_natCast) ?_
    refine xOp (cT e2 d2 d3 ho2 hu g1 g2 g3 @and_self @Nat.zero_add @Nat.mul_one @Int.toNat_natCast) ?_
    refine xOp (cT e2 d2 d3 ho2 hu g1 g2 g3 @and_self @Nat.zero_add @Nat.mul_one @Int.toNat_natCast) ?_
    refine xOp (cT e2 d2 d3 ho2 hu g1 g2 g3 @and_self @Nat.zero_add @Nat.mul_one @Int.toNat_natCast) ?_
    refine ao.toN (log:=[]) (ao.nil ?_)
    cases hb:eI ws i with
    |true=>
     rw[hb] at c2
     simp only[if_true] at c2
     have w1:IntKind.i64.wrap ((i:Int)+1)=((i+1:Nat):Int):=by rw[IntWalk.i64_in _ ab];rfl
     refine rg1 (cj3 w0 w1 z01) c2 ?_
     refine ⟨i+1,⟨fun j hj hj2=>?_,ab⟩,ab,?_⟩
     ·by_cases e:j=i
      ·rw[e];exact hb
      ·exact hi j ab hj2
     ·refine aK.tm ?_
      exact xSb
    |false=>
     rw[hb] at c2
     simp only[Bool.false_eq_true,if_false] at c2
     have e:hM ws np=some i:=List.find?_range_eq_some.2 ⟨by rw[hb];rfl,List.mem_range.2 hin,fun j hj=>by rw[hi j hj ab];rfl⟩
     rw[e]
     refine rg1 z11 c2 ?_
     refine Wp.ret ⟨trivial,_,?_,ay.refl _,rfl⟩
     simp only[go_sem]
     exact rfl
   ·have d2:decide (((i%64:Nat):Int)=0)=false:=decide_eq_false ab
    have h64:¬((64:Int)=0):=by decide
    refine rf1 (cj5 d1 ho2 e2 d2 h64) c1 ?_
    cases hb:eI ws i with
    |true=>
     rw[hb] at c2
     simp only[if_true] at c2
     have w1:IntKind.i64.wrap ((i:Int)+1)=((i+1:Nat):Int):=by rw[IntWalk.i64_in _ ab];rfl
     refine rg1 (cj3 w0 w1 z01) c2 ?_
     refine ⟨i+1,⟨fun j hj hj2=>?_,ab⟩,ab,?_⟩
     ·by_cases e:j=i
      ·rw[e];exact hb
      ·exact hi j ab hj2
     ·refine aK.tm ?_
      exact xSb
    |false=>
     rw[hb] at c2
     simp only[Bool.false_eq_true,if_false] at c2
     have e:hM ws np=some i:=List.find?_range_eq_some.2 ⟨by rw[hb];rfl,List.mem_range.2 hin,fun j hj=>by rw[hi j hj ab];rfl⟩
     rw[e]
     refine rg1 z11 c2 ?_
     refine Wp.ret ⟨trivial,_,?_,ay.refl _,rfl⟩
     simp only[go_sem]
     exact rfl
 ·have d1:decide ((i:Int)<(np:Int))=false:=decide_eq_false ab
  have e:hM ws np=none:=List.find?_range_eq_none.2 fun j hj=>by rw[hi j ab hj];rfl
  rw[e]
  refine rf0 (cj2 d1 ho2) ?_
  refine Wp.ret ⟨trivial,_,?_,ay.refl _,rfl⟩
  simp only[go_sem]
  exact rfl
end
section
variable {F:Nat→Option Av.Obj} {n m A U np:Nat} {T:List Nat} {ws:List W}
theorem Ai (ho:F A=some (alO np U ws.length)) (hu:F U=some (.cells (di ws))) (hnp:np≤64*ws.length) (hn2:np<100000) (h0:0<np) (hf:hM ws np=none):
  aI Tryz.prog 114 [.ptr A 0,.int .i64 1] ⟨F,n,T,m⟩ (.tup [.int .i64 0,.int .i64 10]) ⟨F,n,T,m⟩:=by
 refine f114.bW af ?_
 unfold E4 zz
 have c1:=sX (h:=⟨F,n,T,m⟩) ho h0
 have c2:=Cg (h:=⟨F,n,T,m⟩) ho hu hnp hn2
 rw[hf] at c2
 simp only at c2
 have d1:decide ((1:Int)<1)=false:=by decide
 refine rg2 (cj3 d1 @Bool.not_true @Bool.not_false) c1 c2 ?_
 refine Wp.ret ⟨trivial,_,?_,ay.refl _,rfl⟩
 simp only[go_sem]
 exact rfl
theorem Aj (ho:F A=some (alO np U ws.length)) (hu:F U=some (.cells (di ws))) (hAU:A≠U) (hnp:np≤64*ws.length) (hn2:np<100000) {i:Nat} (hf:hM ws np=some i) (hi:i<np):
  aI Tryz.prog 114 [.ptr A 0,.int .i64 1] ⟨F,n,T,m⟩ (.tup [.int .i64 i,.int .i64 0]) ⟨upd F U (some (.cells (di (setW ws i true)))),n,T,m⟩:=by
 refine f114.bW af ?_
 unfold E4 zz
 have c1:=sX (h:=⟨F,n,T,m⟩) ho ab
 have c2:=Cg (h:=⟨F,n,T,m⟩) ho hu hnp hn2
 rw[hf] at c2
 simp only at c2
 have c3:=EM (n:=n) (T:=T) (m:=m) ho hu hAU (i:=i) ab ab true
 have d1:decide ((1:Int)<1)=false:=by decide
 refine rg3 (cj3 d1 @Bool.not_true @Bool.not_false) c1 c2 c3 ?_
 refine Wp.ret ⟨trivial,_,?_,ay.refl _,rfl⟩
 simp only[go_sem]
 exact rfl
theorem Fs (ho:F A=some (alO np U ws.length)) (hu:F U=some (.cells (di ws))) (hAU:A≠U) (hnp:np≤64*ws.length) (hn2:np<100000) {i:Nat} (hi:i<np) (hb:eI ws i=true):
  aI Tryz.prog 110 [.ptr A 0,.int .i64 i,.int .i64 1] ⟨F,n,T,m⟩ (.int .i64 0) ⟨upd F U (some (.cells (di (setW ws i false)))),n,T,m⟩:=by
 refine f110.bW af ?_
 unfold Gb zz
 have c1:=sX (h:=⟨F,n,T,m⟩) ho ab
 have c2:=GH (h:=⟨F,n,T,m⟩) ho hu (i:=i) ab ab
 rw[hb] at c2
 have c3:=EM (n:=n) (T:=T) (m:=m) ho hu hAU (i:=i) ab ab false
 have ho2:=ho
 unfold alO at ho2
 obtain ⟨one,h1⟩:∃one:Int,one=1:=⟨_,rfl⟩
 rw[←h1] at c3 ⊢
 have d1:decide (one<one)=false:=decide_eq_false ab
 have d2:decide ((i:Int)<0)=false:=decide_eq_false ab
 have d3:decide ((np:Int)<one)=false:=decide_eq_false ab
 have w1:IntKind.i64.wrap ((np:Int) - one)=(np:Int) - one:=IntWalk.i64_in _ ab
 have d4:decide ((np:Int) - one<(i:Int))=false:=decide_eq_false ab
 refine rg1 (cj8 d1 d2 d3 d4 w1 ho2 @Bool.not_true @Bool.not_false) c1 ?_
 have w2:IntKind.i64.wrap ((i:Int)+one)=(i:Int)+one:=IntWalk.i64_in _ ab
 refine Wp.eV [0,1,2] xA7 (fun q:Bool=>[(7,.int .i64 (if q then (i:Int)+one else i))]) (fun q=>⟨F,n,T,m⟩) (fun _=>True) (fun q=>if q then 0 else 1) false trivial rfl ?_ ?_
 ·exact xSb
 rintro q -
 cases q with
 |true=>
  have d5:decide ((i:Int)+one<(i:Int)+one)=false:=decide_eq_false ab
  simp only[if_true]
  refine rg1 (cj2 w2 d5) c3 ?_
  refine Wp.ret ⟨trivial,_,?_,ay.refl _,rfl⟩
  simp only[go_sem]
  exact rfl
 |false=>
  have d5:decide ((i:Int)<(i:Int)+one)=true:=decide_eq_true ab
  simp only[Bool.false_eq_true,if_false]
  refine rg1 (cj3 w2 d5 @Bool.not_true) c2 ?_
  refine ⟨true,trivial,by decide,?_⟩
  refine aK.tm ?_
  exact xSb
end
theorem Ci (p:Addr) (w:World):
  CallsD Tryz.prog 69 #[.pointer (some p)] .returning w fun e u' w'=>e= .returned (.tuple #[])∧u'= .returning∧w'=w:=by
 refine callsD_of_wpS Tryz.func69 rfl fun c₀ cs hu=>?_
 apply wpS_seq
 apply wpS_region
 simp[wpOpsS,go_sem,recoverD,hu,Tryz.ntmps69,Exit.thenS]
 apply wpS_seq
 apply wpS_seq
 apply wpS_region
 simp[wpOpsS,go_sem,Array.replicate]
 refine wpS_cond (t:=true) (by simp[Act.eval]) ?_
 simp only[if_true]
 refine wpS_of_wp (wp_ret ?_)
 cases c₀
 simp_all [Exit.thenS,bodyPostS,results,Tryz.results69]
theorem Cj (k:Int) (w:World):(Instr.typeAssert (.iface 37 (.int .i64 k)) 20 37 true).run Tryz.prog w= .ok (.tuple #[.int .i64 k,.bool true]) w:=by kernel_rfl
theorem wL (p:Addr) (x:Int) (k:Int) (w:World) (hc:w.cell? p=some (.int .i64 x)) (hz:w.frozen? p=false):
  CallsD Tryz.prog 69 #[.pointer (some p)] (.panicking [{v:= .iface 37 (.int .i64 k),recovered:=false}]) w fun e u' w'=>
   e= .returned (.tuple #[])∧u'= .panicking [{v:= .iface 37 (.int .i64 k),recovered:=true}]∧w'=w.setCell p (.int .i64 k):=by
 refine callsD_of_wpS Tryz.func69 rfl fun c₀ cs hu=>?_
 apply wpS_seq
 apply wpS_region
 simp[wpOpsS,go_sem,recoverD,hu,Tryz.ntmps69,Exit.thenS]
 apply wpS_seq
 apply wpS_seq
 apply wpS_region
 simp[wpOpsS,go_sem,Array.replicate]
 refine wpS_cond (t:=false) (by simp[Act.eval]) ?_
 simp only[Bool.false_eq_true,if_false]
 refine wpS_of_wp (wp_skip ?_)
 simp only[Exit.thenS]
 apply wpS_seq
 apply wpS_region
 simp[wpOpsS,go_sem,Exit.thenS,Cj]
 apply wpS_seq
 apply wpS_seq
 apply wpS_region
 simp[wpOpsS,go_sem]
 refine wpS_cond (t:=false) (by simp[Act.eval]) ?_
 simp only[Bool.false_eq_true,if_false]
 refine wpS_of_wp (wp_skip ?_)
 simp only[Exit.thenS]
 apply wpS_region
 simp[wpOpsS,go_sem,hc,hz,bodyPostS,results,Tryz.results69]
theorem rL {G G2:aL} {w w1 w2:World} {h h':H} {x:Value} (k:Value) (R:aX G h w) (T1:Av.Trans G w h (mJ G w.heap.size) w1 h) (R1:aX (mJ G w.heap.size) h w1) (hs:w.heap.size<w1.heap.size) (n1:¬h.O (mJ G w.heap.size) w.heap.size)
  (T2:Av.Trans (mJ G w.heap.size) w1 h G2 w2 h') (R2:aX G2 h' w2) {T:TypeId} {fr:Nat × Nat} (hA:w2.heap[w.heap.size]? =some (.cells #[x] T fr)):
  Av.Trans G w h G2 (w2.setCell ⟨w.heap.size,0,none⟩ k) h'∧aX G2 h' (w2.setCell ⟨w.heap.size,0,none⟩ k):=by
 have ho:G2.own w.heap.size:=(T2.own_keep _ hs n1).2 (.inl rfl)
 have t:=zr (x:=k) hA ho
 exact ⟨(T1.trans R R1 T2).set t (Nat.le_refl _),R2.set t fun x=>n1 (T2.O_new _ hs x)⟩
def oJ (h:H) (id:Nat):Prop:=∃j o r,h.objs id=some (.cells [.ptr j o,r])
theorem Ck {h:H} {id:Nat} (ho:oJ h id):aI Tryz.prog 44 [.ptr id 0] h (.bool true) h:=by
 obtain ⟨j,o,r,ho⟩:=ho
 obtain ⟨r,h',hc,e1,e2⟩:=f44.fC (args:=[.ptr id 0]) (h:=h) (Q:=fun r h'=>r= .bool true∧h'=h) af (by
  unfold c44 zz
  refine rf0 ho ?_
  refine Wp.ret ⟨trivial,_,?_,rfl,rfl⟩
  simp only[go_sem]
  exact rfl)
 subst e1 e2
 exact hc
theorem oL {h:H} {id:Nat} (ho:oJ h id) {G:aL} {w:World} (R:aX G h w) {T:TypeId}:∃ad,(w.alloc (.cells #[.int .i64 0] T)).cell? {block:=G.ι id,off:=0}=some (.pointer (some ad)):=by
 obtain ⟨j,o,r,ho⟩:=ho
 obtain ⟨-,-,d3,-⟩:=R.obj id _ ho
 obtain ⟨vs,rest,T0,fr,hg,hvs,hfr,hone⟩:=fp R ho
 simp only[aD,aw] at hvs
 obtain ⟨v,us,rfl,⟨-,rfl⟩,-⟩:=hvs
 refine ⟨⟨G.ι j,o,none⟩,?_⟩
 have hp:dF w (w.alloc (.cells #[.int .i64 0] T)) (.cells #[.int .i64 0] T):=⟨rfl,rfl,rfl⟩
 have hk:(w.alloc (.cells #[.int .i64 0] T)).heap[G.ι id]? =w.heap[G.ι id]? :=by
  rw[show (w.alloc (.cells #[.int .i64 0] T)).heap=w.heap.push (.cells #[.int .i64 0] T) from rfl,Array.getElem?_push,if_neg (Nat.ne_of_lt d3)]
 unfold World.cell?
 simp[hk,hg]
theorem Ft {id g:Nat} {fn:Func} {first caps:List AV} {h h':H} {r:AV} (ho:oJ h id) (hg:Tryz.prog.funcs[g]? =some fn) (hb:fn.body.isSome=true) (hn:fn.name≠ "runtime.NumGoroutine")
  (hc:aI Tryz.prog g (first++caps) h r h'):aI Tryz.prog 34 [.ptr id 0,.clo (.func g) first caps] h (.int .i64 0) h':=by
 intro G w vs hv R F
 simp only[aD,aw] at hv
 obtain ⟨v0,us0,rfl,⟨hd,rfl⟩,v,us,rfl,⟨fv,cv,rfl,h1,h2⟩,rfl⟩:=hv
 have hmf:∀(fn:Fn) (first cap:Array Value) (w:World),(Instr.makeFunc fn first cap).run Tryz.prog w= .ok (.func fn first cap) w:=fun _ _ _ _=>rfl
 obtain ⟨ad,hcl⟩:=oL (T:=37) ho R
 go_enter_defers Tryz.func34,Tryz.ntmps34
 go_wp2
 rename_i Q' K1 k1 K2 k2
 rw[eQ _ hg hb hn]
 let o:Go.Obj:= .cells #[.int .i64 0] 37
 have hp:dF w (w.alloc o) o:=⟨rfl,rfl,rfl⟩
 obtain ⟨T1,R1,n1,n2⟩:=uk R hp
 have F1:cU (mJ G w.heap.size) h h':=F
 have hv1:aD (mJ G w.heap.size) (w.alloc o) (first++caps) (fv++cv):=(aD.mono R T1 _ _ h1).append (aD.mono R T1 _ _ h2)
 show Calls _ _ _ _ _
 refine (hc _ _ _ hv1 R1 F1).mono ?_
 rintro e w2 ⟨v2,G2,rfl,T2,R2,-⟩
 have hA:w2.heap[w.heap.size]? =some o:=(T2.keep _ (by rw[hp.size];omega) n1 n2).trans hp.new
 have hcell:w2.cell? {block:=w.heap.size,off:=0}=some (.int .i64 0):=by
  unfold World.cell?;simp only[hA,o];rfl
 have hfz:w2.frozen? {block:=w.heap.size,off:=0}=false:=by
  unfold World.frozen?;simp only[hA,o];rfl
 apply k2
 go_wp2
 obtain ⟨T3,R3⟩:=rL (.int .i64 0) R T1 R1 (by rw[hp.size];omega) n1 T2 R2 hA
 have hB:=xE (x:= .int .i64 0) hA
 refine leaves_cons (f:=69) (args:= #[.pointer (some ⟨w.heap.size,0,none⟩)]) af (by simp[go_sem]) ?_
 refine (Ci ⟨w.heap.size,0,none⟩ _).mono ?_
 rintro e u' w'' ⟨rfl,rfl,rfl⟩
 generalize w2.setCell ⟨w.heap.size,0,none⟩ (.int .i64 0)=w3 at T3 R3 hB ⊢
 have hcell3:w3.cell? {block:=w.heap.size,off:=0}=some (.int .i64 0):=by
  unfold World.cell?;simp only[hB];rfl
 simp[Leaves,settle,results,Tryz.results34,go_sem,hcell3]
 exact ⟨G2,T3,R3,by simp[aw]⟩
theorem D1 {id g:Nat} {fn:Func} {first caps:List AV} {h h':H} {k:Int} (ho:oJ h id) (hg:Tryz.prog.funcs[g]? =some fn) (hb:fn.body.isSome=true) (hn:fn.name≠ "runtime.NumGoroutine")
  (hc:cV Tryz.prog g (first++caps) h (.iface 37 (.int .i64 k)) h'):aI Tryz.prog 34 [.ptr id 0,.clo (.func g) first caps] h (.int .i64 k) h':=by
 intro G w vs hv R F
 simp only[aD,aw] at hv
 obtain ⟨v0,us0,rfl,⟨hd,rfl⟩,v,us,rfl,⟨fv,cv,rfl,h1,h2⟩,rfl⟩:=hv
 have hmf:∀(fn:Fn) (first cap:Array Value) (w:World),(Instr.makeFunc fn first cap).run Tryz.prog w= .ok (.func fn first cap) w:=fun _ _ _ _=>rfl
 obtain ⟨ad,hcl⟩:=oL (T:=37) ho R
 go_enter_defers Tryz.func34,Tryz.ntmps34
 go_wp2
 rename_i Q' K1 k1 K2 k2
 rw[eQ _ hg hb hn]
 let o:Go.Obj:= .cells #[.int .i64 0] 37
 have hp:dF w (w.alloc o) o:=⟨rfl,rfl,rfl⟩
 obtain ⟨T1,R1,n1,n2⟩:=uk R hp
 have F1:cU (mJ G w.heap.size) h h':=F
 have hv1:aD (mJ G w.heap.size) (w.alloc o) (first++caps) (fv++cv):=(aD.mono R T1 _ _ h1).append (aD.mono R T1 _ _ h2)
 show Calls _ _ _ _ _
 refine (hc _ _ _ hv1 R1 F1).mono ?_
 rintro e w2 ⟨G2,rfl,T2,R2⟩
 have hA:w2.heap[w.heap.size]? =some o:=(T2.keep _ (by rw[hp.size];omega) n1 n2).trans hp.new
 have hcell:w2.cell? {block:=w.heap.size,off:=0}=some (.int .i64 0):=by
  unfold World.cell?;simp only[hA,o];rfl
 have hfz:w2.frozen? {block:=w.heap.size,off:=0}=false:=by
  unfold World.frozen?;simp only[hA,o];rfl
 obtain ⟨T3,R3⟩:=rL (.int .i64 k) R T1 R1 (by rw[hp.size];omega) n1 T2 R2 hA
 have hB:=xE (x:= .int .i64 k) hA
 show Leaves _ _ _ _ _ _ _
 refine leaves_cons (f:=69) (args:= #[.pointer (some ⟨w.heap.size,0,none⟩)]) af (by simp[go_sem]) ?_
 refine (wL ⟨w.heap.size,0,none⟩ 0 k _ hcell hfz).mono ?_
 rintro e u' w'' ⟨rfl,rfl,rfl⟩
 generalize w2.setCell ⟨w.heap.size,0,none⟩ (.int .i64 k)=w3 at T3 R3 hB ⊢
 have hcell3:w3.cell? {block:=w.heap.size,off:=0}=some (.int .i64 k):=by
  unfold World.cell?;simp only[hB];rfl
 simp[Leaves,settle,results,Tryz.results34,go_sem,hcell3]
 exact ⟨G2,T3,R3,by simp[aw]⟩
theorem laid:laidOutB Tryz.prog=true:=by kernel_rfl
theorem GJ:mapsRowed Tryz.prog=true:=by kernel_rfl
theorem full:∀t e,t<Tryz.prog.types.size→Tryz.prog.underlying t=some (.slice e)→0<Tryz.prog.cellsOf e:=slices_full_of Tryz.prog (by kernel_rfl)
theorem own:ownKnob Tryz.prog.godebug=none:=by kernel_rfl
theorem Hn {H:Type}:qh (H:=H) Rows.uptoBulk Rows.uptoBulkAll:=
 ⟨fun l=>by simp[Rows.uptoBulk],fun k n=>by simp[Rows.uptoBulk],fun b=>by simp[Rows.uptoBulk],by simp[Rows.uptoBulk],fun a b=>by simp[Rows.uptoBulk],fun a=>by simp[Rows.uptoBulk],by simp[Rows.uptoBulkAll],fun d l=>by simp[Rows.uptoBulkAll]⟩
theorem Fu {a:AV} (h:nh Tryz.prog 5 3 a):∃n,a= .int .i64 n∧(Lit.int .i64 n).wf=true:=by
 obtain ⟨cs,h,rfl⟩:=h
 unfold Fits at h
 rw[Tryz.underlying3] at h
 obtain ⟨l,rfl,hl⟩:=h
 refine ⟨l,?_,hl⟩
 unfold fI;rw[if_neg (by rw[show cu Tryz.prog 3=false by kernel_rfl];simp)];rfl
end Go.Proofs.YtbgmofhgfnmaiaaGreat.Tree
end
section
set_option maxRecDepth 100000
namespace Go.Proofs.YtbgmofhgfnmaiaaGreat.Tree
open Go
def pa:Nat→Nat→Nat
 |0,_=>0
 |k+1,x=>x%2+pa k (x/2)
theorem pa8 (k hi lo:Nat) (h:lo<256):pa (k+8) (hi*256+lo)=pa 8 lo+pa k hi:=by
 simp only[pa]
 have e:(hi*256+lo)/2/2/2/2/2/2/2/2=hi:=by omega
 rw[e]
 omega
def ofB:List Nat→Nat
 |[]=>0
 |b::l=>ofB l*256+b
def rB (c:Nat):Nat→Nat
 |0=>0
 |k+1=>rB c k*256+c
theorem qi (a b c d:Nat) (hb:b<256) (hd:d<256):(a*256+b) &&& (c*256+d)=(a &&& c)*256+(b &&& d):=by
 have hbd:b &&& d<2^8:=Nat.and_lt_two_pow b (show d<2^8 from hd)
 refine Nat.eq_of_testBit_eq fun i=>?_
 rw[Nat.testBit_and,Nat.mul_comm a,Nat.mul_comm c,Nat.mul_comm (a &&& c),show (256:Nat)=2^8 from rfl,Nat.testBit_two_pow_mul_add _ (show b<2^8 from hb),Nat.testBit_two_pow_mul_add _ (show d<2^8 from hd),Nat.testBit_two_pow_mul_add _ hbd]
 split<;>rw[Nat.testBit_and]
def s1b (b:Nat):Nat:=((b/2) &&& 85)+(b &&& 85)
def s2b (b:Nat):Nat:=((b/4) &&& 51)+(b &&& 51)
def s3b (b:Nat):Nat:=(b/16+b) &&& 15
theorem GK:∀l:List Nat,(∀b∈l,b<256)→((ofB l/2) &&& rB 85 l.length)+(ofB l &&& rB 85 l.length)=ofB (l.map s1b)
 |[],_=>rfl
 |b::l,h=>by
  have ih:=GK l fun x hx=>h x (by simp[hx])
  have hb:=h b af
  have e1:ofB (b::l)/2=(ofB l/2)*256+(ofB l%2*128+b/2):=by simp only[ofB];omega
  have key:∀r:Fin 2,∀x:Fin 256,(r.val*128+x.val/2) &&& 85=(x.val/2) &&& 85:=by decide+kernel
  have k1:=key ⟨ofB l%2,Nat.mod_lt _ ah⟩ ⟨b,hb⟩
  simp only at k1
  rw[e1]
  simp only[List.length_cons,rB,ofB,List.map_cons]
  rw[qi _ _ _ _ ab ah,qi _ _ _ _ hb ah,k1,←ih]
  simp only[s1b]
  omega
theorem GL:∀l:List Nat,(∀b∈l,b<256)→((ofB l/4) &&& rB 51 l.length)+(ofB l &&& rB 51 l.length)=ofB (l.map s2b)
 |[],_=>rfl
 |b::l,h=>by
  have ih:=GL l fun x hx=>h x (by simp[hx])
  have hb:=h b af
  have e1:ofB (b::l)/4=(ofB l/4)*256+(ofB l%4*64+b/4):=by simp only[ofB];omega
  have key:∀r:Fin 4,∀x:Fin 256,(r.val*64+x.val/4) &&& 51=(x.val/4) &&& 51:=by decide+kernel
  have k1:=key ⟨ofB l%4,Nat.mod_lt _ ah⟩ ⟨b,hb⟩
  simp only at k1
  rw[e1]
  simp only[List.length_cons,rB,ofB,List.map_cons]
  rw[qi _ _ _ _ ab ah,qi _ _ _ _ hb ah,k1,←ih]
  simp only[s2b]
  omega
theorem GM:∀l:List Nat,(∀b∈l,b%16≤4∧b/16≤4)→((ofB l/16+ofB l) &&& rB 15 l.length)=ofB (l.map s3b)
 |[],_=>rfl
 |b::l,h=>by
  have ih:=GM l fun x hx=>h x (by simp[hx])
  have hb:=h b af
  have hlow:ofB l%16≤4:=by
   cases l with
   |nil=>simp[ofB]
   |cons c l=>
    have:=(h c af).1
    simp only[ofB];omega
  have e1:ofB (b::l)/16+ofB (b::l)=(ofB l/16+ofB l)*256+(ofB l%16*16+(b/16+b)):=by simp only[ofB];omega
  have key:∀r:Fin 5,∀x:Fin 73,(r.val*16+x.val) &&& 15=x.val &&& 15:=by decide+kernel
  have k1:=key ⟨ofB l%16,ab⟩ ⟨b/16+b,ab⟩
  simp only at k1
  rw[e1]
  simp only[List.length_cons,rB,ofB,List.map_cons]
  rw[qi _ _ _ _ ab ah,k1,ih]
  rfl
theorem Fv:∀b:Fin 256,s3b (s2b (s1b b.val))=pa 8 b.val:=by decide+kernel
theorem GN:∀b:Fin 256,s1b b.val<256:=by decide+kernel
theorem Fw:∀b:Fin 256,s2b (s1b b.val)%16≤4∧s2b (s1b b.val)/16≤4:=by decide+kernel
theorem kC:∀b:Fin 256,pa 8 b.val≤8:=by decide+kernel
def D2 (x:Nat):Nat:=
 let x1:=((x/2) &&& 6148914691236517205)+(x &&& 6148914691236517205)
 let x2:=((x1/4) &&& 3689348814741910323)+(x1 &&& 3689348814741910323)
 (x2/16+x2) &&& 1085102592571150095
def D3 (x:Nat):Nat:=
 let x1:=x+x/256
 let x2:=x1+x1/65536
 (x2+x2/4294967296)%128
theorem Fx (x:Nat) (h:x<2^64):∃b0 b1 b2 b3 b4 b5 b6 b7,b0<256∧b1<256∧b2<256∧b3<256∧b4<256∧b5<256∧b6<256∧b7<256∧x=ofB [b0,b1,b2,b3,b4,b5,b6,b7]:=by
 refine ⟨x%256,x/256%256,x/256/256%256,x/256/256/256%256,x/256/256/256/256%256,x/256/256/256/256/256%256,x/256/256/256/256/256/256%256,x/256/256/256/256/256/256/256,?_⟩
 simp only[ofB]
 omega
theorem q1 {P a:Nat} (h:a<256):(P*256+a)/256=P:=by omega
theorem q2 {P Q a b:Nat} (h:Q=P*256+b) (ha:a<256) (hb:b<256):(Q*256+a)/65536=P:=by subst h;omega
theorem q4 {P Q a b:Nat} (h:Q/65536=P) (ha:a<256) (hb:b<256):((Q*256+b)*256+a)/4294967296=P:=by subst h;omega
theorem Ho (P Q a b:Nat):(P*256+a)+(Q*256+b)=(P+Q)*256+(a+b):=by omega
theorem D4 {c0 c1 c2 c3 c4 c5 c6 c7:Nat} (l0:c0≤8) (l1:c1≤8) (l2:c2≤8) (l3:c3≤8) (l4:c4≤8) (l5:c5≤8) (l6:c6≤8) (l7:c7≤8):D3 (ofB [c0,c1,c2,c3,c4,c5,c6,c7])=c0+(c1+(c2+(c3+(c4+(c5+(c6+c7)))))):=by
 have a0:ofB [c0,c1,c2,c3,c4,c5,c6,c7]=ofB [c1,c2,c3,c4,c5,c6,c7]*256+c0:=by simp only[ofB]
 have a1:ofB [c1,c2,c3,c4,c5,c6,c7]=ofB [c2,c3,c4,c5,c6,c7]*256+c1:=by simp only[ofB]
 have a2:ofB [c2,c3,c4,c5,c6,c7]=ofB [c3,c4,c5,c6,c7]*256+c2:=by simp only[ofB]
 have a3:ofB [c3,c4,c5,c6,c7]=ofB [c4,c5,c6,c7]*256+c3:=by simp only[ofB]
 have a4:ofB [c4,c5,c6,c7]=ofB [c5,c6,c7]*256+c4:=by simp only[ofB]
 have a5:ofB [c5,c6,c7]=ofB [c6,c7]*256+c5:=by simp only[ofB]
 have a6:ofB [c6,c7]=ofB [c7]*256+c6:=by simp only[ofB]
 have a7:ofB [c7]=c7:=by simp[ofB]
 generalize ofB [c0,c1,c2,c3,c4,c5,c6,c7]=X at*
 generalize ofB [c1,c2,c3,c4,c5,c6,c7]=P0 at*
 generalize ofB [c2,c3,c4,c5,c6,c7]=P1 at*
 generalize ofB [c3,c4,c5,c6,c7]=P2 at*
 generalize ofB [c4,c5,c6,c7]=P3 at*
 generalize ofB [c5,c6,c7]=P4 at*
 generalize ofB [c6,c7]=P5 at*
 generalize ofB [c7]=P6 at*
 unfold D3
 simp only
 have b1:X/256=P0:=by rw[a0];exact q1 ab
 have b2:X+P0=(P0+P1)*256+(c0+c1):=by clear b1;omega
 have b3:P0+P1=(P1+P2)*256+(c1+c2):=by clear b1 b2;omega
 have b4:(X+P0)/65536=P1+P2:=by rw[b2];exact q2 b3 ab ab
 have b5:X+P0+(P1+P2)=((P1+P2+P3+P4)*256+(c1+c2+c3+c4))*256+(c0+c1+c2+c3):=by clear b1 b2 b3 b4;omega
 have b6:P1+P2+P3+P4=(P2+P3+P4+P5)*256+(c2+c3+c4+c5):=by clear b1 b2 b3 b4 b5;omega
 have b7:P2+P3+P4+P5=(P3+P4+P5+P6)*256+(c3+c4+c5+c6):=by clear b1 b2 b3 b4 b5 b6;omega
 have b8:(P1+P2+P3+P4)/65536=P3+P4+P5+P6:=by rw[b6];exact q2 b7 ab ab
 have b9:(X+P0+(P1+P2))/4294967296=P3+P4+P5+P6:=by rw[b5];exact q4 b8 ab ab
 have b10:P3+P4+P5+P6=(P4+P5+P6)*256+(c4+c5+c6+c7):=by clear b1 b2 b3 b4 b5 b6 b7 b8 b9;omega
 rw[b1,b4,b9,b5,b10,Ho]
 clear b1 b2 b3 b4 b5 b6 b7 b8 b9 b10 a0 a1 a2 a3 a4 a5 a6 a7
 omega
theorem D5 (x:Nat) (h:x<2^64):D3 (D2 x)=pa 64 x:=by
 obtain ⟨b0,b1,b2,b3,b4,b5,b6,b7,h0,h1,h2,h3,h4,h5,h6,h7,rfl⟩:=Fx x h
 have hl:∀b∈[b0,b1,b2,b3,b4,b5,b6,b7],b<256:=by simp;omega
 generalize hL:[b0,b1,b2,b3,b4,b5,b6,b7]=l at*
 have len:l.length=8:=by rw[←hL];rfl
 have e1:=GK l hl
 have e2:=GL (l.map s1b) fun b hb=>by
  obtain ⟨c,hc,rfl⟩:=List.mem_map.1 hb
  exact GN ⟨c,hl c hc⟩
 have e3:=GM ((l.map s1b).map s2b) fun b hb=>by
  obtain ⟨c,hc,rfl⟩:=List.mem_map.1 hb
  obtain ⟨d,hd,rfl⟩:=List.mem_map.1 hc
  exact Fw ⟨d,hl d hd⟩
 simp only[List.length_map,len] at e1 e2 e3
 have q:D2 (ofB l)=ofB (l.map (pa 8)):=by
  unfold D2
  simp only
  rw[show (6148914691236517205:Nat)=rB 85 8 from rfl,e1,show (3689348814741910323:Nat)=rB 51 8 from rfl,e2,show (1085102592571150095:Nat)=rB 15 8 from rfl,e3]
  congr 1
  rw[List.map_map,List.map_map]
  exact List.map_congr_left fun b hb=>Fv ⟨b,hl b hb⟩
 rw[q,←hL]
 have g:pa 64 (ofB [b0,b1,b2,b3,b4,b5,b6,b7])=pa 8 b0+(pa 8 b1+(pa 8 b2+(pa 8 b3+(pa 8 b4+(pa 8 b5+(pa 8 b6+pa 8 b7)))))):=by
  simp only[ofB]
  rw[show (64:Nat)=56+8 from rfl,pa8 56 _ _ h0,show (56:Nat)=48+8 from rfl,pa8 48 _ _ h1,show (48:Nat)=40+8 from rfl,pa8 40 _ _ h2,show (40:Nat)=32+8 from rfl,pa8 32 _ _ h3,show (32:Nat)=24+8 from rfl,pa8 24 _ _ h4,show (24:Nat)=16+8 from rfl,pa8 16 _ _ h5,show (16:Nat)=8+8 from rfl,pa8 8 _ _ h6]
  simp
 rw[g]
 have l0:=kC ⟨b0,h0⟩
 have l1:=kC ⟨b1,h1⟩
 have l2:=kC ⟨b2,h2⟩
 have l3:=kC ⟨b3,h3⟩
 have l4:=kC ⟨b4,h4⟩
 have l5:=kC ⟨b5,h5⟩
 have l6:=kC ⟨b6,h6⟩
 have l7:=kC ⟨b7,h7⟩
 simp only at l0 l1 l2 l3 l4 l5 l6 l7
 simp only[List.map_cons,List.map_nil]
 exact D4 l0 l1 l2 l3 l4 l5 l6 l7
end Go.Proofs.YtbgmofhgfnmaiaaGreat.Tree
end
