/- Parts of a proof: a layer of abstract values over the model, the functions' walks, plain laws. -/
import Derived.Deep.CondSized
import Derived.IntWalk
import Derived.KernelRfl
import Derived.Laws.Append
import Derived.Laws.AppendOwn
import Derived.Laws.BytesArg
import Derived.Laws.Cover3
import Derived.Laws.Entries
import Derived.Laws.IdiomCopy
import Derived.Laws.IdiomStrings
import Derived.Laws.Pointers
import Derived.Laws.Small
import Derived.Laws.Strings
import Derived.Laws.StructEq
import Derived.MapKept
import Derived.OpenShut
import Derived.Orders
import Derived.OrdersIn
import Derived.ProofKit
import Derived.RangeFuncRecord
import Derived.RangeFuncSeq
import Derived.ReadAgain
import Derived.Scope
import Derived.Shelf.Slices.Cells
import Derived.Shelf.Slices.Delete
import Derived.Shelf.Spec.SlicesInsertGrow
import Derived.SizedLaws
import Derived.Test.YtpehfflehebmbaaGreatRows
import Derived.Test.YtpehfflehebmbaaGreatTPC
set_option linter.unusedSimpArgs false
set_option linter.unusedVariables false
section
set_option maxRecDepth 10000
namespace Go.Proofs.YtpehfflehebmbaaGreat.Space
open Go Go.Av Go.Proofs Go.Proofs.YtpehfflehebmbaaGreat.C Go.Proofs.YtpehfflehebmbaaGreat.Batch
abbrev It:=Bs × List Ver
def vAV (v:List Ver):AV:= .sl 3 (v.map ba) .any
def js (M:List It):List (AV × AV):=M.map fun p=>(.str p.1,vAV p.2)
def iY:List It→Bs→Option (Nat × AV)
 |[],_=>none
 |p::M,q=>if p.1=q then some (0,vAV p.2) else (iY M q).map fun r=>(r.1+1,r.2)
def aY:List It→Bs→List Ver
 |[],_=>[]
 |p::M,q=>if p.1=q then p.2 else aY M q
def fP:List It→Bs→List Ver→List It
 |[],q,v=>[(q,v)]
 |p::M,q,v=>if p.1=q then (q,v)::M else p::fP M q v
def hX:List It→Bs→List It
 |[],_=>[]
 |p::M,q=>if p.1=q then M else p::hX M q
theorem cz (q:Bs):∀M:List It,eQ q (js M)=some (iY M q)
 |[]=>rfl
 |p::M=>by
  have ih:=cz q M
  simp only[js,List.map_cons,eQ,iY] at ih ⊢
  by_cases h:p.1=q
  ·simp only[if_pos h]
  ·simp only[if_neg h,ih,Option.map_some]
theorem jt (M:List It) (q:Bs):ab (cQ (.sl 3 [] (.exact 0)) false (iY M q)) (vAV (aY M q)):=by
 have key:∀M:List It,(iY M q=none∧aY M q=[])∨∃i,iY M q=some (i,vAV (aY M q)):=by
  intro M
  induction M with
  |nil=>exact .inl ⟨rfl,rfl⟩
  |cons p M ih=>
   simp only[iY,aY]
   by_cases h:p.1=q
   ·simp only[if_pos h];exact .inr ⟨0,rfl⟩
   ·simp only[if_neg h]
    rcases ih with ⟨h1,h2⟩|⟨i,h1⟩
    ·exact .inl ⟨by rw[h1];rfl,h2⟩
    ·exact .inr ⟨i+1,by rw[h1];rfl⟩
 rcases key M with ⟨h1,h2⟩|⟨i,h1⟩
 ·rw[h1,h2];exact ab.cap
 ·rw[h1];exact ab.refl _
theorem uz (q:Bs) (v:List Ver):∀M:List It,fe (js M) q (vAV v) (iY M q)=js (fP M q v)
 |[]=>rfl
 |p::M=>by
  have ih:=uz q v M
  simp only[iY,fP]
  by_cases h:p.1=q
  ·simp only[if_pos h,fe,js,List.map_cons,List.set_cons_zero]
  ·simp only[if_neg h]
   cases hr:iY M q with
   |none=>rw[hr] at ih;simp only[Option.map_none,fe,js,List.map_cons,List.cons_append] at ih ⊢;rw[ih]
   |some r=>rw[hr] at ih;simp only[Option.map_some,fe,js,List.map_cons,List.set_cons_succ] at ih ⊢;rw[ih]
theorem qj (q:Bs):∀M:List It,nj (js M) (iY M q)=js (hX M q)
 |[]=>rfl
 |p::M=>by
  have ih:=qj q M
  simp only[iY,hX]
  by_cases h:p.1=q
  ·simp only[if_pos h,nj,js,List.map_cons,List.eraseIdx_cons_zero]
  ·simp only[if_neg h]
   cases hr:iY M q with
   |none=>rw[hr] at ih;simp only[Option.map_none,nj,js,List.map_cons] at ih ⊢;rw[ih]
   |some r=>rw[hr] at ih;simp only[Option.map_some,nj,js,List.map_cons,List.eraseIdx_cons_succ] at ih ⊢;rw[ih]
theorem rD (q q':Bs) (v:List Ver):∀M:List It,aY (fP M q v) q'=if q=q' then v else aY M q'
 |[]=>by simp[fP,aY]
 |p::M=>by
  simp only[fP]
  by_cases h:p.1=q
  ·simp only[if_pos h,aY]
   by_cases h':q=q'
   ·simp[h']
   ·simp only[if_neg h',if_neg (fun e=>h' (h▸e:q=q'))]
  ·simp only[if_neg h,aY,rD q q' v M]
   by_cases h':q=q'
   ·subst h';simp[h]
   ·simp[h']
theorem rE (q:Bs) (v:List Ver):∀(M:List It) (x:Bs),x∈(fP M q v).map (·.1)→x=q∨x∈M.map (·.1)
 |[],x,h=>by simp[fP] at h;exact .inl h
 |p::M,x,h=>by
  simp only[fP] at h
  split at h
  ·simp only[List.map_cons,List.mem_cons] at h ⊢
   rcases h with h|h
   ·exact .inl h
   ·exact .inr (.inr h)
  ·simp only[List.map_cons,List.mem_cons] at h ⊢
   rcases h with h|h
   ·exact .inr (.inl h)
   ·exact (rE q v M x h).imp id .inr
theorem pf (q:Bs) (v:List Ver):∀M:List It,(M.map (·.1)).Nodup→((fP M q v).map (·.1)).Nodup
 |[],_=>by simp[fP]
 |p::M,h=>by
  simp only[List.map_cons,List.nodup_cons] at h
  simp only[fP]
  by_cases hp:p.1=q
  ·simp only[if_pos hp,List.map_cons,List.nodup_cons];rw[←hp];exact h
  ·simp only[if_neg hp,List.map_cons,List.nodup_cons]
   refine ⟨fun hm=>?_,pf q v M h.2⟩
   rcases rE q v M _ hm with e|e
   ·exact hp e
   ·exact h.1 e
theorem gh (q:Bs):∀M:List It,q∉M.map (·.1)→aY M q=[]
 |[],_=>rfl
 |p::M,h=>by
  simp only[List.map_cons,List.mem_cons,not_or] at h
  have h1:¬p.1=q:=fun e=>h.1 e.symm
  simp only[aY,if_neg h1]
  exact gh q M h.2
theorem rF (q q':Bs):∀M:List It,(M.map (·.1)).Nodup→aY (hX M q) q'=if q=q' then [] else aY M q'
 |[],_=>by simp[hX,aY]
 |p::M,h=>by
  simp only[List.map_cons,List.nodup_cons] at h
  simp only[hX]
  by_cases hp:p.1=q
  ·simp only[if_pos hp,aY]
   by_cases h':q=q'
   ·subst h';rw[if_pos rfl];exact gh _ M (by rw[←hp];exact h.1)
   ·simp only[if_neg h',if_neg (fun e=>h' (hp▸e:q=q'))]
  ·simp only[if_neg hp,aY,rF q q' M h.2]
   by_cases h':q=q'
   ·subst h';simp[hp]
   ·simp[h']
theorem rG (q:Bs):∀(M:List It) (x:Bs),x∈(hX M q).map (·.1)→x∈M.map (·.1)
 |[],x,h=>by simp[hX] at h
 |p::M,x,h=>by
  simp only[hX] at h
  split at h
  ·simp only[List.map_cons,List.mem_cons];exact .inr h
  ·simp only[List.map_cons,List.mem_cons] at h ⊢
   exact h.imp id (rG q M x)
theorem pg (q:Bs):∀M:List It,(M.map (·.1)).Nodup→((hX M q).map (·.1)).Nodup
 |[],_=>by simp[hX]
 |p::M,h=>by
  simp only[List.map_cons,List.nodup_cons] at h
  simp only[hX]
  split
  ·exact h.2
  ·simp only[List.map_cons,List.nodup_cons]
   exact ⟨fun hm=>h.1 (rG q M _ hm),pg q M h.2⟩
structure Spc where
 L:List It
 last:Int
 mark:Int
structure xJ (M L:List It):Prop where
 nd:(M.map (·.1)).Nodup
 eq:∀q,aY M q=aY L q
def ae (L:List It):List Bs:=L.map (·.1)
def rH (K:AV) (keys:List Bs) (o:jn) (s c:Nat):Prop:=
 (K= .sl 1 [] (.exact 0)∧keys=[])∨∃k,K= .tsl 1 k 0 keys.length none∧o k=some (.cells (strs keys))∧k≠s∧k≠c
structure cU (s:Nat) (S:Spc) (F:Fr):Prop where
 go:∃c M K,xJ M S.L∧s≠c∧F.o s=some (.cells [K,.mp c,.int .i64 S.last,.int .i64 S.mark])∧F.o c=some (.map (js M))∧rH K (ae S.L) F.o s c
 k:F.k=[]
 fin:F.Fin
def Small (S:Spc):Prop:=S.L.length≤500000∧∀q,(aY S.L q).length≤500000
def jY (S:Spc):Prop:=S.L.length≤500000∧∀q,(aY S.L q).length≤4398046511104
theorem Small.wide {S:Spc} (h:Small S):jY S:=⟨h.1,fun q=>by have:=h.2 q;omega⟩
theorem fA {s:Nat} {S:Spc} {F:Fr} (hF:cU s S F):kd Tryz.prog 43 [.ptr s 0] F (.bool true):=by
 obtain ⟨c,M,K,hM,hsc,hs,hc,hK⟩:=hF.go
 refine f43.looks hF.fin (by simp) fun n m=>?_
 unfold c43
 simp only[C.zz]
 refine rn0 hs ?_
 exact Wp.ret ⟨trivial,_,rfl,ab.refl _,rfl⟩
theorem xK {s:Nat} {S:Spc} {F:Fr} (hF:cU s S F):kd Tryz.prog 12 [.ptr s 0] F (.int .i64 S.last):=by
 obtain ⟨c,M,K,hM,hsc,hs,hc,hK⟩:=hF.go
 refine f12.looks hF.fin (by simp) fun n m=>?_
 unfold c12
 simp only[C.zz]
 refine xL0 hs (fA hF) ?_
 intro ids
 exact Wp.ret ⟨trivial,_,rfl,ab.refl _,rfl⟩
def cT (S:Spc) (t:Int):Int:=if t<S.mark then 12 else if S.last<t then 13 else 0
theorem nM {s:Nat} {S:Spc} {F:Fr} (hF:cU s S F) (t:Int):kd Tryz.prog 41 [.ptr s 0,.int .i64 t] F (.int .i64 (cT S t)):=by
 obtain ⟨c,M,K,hM,hsc,hs,hc,hK⟩:=hF.go
 refine f41.looks hF.fin (by simp) fun n m=>?_
 unfold c41
 simp only[C.zz]
 by_cases h1:t<S.mark
 ·have d1:=decide_eq_true h1
  refine xL0 (cj2 hs d1) (fA hF) ?_
  intro ids
  refine Wp.ret ⟨trivial,_,rfl,?_,rfl⟩
  rw[cT,if_pos h1];exact ab.refl _
 ·have d1:=decide_eq_false h1
  by_cases h2:S.last<t
  ·have d2:=decide_eq_true h2
   refine xL0 (cj3 hs d1 d2) (fA hF) ?_
   intro ids
   refine Wp.ret ⟨trivial,_,rfl,?_,rfl⟩
   rw[cT,if_neg h1,if_pos h2];exact ab.refl _
  ·have d2:=decide_eq_false h2
   refine xL0 (cj3 hs d1 d2) (fA hF) ?_
   intro ids
   refine Wp.ret ⟨trivial,_,rfl,?_,rfl⟩
   rw[cT,if_neg h1,if_neg h2];exact ab.refl _
def eE (S:Spc) (q:Bs) (t:Int):Bs × Int:=if cT S t=0 then (if (atB (aY S.L q) t).2=true then ((atB (aY S.L q) t).1,0) else ([],7)) else ([],cT S t)
theorem Bd {s:Nat} {S:Spc} {F:Fr} (hF:cU s S F) (hS:jY S) (q:Bs) (t:Int):kd Tryz.prog 11 [.ptr s 0,.str q,.int .i64 t] F (.tup [.str (eE S q t).1,.int .i64 (eE S q t).2]):=by
 obtain ⟨c,M,K,hM,hsc,hs,hc,hK⟩:=hF.go
 refine f11.looks hF.fin (by simp) fun n m=>?_
 unfold c11
 simp only[C.zz]
 by_cases h1:cT S t=0
 ·have d1:=decide_eq_true h1
  have hat:=CM (aY S.L q) (by have:=hS.2 q;omega) t
  have hl:=jt M q
  rw[hM.eq q] at hl
  unfold vAV at hl
  have fit:af [cQ (.sl 3 [] (.exact 0)) false (iY M q),.int .i64 t] [.sl 3 ((aY S.L q).map ba) .any,.int .i64 t]:=af.cons hl (af.refl _)
  cases ha:(atB (aY S.L q) t).2 with
  |true=>
   rw[ha] at hat
   refine xL1 (cj4 hs hc d1 @cz) (nM hF t) hat ?_
   intro ids
   refine Wp.ret ⟨trivial,_,rfl,?_,rfl⟩
   rw[eE,if_pos h1,if_pos ha];exact ab.refl _
  |false=>
   rw[ha] at hat
   refine xL1 (cj4 hs hc d1 @cz) (nM hF t) hat ?_
   intro ids
   refine Wp.ret ⟨trivial,_,rfl,?_,rfl⟩
   rw[eE,if_pos h1,if_neg (by simp[ha])];exact ab.refl _
 ·have d1:=decide_eq_false h1
  refine xL0 (cj2 hs d1) (nM hF t) ?_
  intro ids
  refine Wp.ret ⟨trivial,_,rfl,?_,rfl⟩
  rw[eE,if_neg h1];exact ab.refl _
def bL (k:List Bs):Prop:=k.Pairwise fun a b=>Op.bytesLess a b=true
def plK (k:List Bs) (q:Bs):Nat:=k.findIdx fun x=> !Op.bytesLess x q
def thK (k:List Bs) (q:Bs):Bool:=decide (plK k q<k.length)&&decide (k.getD (plK k q) []=q)
theorem eY (k:List Bs) (q:Bs):plK k q≤k.length:=List.findIdx_le_length
theorem iO {k:List Bs} {q:Bs} {i:Nat} (h:i<plK k q):Op.bytesLess (k.getD i []) q=true:=by
 have hl:i<k.length:=Nat.lt_of_lt_of_le h (eY k q)
 have:=List.not_of_lt_findIdx h
 rw[ar hl]
 simpa using this
theorem bL.at {k:List Bs} (h:bL k) {i j:Nat} (hij:i<j) (hj:j<k.length):Op.bytesLess (k.getD i []) (k.getD j [])=true:=by
 rw[ar hj,ar (by omega)]
 exact List.pairwise_iff_getElem.1 h i j (by omega) hj hij
theorem kD {k:List Bs} (hk:bL k) {q:Bs} {i:Nat} (h:plK k q≤i) (hl:i<k.length):Op.bytesLess (k.getD i []) q=false:=by
 have hp:plK k q<k.length:=Nat.lt_of_le_of_lt h hl
 have h1:Op.bytesLess (k.getD (plK k q) []) q=false:=by
  have:=List.findIdx_getElem (p:=fun x=> !Op.bytesLess x q) (xs:=k) (w:=hp)
  rw[ar hp]
  have h2:(!Op.bytesLess (k[plK k q]'hp) q)=true:=this
  simpa using h2
 by_cases e:i=plK k q
 ·rw[e];exact h1
 ·have h2:=hk.at (i:=plK k q) (j:=i) (by omega) hl
  cases hc:Op.bytesLess (k.getD i []) q with
  |false=>rfl
  |true=>rw[bz h2 hc] at h1;cases h1
theorem mX {k:List Bs} (h:bL k) (q:Bs):thK k q=decide (q∈k):=by
 have hp:=eY k q
 refine Bool.eq_iff_iff.2 ?_
 simp only[thK,Bool.and_eq_true,decide_eq_true_eq]
 constructor
 ·rintro ⟨h1,h2⟩
  rw[ar h1] at h2
  rw[←h2];exact List.getElem_mem h1
 ·intro hm
  obtain ⟨i,hi,e⟩:=List.mem_iff_getElem.1 hm
  have he:k.getD i []=q:=by rw[ar hi];exact e
  have h1:¬i<plK k q:=by
   intro hlt
   have:=iO hlt
   rw[he,bk] at this;cases this
  have h2:¬plK k q<i:=by
   intro hlt
   have a1:=h.at hlt hi
   rw[he] at a1
   have a2:=kD (q:=q) h (Nat.le_refl _) (Nat.lt_trans hlt hi)
   rw[a1] at a2;cases a2
  have:plK k q=i:=by omega
  rw[this]
  exact ⟨hi,he⟩
theorem nN {K:AV} {keys:List Bs} {o:jn} {s c:Nat} (hK:rH K keys o s c) (hr:bL keys) (hl:keys.length≤1152921504606846976) (q:Bs):
  ∃(objs:jn) (ids:List Nat),(∀id p,objs id=some p→o id=some p)∧(∀id,(objs id).isSome→id∈ids)∧iI Tryz.prog 89 [K,.str q] objs (.tup [.int .i64 (plK keys q),.bool (thK keys q)]):=by
 have hb:=Reads.lM keys hl q (plK keys q) (eY keys q) (fun i h=>iO h) (fun i h hi=>kD hr h hi)
 rcases hK with ⟨rfl,rfl⟩|⟨k,rfl,h1,h2,h3⟩
 ·refine ⟨ag,[],fun id p h=>by simp[ag] at h,fun id h=>by simp[ag] at h,fun n m=>?_⟩
  intro G w vs hv R F
  refine hb n m G w vs ?_ R F
  exact (af.cons ab.cap (af.refl _)) G w vs hv
 ·refine ⟨upd ag k (some (.cells (strs keys))),[k],fun id p h=>?_,fun id h=>?_,?_⟩
  ·simp only[upd,ag] at h
   split at h
   ·rename_i e;subst e;cases h;exact h1
   ·cases h
  ·simp only[upd,ag] at h
   split at h
   ·rename_i e;simp[e]
   ·cases h
  ·have:=hb.look (fun G G' w v h=>by simpa only[ah,aq] using h) none k
   rwa [ao] at this
theorem ju {s c n m:Nat} {F:Fr} {q r K:AV} {h:H} {S':Spc} {M':List It} {Q:AV→List Fr→Prop} (hs0:(F.o s).isSome=true) (hc0:(F.o c).isSome=true) (hsn:s<n) (hcn:c<n) (hsc:s≠c) (hn:n≤h.n)
  (h1:h.objs s=some (.cells [K,.mp c,.int .i64 S'.last,.int .i64 S'.mark])) (h2:h.objs c=some (.map (js M'))) (hM:xJ M' S'.L)
  (hrow:(K= .sl 1 [] (.exact 0)∧ae S'.L=[])∨∃k,K= .tsl 1 k 0 (ae S'.L).length none∧h.objs k=some (.cells (strs (ae S'.L)))∧k≠s∧k≠c∧k<h.n∧((F.o k).isSome=true∨n≤k))
  (sub:ab q r) (hQ:∀F',cU s S' F'→Q r [F']):∃r l',Av.Ends [F] n m Q q h r l':=by
 have getF:∀j,(F.o j).isSome=true→(lay [F] j).isSome=true:=fun j hj=>by
  rw[cO]
  obtain ⟨x,hx⟩:=Option.isSome_iff_exists.1 hj
  rw[hx];rfl
 rcases hrow with ⟨rfl,hk⟩|⟨k,rfl,h3,hks,hkc,hkn,hk⟩
 ·refine ⟨r,[cat [ob s (.cells [.sl 1 [] (.exact 0),.mp c,.int .i64 S'.last,.int .i64 S'.mark]),ob c (.map (js M'))]],⟨sub,?_,fun t ht=>?_,?_,fun j=>?_,fun t ht=>?_,hQ _ ⟨⟨c,M',_,hM,hsc,?_,?_,.inl ⟨rfl,hk⟩⟩,rfl,⟨[s,c],fun id hid=>?_⟩⟩⟩⟩
  ·exact OLe.mV (m:=[]) (OLe.kz h1 (cq.refl _) (OLe.kz h2 (cq.refl _) (OLe.mU _)))
  ·simp[ks,cat,ob] at ht
  ·refine ⟨fun F' hF' j hj=>?_,by simp,fun t ht=>by simp[ks,cat,ob] at ht,by simp,fun t ht=>by simp[ks,cat,ob] at ht⟩
   rw[List.mem_singleton.1 hF']
   simp only[cat,lay,aW,ag]
   rw[if_neg (by omega),if_neg (by omega)];rfl
  ·by_cases e1:j=s
   ·subst e1;exact .inr (.inl (getF _ hs0))
   ·by_cases e2:j=c
    ·subst e2;exact .inr (.inl (getF _ hc0))
    ·right;right
     simp[lay,cat,aW,ag,e1,e2]
  ·simp[ks,cat,ob] at ht
  ·simp[cat,lay,aW]
  ·simp[cat,lay,aW,Ne.symm hsc]
  ·simp only[cat,lay,aW,ag] at hid
   by_cases e1:id=s
   ·simp[e1]
   ·by_cases e2:id=c
    ·simp[e2]
    ·simp[e1,e2] at hid
 ·refine ⟨r,[cat [ob s (.cells [.tsl 1 k 0 (ae S'.L).length none,.mp c,.int .i64 S'.last,.int .i64 S'.mark]),ob c (.map (js M')),ob k (.cells (strs (ae S'.L)))]],⟨sub,?_,fun t ht=>?_,?_,fun j=>?_,fun t ht=>?_,hQ _ ⟨⟨c,M',_,hM,hsc,?_,?_,.inr ⟨k,rfl,?_,hks,hkc⟩⟩,rfl,⟨[s,c,k],fun id hid=>?_⟩⟩⟩⟩
  ·exact OLe.mV (m:=[]) (OLe.kz h1 (cq.refl _) (OLe.kz h2 (cq.refl _) (OLe.kz h3 (cq.refl _) (OLe.mU _))))
  ·simp[ks,cat,ob] at ht
  ·refine ⟨fun F' hF' j hj=>?_,by simp,fun t ht=>by simp[ks,cat,ob] at ht,by simp,fun t ht=>by simp[ks,cat,ob] at ht⟩
   rw[List.mem_singleton.1 hF']
   simp only[cat,lay,aW,ag]
   rw[if_neg (by omega),if_neg (by omega),if_neg (by omega)];rfl
  ·by_cases e1:j=s
   ·subst e1;exact .inr (.inl (getF _ hs0))
   ·by_cases e2:j=c
    ·subst e2;exact .inr (.inl (getF _ hc0))
    ·by_cases e3:j=k
     ·subst e3
      rcases hk with hk|hk
      ·exact .inr (.inl (getF _ hk))
      ·exact .inl hk
     ·right;right
      simp[lay,cat,aW,ag,e1,e2,e3]
  ·simp[ks,cat,ob] at ht
  ·simp[cat,lay,aW]
  ·simp[cat,lay,aW,Ne.symm hsc]
  ·simp[cat,lay,aW,hks,hkc]
  ·simp only[cat,lay,aW,ag] at hid
   by_cases e1:id=s
   ·simp[e1]
   ·by_cases e2:id=c
    ·simp[e2]
    ·by_cases e3:id=k
     ·simp[e3]
     ·simp[e1,e2,e3] at hid
theorem Be:aT Tryz.prog 30 [] [] (fun r l=>∃s F,r= .ptr s 0∧l=[F]∧cU s ⟨[],0,0⟩ F):=by
 refine f30.bo (by simp) fun n m ok=>?_
 unfold c30
 simp only[C.zz]
 refine de ?_
 refine Wp.ret ⟨trivial,_,rfl,.ptr (n+1) 0,[cat [ob (n+1) (.cells [.sl 1 [] (.exact 0),.mp n,.int .i64 0,.int .i64 0]),ob n (.map (js []))]],?_⟩
 refine ⟨ab.refl _,?_,fun t ht=>?_,?_,fun j=>?_,fun t ht=>?_,n+1,_,rfl,rfl,⟨n,[],_,⟨by simp,fun q=>rfl⟩,by omega,?_,?_,.inl ⟨rfl,rfl⟩⟩,rfl,⟨[n+1,n],fun id hid=>?_⟩⟩
 ·exact OLe.mV (m:=[]) (OLe.kz (by simp[upd]) (cq.refl _) (OLe.kz (by simp[upd];rfl) (cq.refl _) (OLe.mU _)))
 ·simp[ks,cat,ob] at ht
 ·refine ⟨fun F' hF' j hj=>?_,by simp,fun t ht=>by simp[ks,cat,ob] at ht,by simp,fun t ht=>by simp[ks,cat,ob] at ht⟩
  rw[List.mem_singleton.1 hF']
  simp only at hj
  simp only[cat,lay,aW,ag]
  rw[if_neg (by omega),if_neg (by omega)];rfl
 ·by_cases e:n≤j
  ·exact .inl e
  ·right;right
   simp only[lay,cat,aW,ag]
   rw[if_neg (by omega),if_neg (by omega)];rfl
 ·simp[ks,cat,ob] at ht
 ·simp[cat,lay,aW]
 ·simp[cat,lay,aW]
 ·simp only[cat,lay,aW,ag] at hid
  by_cases e1:id=n+1
  ·simp[e1]
  ·by_cases e2:id=n
   ·simp[e2]
   ·simp[e1,e2] at hid
def dD (L:List It) (q:Bs) (v:List Ver):List It:=
 if v=[] then (if thK (ae L) q=true then L.take (plK (ae L) q)++L.drop (plK (ae L) q+1) else L)
 else if thK (ae L) q=true then L.take (plK (ae L) q)++(q,v)::L.drop (plK (ae L) q+1) else L.take (plK (ae L) q)++(q,v)::L.drop (plK (ae L) q)
def bb (L:List It):Prop:=bL (ae L)
theorem fK (q:Bs):∀(A B:List It),aY (A++B) q=if q∈A.map (·.1) then aY A q else aY B q
 |[],B=>by simp
 |p::A,B=>by
  simp only[List.cons_append,aY,List.map_cons,List.mem_cons]
  by_cases h:p.1=q
  ·simp[h]
  ·have h':¬q=p.1:=fun e=>h e.symm
   simp only[if_neg h,h',false_or,fK q A B]
theorem kT {L:List It} (h:bb L) (q:Bs) (v:List Ver) (q':Bs):aY (dD L q v) q'=if q=q' then v else aY L q':=by
 have hp:=eY (ae L) q
 have hlen:(ae L).length=L.length:=by simp[ae]
 have hne:∀i (hi:i<L.length),i≠plK (ae L) q→(L[i]).1≠q∨thK (ae L) q=false:=by
  intro i hi hd
  by_cases ht:thK (ae L) q=true
  ·left
   intro e
   simp only[thK,Bool.and_eq_true,decide_eq_true_eq] at ht
   have e1:(ae L).getD i []=q:=by rw[ar (by omega)];simpa [ae] using e
   rcases Nat.lt_or_gt_of_ne hd with hlt|hlt
   ·have:=h.at hlt ht.1
    rw[ht.2,e1,bk] at this;cases this
   ·have:=h.at hlt (by omega)
    rw[ht.2,e1,bk] at this;cases this
  ·exact .inr (by simpa using ht)
 have memk:∀x,x∈(L.take (plK (ae L) q)).map (·.1)→x≠q:=by
  intro x hx e
  obtain ⟨p,hp1,hp2⟩:=List.mem_map.1 hx
  obtain ⟨i,hi,rfl⟩:=List.mem_iff_getElem.1 hp1
  rw[List.length_take] at hi
  have h2:=iO (k:=ae L) (q:=q) (i:=i) (by omega)
  have h3:(ae L).getD i []=q:=by
   rw[ar (by omega)]
   refine Eq.trans ?_ (hp2.trans e)
   simp[ae]
  rw[h3,bk] at h2;cases h2
 have hL:L=L.take (plK (ae L) q)++L.drop (plK (ae L) q):=by simp
 by_cases ht:thK (ae L) q=true
 ·have ht2:=ht
  simp only[thK,Bool.and_eq_true,decide_eq_true_eq] at ht2
  have hlt:plK (ae L) q<L.length:=by omega
  have hkey:(L[plK (ae L) q]).1=q:=by
   have:=ht2.2
   rw[ar ht2.1] at this
   simpa [ae] using this
  have hd:L.drop (plK (ae L) q)=L[plK (ae L) q]::L.drop (plK (ae L) q+1):=List.drop_eq_getElem_cons hlt
  have nomem:q∉(L.drop (plK (ae L) q+1)).map (·.1):=by
   intro hx
   obtain ⟨p,hp1,hp2⟩:=List.mem_map.1 hx
   obtain ⟨i,hi,rfl⟩:=List.mem_iff_getElem.1 hp1
   rw[List.length_drop] at hi
   rw[List.getElem_drop] at hp2
   rcases hne (plK (ae L) q+1+i) (by omega) (by omega) with e|e
   ·exact e hp2
   ·rw[ht] at e;cases e
  by_cases hv:v=[]
  ·rw[dD,if_pos hv,if_pos ht,fK]
   by_cases he:q=q'
   ·subst he
    rw[if_neg (fun hm=>memk _ hm rfl),if_pos rfl,hv]
    exact gh _ _ nomem
   ·rw[if_neg he]
    conv=>rhs;rw[hL,fK,hd]
    simp only[aY,hkey,if_neg he]
  ·rw[dD,if_neg hv,if_pos ht,fK]
   by_cases he:q=q'
   ·subst he
    rw[if_neg (fun hm=>memk _ hm rfl),if_pos rfl]
    simp only[aY,if_true]
   ·rw[if_neg he]
    conv=>rhs;rw[hL,fK,hd]
    simp only[aY,hkey,if_neg he]
 ·have hq:aY L q=[]:=by
   refine gh _ _ fun hm=>?_
   have:=mX h q
   rw[decide_eq_true (show q∈ae L from hm)] at this
   exact ht this
  by_cases hv:v=[]
  ·rw[dD,if_pos hv,if_neg ht]
   by_cases he:q=q'
   ·subst he;rw[if_pos rfl,hv,hq]
   ·rw[if_neg he]
  ·rw[dD,if_neg hv,if_neg ht,fK]
   by_cases he:q=q'
   ·subst he
    rw[if_neg (fun hm=>memk _ hm rfl),if_pos rfl]
    simp only[aY,if_true]
   ·rw[if_neg he]
    conv=>rhs;rw[hL,fK]
    simp only[aY,if_neg he]
theorem ph (L:List It) (q:Bs) (v:List Ver):ae (dD L q v)=
  if v=[] then (if thK (ae L) q=true then (ae L).take (plK (ae L) q)++(ae L).drop (plK (ae L) q+1) else ae L)
  else if thK (ae L) q=true then ae L else (ae L).take (plK (ae L) q)++q::(ae L).drop (plK (ae L) q):=by
 unfold dD
 split
 ·split<;>simp[ae,List.map_take,List.map_drop]
 ·split
  ·rename_i ht
   simp only[thK,Bool.and_eq_true,decide_eq_true_eq] at ht
   have hlt:plK (ae L) q<(ae L).length:=ht.1
   have hd:=List.drop_eq_getElem_cons hlt
   have hk:(ae L)[plK (ae L) q]=q:=by have:=ht.2;rwa [ar hlt] at this
   have e1:ae (L.take (plK (ae L) q)++(q,v)::L.drop (plK (ae L) q+1))=(ae L).take (plK (ae L) q)++q::(ae L).drop (plK (ae L) q+1):=by
    simp[ae,List.map_take,List.map_drop]
   rw[e1]
   conv=>rhs;rw[←List.take_append_drop (plK (ae L) q) (ae L),hd,hk]
  ·simp[ae,List.map_take,List.map_drop]
theorem jT {L:List It} (h:bb L) (q:Bs) (v:List Ver):bb (dD L q v):=by
 unfold bb
 rw[ph]
 have hk:bL (ae L):=h
 split
 ·split
  ·refine List.pairwise_append.2 ⟨hk.sublist (List.take_sublist _ _),hk.sublist (List.drop_sublist _ _),fun a ha b hb=>?_⟩
   have e:ae L=(ae L).take (plK (ae L) q+1)++(ae L).drop (plK (ae L) q+1):=(List.take_append_drop _ _).symm
   have hp:=hk
   unfold bL at hp
   rw[e] at hp
   exact (List.pairwise_append.1 hp).2.2 a (List.take_subset_take_left _ (by omega) ha) b hb
  ·exact hk
 ·split
  ·exact hk
  ·rename_i ht
   refine List.pairwise_append.2 ⟨hk.sublist (List.take_sublist _ _),List.pairwise_cons.2 ⟨fun b hb=>?_,hk.sublist (List.drop_sublist _ _)⟩,fun a ha b hb=>?_⟩
   ·obtain ⟨i,hi,rfl⟩:=List.mem_iff_getElem.1 hb
    rw[List.length_drop] at hi
    rw[List.getElem_drop]
    have h1:=kD hk (q:=q) (i:=plK (ae L) q+i) (by omega) (by omega)
    rw[ar (by omega)] at h1
    rcases cN q (ae L)[plK (ae L) q+i] with e|e|e
    ·exact e
    ·have:=mX hk q
     rw[decide_eq_true (show q∈ae L by rw[e];exact List.getElem_mem _)] at this
     exact absurd this ht
    ·rw[h1] at e;cases e
   ·have hlt:Op.bytesLess a q=true:=by
     obtain ⟨i,hi,rfl⟩:=List.mem_iff_getElem.1 ha
     rw[List.length_take] at hi
     have:=iO (k:=ae L) (q:=q) (i:=i) (by omega)
     rw[ar (by omega)] at this
     rw[List.getElem_take];exact this
    rcases List.mem_cons.1 hb with rfl|hb
    ·exact hlt
    ·obtain ⟨i,hi,rfl⟩:=List.mem_iff_getElem.1 hb
     obtain ⟨j,hj,rfl⟩:=List.mem_iff_getElem.1 ha
     rw[List.length_drop] at hi
     rw[List.length_take] at hj
     rw[List.getElem_drop,List.getElem_take]
     exact List.pairwise_iff_getElem.1 hk _ _ _ _ (by omega)
def iP (S:Spc) (q:Bs) (v:List Ver):Spc:={S with L:=dD S.L q v}
set_option maxHeartbeats 2000000 in
theorem Bf {s:Nat} {S:Spc} {F:Fr} (hF:cU s S F) (hr:bb S.L) (hl:S.L.length≤500000) (q:Bs) (v:List Ver):aT Tryz.prog 55 [.ptr s 0,.str q,vAV v] [F] (fun r l=>r= .tup []∧∃F',l=[F']∧cU s (iP S q v) F'):=by
 obtain ⟨c,M,K,hM,hsc,hs,hc,hK⟩:=hF.go
 have hkl:(ae S.L).length=S.L.length:=by simp[ae]
 obtain ⟨objs,ids,ho,hi,hb⟩:=nN hK hr (by omega) q
 refine f55.bo (by simp) fun n m ok=>?_
 unfold c55
 simp only[C.zz]
 have fs:=ok.at0 hs
 have fc:=ok.at0 hc
 have hsn:=ok.lt (by simp) hs
 have hcn:=ok.lt (by simp) hc
 have ksF:ks [F]=[]:=by simp[ks,hF.k]
 have hcs:(c=s)=False:=by simp;exact Ne.symm hsc
 have hsc':(s=c)=False:=by simp[hsc]
 have hms:xJ (if v=[] then hX M q else fP M q v) (iP S q v).L:=by
  refine ⟨?_,fun q'=>?_⟩
  ·split
   ·exact pg _ _ hM.nd
   ·exact pf _ _ _ hM.nd
  ·show _=aY (dD S.L q v) q'
   rw[kT hr]
   split
   ·rename_i hv;subst hv;rw[rF _ _ _ hM.nd,hM.eq]
   ·rw[rD,hM.eq]
 have hke:=ph S.L q v
 rw[ksF]
 refine rn0 (cj2 fs fc) ?_
 refine aa.ji ids (by simp only[go_sem]) xA4 (fun id o h=>ok.sub (by simp) id o (ho id o h)) hi hb ?_
 refine aa.evR xA1 ?_
 refine aa.nil ⟨by trivial,?_⟩
 have b0:decide (((0:Nat):Int)=0)=true:=rfl
 have b1:decide ((0:Int)<((0:Nat):Int))=false:=rfl
 have hs0:(F.o s).isSome=true:=by rw[hs];rfl
 have hc0:(F.o c).isSome=true:=by rw[hc];rfl
 have row0:∀(S':Spc),ae S'.L=ae S.L→((K= .sl 1 [] (.exact 0)∧ae S'.L=[])∨∃k,K= .tsl 1 k 0 (ae S'.L).length none∧lay [F] k=some (.cells (strs (ae S'.L)))∧k≠s∧k≠c∧k<n∧((F.o k).isSome=true∨n≤k)):=by
  intro S' e
  rw[e]
  rcases hK with ⟨h1,h2⟩|⟨k,h1,h2,h3,h4⟩
  ·exact .inl ⟨h1,h2⟩
  ·exact .inr ⟨k,h1,ok.at0 h2,h3,h4,ok.lt (by simp) h2,.inl (by rw[h2];rfl)⟩
 have hple:=eY (ae S.L) q
 have i2:IntKind.i64.wrap (((plK (ae S.L) q:Nat):Int)+1)=((plK (ae S.L) q+1:Nat):Int):=by rw[IntWalk.i64_in _ (by omega)];omega
 by_cases hv:v=[]
 ·subst hv
  rw[if_pos rfl] at hms
  rw[if_pos rfl] at hke
  cases ht:thK (ae S.L) q with
  |false=>
   have e:iP S q []=S:=by
    simp only[iP,dD,if_true,ht,Bool.false_eq_true,if_false]
   rw[e]
   refine rn0 (cj6 @vAV.eq_1 @List.map_nil.{0,0} @List.length_nil.{0} ht b0 b1) ?_
   exact ⟨trivial,_,rfl,ju hs0 hc0 hsn hcn hsc (Nat.le_refl _) fs fc hM (row0 S rfl) (ab.refl _) fun F' h=>⟨rfl,F',rfl,h⟩⟩
  |true=>
   rw[if_pos ht] at hke
   have ht2:=ht
   simp only[thK,Bool.and_eq_true,decide_eq_true_eq] at ht2
   rcases hK with ⟨rfl,h2⟩|⟨k,rfl,h2,h3,h4⟩
   ·rw[h2] at ht2;simp at ht2
   have fk:=ok.at0 h2
   have hkn:=ok.lt (by simp) h2
   have hsk':(s=k)=False:=by simp;exact Ne.symm h3
   have hck':(c=k)=False:=by simp;exact Ne.symm h4
   obtain ⟨o1,o2,o3,o4⟩:=cF hsn
   obtain ⟨p1,p2,p3,p4⟩:=cF hcn
   refine rn0 (cj5 @vAV.eq_1 @List.map_nil.{0,0} @List.length_nil.{0} ht b0) ?_
   refine Wp.vF ?_
   refine fv ?_
   refine fv ?_
   refine fv ?_
   refine fv ?_
   refine xOp fs ?_
   refine xOp i2 ?_
   refine xOp i2 ?_
   refine xOp i2 ?_
   refine aQ.eR (by simp only[go_sem]) xA4 (xI (ae S.L) (plK (ae S.L) q) ht2.1 (by omega) (id:=k) (h:= .only (upd ag k (some (.cells (strs (ae S.L))))) [] n m) (by simp[H.only,upd]) rfl) (iJ _ fk hkn) ?_
   refine xOp (cj4 @H.aZ.eq_1 fs o3 hsk') ?_
   refine xOp (cj4 @H.aZ.eq_1 fs o3 hsk') ?_
   refine xOp (cj4 @H.aZ.eq_1 fs o3 hsk') ?_
   refine aa.toN (log:=[]) (aa.nil ?_)
   refine rn0 (cj7 fc @cz @qj p3 hck' hcs hsc') ?_
   have hl2:(ae S.L).length - 1=(ae (iP S q []).L).length:=by
    show _=(ae (dD S.L q [])).length
    rw[hke,List.length_append,List.length_take,List.length_drop];omega
   refine ⟨trivial,_,rfl,ju (S':=iP S q []) (M':=hX M q) (K:= .tsl 1 n 0 ((ae S.L).length - 1) none) hs0 hc0 hsn hcn hsc (by simp only;omega) ?_ ?_ hms (.inr ⟨n,by rw[hl2],?_,by omega,by omega,by simp only;omega,.inr (Nat.le_refl _)⟩) (ab.refl _) fun F' h=>⟨rfl,F',rfl,h⟩⟩
   ·simp only[go_sem,H.aZ,hsc',hcs,o3,hsk',fs,reduceIte];rfl
   ·simp only[go_sem,H.aZ,hsc',hcs,p3,hck',fc,reduceIte]
    rw[←qj];rfl
   ·simp only[go_sem,H.aZ,o4,p4,reduceIte]
    show some _=some _
    rw[←hke];rfl
 ·rw[if_neg hv] at hms hke
  have hlen:0<v.length:=List.length_pos_iff.2 hv
  have c0:decide ((v.length:Int)=0)=false:=decide_eq_false (by omega)
  have c1:decide ((0:Int)<(v.length:Int))=true:=decide_eq_true (by omega)
  have hput:=uz q v M
  simp only[vAV,fe] at hput
  cases ht:thK (ae S.L) q with
  |true=>
   rw[if_pos ht] at hke
   refine rn0 (cj9 @vAV.eq_1 @List.length_map.{0,0} ht c0 c1 fc fs @cz hput) ?_
   refine ⟨trivial,_,rfl,ju (S':=iP S q v) (M':=fP M q v) (K:=K) hs0 hc0 hsn hcn hsc (Nat.le_refl _) ?_ ?_ hms ?_ (ab.refl _) fun F' h=>⟨rfl,F',rfl,h⟩⟩
   ·simp only[go_sem,hsc',fs,reduceIte];rfl
   ·simp only[go_sem,reduceIte]
   ·rcases row0 (iP S q v) hke with h|⟨k,h1,h2,h3,h4,h5,h6⟩
    ·exact .inl h
    ·have hkc:(k=c)=False:=by simp[h4]
     exact .inr ⟨k,h1,by simp only[go_sem,hkc,reduceIte];exact h2,h3,h4,h5,h6⟩
  |false=>
   rw[if_neg (by simp[ht])] at hke
   obtain ⟨o1,o2,o3,o4⟩:=cF hsn
   obtain ⟨p1,p2,p3,p4⟩:=cF hcn
   have hl2:(ae S.L).length+1=(ae (iP S q v).L).length:=by
    show _=(ae (dD S.L q v)).length
    rw[hke,List.length_append,List.length_cons,List.length_take,List.length_drop];omega
   have n1:(n=n+1)=False:=by simp
   have n2:(n+1=n)=False:=by simp
   rcases hK with ⟨rfl,h2⟩|⟨k,rfl,h2,h3,h4⟩
   ·have hp0:plK (ae S.L) q=0:=by rw[h2];rfl
    have z0:((0:Nat):Int)=0:=rfl
    refine rn0 (cj6 @vAV.eq_1 @List.length_map.{0,0} ht c0 c1 hp0) ?_
    refine Wp.vF ?_
    refine fv ?_
    refine fv ?_
    refine fv ?_
    refine fv ?_
    refine xOp fs ?_
    refine fv ?_
    refine fv ?_
    refine aQ.opT xA2 (by simp only[fX,go_sem,reduceIte,Nat.reduceEqDiff,Nat.reduceAdd,bx,List.all_cons,List.all_nil,List.length_cons,List.length_nil,Nat.reduceMul,Nat.reduceLeDiff,and_self,if_true,decide_true,Bool.and_self];exact rfl) ?_
    refine aQ.eR (by simp only[go_sem]) (by simp only[go_sem,reduceIte,Nat.reduceEqDiff,List.map,z0];exact af.refl _) (Reads.nL q (id2:=n) (h:= .only (upd ag n (some (.cells [.str q]))) [] (n+1) m) (by simp[H.only,upd]) rfl) (iJ _ (id:=n) (ob:= .cells [.str q]) (by simp[upd,cellsOf]) (by simp)) ?_
    refine xOp (cj6 @H.aZ.eq_1 fs o1 o3 n1 n2) ?_
    refine xOp (cj6 @H.aZ.eq_1 fs o1 o3 n1 n2) ?_
    refine xOp (cj6 @H.aZ.eq_1 fs o1 o3 n1 n2) ?_
    refine aa.toN (log:=[]) (aa.nil ?_)
    refine rn0 (fR fc @cz hput p1 p3 hcs hsc' @List.length_map.{0,0} n1 n2) ?_
    refine ⟨trivial,_,rfl,ju (S':=iP S q v) (M':=fP M q v) (K:= .tsl 1 (n+1) 0 1 none) hs0 hc0 hsn hcn hsc (by simp only;omega) ?_ ?_ hms (.inr ⟨n+1,by rw[←hl2,h2];rfl,?_,by omega,by omega,by simp only;omega,.inr (by omega)⟩) (ab.refl _) fun F' h=>⟨rfl,F',rfl,h⟩⟩
    ·simp only[go_sem,H.aZ,hsc',hcs,o1,o3,fs,n1,n2,reduceIte];rfl
    ·simp only[go_sem,H.aZ,hsc',hcs,p1,p3,fc,n1,n2,reduceIte]
    ·simp only[go_sem,H.aZ,o2,o4,p2,p4,n1,n2,reduceIte]
     show some _=some (Av.Obj.cells (strs (ae (dD S.L q v))))
     rw[hke,h2];rfl
   ·have fk:=ok.at0 h2
    have hkn:=ok.lt (by simp) h2
    have hsk':(s=k)=False:=by simp;exact Ne.symm h3
    have hck':(c=k)=False:=by simp;exact Ne.symm h4
    obtain ⟨r1,r2,r3,r4⟩:=cF hkn
    have ins:∀(m2:Nat),bn Tryz.prog 90 [.tsl 1 k 0 (ae S.L).length none,.int .i64 (plK (ae S.L) q),.tsl 1 n 0 1 none] (.only (upd (upd ag k (some (.cells (strs (ae S.L))))) n (some (.cells [.str q]))) [] (n+1) m2) (.tsl 1 (n+1) 0 ((ae S.L).length+1) none) ((H.only (upd (upd ag k (some (.cells (strs (ae S.L))))) n (some (.cells [.str q]))) [] (n+1) m2).aZ k (.cells (strs ((ae S.L).take (plK (ae S.L) q)++q::(ae S.L).drop (plK (ae S.L) q))))):=by
     intro m2
     by_cases hz:ae S.L=[]
     ·rw[hz]
      exact rB q (id:=k) (id2:=n) (h:= .only (upd (upd ag k (some (.cells (strs [])))) n (some (.cells [.str q]))) [] (n+1) m2) (by omega) (by simp[H.only,upd,r3]) (by simp[H.only,upd]) rfl
     ·exact Reads.nK (ae S.L) (plK (ae S.L) q) q (by omega) (by omega) (List.length_pos_iff.2 hz) (id:=k) (id2:=n) (h:= .only (upd (upd ag k (some (.cells (strs (ae S.L))))) n (some (.cells [.str q]))) [] (n+1) m2) (by omega) (by simp[H.only,upd,r3]) (by simp[H.only,upd]) rfl
    refine rn0 (cj5 @vAV.eq_1 @List.length_map.{0,0} ht c0 c1) ?_
    refine Wp.vF ?_
    refine fv ?_
    refine fv ?_
    refine fv ?_
    refine fv ?_
    refine xOp fs ?_
    refine fv ?_
    refine fv ?_
    refine aQ.opT xA2 (by simp only[fX,go_sem,reduceIte,Nat.reduceEqDiff,Nat.reduceAdd,bx,List.all_cons,List.all_nil,List.length_cons,List.length_nil,Nat.reduceMul,Nat.reduceLeDiff,and_self,if_true,decide_true,Bool.and_self];exact rfl) ?_
    refine aQ.eR (by simp only[go_sem]) xA4 (ins _) (jm _ (id:=k) (id2:=n) (ob:= .cells (strs (ae S.L))) (ob2:= .cells [.str q]) (by simp[upd,r3,fk]) (by simp[upd,cellsOf]) (by omega) (by simp only;omega) (by simp)) ?_
    refine xOp (cj7 @H.aZ.eq_1 fs o1 o3 hsk' n1 n2) ?_
    refine xOp (cj7 @H.aZ.eq_1 fs o1 o3 hsk' n1 n2) ?_
    refine xOp (cj7 @H.aZ.eq_1 fs o1 o3 hsk' n1 n2) ?_
    refine aa.toN (log:=[]) (aa.nil ?_)
    refine rn0 (lI fc @cz hput p1 p3 hck' hcs hsc' @List.length_map.{0,0} n1 n2) ?_
    refine ⟨trivial,_,rfl,ju (S':=iP S q v) (M':=fP M q v) (K:= .tsl 1 (n+1) 0 ((ae S.L).length+1) none) hs0 hc0 hsn hcn hsc (by simp only;omega) ?_ ?_ hms (.inr ⟨n+1,by rw[←hl2],?_,by omega,by omega,by simp only;omega,.inr (by omega)⟩) (ab.refl _) fun F' h=>⟨rfl,F',rfl,h⟩⟩
    ·simp only[go_sem,H.aZ,hsc',hcs,o1,o3,hsk',fs,n1,n2,reduceIte];rfl
    ·simp only[go_sem,H.aZ,hsc',hcs,p1,p3,hck',fc,n1,n2,reduceIte]
    ·simp only[go_sem,H.aZ,o2,o4,p2,p4,n1,n2,reduceIte]
     show some _=some (Av.Obj.cells (strs (ae (dD S.L q v))))
     rw[hke]
def xL (s:Nat) (a b:Bs):AV:= .clo (.func 133) [] [.ref [.ptr s 0],.ref [.str a],.ref [.str b]]
theorem pj {s:Nat} {S:Spc} {F:Fr} (hF:cU s S F) (a b:Bs):aT Tryz.prog 93 [.ptr s 0,.str a,.str b] [F] (fun r l=>r=xL s a b∧l=[F]):=by
 obtain ⟨c,M,K,hM,hsc,hs,hc,hK⟩:=hF.go
 refine f93.nG (by simp) fun n m ok=>?_
 unfold c93
 simp only[C.zz]
 have hsn:=ok.lt (by simp) hs
 obtain ⟨o1,o2,o3,o4⟩:=cF hsn
 have d1:decide (n≤s)=false:=decide_eq_false (by omega)
 refine de ?_
 refine Wp.ret ⟨trivial,_,rfl,?_,fun j hj=>?_,fun t ht=>ht⟩
 ·have e1:(n=n+1+1)=False:=by simp;omega
  have e2:(n≤n+1+1)=True:=by simp;omega
  simp[unT,eB,upd,d1,xL,go_sem,e1,e2]
  exact ab.refl _
 ·simp only[upd]
  rw[if_neg (by omega),if_neg (by omega),if_neg (by omega)]
def eU (b x:Bs):Bool:=decide (b=[])||Op.bytesLess x b
def bZ (k:List Bs) (a b:Bs):List Bs:=(k.drop (plK k a)).takeWhile (eU b)
theorem zZ {k:List Bs} {a b:Bs} {i:Nat} (h:i<(bZ k a b).length):plK k a+i<k.length∧(bZ k a b).getD i []=k.getD (plK k a+i) []∧eU b (k.getD (plK k a+i) [])=true:=by
 have hp:bZ k a b <+: k.drop (plK k a):=List.takeWhile_prefix _
 have hl:=hp.length_le
 rw[List.length_drop] at hl
 have h1:plK k a+i<k.length:=by omega
 have h2:(bZ k a b).getD i []=k.getD (plK k a+i) []:=by
  rw[ar h,ar h1,hp.getElem h,List.getElem_drop]
 refine ⟨h1,h2,?_⟩
 rw[←h2,ar h]
 exact (List.all_eq_true.1 (List.all_takeWhile (p:=eU b) (l:=k.drop (plK k a)))) _ (List.getElem_mem h)
theorem xM {k:List Bs} {a b:Bs} (h:plK k a+(bZ k a b).length<k.length):eU b (k.getD (plK k a+(bZ k a b).length) [])=false:=by
 have key:∀l:List Bs,(h:(l.takeWhile (eU b)).length<l.length)→eU b (l[(l.takeWhile (eU b)).length])=false:=by
  intro l
  induction l with
  |nil=>intro h;simp at h
  |cons x l ih=>
   intro h
   by_cases hx:eU b x=true
   ·simp only[List.takeWhile_cons,hx,if_true,List.length_cons] at h ⊢
    simpa using ih (by omega)
   ·simp[List.takeWhile_cons,hx]
 have h2:=key (k.drop (plK k a)) (by rw[List.length_drop];unfold bZ at h;omega)
 rw[ar h]
 rw[List.getElem_drop] at h2
 exact h2
theorem BF {s:Nat} {S:Spc} {F:Fr} (hF:cU s S F) (hr:bb S.L) (hl:S.L.length≤500000) (a b:Bs) (id:Nat) (J:Nat→List Fr→Prop) (E:List Fr→Prop) (hJ:∀i l,J i l→F∈l)
  (hY:∀i l,i<(bZ (ae S.L) a b).length→J i l→mW Tryz.prog id [.str ((bZ (ae S.L) a b).getD i [])] l fun r l'=>(r= .bool true∧J (i+1) l')∨(r= .bool false∧E l'))
  (l0:List Fr) (h0:J 0 l0):aT Tryz.prog 133 [.yld id,.ref [.ptr s 0],.ref [.str a],.ref [.str b]] l0 (fun r l'=>r= .tup []∧(J (bZ (ae S.L) a b).length l'∨E l')):=by
 obtain ⟨c,M,K,hM,hsc,hs,hc,hK⟩:=hF.go
 have hkl:(ae S.L).length=S.L.length:=by simp[ae]
 obtain ⟨objs,ids,ho,hi,hb⟩:=nN hK hr (by omega) a
 have hple:=eY (ae S.L) a
 have hsl:plK (ae S.L) a+(bZ (ae S.L) a b).length≤(ae S.L).length:=by
  have:=(List.takeWhile_prefix (eU b) (l:=(ae S.L).drop (plK (ae S.L) a))).length_le
  rw[List.length_drop] at this
  unfold bZ;omega
 refine f133.bo (by simp) fun n m ok=>?_
 unfold CB
 simp only[C.zz]
 have fs:=ok.sub (hJ _ _ h0) _ _ hs
 refine rn0 fs ?_
 refine aa.ji ids (by simp only[go_sem]) xA4 (fun id o h=>ok.sub (hJ _ _ h0) id o (ho id o h)) hi hb ?_
 refine aa.evR xA1 ?_
 refine aa.nil ⟨by simp[ay,au,apart,aH],?_⟩
 rcases hK with ⟨rfl,h2⟩|⟨k,rfl,h2,h3,h4⟩
 ·have hp0:plK (ae S.L) a=0:=by rw[h2];rfl
  have hs0:(bZ (ae S.L) a b).length=0:=by rw[h2];simp[bZ]
  have b1:decide ((0:Int)<((0:Nat):Int))=false:=rfl
  refine rn0 (cj2 fs hp0) ?_
  refine Wp.mB (WpL.next ?_)
  refine rn0 b1 ?_
  exact ⟨trivial,_,rfl,_,_,(On.refl ok).ends (ab.refl _) ⟨rfl,.inl (hs0▸h0)⟩⟩
 ·have fk:=ok.sub (hJ _ _ h0) _ _ h2
  have i1:(0:Int)≤((plK (ae S.L) a:Nat):Int):=by omega
  have i2:((plK (ae S.L) a:Nat):Int)≤(((ae S.L).length:Nat):Int):=by omega
  refine rn0 (cj3 fs i1 i2) ?_
  refine Wp.gU (β:=Nat) [0,3,23,24] xA7 (fun i=>[(25,.int .i64 (i:Nat))]) (fun i l=>J i l∧i≤(bZ (ae S.L) a b).length) (fun i=>(ae S.L).length - i) 0 ⟨h0,Nat.zero_le _⟩ ok xA9 ?_
  rintro i l n1 T1 m1 on ⟨hj,hil⟩
  have fk:=on.ok.sub (hJ _ _ hj) _ _ h2
  have hget:plK (ae S.L) a+i<(ae S.L).length→(strs (ae S.L))[plK (ae S.L) a+i]? =some (.str ((ae S.L).getD (plK (ae S.L) a+i) [])):=by
   intro h
   have:=ar (d:=([]:Bs)) h
   simp[strs,h]
  by_cases hi2:i<(bZ (ae S.L) a b).length
  ·obtain ⟨k1,k2,k3⟩:=zZ hi2
   have hg:=hget k1
   obtain ⟨g1,h2,h3,e1⟩:=ixF (j:=i) (n:=((ae S.L).length - plK (ae S.L) a)) (by omega) (by omega)
   by_cases hbe:b=[]
   ·have d1:decide (b=[])=true:=decide_eq_true hbe
    refine rn0 (cj7 g1 h2 h3 fk hg @Nat.mul_one d1) ?_
    refine aa.uu (by simp only[go_sem,reduceIte,Nat.reduceEqDiff];rfl) (by simp only[go_sem,reduceIte,Nat.reduceEqDiff]) (by simp only[go_sem,reduceIte,Nat.reduceEqDiff,List.map];rw[←k2];exact af.refl _) (hY i l hi2 hj) on.ok fun r l' n' T' m' ids hq on2=>?_
    rcases hq with ⟨rfl,hq⟩|⟨rfl,hq⟩
    ·refine aa.evR xA1 ?_
     refine aa.nil ⟨by trivial,?_⟩
     refine rn0 e1 ?_
     refine ⟨i+1,l',n',T',m',on2,⟨hq,by omega⟩,by omega,?_⟩
     refine aU.tm (by simp only[aC,go_sem,reduceIte,Nat.reduceEqDiff,Nat.reduceAdd,bx,Nat.mul_one];and_intros<;>first|exact trivial|exact ab.refl _|exact ab.any _|(refine ab.int ?_;omega))
    ·refine aa.evR xA1 ?_
     refine aa.nil ⟨by trivial,?_⟩
     refine de ?_
     exact Wp.ret ⟨trivial,_,rfl,_,_,(on.step on2).ends (ab.refl _) ⟨rfl,.inr hq⟩⟩
   ·have d1:decide (b=[])=false:=decide_eq_false hbe
    have d2:Op.bytesLess ((ae S.L).getD (plK (ae S.L) a+i) []) b=true:=by
     unfold eU at k3;rw[d1,Bool.false_or] at k3;exact k3
    refine rn0 (cj8 g1 h2 h3 fk hg @Nat.mul_one d1 d2) ?_
    refine aa.uu (by simp only[go_sem,reduceIte,Nat.reduceEqDiff];rfl) (by simp only[go_sem,reduceIte,Nat.reduceEqDiff]) (by simp only[go_sem,reduceIte,Nat.reduceEqDiff,List.map];rw[←k2];exact af.refl _) (hY i l hi2 hj) on.ok fun r l' n' T' m' ids hq on2=>?_
    rcases hq with ⟨rfl,hq⟩|⟨rfl,hq⟩
    ·refine aa.evR xA1 ?_
     refine aa.nil ⟨by trivial,?_⟩
     refine rn0 e1 ?_
     refine ⟨i+1,l',n',T',m',on2,⟨hq,by omega⟩,by omega,?_⟩
     refine aU.tm (by simp only[aC,go_sem,reduceIte,Nat.reduceEqDiff,Nat.reduceAdd,bx,Nat.mul_one];and_intros<;>first|exact trivial|exact ab.refl _|exact ab.any _|(refine ab.int ?_;omega))
    ·refine aa.evR xA1 ?_
     refine aa.nil ⟨by trivial,?_⟩
     refine de ?_
     exact Wp.ret ⟨trivial,_,rfl,_,_,(on.step on2).ends (ab.refl _) ⟨rfl,.inr hq⟩⟩
  ·have he:i=(bZ (ae S.L) a b).length:=by omega
   subst he
   by_cases hend:plK (ae S.L) a+(bZ (ae S.L) a b).length<(ae S.L).length
   ·have k3:=xM hend
    have hg:=hget hend
    obtain ⟨g1,h2,h3,e1⟩:=ixF (j:=(bZ (ae S.L) a b).length) (n:=((ae S.L).length - plK (ae S.L) a)) (by omega) (by omega)
    unfold eU at k3
    rw[Bool.or_eq_false_iff] at k3
    refine rn0 (cj8 g1 h2 h3 fk hg @Nat.mul_one k3.1 k3.2) ?_
    exact Wp.ret ⟨trivial,_,rfl,_,_,on.ends (ab.refl _) ⟨rfl,.inl hj⟩⟩
   ·have g1:decide ((((bZ (ae S.L) a b).length:Nat):Int)<(((ae S.L).length - plK (ae S.L) a:Nat):Int))=false:=decide_eq_false (by omega)
    refine rn0 g1 ?_
    exact ⟨trivial,_,rfl,_,_,on.ends (ab.refl _) ⟨rfl,.inl hj⟩⟩
def Db (J:List Fr→Prop) (E:aP→List Fr→Prop):aP→List Fr→Prop
 | .normal,l=>J l
 | .panic _,_=>False
 |e,l=>E e l
theorem kV {N:Nat} {s:Nat} {S:Spc} {F:Fr} (hF:cU s S F) (hr:bb S.L) (hl:S.L.length≤500000) (a b:Bs) {g:Opd} {p q:Nat} {y:AC} {t:Tm} {l:List Fr} {n m:Nat} {T:List Nat} {Q:aP→St→Prop} (hg:ev t g=xL s a b) (ok:Ok l n T m) (hT:T=ks l) (hp:p<N)
  (J:Nat→List Fr→Prop) (E:aP→List Fr→Prop) (hJ:∀i l,J i l→F∈l) (h0:J 0 l)
  (round:∀i l o n1 n2 m2,i<(bZ (ae S.L) a b).length→J i l→n≤n1→Ok (ob n1 o::l) n2 (ks l) m2→
   Wp Tryz.prog N y ⟨upd (upd t p (.str ((bZ (ae S.L) a b).getD i []))) q (.str ((bZ (ae S.L) a b).getD i [])),⟨lay (ob n1 o::l),n2,ks l,m2⟩⟩ fun e2 s2=>∃l',Av.Ends (ob n1 o::l) n2 m2 (fun _ _=>True) (.tup []) s2.h (.tup []) (ob n1 o::l')∧Db (J (i+1)) E e2 l')
  (fin:∀l1 n' m',On l n m l1 n' (ks l1) m'→J (bZ (ae S.L) a b).length l1→Q .normal ⟨t,⟨lay l1,n',ks l1,m'⟩⟩)
  (out:∀e l1 n' m',On l n m l1 n' (ks l1) m'→E e l1→Q e ⟨t,⟨lay l1,n',ks l1,m'⟩⟩):
  Wp Tryz.prog N (.oE g [p] (.reg [⟨some q,none,.mov (.t p)⟩] none) y) ⟨t,⟨lay l,n,T,m⟩⟩ Q:=by
 refine Wp.CI (fi:=133) (first:=[]) (caps:=[.ref [.ptr s 0],.ref [.str a],.ref [.str b]]) hg (Tryz.func133) rfl (of_decide_eq_true (by kernel_rfl)) ok hT fun asg body c1 c2 c3 c4=>?_
 refine (BF hF hr hl a b n (fun i L=>∃l',L=ob n (.loop N t [p] asg body .ready none)::l'∧J i l') (fun L=>∃l' st pend e,L=ob n (.loop N t [p] asg body st pend)::l'∧st≠ .busy∧iL pend e∧E e l') ?_ ?_ _ ⟨l,rfl,h0⟩).mono ?_
 ·rintro i L ⟨l',rfl,h⟩
  exact List.mem_cons_of_mem _ (hJ i l' h)
 ·rintro i L hi ⟨l',rfl,h⟩
  refine tg c1 c2 c3 c4 rfl (by simpa using hp) fun n2 m2 ok2=>?_
  refine Wp.jX (by simp only[go_sem,reduceIte,Nat.reduceEqDiff,kO];exact rfl) (by trivial) ⟨rfl,rfl,?_⟩
  refine (round i l' _ n n2 m2 hi h (Nat.le_refl _) ok2).mono ?_
  rintro e2 s2 ⟨l2,hE,hq⟩
  cases e2 with
  |normal=>exact ⟨true,.ready,none,l2,.normal,⟨ab.refl _,hE.ole,hE.tk,hE.ok,hE.new,hE.knew,trivial⟩,.inl ⟨rfl,l2,rfl,hq⟩⟩
  |exit i=>exact ⟨false,.done,_,l2,.exit i,⟨ab.refl _,hE.ole,hE.tk,hE.ok,hE.new,hE.knew,trivial⟩,.inr ⟨rfl,l2,_,_,_,rfl,by simp,.exit i,hq⟩⟩
  |goto i=>exact ⟨false,.done,_,l2,.goto i,⟨ab.refl _,hE.ole,hE.tk,hE.ok,hE.new,hE.knew,trivial⟩,.inr ⟨rfl,l2,_,_,_,rfl,by simp,.goto i,hq⟩⟩
  |ret=>exact ⟨false,.done,_,l2,.ret,⟨ab.refl _,hE.ole,hE.tk,hE.ok,hE.new,hE.knew,trivial⟩,.inr ⟨rfl,l2,_,_,_,rfl,by simp,.ret,hq⟩⟩
  |panic v=>exact False.elim hq
 ·rintro r L ⟨rfl,h⟩
  rcases h with ⟨l',rfl,h⟩|⟨l',st,pend,e,rfl,h1,h2,h3⟩
  ·exact ⟨t,.ready,none,.normal,l',rfl,by simp,.none,fun n' m' on=>fin l' n' m' on h⟩
  ·exact ⟨t,st,pend,e,l',rfl,h1,h2,fun n' m' on=>out e l' n' m' on h3⟩
def bY (S:Spc) (a b:Bs) (t:Int):Bool:=(bZ (ae S.L) a b).any fun k=>dW (aY S.L k) t
theorem uA {s:Nat} {S:Spc} {F:Fr} (hF:cU s S F) (hr:bb S.L) (hS:jY S) (a b:Bs) (t:Int):aT Tryz.prog 58 [.ptr s 0,.str a,.str b,.int .i64 t] [F] (fun r l=>r= .bool (bY S a b t)∧l=[F]):=by
 obtain ⟨c,M,K,hM,hsc,hs,hc,hK⟩:=hF.go
 refine f58.xr (by simp) fun n m ok=>?_
 unfold c58
 simp only[C.zz]
 have hsn:=ok.lt (by simp) hs
 obtain ⟨o1,o2,o3,o4⟩:=cF hsn
 have ksF:ks [F]=[]:=by simp[ks,hF.k]
 rw[ksF] at ok ⊢
 refine Wp.aw xA1 (by trivial) ?_
 simp only[bm]
 have ok3:=((ok.more (.cells [.ptr s 0])).more (.cells [.int .i64 t])).more (.cells [.bool false])
 have ok:=ok3
 have n1:(n=n+1)=False:=by simp
 have n2:(n=n+1+1)=False:=by simp;omega
 have n3:(n+1=n+1+1)=False:=by simp
 have f4:=ok3.sub (F:=ob n (.cells [.ptr s 0])) (by simp) n _ (by simp[aW];rfl)
 have f7:=ok3.sub (F:=ob (n+1) (.cells [.int .i64 t])) (by simp) (n+1) _ (by simp[aW];rfl)
 refine xL0 f4 (fA hF) ?_
 intro ids
 refine aa.uv [_,_,_] [] (by simp only[go_sem]) xA4 (pj hF a b) hF.k ok3 fun n4 m4 ids hn4 hm4 ok4=>?_
 refine aa.evR xA1 ?_
 refine aa.nil ⟨by trivial,?_⟩
 refine Wp.block ?_
 have hsel:∀i,i<(bZ (ae S.L) a b).length→(bZ (ae S.L) a b).getD i []∈bZ (ae S.L) a b:=fun i hi=>by rw[ar hi];exact List.getElem_mem hi
 refine kV hF hr hS.1 a b (by simp only[go_sem,reduceIte,Nat.reduceEqDiff]) ok4 (by simp[ks,hF.k,ob]) (by simp)
  (fun i l=>l=[ob (n+1+1) (.cells [.bool false]),ob (n+1) (.cells [.int .i64 t]),ob n (.cells [.ptr s 0]),F]∧∀j,j<i→dW (aY S.L ((bZ (ae S.L) a b).getD j [])) t=false)
  (fun e l=>e= .ret∧l=[ob (n+1+1) (.cells [.bool true]),ob (n+1) (.cells [.int .i64 t]),ob n (.cells [.ptr s 0]),F]∧bY S a b t=true) ?_ ⟨rfl,fun j hj=>by omega⟩ ?_ ?_ ?_
 ·rintro i l ⟨rfl,-⟩;simp
 ·rintro i l oo k1 k2 k3 hi ⟨rfl,hno⟩ hk1 ok5
  have ok:=ok5
  have g4:=ok5.sub (F:=ob n (.cells [.ptr s 0])) (by simp) n _ (by simp[aW];rfl)
  have g7:=ok5.sub (F:=ob (n+1) (.cells [.int .i64 t])) (by simp) (n+1) _ (by simp[aW];rfl)
  have g8:=ok5.sub (F:=ob (n+1+1) (.cells [.bool false])) (by simp) (n+1+1) _ (by simp[aW];rfl)
  have gs:=ok5.sub (F:=F) (by simp) _ _ hs
  have gc:=ok5.sub (F:=F) (by simp) _ _ hc
  have hat:=zR (aY S.L ((bZ (ae S.L) a b).getD i [])) (by have:=hS.2 ((bZ (ae S.L) a b).getD i []);omega) t
  have hl:=jt M ((bZ (ae S.L) a b).getD i [])
  rw[hM.eq] at hl
  unfold vAV at hl
  have fit:af [cQ (.sl 3 [] (.exact 0)) false (iY M ((bZ (ae S.L) a b).getD i [])),.int .i64 t] [.sl 3 ((aY S.L ((bZ (ae S.L) a b).getD i [])).map ba) .any,.int .i64 t]:=af.cons hl (af.refl _)
  cases hb:dW (aY S.L ((bZ (ae S.L) a b).getD i [])) t with
  |true=>
   rw[hb] at hat
   refine rn1 (cj6 g4 g7 gs gc @cz g8) hat ?_
   have e8:=Ok.bu (A:=[_]) (.cells [.bool true]) ok5
   have on8:=On.dv (A:=[_]) (o':= .cells [.bool true]) ok5
   refine Wp.ret ⟨_,(?_:Av.Ends _ _ _ _ _ ⟨_,_,_,_⟩ _ _),rfl,rfl,?_⟩
   ·simp only[List.cons_append,List.nil_append] at e8 on8
    rw[e8]
    exact on8.ends (ab.refl _) trivial
   ·exact List.any_eq_true.2 ⟨_,hsel i hi,hb⟩
  |false=>
   rw[hb] at hat
   refine rn1 (cj5 g4 g7 gs gc @cz) hat ?_
   exact ⟨_,(On.refl ok5).ends (ab.refl _) trivial,rfl,fun j hj=>by
    by_cases e:j=i
    ·rw[e];exact hb
    ·exact hno j (by omega)⟩
 ·rintro l1 n' m' on ⟨rfl,hno⟩
  have g8:=on.ok.sub (F:=ob (n+1+1) (.cells [.bool false])) (by simp) (n+1+1) _ (by simp[aW];rfl)
  have hz:bY S a b t=false:=by
   rw[bY,List.any_eq_false]
   intro x hx
   obtain ⟨j,hj,rfl⟩:=List.mem_iff_getElem.1 hx
   have:=hno j hj
   rw[ar hj] at this
   simp[this]
  rw[hz]
  show Wp _ _ _ _ _
  refine rn0 g8 ?_
  refine Wp.ret ⟨trivial,.bool false,?_,ab.refl _,fun j hj=>?_,by simp⟩
  ·simp[bR,rvs,rv,go_sem,upd]
  ·have q1:j≠n:=by omega
   have q2:j≠n+1:=by omega
   have q3:j≠n+1+1:=by omega
   simp[upd,lay,aW,q1,q2,q3]
 ·rintro e l1 n' m' on ⟨rfl,rfl,hy⟩
  rw[hy]
  have g8:=on.ok.sub (F:=ob (n+1+1) (.cells [.bool true])) (by simp) (n+1+1) _ (by simp[aW];rfl)
  refine ⟨trivial,.bool true,?_,ab.refl _,fun j hj=>?_,by simp⟩
  ·simp[bR,rvs,rv,go_sem,g8]
  ·have q1:j≠n:=by omega
   have q2:j≠n+1:=by omega
   have q3:j≠n+1+1:=by omega
   simp[lay,aW,q1,q2,q3]
def dQ (S:Spc) (t:Int) (k:Bs):Option Pr:=if (atB (aY S.L k) t).2=true then some ⟨k,(atB (aY S.L k) t).1⟩ else none
def cY (S:Spc) (a b:Bs) (t:Int):List Pr:=(bZ (ae S.L) a b).filterMap (dQ S t)
def eh (most:Int) (l:List Pr):List Pr:=if most<0 then l else l.take most.toNat
def cn (S:Spc) (a b:Bs) (t most:Int):List Pr × Int:=if cT S t=0 then (eh most (cY S a b t),0) else ([],cT S t)
theorem BG {s:Nat} {S:Spc} {F:Fr} (hF:cU s S F) (hr:bb S.L) (hS:Small S) (a b:Bs) (t most:Int):aT Tryz.prog 50 [.ptr s 0,.str a,.str b,.int .i64 t,.int .i64 most] [F] (fun r l=>r= .tup [.sl 2 (prs (cn S a b t most).1) .any,.int .i64 (cn S a b t most).2]∧l=[F]):=by
 obtain ⟨c,M,K,hM,hsc,hs,hc,hK⟩:=hF.go
 refine f50.xr (by simp) fun n m ok=>?_
 unfold c50
 simp only[C.zz]
 have hsn:=ok.lt (by simp) hs
 have ksF:ks [F]=[]:=by simp[ks,hF.k]
 rw[ksF] at ok ⊢
 refine Wp.aw xA1 (by trivial) ?_
 simp only[bm]
 have ok3:=((ok.more (.cells [.ptr s 0])).more (.cells [.int .i64 t])).more (.cells [.int .i64 most])
 have n1:(n=n+1)=False:=by simp
 have n2:(n=n+1+1)=False:=by simp;omega
 have n3:(n+1=n+1+1)=False:=by simp
 have f5:=ok3.sub (F:=ob n (.cells [.ptr s 0])) (by simp) n _ (by simp[aW];rfl)
 have f8:=ok3.sub (F:=ob (n+1) (.cells [.int .i64 t])) (by simp) (n+1) _ (by simp[aW];rfl)
 by_cases h1:cT S t=0
 ·have d1:=decide_eq_true h1
  have okx:=ok
  have ok:=ok3
  refine Wp.seq ?_
  refine xL0 (cj3 f5 f8 d1) (nM hF t) ?_
  intro ids
  rw[rp (k:=[m])]
  refine Wp.le (aU.trans (aU.tok _ _) (aU.of (f':=lay [obk (n+1+1+1) (.cells [.sl 2 [] (.own m)]) [m],ob (n+1+1) (.cells [.int .i64 most]),ob (n+1) (.cells [.int .i64 t]),ob n (.cells [.ptr s 0]),F]) (n':=n+1+1+1+1) (m':=m+1) (k':=[m]) (fun i=>ab.refl _) ?_ (by simp) (by simp) (by simp))) ?_
  ·intro j o hj
   by_cases e:j=n+1+1+1
   ·subst e
    rw[eN] at hj
    cases hj
    exact ⟨_,eN _ _ _ _,af.cons (ab.eL rfl) af.nil⟩
   ·rw[dk _ _ _ e] at hj
    exact ⟨o,(dk _ _ _ e).trans hj,cq.refl _⟩
  have ok4:=ok3.xu (.cells [.sl 2 [] (.own m)])
  have g5:=ok4.sub (F:=ob n (.cells [.ptr s 0])) (by simp) n _ (by simp[aW];rfl)
  refine rn0 g5 ?_
  refine aa.uv [_,_,_,_] [] (by simp only[go_sem]) xA4 (pj hF a b) hF.k ok4 fun n5 m5 ids hn5 hm5 ok5=>?_
  refine aa.evR xA1 ?_
  refine aa.nil ⟨by trivial,?_⟩
  refine Wp.block ?_
  have hlen:(bZ (ae S.L) a b).length≤500000:=by
   have:=(List.takeWhile_prefix (eU b) (l:=(ae S.L).drop (plK (ae S.L) a))).length_le
   have hkl:(ae S.L).length=S.L.length:=by simp[ae]
   rw[List.length_drop] at this
   have:=hS.1
   unfold bZ;omega
  have hz:(cn S a b t most).2=0:=by rw[cn,if_pos h1]
  refine kV hF hr hS.1 a b (by simp only[go_sem,reduceIte,Nat.reduceEqDiff]) ok5 (by simp[ks,hF.k,ob,obk]) (by simp)
   (fun i l=>∃tk,l=[obk (n+1+1+1) (.cells [.sl 2 (prs (((bZ (ae S.L) a b).take i).filterMap (dQ S t))) (.own tk)]) [tk],ob (n+1+1) (.cells [.int .i64 most]),ob (n+1) (.cells [.int .i64 t]),ob n (.cells [.ptr s 0]),F]∧(most<0∨(((bZ (ae S.L) a b).take i).filterMap (dQ S t)).length≤most.toNat))
   (fun e l=>e= .exit 0∧∃tk,l=[obk (n+1+1+1) (.cells [.sl 2 (prs (cn S a b t most).1) (.own tk)]) [tk],ob (n+1+1) (.cells [.int .i64 most]),ob (n+1) (.cells [.int .i64 t]),ob n (.cells [.ptr s 0]),F]) ?_ ⟨m,rfl,by simp⟩ ?_ ?_ ?_
  ·rintro i l ⟨tk,rfl,-⟩;simp
  ·rintro i l oo k1 k2 k3 hi ⟨tk,rfl,hmost⟩ hk1 ok6
   have hstep:((bZ (ae S.L) a b).take (i+1)).filterMap (dQ S t)=((bZ (ae S.L) a b).take i).filterMap (dQ S t)++(dQ S t ((bZ (ae S.L) a b).getD i [])).toList:=by
    rw[bJ [] hi,List.filterMap_append]
    congr 1
   have holen:(((bZ (ae S.L) a b).take i).filterMap (dQ S t)).length≤500000:=by
    refine Nat.le_trans (List.length_filterMap_le _ _) ?_
    rw[List.length_take];omega
   have hpre:∃x,cY S a b t=((bZ (ae S.L) a b).take i).filterMap (dQ S t)++x:=⟨((bZ (ae S.L) a b).drop i).filterMap (dQ S t),by rw[←List.filterMap_append,List.take_append_drop];rfl⟩
   have h13:=ok6.sub (F:=obk (n+1+1+1) (.cells [.sl 2 (prs (((bZ (ae S.L) a b).take i).filterMap (dQ S t))) (.own tk)]) [tk]) (by simp) (n+1+1+1) _ (by simp[eD];rfl)
   generalize hO:((bZ (ae S.L) a b).take i).filterMap (dQ S t)=O at*
   generalize hq:(bZ (ae S.L) a b).getD i []=q at*
   have h5:=ok6.sub (F:=ob n (.cells [.ptr s 0])) (by simp) n _ (by simp[aW];rfl)
   have h8:=ok6.sub (F:=ob (n+1) (.cells [.int .i64 t])) (by simp) (n+1) _ (by simp[aW];rfl)
   have h9:=ok6.sub (F:=ob (n+1+1) (.cells [.int .i64 most])) (by simp) (n+1+1) _ (by simp[aW];rfl)
   have gs:=ok6.sub (F:=F) (by simp) _ _ hs
   have gc:=ok6.sub (F:=F) (by simp) _ _ hc
   have hat:=CM (aY S.L q) (by have:=hS.2 q;omega) t
   have hl:=jt M q
   rw[hM.eq] at hl
   unfold vAV at hl
   have fit:af [cQ (.sl 3 [] (.exact 0)) false (iY M q),.int .i64 t] [.sl 3 ((aY S.L q).map ba) .any,.int .i64 t]:=af.cons hl (af.refl _)
   have hpl:(prs O).length=O.length:=by simp[prs]
   have hks:ks [obk (n+1+1+1) (.cells [.sl 2 (prs O) (.own tk)]) [tk],ob (n+1+1) (.cells [.int .i64 most]),ob (n+1) (.cells [.int .i64 t]),ob n (.cells [.ptr s 0]),F]=[tk]:=by simp[ks,ob,obk,hF.k]
   rw[hks] at ok6 ⊢
   have rm1:(O.length+1)*32≤140737488355328:=by omega
   have rm2:O.length+1<4611686018427387904:=by omega
   by_cases p0:0≤most
   ·have c0:=decide_eq_true p0
    by_cases p1:most≤(O.length:Int)
    ·have c1:=decide_eq_true p1
     refine Wp.block ?_
     refine rn0 (cj5 h9 h13 hpl c0 c1) ?_
     refine ⟨_,(On.refl ok6).ends (ab.refl _) trivial,rfl,tk,?_⟩
     obtain ⟨x,hx⟩:=hpre
     have:most.toNat=O.length:=by omega
     rw[cn,if_pos h1,eh,if_neg (by omega),hx,this]
     simp
    ·have c1:=decide_eq_false p1
     cases ha:(atB (aY S.L q) t).2 with
     |true=>
      rw[ha] at hat
      refine rn1 (bD h5 h8 h13 gs gc @cz h9 hpl c0 c1 rm1 (cj4 rm2 @List.mem_singleton.{0} @List.length_cons.{0} @List.length_nil.{0})) hat ?_
      have e13:=Ok.jN (A:=[ob k1 oo]) (.cells [.sl 2 (prs (O++[⟨q,(atB (aY S.L q) t).1⟩])) (.own k3)]) [k3] ok6
      have on13:=On.jO (A:=[ob k1 oo]) (o':= .cells [.sl 2 (prs (O++[⟨q,(atB (aY S.L q) t).1⟩])) (.own k3)]) ok6
      simp only[List.cons_append,List.nil_append,prs,List.map_append,List.map_cons,List.map_nil,bV] at e13 on13
      have ft:(([tk]:List Nat).filter fun t=> ![tk].contains t)=[]:=by simp
      rw[ft] at on13
      refine ⟨[obk (n+1+1+1) (.cells [.sl 2 (prs (O++[⟨q,(atB (aY S.L q) t).1⟩])) (.own k3)]) [k3],ob (n+1+1) (.cells [.int .i64 most]),ob (n+1) (.cells [.int .i64 t]),ob n (.cells [.ptr s 0]),F],?_,k3,?_,?_⟩
      ·simp only[prs,List.map_append,List.map_cons,List.map_nil,bV]
       have:=on13.ends (QQ:=fun _ _=>True) (ab.refl (.tup [])) trivial
       rw[←e13] at this
       exact this
      ·rw[hstep,dQ,if_pos ha];rfl
      ·rw[hstep,dQ,if_pos ha];simp only[Option.toList_some,List.length_append,List.length_cons,List.length_nil];omega
     |false=>
      rw[ha] at hat
      refine rn1 (fR h5 h8 h13 gs gc @cz h9 hpl c0 c1) hat ?_
      refine ⟨_,(On.refl ok6).ends (ab.refl _) trivial,tk,?_,?_⟩
      ·rw[hstep,dQ,if_neg (by simp[ha])];simp
      ·rw[hstep,dQ,if_neg (by simp[ha])];simpa using hmost
   ·have c0:=decide_eq_false p0
    cases ha:(atB (aY S.L q) t).2 with
    |true=>
     rw[ha] at hat
     refine rn1 (bD h5 h8 h13 gs gc @cz h9 hpl c0 rm1 rm2 (cj3 @List.mem_singleton.{0} @List.length_cons.{0} @List.length_nil.{0})) hat ?_
     have e13:=Ok.jN (A:=[ob k1 oo]) (.cells [.sl 2 (prs (O++[⟨q,(atB (aY S.L q) t).1⟩])) (.own k3)]) [k3] ok6
     have on13:=On.jO (A:=[ob k1 oo]) (o':= .cells [.sl 2 (prs (O++[⟨q,(atB (aY S.L q) t).1⟩])) (.own k3)]) ok6
     simp only[List.cons_append,List.nil_append,prs,List.map_append,List.map_cons,List.map_nil,bV] at e13 on13
     have ft:(([tk]:List Nat).filter fun t=> ![tk].contains t)=[]:=by simp
     rw[ft] at on13
     refine ⟨[obk (n+1+1+1) (.cells [.sl 2 (prs (O++[⟨q,(atB (aY S.L q) t).1⟩])) (.own k3)]) [k3],ob (n+1+1) (.cells [.int .i64 most]),ob (n+1) (.cells [.int .i64 t]),ob n (.cells [.ptr s 0]),F],?_,k3,?_,?_⟩
     ·simp only[prs,List.map_append,List.map_cons,List.map_nil,bV]
      have:=on13.ends (QQ:=fun _ _=>True) (ab.refl (.tup [])) trivial
      rw[←e13] at this
      exact this
     ·rw[hstep,dQ,if_pos ha];rfl
     ·rw[hstep,dQ,if_pos ha];simp only[Option.toList_some,List.length_append,List.length_cons,List.length_nil];omega
    |false=>
     rw[ha] at hat
     refine rn1 (cj9 h5 h8 h13 gs gc @cz h9 hpl c0) hat ?_
     refine ⟨_,(On.refl ok6).ends (ab.refl _) trivial,tk,?_,?_⟩
     ·rw[hstep,dQ,if_neg (by simp[ha])];simp
     ·rw[hstep,dQ,if_neg (by simp[ha])];simpa using hmost
  ·rintro l1 n' m' on ⟨tk,rfl,hmost⟩
   have hres:((bZ (ae S.L) a b).take (bZ (ae S.L) a b).length).filterMap (dQ S t)=(cn S a b t most).1:=by
    rw[List.take_length] at hmost ⊢
    rw[cn,if_pos h1,eh]
    split
    ·rfl
    ·rw[List.take_of_length_le];rfl
     unfold cY;omega
   rw[hres] at on ⊢
   have h13:=on.ok.sub (F:=obk (n+1+1+1) (.cells [.sl 2 (prs (cn S a b t most).1) (.own tk)]) [tk]) (by simp) (n+1+1+1) _ (by simp[eD];rfl)
   show Wp _ _ _ _ _
   refine rn0 h13 ?_
   refine Wp.ret ⟨trivial,_,rfl,?_,fun j hj=>?_,by simp⟩
   ·rw[hz];exact ab.tup (af.cons ab.cap (af.refl _))
   ·have q1:j≠n:=by omega
    have q2:j≠n+1:=by omega
    have q3:j≠n+1+1:=by omega
    have q4:j≠n+1+1+1:=by omega
    simp[lay,aW,eD,q1,q2,q3,q4]
  ·rintro e l1 n' m' on ⟨rfl,tk,rfl⟩
   have h13:=on.ok.sub (F:=obk (n+1+1+1) (.cells [.sl 2 (prs (cn S a b t most).1) (.own tk)]) [tk]) (by simp) (n+1+1+1) _ (by simp[eD];rfl)
   show Wp _ _ _ _ _
   refine rn0 h13 ?_
   refine Wp.ret ⟨trivial,_,rfl,?_,fun j hj=>?_,by simp⟩
   ·rw[hz];exact ab.tup (af.cons ab.cap (af.refl _))
   ·have q1:j≠n:=by omega
    have q2:j≠n+1:=by omega
    have q3:j≠n+1+1:=by omega
    have q4:j≠n+1+1+1:=by omega
    simp[lay,aW,eD,q1,q2,q3,q4]
 ·have d1:=decide_eq_false h1
  have okx:=ok
  have ok:=ok3
  refine Wp.seq ?_
  refine xL0 (cj3 f5 f8 d1) (nM hF t) ?_
  intro ids
  refine Wp.ret ⟨trivial,_,rfl,?_,fun j hj=>?_,by simp⟩
  ·rw[cn,if_neg h1];exact ab.tup (af.cons ab.cap (af.refl _))
  ·have q1:j≠n:=by omega
   have q2:j≠n+1:=by omega
   have q3:j≠n+1+1:=by omega
   simp[lay,aW,q1,q2,q3]
def tw (E:List (Bs × Nat)):List (AV × AV):=E.map fun p=>(.str p.1,.int .i64 (p.2:Nat))
theorem Bg (q:Bs):∀E:List (Bs × Nat),q∉E.map (·.1)→eQ q (tw E)=some none
 |[],_=>rfl
 |p::E,h=>by
  simp only[List.map_cons,List.mem_cons,not_or] at h
  have ih:=Bg q E h.2
  simp only[tw,List.map_cons,eQ] at ih ⊢
  rw[if_neg (fun e=>h.1 e.symm),ih];rfl
theorem xN (q:Bs):∀E:List (Bs × Nat),q∈E.map (·.1)→∃p,eQ q (tw E)=some (some p)
 |[],h=>by simp at h
 |p::E,h=>by
  by_cases e:p.1=q
  ·exact ⟨(0,.int .i64 (p.2:Nat)),by simp only[tw,List.map_cons,eQ,if_pos e]⟩
  ·simp only[List.map_cons,List.mem_cons] at h
   obtain ⟨r,hr⟩:=xN q E (h.resolve_left fun e'=>e e'.symm)
   refine ⟨(r.1+1,r.2),?_⟩
   simp only[tw,List.map_cons,eQ] at hr ⊢
   rw[if_neg e,hr];rfl
def gW (l:List Ch) (i:Nat):Bool:= !decide ((l.getD i default).k∈(l.take i).map (·.k))&&decide (((l.getD i default).k.length:Int)≤128)&&decide (((l.getD i default).v.length:Int)≤200)&&(!(l.getD i default).d||decide ((l.getD i default).v=[]))
def gD (l:List Ch):Bool:=(List.range l.length).all (gW l)
theorem CP (l:List Ch) (hl:l.length≤1000000):aA Tryz.prog 53 [.sl 3 (chs l) .any] (.bool (gD l)):=by
 refine f53.aD (by simp) (by simp[al,av,aG,dw]) rfl ?_
 unfold c53
 simp only[C.zz]
 refine rn0 @an ?_
 refine Wp.mz (β:=Nat × List (Bs × Nat) × Nat) [3,9,10] (by simp only[go_sem,reduceIte,Nat.reduceEqDiff,List.map,an];exact rfl) (fun j=>[(11,.int .i64 (j.1:Nat))]) (fun j=>⟨upd ag 0 (some (.map (tw j.2.1))),j.2.2,[],0⟩) (fun j=>j.1≤l.length∧j.2.1.map (·.1)=(l.take j.1).map (·.k)∧1≤j.2.2∧∀i,i<j.1→gW l i=true) (fun j=>l.length - j.1) (0,[],1) ⟨Nat.zero_le _,rfl,Nat.le_refl _,fun i h=>absurd h (by omega)⟩ rfl ?_ ?_
 ·exact xSb
 rintro ⟨j,E,n⟩ ⟨hj,hE,hn,hs⟩
 simp only at hj hE hn hs ⊢
 by_cases hcj:j<l.length
 ·obtain ⟨g1,h2,h3,e1⟩:=ixF (j:=j) (n:=l.length) (by omega) (by omega)
  have hat:=bH l j .any hcj
  have a1:(0=n)=False:=by simp;omega
  have a2:(n=0)=False:=by simp;omega
  generalize hx:l.getD j default=x at*
  by_cases ht:x.k∈E.map (·.1)
  ·obtain ⟨p,hp⟩:=xN x.k E ht
   refine rn0 (cj9 g1 h2 h3 hat @aL.eq_1 a1 a2 hp @an) ?_
   refine aJ ?_
   rw[gD,eM hcj (by rw[gW,hx,←hE,decide_eq_true ht];rfl)]
   exact ab.refl _
  ·have hp:=Bg x.k E ht
   refine rn0 (cj9 g1 h2 h3 hat @aL.eq_1 a1 a2 hp @an) ?_
   have zg:=(cj7 a1 a2 e1 hp @fe.eq_1 @aL.eq_1 @List.length_map.{0,0})
   repeat' (first
    |(refine aa.nil ⟨?_,?_⟩;(· first|trivial|simp[ay,au,apart,aH]))
    |refine xG1 @zg ?_
    |(refine xG2 @zg ?_;try simp only[List.drop_succ_cons,List.drop_zero,List.drop_nil])
    |(refine xG3 @zg ?_ ?_<;>intro hc)
    |(refine xG4 @zg ?_ ?_<;>intro hc)
    |(refine xG5 @zg ?_ ?_<;>intro hc)
    |refine Wp.eH ?_
    |refine Wp.mK ?_
    |refine xG6 @zg ?_
    |refine xG7 @zg ?_
    |(refine xG8 @zg ?_ ?_<;>intro hc)
    |(refine xG9 @zg ?_ ?_<;>intro hc)
    |(refine xGa @zg ?_ ?_<;>intro hc)
    |refine Wp.skip ?_
    |refine Wp.label ?_
    |refine Wp.block ?_
    |refine Wp.exit ?_
    |refine Wp.seq ?_)
   any_goals
    refine Wp.ret ⟨trivial,_,rfl,?_⟩
    rw[gD,eM hcj (by rw[gW,hx];first|(simp_all;done)|(simp_all;intros;exfalso;omega))]
    exact ab.refl _
   all_goals
    refine ⟨(j+1,E++[(x.k,j)],n+1),⟨by simp only;omega,?_,by simp only;omega,fG hs ?_⟩,by simp only;omega,?_⟩
    ·simp only[List.map_append,hE,bJ default hcj,hx,List.map_cons,List.map_nil]
    ·rw[gW,hx];simp_all
    ·simp only[tw,List.map_append,List.map_cons,List.map_nil]
     refine aU.tmN (by omega) (OLe.at (by simp[upd,ag,a1,a2])) (by simp only[aC,go_sem,reduceIte,Nat.reduceEqDiff,Nat.reduceAdd,bx,a1,a2];and_intros<;>first|exact trivial|exact ab.refl _|exact ab.any _|(refine ab.int ?_;omega))
 ·have hje:j=l.length:=by omega
  subst hje
  have g1:=ixE (l.length)
  refine rn0 g1 ?_
  refine aJ ?_
  rw[gD,eI hs]
  exact ab.refl _
def cb (t:Int) (S:Spc) (c:Ch):Spc:=iP S c.k (fI (aY S.L c.k) ⟨t,c.v,c.d⟩).1
def doS (t:Int) (S:Spc) (l:List Ch):Spc:=l.foldl (cb t) S
def bM (S:Spc) (t:Int) (l:List Ch):Spc × Int:=if t≤S.last∨1152921504606846976<t then (S,18) else if gD l=false then (S,2) else ({doS t S l with last:=t},0)
def Room (S:Spc) (k:Nat):Prop:=S.L.length+k≤500000∧∀q,(aY S.L q).length+k≤4398046511103
theorem qk (v:List Ver) (x:Ver):(fI v x).1.length≤v.length+1:=by
 unfold fI;split
 ·simp
 ·split
  ·simp
  ·split<;>simp
theorem nO (L:List It) (q:Bs) (v:List Ver):(dD L q v).length≤L.length+1:=by
 have:=eY (ae L) q
 have hk:(ae L).length=L.length:=by simp[ae]
 unfold dD
 split
 ·split<;>simp<;>omega
 ·split<;>simp<;>omega
theorem Room.step {S:Spc} {k:Nat} (h:Room S (k+1)) (hr:bb S.L) (t:Int) (c:Ch):Room (cb t S c) k:=by
 refine ⟨?_,fun q=>?_⟩
 ·have:=nO S.L c.k (fI (aY S.L c.k) ⟨t,c.v,c.d⟩).1
  have:=h.1
  show (dD _ _ _).length+k≤_
  omega
 ·show (aY (dD _ _ _) q).length+k≤_
  rw[kT hr]
  split
  ·have:=qk (aY S.L c.k) ⟨t,c.v,c.d⟩
   have:=h.2 c.k
   omega
  ·have:=h.2 q;omega
theorem Bh (t:Int):∀(l:List Ch) (S:Spc) (k:Nat),bb S.L→Room S (l.length+k)→bb (doS t S l).L∧Room (doS t S l) k
 |[],S,k,hr,h=>⟨hr,by rw[List.length_nil,Nat.zero_add] at h;exact h⟩
 |c::l,S,k,hr,h=>by
  have h':Room S ((l.length+k)+1):=by
   have e:l.length+k+1=(c::l).length+k:=by simp only[List.length_cons];omega
   rw[e];exact h
  exact Bh t l (cb t S c) k (jT hr _ _) (h'.step hr t c)
theorem uB (t:Int) (S:Spc) (l:List Ch) {j:Nat} (h:j<l.length):doS t S (l.take (j+1))=cb t (doS t S (l.take j)) (l.getD j default):=by
 rw[bJ default h,doS,List.foldl_append];rfl
theorem cU.times {s:Nat} {S:Spc} {F:Fr} (hF:cU s S F) {K:AV} {c:Nat} {a b:Int} (hs:F.o s=some (.cells [K,.mp c,.int .i64 a,.int .i64 b])) (last mark:Int):cU s {S with last:=last,mark:=mark} ⟨upd F.o s (some (.cells [K,.mp c,.int .i64 last,.int .i64 mark])),F.k⟩:=by
 obtain ⟨c',M,K',hM,hsc,hs',hc,hK⟩:=hF.go
 rw[hs'] at hs
 simp only[Option.some.injEq,Obj.cells.injEq,List.cons.injEq,AV.mp.injEq,AV.int.injEq,true_and,and_true] at hs
 obtain ⟨rfl,rfl,-,-⟩:=hs
 refine ⟨⟨c,M,K,hM,hsc,by simp[upd],?_,?_⟩,hF.k,?_⟩
 ·simp only[upd];rw[if_neg (Ne.symm hsc)];exact hc
 ·rcases hK with ⟨h1,h2⟩|⟨k,h1,h2,h3,h4⟩
  ·exact .inl ⟨h1,h2⟩
  ·exact .inr ⟨k,h1,by simp only[upd];rw[if_neg h3];exact h2,h3,h4⟩
 ·obtain ⟨ids,hi⟩:=hF.fin
  refine ⟨s::ids,fun id h=>?_⟩
  simp only[upd] at h
  split at h
  ·rename_i e;simp[e]
  ·exact List.mem_cons_of_mem _ (hi id h)
set_option maxHeartbeats 1000000 in
theorem ql {s:Nat} {S:Spc} {F:Fr} (hF:cU s S F) (hr:bb S.L) (t:Int) (l:List Ch) (hl:l.length≤1000000) (hR:Room S l.length):aT Tryz.prog 18 [.ptr s 0,.int .i64 t,.sl 3 (chs l) .any] [F] (fun r L=>r= .int .i64 (bM S t l).2∧∃F',L=[F']∧cU s (bM S t l).1 F'):=by
 obtain ⟨c,M,K,hM,hsc,hs,hc,hK⟩:=hF.go
 refine f18.bo (by simp) fun n m ok=>?_
 unfold c18
 simp only[C.zz]
 have fs:=ok.at0 hs
 have stop:∀(e:Int),bM S t l=(S,e)→∃r l',Av.Ends [F] n m (fun r L=>r= .int .i64 (bM S t l).2∧∃F',L=[F']∧cU s (bM S t l).1 F') (.int .i64 e) ⟨lay [F],n,ks [F],m⟩ r l':=by
  intro e h
  rw[h]
  exact ⟨_,_,(On.refl ok).ends (ab.refl _) ⟨rfl,F,rfl,hF⟩⟩
 by_cases p1:t≤S.last
 ·have d1:=decide_eq_true p1
  refine xL0 (cj2 fs d1) (fA hF) ?_
  intro ids
  exact Wp.ret ⟨trivial,_,rfl,stop 18 (by rw[bM,if_pos (.inl p1)])⟩
 ·have d1:=decide_eq_false p1
  by_cases p2:1152921504606846976<t
  ·have d2:=decide_eq_true p2
   refine xL0 (cj3 fs d1 d2) (fA hF) ?_
   intro ids
   exact Wp.ret ⟨trivial,_,rfl,stop 18 (by rw[bM,if_pos (.inr p2)])⟩
  ·have d2:=decide_eq_false p2
   have hfit:=CP l hl
   cases hf:gD l with
   |false=>
    rw[hf] at hfit
    refine xL1 (cj3 fs d1 d2) (fA hF) hfit ?_
    intro ids
    exact Wp.ret ⟨trivial,_,rfl,stop 2 (by rw[bM,if_neg (by omega),if_pos hf])⟩
   |true=>
    rw[hf] at hfit
    refine xL1 (cj4 fs d1 d2 @an) (fA hF) hfit ?_
    intro ids
    refine Wp.gU (β:=Nat) [0,1,30,31] (by simp only[go_sem,reduceIte,Nat.reduceEqDiff,List.map,an];exact rfl) (fun i=>[(32,.int .i64 (i:Nat))]) (fun i L=>i≤l.length∧∃F',L=[F']∧cU s (doS t S (l.take i)) F') (fun i=>l.length - i) 0 ⟨Nat.zero_le _,F,rfl,hF⟩ ok xA9 ?_
    rintro i L n1 T1 m1 on ⟨hi,F',rfl,hF'⟩
    obtain ⟨c',M',K',hM',hsc',hs',hc',hK'⟩:=hF'.go
    by_cases hi2:i<l.length
    ·obtain ⟨g1,h2,h3,e1⟩:=ixF (j:=i) (n:=l.length) (by omega) (by omega)
     have hat:=bH l i .any hi2
     have hdo:=uB t S l hi2
     obtain ⟨hr',hR'⟩:=Bh t (l.take i) S (l.length - i) hr (by rw[List.length_take,show min i l.length+(l.length - i)=l.length by omega];exact hR)
     generalize l.getD i default=x at*
     generalize doS t S (l.take i)=S' at*
     have ok2:=on.ok.more (.cells [.str x.k,.str x.v,.bool x.d])
     have gs:=ok2.sub (F:=F') (by simp) _ _ hs'
     have gc:=ok2.sub (F:=F') (by simp) _ _ hc'
     have g8:=aK n1 (.cells [.str x.k,.str x.v,.bool x.d]) [F']
     refine rn0 (cj6 g1 h2 h3 hat @an @aL.eq_1) ?_
     rw[bm,bu]
     have hadd:=CN (aY S'.L x.k) (by have:=hR'.2 x.k;omega) ⟨t,x.v,x.d⟩
     have hlk:=jt M' x.k
     rw[hM'.eq] at hlk
     unfold vAV at hlk
     have fit:af [cQ (.sl 3 [] (.exact 0)) false (iY M' x.k),.agg [.int .i64 t,.str x.v,.bool x.d]] [.sl 3 ((aY S'.L x.k).map ba) .any,ba ⟨t,x.v,x.d⟩]:=af.cons hlk (af.refl _)
     refine rn1 (cj4 gs gc g8 @cz) hadd ?_
     refine aa.ur [_] [F'] [] (by simp only[go_sem]) xA4 (Bf hF' hr' (by have:=hR'.1;omega) x.k (fI (aY S'.L x.k) ⟨t,x.v,x.d⟩).1) ok2 fun r G' n' m' ids hq hn' hm' ok3 wi ki=>?_
     obtain ⟨rfl,F2,rfl,hF2⟩:=hq
     have on2:On [F'] n1 m1 [F2] n' _ m':=On.under ⟨hn',hm',ok3,wi,ki⟩
     refine aa.evR xA1 ?_
     refine aa.nil ⟨by trivial,?_⟩
     refine rn0 e1 ?_
     refine ⟨i+1,[F2],n',_,m',on2,⟨by omega,F2,rfl,?_⟩,by omega,?_⟩
     ·rw[hdo];exact hF2
     ·refine aU.of (dr ?_) (mC (Ok.alone ok3)) (fun _ h=>h) (Nat.le_refl _) (Nat.le_refl _)
      exact xSb
    ·have hie:i=l.length:=by omega
     subst hie
     have g1:=ixE (l.length)
     rw[List.take_length] at hF' hs'
     have gs:=on.ok.at0 hs'
     have hres:bM S t l=({doS t S l with last:=t},0):=by rw[bM,if_neg (by omega),if_neg (by simp[hf])]
     refine rn0 (cj2 g1 gs) ?_
     have on3:=on.step (On.put (o:= .cells [K',.mp c',.int .i64 t,.int .i64 (doS t S l).mark]) on.ok (by rw[hs'];rfl))
     have hF3:=hF'.times hs' t (doS t S l).mark
     refine Wp.ret ⟨trivial,.int .i64 0,rfl,.int .i64 (bM S t l).2,[⟨upd F'.o s (some (.cells [K',.mp c',.int .i64 t,.int .i64 (doS t S l).mark])),F'.k⟩],?_⟩
     rw[qc]
     refine on3.ends (by rw[hres];exact ab.refl _) ⟨rfl,_,rfl,?_⟩
     rw[hres];exact hF3
end Go.Proofs.YtpehfflehebmbaaGreat.Space
end
section
set_option maxRecDepth 10000
namespace Go.Av
theorem nP {l R:List Fr} {n m:Nat} {Q:AV→List Fr→Prop} {q r:AV} {h:H} (F':Fr) (hk:F'.k=[])
  (ok:Ok R n (ks R) m) (hn:n≤h.n) (hm:m≤h.m) (hRl:∀j o,lay R j=some o→(lay l j).isSome=true) (hRk:∀t∈ks R,t∈ks l)
  (hF:∀j o',F'.o j=some o'→(∃o,h.objs j=some o∧cq o o')∧lay R j=none∧j<h.n∧(n≤j∨(lay l j).isSome=true))
  (hR:∀j o,lay R j=some o→h.objs j=some o) (ht:∀t∈ks R,t∈h.toks) (sub:ab q r) (hQ:Q r (F'::R)):Ends l n m Q q h r (F'::R) where
 sub:=sub
 ole j o hj:=by
  rw[cO] at hj
  cases e:F'.o j with
  |some o'=>
   rw[e] at hj
   simp only[Option.some_or,Option.some.injEq] at hj
   subst hj
   obtain ⟨⟨o1,h1,h2⟩,-⟩:=hF j o' e
   exact ⟨o1,h1,h2⟩
  |none=>
   rw[e] at hj
   simp only[Option.none_or] at hj
   exact ⟨o,hR j o hj,cq.refl _⟩
 tk t h1:=by
  rw[show ks (F'::R)=ks R by simp[ks,hk]] at h1
  exact ht t h1
 ok:=by
  have okR:=ok.grow hn hm
  refine ⟨fun F2 hF2 j hj=>?_,?_,fun t h1=>h1,?_,fun t h1=>?_⟩
  ·rcases List.mem_cons.1 hF2 with e|e
   ·subst e
    cases e2:F2.o j with
    |none=>rfl
    |some o'=>
     have:=(hF j o' e2).2.2.1
     omega
   ·exact okR.bd F2 e j hj
  ·rw[List.pairwise_cons]
   refine ⟨fun F2 hF2 j=>?_,okR.dj⟩
   cases e2:F'.o j with
   |none=>exact .inl rfl
   |some o'=>exact .inr (cd.1 (hF j o' e2).2.1 F2 hF2)
  ·rw[List.pairwise_cons]
   exact ⟨fun F2 hF2 t h1=>by rw[hk] at h1;simp at h1,okR.td⟩
  ·rw[show ks (F'::R)=ks R by simp[ks,hk]] at h1
   exact okR.tb t h1
 new j:=by
  rw[cO]
  cases e:F'.o j with
  |some o'=>exact (hF j o' e).2.2.2.imp id .inl
  |none=>
   simp only[Option.none_or]
   cases e2:lay R j with
   |none=>exact .inr (.inr rfl)
   |some o=>exact .inr (.inl (hRl j o e2))
 knew t h1:=by
  rw[show ks (F'::R)=ks R by simp[ks,hk]] at h1
  exact .inl (hRk t h1)
 q:=hQ
end Go.Av
namespace Go.Proofs.YtpehfflehebmbaaGreat.Txn
open Go Go.Av Go.Proofs Go.Proofs.YtpehfflehebmbaaGreat.C Go.Proofs.YtpehfflehebmbaaGreat.Batch Go.Proofs.YtpehfflehebmbaaGreat.Space Go.Proofs.YtpehfflehebmbaaGreat.Reads
abbrev Bs:=List UInt8
def bU (M:List Ch):List (AV × AV):=M.map fun c=>(.str c.k,aL c)
def oI:List Ch→Bs→Option (Nat × AV)
 |[],_=>none
 |c::M,q=>if c.k=q then some (0,aL c) else (oI M q).map fun r=>(r.1+1,r.2)
def bO:List Ch→Bs→Option Ch
 |[],_=>none
 |c::M,q=>if c.k=q then some c else bO M q
def iZ:List Ch→Ch→List Ch
 |[],c=>[c]
 |x::M,c=>if x.k=c.k then c::M else x::iZ M c
theorem cw (q:Bs):∀M:List Ch,eQ q (bU M)=some (oI M q)
 |[]=>rfl
 |c::M=>by
  have ih:=cw q M
  simp only[bU,List.map_cons,eQ,oI] at ih ⊢
  by_cases h:c.k=q
  ·simp only[if_pos h]
  ·simp only[if_neg h,ih,Option.map_some]
def nQ:AV:= .agg [.str [],.str [],.bool false]
def ca (M:List Ch) (q:Bs):Ch:=(bO M q).getD ⟨[],[],false⟩
theorem pn (b:Bool) (q:Bs):∀M:List Ch,cQ nQ b (oI M q)=if b then .tup [aL (ca M q),.bool (bO M q).isSome] else aL (ca M q):=by
 intro M
 have key:(oI M q=none∧bO M q=none)∨∃i c,oI M q=some (i,aL c)∧bO M q=some c:=by
  induction M with
  |nil=>exact .inl ⟨rfl,rfl⟩
  |cons c M ih=>
   simp only[oI,bO]
   by_cases h:c.k=q
   ·simp only[if_pos h];exact .inr ⟨0,c,rfl,rfl⟩
   ·simp only[if_neg h]
    rcases ih with ⟨h1,h2⟩|⟨i,c',h1,h2⟩
    ·exact .inl ⟨by rw[h1];rfl,h2⟩
    ·exact .inr ⟨i+1,c',by rw[h1];rfl,h2⟩
 rcases key with ⟨h1,h2⟩|⟨i,c,h1,h2⟩
 ·rw[h1];simp only[ca,h2];cases b<;>rfl
 ·rw[h1];simp only[ca,h2];cases b<;>rfl
theorem ij (c:Ch):∀M:List Ch,fe (bU M) c.k (aL c) (oI M c.k)=bU (iZ M c)
 |[]=>rfl
 |x::M=>by
  have ih:=ij c M
  simp only[oI,iZ]
  by_cases h:x.k=c.k
  ·simp only[if_pos h,fe,bU,List.map_cons,List.set_cons_zero]
  ·simp only[if_neg h]
   cases hr:oI M c.k with
   |none=>rw[hr] at ih;simp only[Option.map_none,fe,bU,List.map_cons,List.cons_append] at ih ⊢;rw[ih]
   |some r=>rw[hr] at ih;simp only[Option.map_some,fe,bU,List.map_cons,List.set_cons_succ] at ih ⊢;rw[ih]
theorem rI (c:Ch) (q:Bs):∀M:List Ch,bO (iZ M c) q=if c.k=q then some c else bO M q
 |[]=>by simp[iZ,bO]
 |x::M=>by
  simp only[iZ]
  by_cases h:x.k=c.k
  ·simp only[if_pos h,bO]
   by_cases h':c.k=q
   ·simp[h']
   ·simp only[if_neg h',if_neg (fun e=>h' (h▸e:c.k=q))]
  ·simp only[if_neg h,bO,rI c q M]
   by_cases h':c.k=q
   ·simp only[if_pos h',if_neg (fun e=>h (by rw[e,h']):¬x.k=q)]
   ·simp only[if_neg h']
structure Tx where
 t:Int
 C:List Ch
 rk:List Bs
 rs:List Sp
 ended:Bool
def ak (C:List Ch):List Bs:=C.map (·.k)
structure TxF (x s:Nat) (Y:Tx) (F:Fr):Prop where
 go:∃c M K,(∀q,bO M q=bO Y.C q)∧x≠c∧F.o x=some (.cells [.ptr s 0,.int .i64 Y.t,.mp c,K,.sl 1 (strs Y.rk) .any,.sl 2 (sps Y.rs) .any,.bool Y.ended])∧F.o c=some (.map (bU M))∧rH K (ak Y.C) F.o x c
 k:F.k=[]
 fin:F.Fin
theorem gd {x s:Nat} {Y:Tx} {F:Fr} (hF:TxF x s Y F):kd Tryz.prog 56 [.ptr x 0] F (.bool true):=by
 obtain ⟨c,M,K,hM,hsc,hs,hc,hK⟩:=hF.go
 refine f56.looks hF.fin (by simp) fun n m=>?_
 unfold c56
 simp only[C.zz]
 refine rn0 hs ?_
 exact Wp.ret ⟨trivial,_,rfl,ab.refl _,rfl⟩
def ik (Y:Tx):Int:=if Y.ended then 17 else 0
theorem kE {x s:Nat} {Y:Tx} {F:Fr} (hF:TxF x s Y F):kd Tryz.prog 83 [.ptr x 0] F (.int .i64 (ik Y)):=by
 obtain ⟨c,M,K,hM,hsc,hs,hc,hK⟩:=hF.go
 refine f83.looks hF.fin (by simp) fun n m=>?_
 unfold c83
 simp only[C.zz]
 unfold ik
 cases he:Y.ended with
 |true=>
  rw[he] at hs
  refine xL0 hs (gd hF) ?_
  intro ids
  exact Wp.ret ⟨trivial,_,rfl,ab.refl _,rfl⟩
 |false=>
  rw[he] at hs
  refine xL0 hs (gd hF) ?_
  intro ids
  exact Wp.ret ⟨trivial,_,rfl,ab.refl _,rfl⟩
theorem xO {x s:Nat} {Y:Tx} {F:Fr} (hF:TxF x s Y F):kd Tryz.prog 29 [.ptr x 0] F (.int .i64 Y.t):=by
 obtain ⟨c,M,K,hM,hsc,hs,hc,hK⟩:=hF.go
 refine f29.looks hF.fin (by simp) fun n m=>?_
 unfold c29
 simp only[C.zz]
 refine xL0 hs (gd hF) ?_
 intro ids
 exact Wp.ret ⟨trivial,_,rfl,ab.refl _,rfl⟩
end Go.Proofs.YtpehfflehebmbaaGreat.Txn
end
section
set_option maxRecDepth 10000
namespace Go.Av
theorem aa.mY {P:Program} {N:Nat} {dst:Option Nat} {g:Option (Nat × Bool)} {f:FuncId} {fn:Func} {y:Opd} {l:List Opd} {its:List aO} {t:Tm} {log:List Ent} {K:Tm→H→List Ent→Prop} {first caps vals:List AV} {Q:AV→List Fr→Prop} {G:List Fr} {n m:Nat} {T:List Nat}
  (hg:guardOf t g=some true) (hy:ev t y= .clo (.func f) first caps) (hf:P.funcs[f]? =some fn) (hb:fn.body.isSome=true) (hn:fn.name≠ "runtime.NumGoroutine") (hs:af (first++l.map (ev t)++caps) vals) (hc:aT P f vals G Q) (ok:Ok G n T m)
  (rest:∀r G' n' T' m' ids,Q r G'→On G n m G' n' T' m'→aa P N its (cL t dst r) ⟨lay G',n',T',m'⟩ (⟨[],ids,ks G++ks G'⟩::log) K):
  aa P N (⟨dst,g,.callv y l⟩::its) t ⟨lay G,n,T,m⟩ log K:=by
 have ok':Ok ([]++G++[]) n T m:=by simpa using ok
 have:=aa.lG (P:=P) (N:=N) (dst:=dst) (its:=its) (log:=log) (K:=K) [] G [] hg hy hf hb hn hs hc ok' fun r G' n' m' ids h1 h2 h3 h4 h5 h6=>?_
 ·simpa using this
 ·simp only[List.nil_append,List.append_nil] at h4 h5 h6 ⊢
  exact rest r G' n' _ m' _ h1 ⟨h2,h3,h4,h5,h6⟩
end Go.Av
namespace Go.Proofs.YtpehfflehebmbaaGreat.Txn
open Go Go.Av Go.Proofs Go.Proofs.YtpehfflehebmbaaGreat.C Go.Proofs.YtpehfflehebmbaaGreat.Batch Go.Proofs.YtpehfflehebmbaaGreat.Space Go.Proofs.YtpehfflehebmbaaGreat.Reads
theorem uC {s:Nat} {S:Spc} {FS:Fr} (hS:cU s S FS) (sm:jY S) (t:Int) (hb:cT S t=0):aT Tryz.prog 20 [.ptr s 0,.int .i64 t] [FS] (fun r L=>∃x F,r= .tup [.ptr x 0,.int .i64 0]∧L=[F,FS]∧TxF x s ⟨t,[],[],[],false⟩ F):=by
 refine f20.bo (by simp) fun n m ok=>?_
 unfold c20
 simp only[C.zz]
 have lk:=Bd hS sm [] t
 have h7:∀e:Int,(eE S [] t).2=e→(decide (e=0)=true∨(decide (e=0)=false∧decide (e=7)=true)):=fun e h=>by
  subst h
  rw[eE,if_pos hb]
  split
  ·exact .inl rfl
  ·exact .inr ⟨rfl,rfl⟩
 generalize hv:(eE S [] t).1=v at*
 generalize hw:(eE S [] t).2=e at*
 have fin:∀(T:Tm) (q:AV),ab q (.tup [.ptr (n+1) 0,.int .i64 0])→∃r l',Av.Ends [FS] n m (fun r L=>∃x F,r= .tup [.ptr x 0,.int .i64 0]∧L=[F,FS]∧TxF x s ⟨t,[],[],[],false⟩ F) q ⟨upd (upd (lay [FS]) n (some (.map []))) (n+1) (some (.cells [.ptr s 0,.int .i64 t,.mp n,.sl 1 [] (.exact 0),.sl 1 [] (.exact 0),.sl 2 [] (.exact 0),.bool false])),n+1+1,ks [FS],m⟩ r l':=by
  intro T q hq
  refine ⟨.tup [.ptr (n+1) 0,.int .i64 0],⟨fun j=>if j=n+1 then some (.cells [.ptr s 0,.int .i64 t,.mp n,.sl 1 [] (.exact 0),.sl 1 (strs []) .any,.sl 2 (sps []) .any,.bool false]) else if j=n then some (.map (bU [])) else none,[]⟩::[FS],
   nP _ rfl ok (by simp only;omega) (Nat.le_refl _) (fun j o hj=>by rw[hj];rfl) (fun t h=>h) (fun j o' hj=>?_) (fun j o hj=>?_) (fun t h=>h) hq ⟨n+1,_,rfl,rfl,⟨n,[],_,fun q=>rfl,by omega,?_,?_,.inl ⟨rfl,rfl⟩⟩,rfl,⟨[n+1,n],fun id hid=>?_⟩⟩⟩
  ·simp only at hj
   split at hj
   ·rename_i e;subst e;cases hj
    exact ⟨⟨.cells [.ptr s 0,.int .i64 t,.mp n,.sl 1 [] (.exact 0),.sl 1 [] (.exact 0),.sl 2 [] (.exact 0),.bool false],by simp[upd],af.cons (ab.refl _) (af.cons (ab.refl _) (af.cons (ab.refl _) (af.cons (ab.refl _) (af.cons ab.cap (af.cons ab.cap (af.refl _))))))⟩,ok.fq (by omega),by simp only;omega,.inl (by omega)⟩
   ·split at hj
    ·rename_i e;subst e;cases hj
     exact ⟨⟨.map [],by simp[upd],Av.cq.refl _⟩,ok.fq (by omega),by simp only;omega,.inl (by omega)⟩
    ·cases hj
  ·have:j<n:=by
    rcases Nat.lt_or_ge j n with h|h
    ·exact h
    ·rw[ok.fq h] at hj;cases hj
   simp only[upd]
   rw[if_neg (by omega),if_neg (by omega)];exact hj
  ·simp
  ·simp
  ·simp only at hid
   by_cases e1:id=n+1
   ·simp[e1]
   ·by_cases e2:id=n
    ·simp[e2]
    ·simp[e1,e2] at hid
 rcases h7 e rfl with d1|⟨d1,d2⟩
 ·refine xL0 d1 lk ?_
  intro ids
  exact Wp.ret ⟨trivial,_,rfl,fin (fun _=> .any) _ (ab.refl _)⟩
 ·refine xL0 (cj2 d1 d2) lk ?_
  intro ids
  exact Wp.ret ⟨trivial,_,rfl,fin (fun _=> .any) _ (ab.refl _)⟩
theorem uD {x s:Nat} {Y:Tx} {F:Fr} {l:List Fr} (hF:TxF x s Y F) (hin:F∈l) (he:Y.ended=false) {g:FuncId} {fn:Func} (hf:Tryz.prog.funcs[g]? =some fn) (hb:fn.body.isSome=true) (hn:fn.name≠ "runtime.NumGoroutine") (caps:List AV) {Q:AV→Int→List Fr→Prop}
  (hc:aT Tryz.prog g caps l fun r L=>∃v e,r= .tup [v,.int .i64 e]∧Q v e L):aT Tryz.prog 84 [.ptr x 0,.clo (.func g) [] caps] l fun r L=>∃v e,r= .tup [if e=0 then v else .bool false,.int .i64 e]∧Q v e L:=by
 refine f84.bo (by simp) fun n m ok=>?_
 unfold c84
 simp only[C.zz]
 have hop:=kE hF
 rw[ik,he] at hop
 have hsub:=ok.sub hin
 have d0:decide ((0:Int)=0)=true:=rfl
 refine xL0 (cj2 d0 @Bool.false_eq_true) hop ?_
 intro ids
 refine aa.mY (by simp only[go_sem]) (by simp only[go_sem,reduceIte,Nat.reduceEqDiff];exact rfl) hf hb hn (by simp only[go_sem,reduceIte,Nat.reduceEqDiff,List.map,List.nil_append];exact af.refl _) hc ok fun r G' n2 T2 m2 ids hq on=>?_
 obtain ⟨v,e,rfl,hq⟩:=hq
 by_cases h0:e=0
 ·have d1:=decide_eq_true h0
  refine aa.evR (by simp only[go_sem,reduceIte,Nat.reduceEqDiff,Nat.reduceAdd,bx,d1];exact rfl) ?_
  refine rn0 d1 ?_
  refine Wp.ret ⟨trivial,_,rfl,_,_,on.ends ?_ ⟨v,e,rfl,hq⟩⟩
  rw[if_pos h0,h0];exact ab.refl _
 ·have d1:=decide_eq_false h0
  refine aa.evR (by simp only[go_sem,reduceIte,Nat.reduceEqDiff,Nat.reduceAdd,bx,d1];exact rfl) ?_
  refine rn0 d1 ?_
  refine Wp.ret ⟨trivial,_,rfl,_,_,on.ends ?_ ⟨v,e,rfl,hq⟩⟩
  rw[if_neg h0];exact ab.refl _
theorem xP {x s:Nat} {Y:Tx} {F:Fr} {l:List Fr} (hF:TxF x s Y F) (hin:F∈l) (he:Y.ended=true) (y:AV):aT Tryz.prog 84 [.ptr x 0,y] l fun r L=>r= .tup [.bool false,.int .i64 17]∧L=l:=by
 refine f84.bo (by simp) fun n m ok=>?_
 unfold c84
 simp only[C.zz]
 have hop:=kE hF
 rw[ik,he] at hop
 have hsub:=ok.sub hin
 have d0:decide ((17:Int)=0)=false:=rfl
 refine xL0 d0 hop ?_
 intro ids
 exact Wp.ret ⟨trivial,_,rfl,_,_,(On.refl ok).ends (ab.refl _) ⟨rfl,rfl⟩⟩
theorem z6 {x s:Nat} {Y:Tx} {F:Fr} {l:List Fr} (hF:TxF x s Y F) (hin:F∈l) (he:Y.ended=false) {g:FuncId} {fn:Func} (hf:Tryz.prog.funcs[g]? =some fn) (hb:fn.body.isSome=true) (hn:fn.name≠ "runtime.NumGoroutine") (caps:List AV) {Q:AV→Int→List Fr→Prop}
  (hc:aT Tryz.prog g caps l fun r L=>∃v e,r= .tup [v,.int .i64 e]∧Q v e L):aT Tryz.prog 45 [.ptr x 0,.clo (.func g) [] caps] l fun r L=>∃v e,r= .tup [if e=0 then v else .str [],.int .i64 e]∧Q v e L:=by
 refine f45.bo (by simp) fun n m ok=>?_
 unfold c45
 simp only[C.zz]
 have hop:=kE hF
 rw[ik,he] at hop
 have hsub:=ok.sub hin
 have d0:decide ((0:Int)=0)=true:=rfl
 refine xL0 (cj2 d0 @Bool.false_eq_true) hop ?_
 intro ids
 refine aa.mY (by simp only[go_sem]) (by simp only[go_sem,reduceIte,Nat.reduceEqDiff];exact rfl) hf hb hn (by simp only[go_sem,reduceIte,Nat.reduceEqDiff,List.map,List.nil_append];exact af.refl _) hc ok fun r G' n2 T2 m2 ids hq on=>?_
 obtain ⟨v,e,rfl,hq⟩:=hq
 by_cases h0:e=0
 ·have d1:=decide_eq_true h0
  refine aa.evR (by simp only[go_sem,reduceIte,Nat.reduceEqDiff,Nat.reduceAdd,bx,d1];exact rfl) ?_
  refine rn0 d1 ?_
  refine Wp.ret ⟨trivial,_,rfl,_,_,on.ends ?_ ⟨v,e,rfl,hq⟩⟩
  rw[if_pos h0,h0];exact ab.refl _
 ·have d1:=decide_eq_false h0
  refine aa.evR (by simp only[go_sem,reduceIte,Nat.reduceEqDiff,Nat.reduceAdd,bx,d1];exact rfl) ?_
  refine rn0 d1 ?_
  refine Wp.ret ⟨trivial,_,rfl,_,_,on.ends ?_ ⟨v,e,rfl,hq⟩⟩
  rw[if_neg h0];exact ab.refl _
theorem BH {x s:Nat} {Y:Tx} {F:Fr} {l:List Fr} (hF:TxF x s Y F) (hin:F∈l) (he:Y.ended=true) (y:AV):aT Tryz.prog 45 [.ptr x 0,y] l fun r L=>r= .tup [.str [],.int .i64 17]∧L=l:=by
 refine f45.bo (by simp) fun n m ok=>?_
 unfold c45
 simp only[C.zz]
 have hop:=kE hF
 rw[ik,he] at hop
 have hsub:=ok.sub hin
 have d0:decide ((17:Int)=0)=false:=rfl
 refine xL0 d0 hop ?_
 intro ids
 exact Wp.ret ⟨trivial,_,rfl,_,_,(On.refl ok).ends (ab.refl _) ⟨rfl,rfl⟩⟩
theorem z7 {x s:Nat} {Y:Tx} {F:Fr} {l:List Fr} (hF:TxF x s Y F) (hin:F∈l) (he:Y.ended=false) {g:FuncId} {fn:Func} (hf:Tryz.prog.funcs[g]? =some fn) (hb:fn.body.isSome=true) (hn:fn.name≠ "runtime.NumGoroutine") (caps:List AV) {Q:AV→Int→List Fr→Prop}
  (hc:aT Tryz.prog g caps l fun r L=>∃v e,r= .tup [v,.int .i64 e]∧Q v e L):aT Tryz.prog 48 [.ptr x 0,.clo (.func g) [] caps] l fun r L=>∃v e,r= .tup [if e=0 then v else .sl 2 [] (.exact 0),.int .i64 e]∧Q v e L:=by
 refine f48.bo (by simp) fun n m ok=>?_
 unfold c48
 simp only[C.zz]
 have hop:=kE hF
 rw[ik,he] at hop
 have hsub:=ok.sub hin
 have d0:decide ((0:Int)=0)=true:=rfl
 refine xL0 (cj2 d0 @Bool.false_eq_true) hop ?_
 intro ids
 refine aa.mY (by simp only[go_sem]) (by simp only[go_sem,reduceIte,Nat.reduceEqDiff];exact rfl) hf hb hn (by simp only[go_sem,reduceIte,Nat.reduceEqDiff,List.map,List.nil_append];exact af.refl _) hc ok fun r G' n2 T2 m2 ids hq on=>?_
 obtain ⟨v,e,rfl,hq⟩:=hq
 by_cases h0:e=0
 ·have d1:=decide_eq_true h0
  refine aa.evR (by simp only[go_sem,reduceIte,Nat.reduceEqDiff,Nat.reduceAdd,bx,d1];exact rfl) ?_
  refine rn0 d1 ?_
  refine Wp.ret ⟨trivial,_,rfl,_,_,on.ends ?_ ⟨v,e,rfl,hq⟩⟩
  rw[if_pos h0,h0];exact ab.refl _
 ·have d1:=decide_eq_false h0
  refine aa.evR (by simp only[go_sem,reduceIte,Nat.reduceEqDiff,Nat.reduceAdd,bx,d1];exact rfl) ?_
  refine rn0 d1 ?_
  refine Wp.ret ⟨trivial,_,rfl,_,_,on.ends ?_ ⟨v,e,rfl,hq⟩⟩
  rw[if_neg h0];exact ab.refl _
theorem BI {x s:Nat} {Y:Tx} {F:Fr} {l:List Fr} (hF:TxF x s Y F) (hin:F∈l) (he:Y.ended=true) (y:AV):aT Tryz.prog 48 [.ptr x 0,y] l fun r L=>r= .tup [.sl 2 [] (.exact 0),.int .i64 17]∧L=l:=by
 refine f48.bo (by simp) fun n m ok=>?_
 unfold c48
 simp only[C.zz]
 have hop:=kE hF
 rw[ik,he] at hop
 have hsub:=ok.sub hin
 have d0:decide ((17:Int)=0)=false:=rfl
 refine xL0 d0 hop ?_
 intro ids
 exact Wp.ret ⟨trivial,_,rfl,_,_,(On.refl ok).ends (ab.refl _) ⟨rfl,rfl⟩⟩
end Go.Proofs.YtpehfflehebmbaaGreat.Txn
end
section
set_option maxRecDepth 10000
namespace Go.Proofs.YtpehfflehebmbaaGreat.Txn
open Go Go.Av Go.Proofs Go.Proofs.YtpehfflehebmbaaGreat.C Go.Proofs.YtpehfflehebmbaaGreat.Batch Go.Proofs.YtpehfflehebmbaaGreat.Space Go.Proofs.YtpehfflehebmbaaGreat.Reads
def jv (C:List Ch) (c:Ch):List Ch:=C.take (plK (ak C) c.k)++c::C.drop (if thK (ak C) c.k=true then plK (ak C) c.k+1 else plK (ak C) c.k)
def cH (c:Ch):Bool:=decide (c.k.length≤120)&&decide (c.v.length≤199)
def fL (C:List Ch) (c:Ch):List Ch × Int:=
 if cH c=false then (C,2) else if thK (ak C) c.k=false∧64≤C.length then (C,9) else (jv C c,0)
theorem bP (C:List Ch):(ak C).length=C.length:=by simp[ak]
theorem iQ {C:List Ch} {i:Nat} (h:i<C.length):(ak C).getD i []=C[i].k:=by
 rw[ak,List.getD,List.getElem?_map,List.getElem?_eq_getElem h];rfl
theorem kW (A B:List Ch) (q:Bs):bO (A++B) q=(bO A q).or (bO B q):=by
 induction A with
 |nil=>rfl
 |cons a A ih=>
  simp only[List.cons_append,bO]
  split
  ·rfl
  ·exact ih
theorem po {A:List Ch} {q:Bs} (h:∀c∈A,c.k≠q):bO A q=none:=by
 induction A with
 |nil=>rfl
 |cons a A ih=>
  simp only[bO]
  rw[if_neg (h a (by simp))]
  exact ih fun c hc=>h c (by simp[hc])
theorem z8 {C:List Ch} {q:Bs}:∀c∈C.take (plK (ak C) q),c.k≠q:=by
 intro c hc e
 obtain ⟨i,hi,rfl⟩:=List.getElem_of_mem hc
 rw[List.length_take] at hi
 have h1:=iO (k:=ak C) (q:=q) (i:=i) (by omega)
 have hi':i<C.length:=by omega
 rw[List.getElem_take] at e
 have:(ak C).getD i []=C[i].k:=by simp[ak,List.getD,hi']
 rw[this,e,bk] at h1
 cases h1
theorem xQ (C:List Ch) (c:Ch) (q:Bs):bO (jv C c) q=if c.k=q then some c else bO C q:=by
 have hsplit:C=C.take (plK (ak C) c.k)++C.drop (plK (ak C) c.k):=(List.take_append_drop _ _).symm
 unfold jv
 by_cases e:c.k=q
 ·subst e
  rw[if_pos rfl,kW,po z8]
  simp[bO]
 ·rw[if_neg e,kW]
  simp only[bO,if_neg e]
  cases ht:thK (ak C) c.k with
  |false=>
   rw[if_neg (by simp)]
   conv=>rhs;rw[hsplit,kW]
  |true=>
   rw[if_pos rfl]
   simp only[thK,Bool.and_eq_true,decide_eq_true_eq] at ht
   rw[bP] at ht
   have hx:(C[plK (ak C) c.k]'ht.1).k=c.k:=by rw[←iQ ht.1];exact ht.2
   conv=>rhs;rw[hsplit,kW,List.drop_eq_getElem_cons ht.1,bO,if_neg (by rw[hx];exact e)]
theorem lO (C:List Ch) (c:Ch):ak (jv C c)=if thK (ak C) c.k=true then ak C else (ak C).take (plK (ak C) c.k)++c.k::(ak C).drop (plK (ak C) c.k):=by
 unfold jv
 cases ht:thK (ak C) c.k with
 |false=>simp[ak,List.map_take,List.map_drop]
 |true=>
  simp only[if_true]
  simp only[thK,Bool.and_eq_true,decide_eq_true_eq] at ht
  have h1:=ht.1
  rw[bP] at h1
  have hx:(C[plK (ak C) c.k]'h1).k=c.k:=by rw[←iQ h1];exact ht.2
  have:C=C.take (plK (ak C) c.k)++C[plK (ak C) c.k]::C.drop (plK (ak C) c.k+1):=by
   rw[←List.drop_eq_getElem_cons h1,List.take_append_drop]
  have e2:ak C=ak (C.take (plK (ak C) c.k)++C[plK (ak C) c.k]::C.drop (plK (ak C) c.k+1)):=congrArg ak this
  refine Eq.trans ?_ e2.symm
  simp only[ak,List.map_append,List.map_cons] at hx ⊢
  rw[hx]
theorem rJ (C:List Ch) (c:Ch):(jv C c).length=if thK (ak C) c.k=true then C.length else C.length+1:=by
 rw[←bP,lO]
 have:=eY (ak C) c.k
 split
 ·exact bP C
 ·rw[List.length_append,List.length_cons,List.length_take,List.length_drop,Nat.min_eq_left this,bP]
  rw[bP] at this;omega
theorem vN {C:List Ch} (hr:bL (ak C)) (c:Ch):bL (ak (jv C c)):=by
 rw[lO]
 split
 ·exact hr
 ·rename_i ht
  have hp:=eY (ak C) c.k
  have hno:¬(c.k∈ak C):=by
   have:=mX hr c.k
   intro h
   rw[this] at ht
   simp[h] at ht
  refine List.pairwise_append.2 ⟨hr.sublist (List.take_sublist _ _),?_,?_⟩
  ·refine List.pairwise_cons.2 ⟨fun y hy=>?_,hr.sublist (List.drop_sublist _ _)⟩
   obtain ⟨i,hi,rfl⟩:=List.getElem_of_mem hy
   rw[List.length_drop] at hi
   have hlt:plK (ak C) c.k+i<(ak C).length:=by omega
   have:=kD hr (q:=c.k) (i:=plK (ak C) c.k+i) (by omega) hlt
   rw[List.getElem_drop]
   rw[show (ak C).getD (plK (ak C) c.k+i) []=(ak C)[plK (ak C) c.k+i] by simp[List.getD,hlt]] at this
   rcases cN c.k (ak C)[plK (ak C) c.k+i] with h|h|h
   ·exact h
   ·exact absurd (h▸List.getElem_mem hlt) hno
   ·rw[h] at this;cases this
  ·intro x hx y hy
   obtain ⟨i,hi,rfl⟩:=List.getElem_of_mem hx
   rw[List.length_take] at hi
   have h1:=iO (k:=ak C) (q:=c.k) (i:=i) (by omega)
   have hi':i<(ak C).length:=by omega
   rw[List.getElem_take]
   rw[show (ak C).getD i []=(ak C)[i] by simp[List.getD,hi']] at h1
   rcases List.mem_cons.1 hy with rfl|hy
   ·exact h1
   ·obtain ⟨j,hj,rfl⟩:=List.getElem_of_mem hy
    rw[List.length_drop] at hj
    rw[List.getElem_drop]
    have:=hr.at (i:=i) (j:=plK (ak C) c.k+j) (by omega) (by omega)
    simpa [List.getD,hi',show plK (ak C) c.k+j<(ak C).length by omega] using this
theorem gf {x s cm n m:Nat} {F:Fr} {R:List Fr} {q r K k4 k5:AV} {h:H} {Y':Tx} {M':List Ch} {Q:AV→List Fr→Prop} (hx0:(F.o x).isSome=true∨n≤x) (hc0:(F.o cm).isSome=true∨n≤cm) (hxn:x<h.n) (hcn:cm<h.n) (hxc:x≠cm) (ok:Ok (F::R) n (ks (F::R)) m) (hn:n≤h.n) (hm:m≤h.m)
  (h1:h.objs x=some (.cells [.ptr s 0,.int .i64 Y'.t,.mp cm,K,k4,k5,.bool Y'.ended])) (hk4:ab k4 (.sl 1 (strs Y'.rk) .any)) (hk5:ab k5 (.sl 2 (sps Y'.rs) .any)) (h2:h.objs cm=some (.map (bU M'))) (hM:∀q,bO M' q=bO Y'.C q)
  (hrow:(K= .sl 1 [] (.exact 0)∧ak Y'.C=[])∨∃k,K= .tsl 1 k 0 (ak Y'.C).length none∧h.objs k=some (.cells (strs (ak Y'.C)))∧k≠x∧k≠cm∧k<h.n∧((F.o k).isSome=true∨n≤k))
  (hR:∀j o,lay R j=some o→h.objs j=some o) (ht:∀t∈ks R,t∈h.toks) (sub:ab q r) (hQ:∀F',TxF x s Y' F'→Q r (F'::R)):∃r l',Av.Ends (F::R) n m Q q h r l':=by
 have hnew:∀j,((F.o j).isSome=true∨n≤j)→lay R j=none∧(n≤j∨(lay (F::R) j).isSome=true):=by
  intro j hj
  rcases hj with hj|hj
  ·refine ⟨ok.old hj,.inr ?_⟩
   rw[cO]
   obtain ⟨y,hy⟩:=Option.isSome_iff_exists.1 hj
   rw[hy];rfl
  ·exact ⟨ok.tail.fq hj,.inl hj⟩
 have hRl:∀j o,lay R j=some o→(lay (F::R) j).isSome=true:=fun j o hj=>by
  rw[cO,hj];cases F.o j<;>rfl
 have hRk:∀t∈ks R,t∈ks (F::R):=fun t h=>by
  rw[show ks (F::R)=F.k++ks R by simp[ks]];exact List.mem_append_right _ h
 have okR:Ok R n (ks R) m:=ok.tail.shrink
 have hcx:¬cm=x:=Ne.symm hxc
 have hcells:Av.cq (.cells [.ptr s 0,.int .i64 Y'.t,.mp cm,K,k4,k5,.bool Y'.ended]) (.cells [.ptr s 0,.int .i64 Y'.t,.mp cm,K,.sl 1 (strs Y'.rk) .any,.sl 2 (sps Y'.rs) .any,.bool Y'.ended]):=
  af.cons (ab.refl _) (af.cons (ab.refl _) (af.cons (ab.refl _) (af.cons (ab.refl _) (af.cons hk4 (af.cons hk5 (af.refl _))))))
 rcases hrow with ⟨rfl,hk⟩|⟨k,rfl,h3,hkx,hkc,hkn,hk⟩
 ·refine ⟨r,⟨fun j=>if j=x then some (.cells [.ptr s 0,.int .i64 Y'.t,.mp cm,.sl 1 [] (.exact 0),.sl 1 (strs Y'.rk) .any,.sl 2 (sps Y'.rs) .any,.bool Y'.ended]) else if j=cm then some (.map (bU M')) else none,[]⟩::R,
   nP _ rfl okR hn hm hRl hRk (fun j o' hj=>?_) hR ht sub (hQ _ ⟨⟨cm,M',_,hM,hxc,?_,?_,.inl ⟨rfl,hk⟩⟩,rfl,⟨[x,cm],fun id hid=>?_⟩⟩)⟩
  ·simp only at hj
   split at hj
   ·rename_i e;subst e;cases hj
    exact ⟨⟨_,h1,hcells⟩,(hnew _ hx0).1,hxn,(hnew _ hx0).2⟩
   ·split at hj
    ·rename_i e;subst e;cases hj
     exact ⟨⟨_,h2,Av.cq.refl _⟩,(hnew _ hc0).1,hcn,(hnew _ hc0).2⟩
    ·cases hj
  ·simp
  ·simp[hcx]
  ·simp only at hid
   by_cases e1:id=x
   ·simp[e1]
   ·by_cases e2:id=cm
    ·simp[e2]
    ·simp[e1,e2] at hid
 ·refine ⟨r,⟨fun j=>if j=x then some (.cells [.ptr s 0,.int .i64 Y'.t,.mp cm,.tsl 1 k 0 (ak Y'.C).length none,.sl 1 (strs Y'.rk) .any,.sl 2 (sps Y'.rs) .any,.bool Y'.ended]) else if j=cm then some (.map (bU M')) else if j=k then some (.cells (strs (ak Y'.C))) else none,[]⟩::R,
   nP _ rfl okR hn hm hRl hRk (fun j o' hj=>?_) hR ht sub (hQ _ ⟨⟨cm,M',_,hM,hxc,?_,?_,.inr ⟨k,rfl,?_,hkx,hkc⟩⟩,rfl,⟨[x,cm,k],fun id hid=>?_⟩⟩)⟩
  ·simp only at hj
   split at hj
   ·rename_i e;subst e;cases hj
    exact ⟨⟨_,h1,hcells⟩,(hnew _ hx0).1,hxn,(hnew _ hx0).2⟩
   ·split at hj
    ·rename_i e;subst e;cases hj
     exact ⟨⟨_,h2,Av.cq.refl _⟩,(hnew _ hc0).1,hcn,(hnew _ hc0).2⟩
    ·split at hj
     ·rename_i e;subst e;cases hj
      exact ⟨⟨_,h3,Av.cq.refl _⟩,(hnew _ hk).1,hkn,(hnew _ hk).2⟩
     ·cases hj
  ·simp
  ·simp[hcx]
  ·simp[hkx,hkc]
  ·simp only at hid
   by_cases e1:id=x
   ·simp[e1]
   ·by_cases e2:id=cm
    ·simp[e2]
    ·by_cases e3:id=k
     ·simp[e3]
     ·simp[e1,e2,e3] at hid
set_option maxHeartbeats 2000000 in
theorem vO {x s:Nat} {Y:Tx} {F:Fr} (hF:TxF x s Y F) (hr:bL (ak Y.C)) (hl:Y.C.length≤64) (c:Ch):
  aT Tryz.prog 88 [.ref [.str c.k,.str c.v,.bool c.d],.ref [.ptr x 0]] [F] fun r L=>∃v e,r= .tup [v,.int .i64 e]∧e=(fL Y.C c).2∧∃F',L=[F']∧TxF x s {Y with C:=(fL Y.C c).1} F':=by
 obtain ⟨cm,M,K,hM,hxc,hx,hcm,hK⟩:=hF.go
 have hkl:=bP Y.C
 obtain ⟨objs,ids,ho,hi,hb⟩:=nN hK hr (by omega) c.k
 refine f88.bo (by simp) fun n m ok=>?_
 unfold c88
 simp only[C.zz]
 have fx:=ok.at0 hx
 have fc:=ok.at0 hcm
 have hxn:=ok.lt (by simp) hx
 have hcn:=ok.lt (by simp) hcm
 have hx0:(F.o x).isSome=true:=by rw[hx];rfl
 have hc0:(F.o cm).isSome=true:=by rw[hcm];rfl
 have hcx:(cm=x)=False:=by simp;exact Ne.symm hxc
 have hxc':(x=cm)=False:=by simp[hxc]
 have keep:cH c=false→∃F',[F]=[F']∧TxF x s {Y with C:=(fL Y.C c).1} F':=fun hk=>⟨F,rfl,by rw[fL,if_pos hk];exact hF⟩
 by_cases hk:(120:Int)<(c.k.length:Int)
 ·have d1:=decide_eq_true hk
  have hkb:cH c=false:=by simp[cH];intro h;omega
  refine rn0 d1 ?_
  exact Wp.ret ⟨trivial,_,rfl,_,_,(On.refl ok).ends (ab.refl _) ⟨_,_,rfl,by rw[fL,if_pos hkb],keep hkb⟩⟩
 have d1:=decide_eq_false hk
 by_cases hv:(199:Int)<(c.v.length:Int)
 ·have d2:=decide_eq_true hv
  have hkb:cH c=false:=by simp[cH];intro h;omega
  refine rn0 (cj2 d1 d2) ?_
  exact Wp.ret ⟨trivial,_,rfl,_,_,(On.refl ok).ends (ab.refl _) ⟨_,_,rfl,by rw[fL,if_pos hkb],keep hkb⟩⟩
 have d2:=decide_eq_false hv
 have hkb:¬cH c=false:=by simp[cH];omega
 refine rn0 (cj3 d1 d2 fx) ?_
 have ksF:ks [F]=[]:=by simp[ks,hF.k]
 rw[ksF]
 refine aa.ji ids (by simp only[go_sem]) xA4 (fun id o h=>ok.sub (by simp) id o (ho id o h)) hi hb ?_
 refine aa.evR xA1 ?_
 refine aa.nil ⟨by simp[ay,au,apart,aH],?_⟩
 have hput:=ij c M
 simp only[aL,fe] at hput
 have hset:=lO Y.C c
 have hm2:∀q,bO (iZ M c) q=bO (jv Y.C c) q:=fun q=>by rw[rI,xQ,hM]
 have hp:=eY (ak Y.C) c.k
 have row0:(K= .sl 1 [] (.exact 0)∧ak Y.C=[])∨∃k,K= .tsl 1 k 0 (ak Y.C).length none∧lay [F] k=some (.cells (strs (ak Y.C)))∧k≠x∧k≠cm∧k<n∧((F.o k).isSome=true∨n≤k):=by
  rcases hK with ⟨h1,h2⟩|⟨k,h1,h2,h3,h4⟩
  ·exact .inl ⟨h1,h2⟩
  ·exact .inr ⟨k,h1,ok.at0 h2,h3,h4,ok.lt (by simp) h2,.inl (by rw[h2];rfl)⟩
 cases ht:thK (ak Y.C) c.k with
 |true=>
  rw[ht,if_pos rfl] at hset
  have e2:fL Y.C c=(jv Y.C c,0):=by rw[fL,if_neg hkb,if_neg (by simp[ht])]
  refine rn0 (cj5 fx fc @cw hput ht) ?_
  refine Wp.ret ⟨trivial,_,rfl,gf (Y':={Y with C:=(fL Y.C c).1}) (M':=iZ M c) (K:=K) (.inl hx0) (.inl hc0) hxn hcn hxc ok (Nat.le_refl _) (Nat.le_refl _) ?_ (ab.refl _) (ab.refl _) ?_ ?_ ?_ (fun j o hj=>by cases hj) (fun t ht=>by simp[ks] at ht) (ab.refl _) (fun F' h=>⟨_,_,rfl,by rw[e2],F',rfl,h⟩)⟩
  ·simp only[go_sem,hxc',fx,reduceIte]
  ·simp only[go_sem,reduceIte]
  ·rw[e2];exact hm2
  ·rw[e2]
   simp only
   rw[hset]
   rcases row0 with h|⟨k,h1,h2,h3,h4,h5,h6⟩
   ·exact .inl h
   ·have hkc:(k=cm)=False:=by simp[h4]
    exact .inr ⟨k,h1,by simp only[go_sem,hkc,reduceIte];exact h2,h3,h4,h5,h6⟩
 |false=>
  rw[ht,if_neg (by simp)] at hset
  obtain ⟨o1,o2,o3,o4⟩:=cF hxn
  obtain ⟨p1,p2,p3,p4⟩:=cF hcn
  have n1:(n=n+1)=False:=by simp
  have n2:(n+1=n)=False:=by simp
  by_cases hfull:64≤Y.C.length
  ·have e2:fL Y.C c=(Y.C,9):=by rw[fL,if_neg hkb,if_pos ⟨ht,hfull⟩]
   rcases hK with ⟨rfl,h2⟩|⟨k,rfl,h2,h3,h4⟩
   ·rw[h2] at hkl;simp at hkl;omega
   have d3:decide ((64:Int)≤((ak Y.C).length:Int))=true:=decide_eq_true (by omega)
   refine rn0 (cj3 fx ht d3) ?_
   refine Wp.ret ⟨trivial,_,rfl,gf (Y':={Y with C:=(fL Y.C c).1}) (M':=M) (.inl hx0) (.inl hc0) hxn hcn hxc ok (Nat.le_refl _) (Nat.le_refl _) fx (ab.refl _) (ab.refl _) fc ?_ ?_ (fun j o hj=>by cases hj) (fun t ht=>by simp[ks] at ht) (ab.refl _) (fun F' h=>⟨_,_,rfl,by rw[e2],F',rfl,h⟩)⟩
   ·rw[e2];exact hM
   ·rw[e2];exact row0
  ·have e2:fL Y.C c=(jv Y.C c,0):=by rw[fL,if_neg hkb,if_neg (by simp[hfull])]
   have hlk:(ak (jv Y.C c)).length=(ak Y.C).length+1:=by
    rw[hset,List.length_append,List.length_cons,List.length_take,List.length_drop];omega
   rcases hK with ⟨rfl,h2⟩|⟨k,rfl,h2,h3,h4⟩
   ·have hp0:plK (ak Y.C) c.k=0:=by rw[h2];rfl
    have z0:((0:Nat):Int)=0:=rfl
    have d3:decide ((64:Int)≤((0:Nat):Int))=false:=rfl
    refine Wp.aw (by simp only[go_sem,reduceIte,Nat.reduceEqDiff,Nat.reduceAdd,bx,ht];exact rfl) (by trivial) ?_
    refine Wp.cond_true xA2 ?_
    refine Wp.seq ?_
    refine Wp.aw (by simp only[go_sem,reduceIte,Nat.reduceEqDiff,Nat.reduceAdd,bx,fx,d3,List.length_nil];exact rfl) (by trivial) ?_
    refine Wp.cond_false xA2 ?_
    refine Wp.skip ?_
    refine Wp.reg ?_
    refine aa.part 8 (by simp only[go_sem,reduceIte,Nat.reduceEqDiff,Nat.reduceAdd,bx,fx];exact rfl) ?_
    simp only[List.drop_succ_cons,List.drop_zero,List.drop_nil]
    refine aa.opT xA2 (by simp only[fX,go_sem,reduceIte,Nat.reduceEqDiff,Nat.reduceAdd,bx,List.all_cons,List.all_nil,List.length_cons,List.length_nil,Nat.reduceMul,Nat.reduceLeDiff,and_self,if_true,decide_true,Bool.and_self];exact rfl) rfl ?_
    refine aa.eR (by simp only[go_sem]) (by simp only[go_sem,reduceIte,Nat.reduceEqDiff,List.map,hp0,z0];exact af.refl _) (Reads.nL c.k (id2:=n) (h:= .only (upd ag n (some (.cells [.str c.k]))) [] (n+1) m) (by simp[H.only,upd]) rfl) (iJ _ (id:=n) (ob:= .cells [.str c.k]) (by simp[upd,cellsOf]) (by simp)) ?_
    refine aa.part 3 (by simp only[go_sem,reduceIte,Nat.reduceEqDiff,Nat.reduceAdd,bx,H.aZ,fx,o1,o3,n1,n2];exact rfl) ?_
    simp only[List.drop_succ_cons,List.drop_zero,List.drop_nil]
    refine aa.nil ⟨by simp[ay,au,apart,aH,o3,o4],?_⟩
    refine rn0 (cj9 fc @cw hput p1 p3 hcx hxc' n1 n2) ?_
    refine Wp.ret ⟨trivial,_,rfl,gf (Y':={Y with C:=(fL Y.C c).1}) (M':=iZ M c) (K:= .tsl 1 (n+1) 0 1 none) (.inl hx0) (.inl hc0) (by simp only;omega) (by simp only;omega) hxc ok (by simp only;omega) (Nat.le_refl _) ?_ (ab.refl _) (ab.refl _) ?_ ?_ (.inr ⟨n+1,?_,?_,by omega,by omega,by simp only;omega,.inr (by omega)⟩) (fun j o hj=>by cases hj) (fun t ht=>by simp[ks] at ht) (ab.refl _) (fun F' h=>⟨_,_,rfl,by rw[e2],F',rfl,h⟩)⟩
    ·simp only[go_sem,H.aZ,hxc',hcx,o1,o3,fx,n1,n2,reduceIte]
    ·simp only[go_sem,H.aZ,hxc',hcx,p1,p3,fc,n1,n2,reduceIte]
    ·rw[e2];exact hm2
    ·rw[e2];simp only;rw[hlk,h2];rfl
    ·rw[e2]
     simp only[go_sem,H.aZ,o2,o4,p2,p4,n1,n2,reduceIte]
     rw[hset,h2];rfl
   ·have fk:=ok.at0 h2
    have hkn:=ok.lt (by simp) h2
    have hxk':(x=k)=False:=by simp;exact Ne.symm h3
    have hck':(cm=k)=False:=by simp;exact Ne.symm h4
    obtain ⟨r1,r2,r3,r4⟩:=cF hkn
    have ins:∀(m2:Nat),bn Tryz.prog 90 [.tsl 1 k 0 (ak Y.C).length none,.int .i64 (plK (ak Y.C) c.k),.tsl 1 n 0 1 none] (.only (upd (upd ag k (some (.cells (strs (ak Y.C))))) n (some (.cells [.str c.k]))) [] (n+1) m2) (.tsl 1 (n+1) 0 ((ak Y.C).length+1) none) ((H.only (upd (upd ag k (some (.cells (strs (ak Y.C))))) n (some (.cells [.str c.k]))) [] (n+1) m2).aZ k (.cells (strs ((ak Y.C).take (plK (ak Y.C) c.k)++c.k::(ak Y.C).drop (plK (ak Y.C) c.k))))):=by
     intro m2
     by_cases hz:ak Y.C=[]
     ·rw[hz]
      exact rB c.k (id:=k) (id2:=n) (h:= .only (upd (upd ag k (some (.cells (strs [])))) n (some (.cells [.str c.k]))) [] (n+1) m2) (by omega) (by simp[H.only,upd,r3]) (by simp[H.only,upd]) rfl
     ·exact Reads.nK (ak Y.C) (plK (ak Y.C) c.k) c.k (by omega) (by omega) (List.length_pos_iff.2 hz) (id:=k) (id2:=n) (h:= .only (upd (upd ag k (some (.cells (strs (ak Y.C))))) n (some (.cells [.str c.k]))) [] (n+1) m2) (by omega) (by simp[H.only,upd,r3]) (by simp[H.only,upd]) rfl
    have d3:decide ((64:Int)≤((ak Y.C).length:Int))=false:=decide_eq_false (by omega)
    refine Wp.aw (by simp only[go_sem,reduceIte,Nat.reduceEqDiff,Nat.reduceAdd,bx,ht];exact rfl) (by trivial) ?_
    refine Wp.cond_true xA2 ?_
    refine Wp.seq ?_
    refine Wp.aw (by simp only[go_sem,reduceIte,Nat.reduceEqDiff,Nat.reduceAdd,bx,fx,d3];exact rfl) (by trivial) ?_
    refine Wp.cond_false xA2 ?_
    refine Wp.skip ?_
    refine Wp.reg ?_
    refine aa.part 8 (by simp only[go_sem,reduceIte,Nat.reduceEqDiff,Nat.reduceAdd,bx,fx];exact rfl) ?_
    simp only[List.drop_succ_cons,List.drop_zero,List.drop_nil]
    refine aa.opT xA2 (by simp only[fX,go_sem,reduceIte,Nat.reduceEqDiff,Nat.reduceAdd,bx,List.all_cons,List.all_nil,List.length_cons,List.length_nil,Nat.reduceMul,Nat.reduceLeDiff,and_self,if_true,decide_true,Bool.and_self];exact rfl) rfl ?_
    refine aa.eR (by simp only[go_sem]) xA4 (ins _) (jm _ (id:=k) (id2:=n) (ob:= .cells (strs (ak Y.C))) (ob2:= .cells [.str c.k]) (by simp[upd,r3,fk]) (by simp[upd,cellsOf]) (by omega) (by simp only;omega) (by simp)) ?_
    refine aa.part 3 (by simp only[go_sem,reduceIte,Nat.reduceEqDiff,Nat.reduceAdd,bx,H.aZ,fx,o1,o3,hxk',n1,n2];exact rfl) ?_
    simp only[List.drop_succ_cons,List.drop_zero,List.drop_nil]
    refine aa.nil ⟨by simp[ay,au,apart,aH,o3,o4],?_⟩
    refine rn0 (fR fc @cw hput p1 p3 hck' hcx hxc' n1 n2) ?_
    refine Wp.ret ⟨trivial,_,rfl,gf (Y':={Y with C:=(fL Y.C c).1}) (M':=iZ M c) (K:= .tsl 1 (n+1) 0 ((ak Y.C).length+1) none) (.inl hx0) (.inl hc0) (by simp only;omega) (by simp only;omega) hxc ok (by simp only;omega) (Nat.le_refl _) ?_ (ab.refl _) (ab.refl _) ?_ ?_ (.inr ⟨n+1,?_,?_,by omega,by omega,by simp only;omega,.inr (by omega)⟩) (fun j o hj=>by cases hj) (fun t ht=>by simp[ks] at ht) (ab.refl _) (fun F' h=>⟨_,_,rfl,by rw[e2],F',rfl,h⟩)⟩
    ·simp only[go_sem,H.aZ,hxc',hcx,o1,o3,hxk',fx,n1,n2,reduceIte]
    ·simp only[go_sem,H.aZ,hxc',hcx,p1,p3,hck',fc,n1,n2,reduceIte]
    ·rw[e2];exact hm2
    ·rw[e2];simp only;rw[hlk]
    ·rw[e2]
     simp only[go_sem,H.aZ,o2,o4,p2,p4,n1,n2,reduceIte]
     rw[hset]
def eF (Y:Tx) (c:Ch):Tx × Int:=if Y.ended then (Y,17) else ({Y with C:=(fL Y.C c).1},(fL Y.C c).2)
theorem rK {x s:Nat} {Y:Tx} {F:Fr} (hF:TxF x s Y F) (hr:bL (ak Y.C)) (hl:Y.C.length≤64) (c:Ch):
  aT Tryz.prog 44 [.ptr x 0,aL c] [F] fun r L=>r= .int .i64 (eF Y c).2∧∃F',L=[F']∧TxF x s (eF Y c).1 F':=by
 refine f44.bo (by simp) fun n m ok=>?_
 unfold c44
 simp only[C.zz]
 have e1:decide (n≤n)=true:=decide_eq_true (by omega)
 have e2:decide (n≤n+1)=true:=decide_eq_true (by omega)
 have f1:(n=n+1)=False:=eq_false (by omega)
 have f2:(n+1=n)=False:=eq_false (by omega)
 have ok1:Ok [F] (n+1+1) (ks [F]) m:=ok.grow (by omega) (Nat.le_refl _)
 have on0:On [F] n m [F] (n+1+1) (ks [F]) m:=⟨by omega,Nat.le_refl _,ok1,.refl,.refl⟩
 have dx:=decide_eq_false (show ¬n≤x from by have:=hF.go;obtain ⟨_,_,_,_,_,hx,_⟩:=this;have:=ok.lt (by simp) hx;omega)
 have ole:∀a b:Av.Obj,OLe (H.drop ⟨upd (upd (lay [F]) n (some a)) (n+1) (some b),n+1+1,ks [F],m⟩ fun j=>decide (n≤j)).objs (lay [F]):=fun a b j o hj=>by
  have hjn:j<n:=by
   rcases Nat.lt_or_ge j n with h|h
   ·exact h
   ·rw[ok.fq h] at hj;cases hj
  refine ⟨o,?_,cq.refl _⟩
  simp only[H.drop,upd]
  rw[if_neg (by simp;omega),if_neg (by omega),if_neg (by omega)];exact hj
 refine Wp.aw (by simp only[go_sem,reduceIte,Nat.reduceEqDiff,Nat.reduceAdd,bx,aL];exact rfl) (by trivial) ?_
 refine Wp.frz (fun j=>decide (n≤j)) [(2,.ref [.ptr x 0]),(3,.ref [.str c.k,.str c.v,.bool c.d])] ⟨lay [F],n+1+1,ks [F],m⟩ ?_ (ole _ _) (fun t ht=>ht) (Nat.le_refl _) (Nat.le_refl _) ?_
 ·simp only[aC,go_sem,reduceIte,Nat.reduceEqDiff,unT,eB,bx,e1,e2,f1,f2,dx,if_false,if_true,List.drop_zero]
  and_intros<;>first|exact ab.refl _|trivial
 refine de ?_
 cases he:Y.ended with
 |true=>
  have hd:=xP hF (l:=[F]) (by simp) he (.clo (.func 88) [] [.ref [.str c.k,.str c.v,.bool c.d],.ref [.ptr x 0]])
  refine aa.eX xA2 xA3 (hd) (ok1) fun r1 G1 n1 T1 m1 ids1 hq1 on1=>?_
  obtain ⟨rfl,rfl⟩:=hq1
  refine aa.evR xA1 ?_
  refine de ?_
  refine Wp.ret ⟨trivial,_,rfl,_,_,(on0.step on1).ends (ab.refl _) ⟨by rw[eF,he];rfl,F,rfl,by rw[eF,he];exact hF⟩⟩
 |false=>
  have hd:=uD hF (l:=[F]) (by simp) he (g:=88) Tryz.func88 (of_decide_eq_true (by kernel_rfl)) (of_decide_eq_true (by kernel_rfl)) [.ref [.str c.k,.str c.v,.bool c.d],.ref [.ptr x 0]] (Q:=fun v e L=>e=(fL Y.C c).2∧∃F',L=[F']∧TxF x s {Y with C:=(fL Y.C c).1} F') (vO hF hr hl c)
  refine aa.eX xA2 xA3 (hd) (ok1) fun r1 G1 n1 T1 m1 ids1 hq1 on1=>?_
  obtain ⟨v,e,rfl,rfl,F',rfl,hF'⟩:=hq1
  refine aa.evR xA1 ?_
  refine de ?_
  refine Wp.ret ⟨trivial,_,rfl,_,_,(on0.step on1).ends (ab.refl _) ⟨by rw[eF,he];rfl,F',rfl,by rw[eF,if_neg (by simp[he])];exact hF'⟩⟩
theorem Bi {x s:Nat} {Y:Tx} {F:Fr} (hF:TxF x s Y F) (hr:bL (ak Y.C)) (hl:Y.C.length≤64) (k v:Bs):
  aT Tryz.prog 13 [.ptr x 0,.str k,.str v] [F] fun r L=>r= .int .i64 (eF Y ⟨k,v,false⟩).2∧∃F',L=[F']∧TxF x s (eF Y ⟨k,v,false⟩).1 F':=by
 refine f13.bo (by simp) fun n m ok=>?_
 unfold c13
 simp only[C.zz]
 have hc:=rK hF hr hl ⟨k,v,false⟩
 simp only[aL] at hc
 refine de ?_
 refine aa.eX xA2 xA3 (hc) (ok) fun r1 G1 n1 T1 m1 ids1 hq1 on1=>?_
 obtain ⟨rfl,F',rfl,hF'⟩:=hq1
 refine aa.evR xA1 ?_
 refine de ?_
 exact Wp.ret ⟨trivial,_,rfl,_,_,on1.ends (ab.refl _) ⟨rfl,F',rfl,hF'⟩⟩
end Go.Proofs.YtpehfflehebmbaaGreat.Txn
end
section
set_option maxRecDepth 10000
namespace Go.Proofs.YtpehfflehebmbaaGreat.Reads
open Go Go.Av Go.Proofs Go.Proofs.YtpehfflehebmbaaGreat.C Go.Proofs.YtpehfflehebmbaaGreat.Batch
def dg (ks:List Bs) (l:List Sp):List Bs × List Sp × Int:=
 if decide ((ks.filter fun x=> !aR l x).length≤64)&&decide (l.length≤64) then (ks.filter fun x=> !aR l x,l,0) else ([],[],9)
def bU (o:List Bs × List Sp × Int):AV:= .tup [bT o.1 o.2.1,.int .i64 o.2.2]
theorem gl (o:List Bs × List Sp × Int):av (bU o)=true:=by simp[bU,av,al,cJ]
theorem fF (e:Int):ab (.tup [.agg [.sl 1 [] (.exact 0),.sl 2 [] (.exact 0)],.int .i64 e]) (bU ([],[],e)):=
 ab.tup (af.cons (ab.agg (af.cons ab.cap (af.cons ab.cap af.nil))) (af.refl _))
theorem xR {g:FuncId} {fn:Func} (hf:Tryz.prog.funcs[g]? =some fn) (hb:fn.body.isSome=true) (hn:fn.name≠ "runtime.NumGoroutine") (caps:List AV) (hc:al caps=true):
  aA Tryz.prog 131 [.sl 1 [] (.exact 0),.clo (.func g) [] caps] (.sl 1 [] .any):=by
 refine f131.aD (by simp) (by simp[al,av,aG,hc]) rfl ?_
 unfold Bw
 simp only[C.zz]
 have h0:=nI [] (by simp) (fun _=>false) hf hb hn caps hc (by simp)
 have e:ix (fun _:Bs=>false) []= -1:=rfl
 have d1:decide ((-1:Int)= -1)=true:=rfl
 rw[e] at h0
 have hs:af [AV.sl 1 [] (.exact 0),.clo (.func g) [] caps] [.sl 1 (strs []) .any,.clo (.func g) [] caps]:=af.cons ab.cap (af.refl _)
 refine an1 d1 h0 ?_
 refine aJ ?_
 exact ab.cap
theorem qm (l:List Sp) (hl:l.length≤4611686018427387904):aA Tryz.prog 92 [.sl 1 [] (.exact 0),.sl 2 (sps l) .any] (bU (dg [] l)):=by
 refine f92.aD (by simp) (by simp[al,av,aG,cG]) (gl _) ?_
 unfold c92
 simp only[C.zz]
 refine Wp.aw xA1 (by trivial) ?_
 refine Wp.frz (fun j=>j == 0) [(0,.sl 1 [] (.exact 0)),(3,.ref [.sl 2 (sps l) .any]),(4,.ptr 1 0)] ⟨upd ag 1 (some (.cells [.sl 1 [] (.exact 0),.sl 2 [] (.exact 0)])),2,[],0⟩ ?_ ?_ (by simp) (by simp[go_sem]) (Nat.le_refl _) ?_
 ·simp only[aC,go_sem,reduceIte,Nat.reduceEqDiff,unT,and_true,beq_self_eq_true,Nat.reduceBEq,Bool.false_eq_true]
  and_intros<;>exact ab.refl _
 ·intro j o h
  show ∃o',_∧cq o' o
  refine ⟨o,?_,cq.refl o⟩
  simp only[upd,ag] at h
  split at h
  ·rename_i e;subst e;cases h;simp[H.drop,upd]
  ·cases h
 by_cases b2:l.length≤64
 ·have d1:decide ((64:Int)<((0:Nat):Int))=false:=rfl
  have d2:decide ((64:Int)<(l.length:Int))=false:=decide_eq_false (by omega)
  refine an1 (cj3 d1 d2 @az) (xR (caps:=[.ref [.sl 2 (sps l) .any]]) Tryz.func132 rfl (of_decide_eq_true (by kernel_rfl)) (by simp[al,av,aG,cG])) ?_
  refine aJ ?_
  simp only[dg,List.filter_nil,List.length_nil,Nat.zero_le,decide_true,b2,Bool.and_self,if_true]
  exact ab.refl _
 ·have d1:decide ((64:Int)<((0:Nat):Int))=false:=rfl
  have d2:decide ((64:Int)<(l.length:Int))=true:=decide_eq_true (by omega)
  refine an1 (cj3 d1 d2 @az) (xR (caps:=[.ref [.sl 2 (sps l) .any]]) Tryz.func132 rfl (of_decide_eq_true (by kernel_rfl)) (by simp[al,av,aG,cG])) ?_
  refine aJ ?_
  simp only[dg,List.filter_nil,List.length_nil,Nat.zero_le,decide_true,decide_eq_false b2,Bool.and_false,Bool.false_eq_true,if_false]
  exact fF 9
theorem lP (ks:List Bs) (hk:ks.length≤1152921504606846976) (l:List Sp) (hl:l.length≤4611686018427387904):qb Tryz.prog 92 (strs ks) ks.length [.sl 2 (sps l) .any] (bU (dg ks l)):=by
 refine f92.xm (by simp) (du _) (by simp[al,av,aG,cG]) (gl _) ?_
 unfold c92
 simp only[C.zz]
 refine Wp.aw xA1 (by trivial) ?_
 refine Wp.frz (fun j=>j == 1) [(0,.tsl 1 0 0 ks.length none),(3,.ref [.sl 2 (sps l) .any]),(4,.ptr 2 0)] ⟨upd (upd ag 0 (some (.cells (strs ks)))) 2 (some (.cells [.sl 1 [] (.exact 0),.sl 2 [] (.exact 0)])),3,[],0⟩ ?_ ?_ (by simp) (by simp[go_sem]) (Nat.le_refl _) ?_
 ·simp only[aC,go_sem,reduceIte,Nat.reduceEqDiff,unT,and_true,beq_self_eq_true,Nat.reduceBEq,Bool.false_eq_true,and_false]
  and_intros<;>exact ab.refl _
 ·intro j o h
  show ∃o',_∧cq o' o
  refine ⟨o,?_,cq.refl o⟩
  simp only[upd,ag] at h
  split at h
  ·rename_i e;subst e;cases h;simp[H.drop,H.only,upd]
  ·split at h
   ·rename_i e;subst e;cases h;simp[H.drop,H.only,upd]
   ·cases h
 refine Wp.seqItems xA1 ?_
 refine aa.nD 0 (by simp only[go_sem]) xA4 (CO ks hk (aR l) (caps:=[.ref [.sl 2 (sps l) .any]]) Tryz.func132 rfl (of_decide_eq_true (by kernel_rfl)) (by simp[al,av,aG,cG]) (fun c _=>zT l hl c)) (by simp[upd]) (by simp) ?_
 refine aa.eval xA1 ?_
 refine aa.nil ⟨by trivial,?_⟩
 have hf:(ks.filter fun x=> !aR l x).length≤ks.length:=List.length_filter_le _ _
 generalize hg:ks.filter (fun x=> !aR l x)=k2 at hf
 have hB:dg ks l=if decide (k2.length≤64)&&decide (l.length≤64) then (k2,l,0) else ([],[],9):=by rw[dg,hg]
 rw[hB]
 by_cases b1:k2.length≤64
 ·have d1:decide ((64:Int)<(k2.length:Int))=false:=decide_eq_false (by omega)
  by_cases b2:l.length≤64
  ·have d2:decide ((64:Int)<(l.length:Int))=false:=decide_eq_false (by omega)
   refine an0 (cj4 d1 d2 @az @ao) ?_
   refine Wp.ret ⟨trivial,_,rfl,?_⟩
   simp only[go_sem,reduceIte,Nat.reduceEqDiff,Nat.reduceAdd,bx,unT,eB]
   simp only[b1,b2,decide_true,Bool.and_self,if_true]
   exact ab.refl _
  ·have d2:decide ((64:Int)<(l.length:Int))=true:=decide_eq_true (by omega)
   refine an0 (cj4 d1 d2 @az @ao) ?_
   refine Wp.ret ⟨trivial,_,rfl,?_⟩
   simp only[go_sem,reduceIte,Nat.reduceEqDiff,Nat.reduceAdd,bx,unT,eB]
   simp only[decide_eq_false b2,Bool.and_false,Bool.false_eq_true,if_false]
   exact fF 9
 ·have d1:decide ((64:Int)<(k2.length:Int))=true:=decide_eq_true (by omega)
  refine an0 (cj3 d1 @az @ao) ?_
  refine Wp.ret ⟨trivial,_,rfl,?_⟩
  simp only[go_sem,reduceIte,Nat.reduceEqDiff,Nat.reduceAdd,bx,unT,eB]
  simp only[decide_eq_false b1,Bool.false_and,Bool.false_eq_true,if_false]
  exact fF 9
theorem rising {k:List Bs} {l:List Sp} (h:nJ k l=true) {i:Nat}:∀{j},i<j→j<k.length→Op.bytesLess (k.getD i []) (k.getD j [])=true
 |0,hij,_=>absurd hij (by omega)
 |j+1,hij,hj=>by
  have h1:=List.all_eq_true.1 h (j+1) (List.mem_range.2 hj)
  simp only[kOk,Nat.add_sub_cancel,Bool.and_eq_true,Bool.or_eq_true,decide_eq_true_eq] at h1
  have h2:Op.bytesLess (k.getD j []) (k.getD (j+1) [])=true:=by
   rcases h1.1 with e|e
   ·omega
   ·exact e
  by_cases e:i=j
  ·subst e;exact h2
  ·exact bz (rising h (i:=i) (j:=j) (by omega) (by omega)) h2
def place (k:List Bs) (key:Bs):Nat:=k.findIdx fun x=> !Op.bytesLess x key
def there (k:List Bs) (key:Bs):Bool:=decide (place k key<k.length)&&decide (k.getD (place k key) []=key)
theorem kX (k:List Bs) (key:Bs):place k key≤k.length:=List.findIdx_le_length
theorem nR {k:List Bs} {key:Bs} {i:Nat} (h:i<place k key):Op.bytesLess (k.getD i []) key=true:=by
 have hl:i<k.length:=Nat.lt_of_lt_of_le h (kX k key)
 have:=List.not_of_lt_findIdx h
 rw[ar hl]
 simpa using this
theorem nS {k:List Bs} {l:List Sp} {key:Bs} (hk:nJ k l=true) {i:Nat} (h:place k key≤i) (hl:i<k.length):Op.bytesLess (k.getD i []) key=false:=by
 have hp:place k key<k.length:=Nat.lt_of_le_of_lt h hl
 have h1:Op.bytesLess (k.getD (place k key) []) key=false:=by
  have:=List.findIdx_getElem (p:=fun x=> !Op.bytesLess x key) (xs:=k) (w:=hp)
  rw[ar hp]
  have h2:(!Op.bytesLess (k[place k key]'hp) key)=true:=this
  simpa using h2
 by_cases e:i=place k key
 ·rw[e];exact h1
 ·have h2:=rising hk (i:=place k key) (j:=i) (by omega) hl
  cases hc:Op.bytesLess (k.getD i []) key with
  |false=>rfl
  |true=>rw[bz h2 hc] at h1;cases h1
theorem nT {k:List Bs} {l:List Sp} (hk:nJ k l=true) (hl:k.length≤64) (key:Bs):aA Tryz.prog 89 [.sl 1 (strs k) .any,.str key] (.tup [.int .i64 (place k key),.bool (there k key)]):=
 lM k (by omega) key (place k key) (kX k key) (fun i h=>nR h) (fun i h hi=>nS hk h hi)
def ja (k:List Bs) (key:Bs):List Bs:=if there k key then k else k.take (place k key)++key::k.drop (place k key)
def eo (k:List Bs) (l:List Sp) (key:Bs):List Bs × List Sp × Int:=if bg k l then dg (ja k key) l else ([],[],4)
theorem tx (l:List Bs):(strs l).flatMap cellsOf=strs l:=by
 induction l with
 |nil=>rfl
 |cons s l ih=>simp only[strs,List.map_cons,List.flatMap_cons] at ih ⊢;rw[ih];rfl
theorem rL (l:List Bs):(strs l).all shaped=true:=by
 simp[strs,shaped,cx]
theorem jx (k:List Bs) (h0:k≠[]) (hl:k.length≤1000000) (n m:Nat):bn Tryz.prog 61 [.sl 1 (strs k) .any] (H0 n m) (.tsl 1 n 0 k.length none) (.only (upd ag n (some (.cells (strs k)))) [] (n+1) m):=by
 cases k with
 |nil=>exact absurd rfl h0
 |cons s k=>
  have:=s6 (sz:=1) (bytes:=16) f61 (.str s) (strs k) (rL (s::k)) (by rw[ao];simp only[List.length_cons] at hl;omega) (by rw[ao];simp only[List.length_cons] at hl;omega) n m
  rw[ao] at this
  have e:(AV.str s::strs k).flatMap cellsOf=strs (s::k):=tx (s::k)
  rw[e] at this
  exact this
theorem jy (l:List Sp) (hl:l.length≤1000000):aA Tryz.prog 62 [.sl 2 (sps l) .any] (.sl 2 (sps l) .any):=
 jL (sz:=2) (bytes:=32) f62 (sps l) (cG l) (by rw[az];omega) (by rw[az];omega)
theorem dh {k:List Bs} {l:List Sp} (h:bg k l=true):k.length≤64∧l.length≤64∧mF l=true∧nJ k l=true:=by
 simp only[bg,Bool.and_eq_true,decide_eq_true_eq] at h
 exact ⟨h.1.1.1,h.1.1.2,h.1.2,h.2⟩
theorem CQ (k:List Bs) (l:List Sp) (key:Bs):aA Tryz.prog 47 [bT k l,.str key] (bU (eo k l key)):=by
 refine f47.um (by simp) (by simp[al,cJ,av]) (gl _) ?_
 unfold c47
 simp only[C.zz]
 have hck:=fY k l
 cases hc:bg k l with
 |false=>
  rw[hc] at hck
  simp only[Bool.false_eq_true,if_false] at hck
  have d1:decide ((4:Int)=0)=false:=rfl
  refine an1 (cj2 @bT.eq_1 d1) hck ?_
  refine Wp.ret ⟨trivial,_,rfl,?_⟩
  simp only[go_sem,reduceIte,Nat.reduceEqDiff,Nat.reduceAdd,bx,unT,eB]
  simp only[eo,hc,Bool.false_eq_true,if_false]
  exact fF 4
 |true=>
  rw[hc] at hck
  simp only[if_true] at hck
  have d1:decide ((0:Int)=0)=true:=rfl
  obtain ⟨b1,b2,b3,b4⟩:=dh hc
  have hse:=nT b4 b1 key
  have hpl:=kX k key
  rw[show eo k l key=dg (ja k key) l by simp[eo,hc]]
  refine an1 (cj2 @bT.eq_1 d1) hck ?_
  by_cases hk0:k=[]
  ·subst hk0
   refine aa.bF (by simp only[go_sem]) xA4 (gy (sz:=1) (bytes:=16) f61) ?_
   refine aa.eval xA1 ?_
   refine aa.nil ⟨by trivial,?_⟩
   refine Wp.seq ?_
   refine Wp.seqItems xA1 ?_
   refine aa.bF (by simp only[go_sem]) (by simp only[go_sem,reduceIte,Nat.reduceEqDiff,List.map];exact af.cons ab.cap (af.refl _)) hse ?_
   refine aa.eval xA1 ?_
   refine aa.nil ⟨by trivial,?_⟩
   have ht:there [] key=false:=rfl
   have hp0:place [] key=0:=rfl
   have e:ja [] key=[key]:=rfl
   rw[e,ht,hp0]
   refine Wp.aw xA1 (by trivial) ?_
   refine Wp.cond_true xA2 ?_
   refine Wp.vF ?_
   refine fv ?_
   refine fv ?_
   refine fv ?_
   refine aQ.opT xA2 (by simp only[fX,go_sem,reduceIte,Nat.reduceEqDiff,Nat.reduceAdd,bx,List.all_cons,List.all_nil,List.length_cons,List.length_nil,Nat.reduceMul,Nat.reduceLeDiff,and_self,if_true,decide_true,Bool.and_self];exact rfl) ?_
   refine aQ.eR (by simp only[go_sem]) xA4 (nL key (id2:=2) (h:= .only (upd ag 2 (some (.cells [.str key]))) [] 3 0) (by simp[H.only,upd]) rfl) (iJ _ (id:=2) (ob:= .cells [.str key]) (by simp[upd,cellsOf]) (by simp)) ?_
   refine fv ?_
   refine aa.toN (log:=[]) (aa.nil ?_)
   refine Wp.seqItems (by simp only[go_sem,reduceIte,Nat.reduceEqDiff,Nat.reduceAdd,bx,H.aZ];exact rfl) ?_
   refine aa.bF xA2 (by simp only[go_sem,reduceIte,Nat.reduceEqDiff,Nat.reduceAdd,bx,List.map];exact af.refl _) (jy l (by omega)) ?_
   refine aa.eval xA1 ?_
   refine aa.nD 3 (by simp only[go_sem]) xA4 (lP [key] (by simp) l (by omega)) (by simp[upd]) (by simp) ?_
   refine aa.eval (by simp only[go_sem,reduceIte,Nat.reduceEqDiff,Nat.reduceAdd,bx,bU,bT];exact rfl) ?_
   refine aa.nil ⟨by trivial,?_⟩
   refine Wp.ret ⟨trivial,_,rfl,?_⟩
   simp only[go_sem,reduceIte,Nat.reduceEqDiff,Nat.reduceAdd,bx,unT,eB]
   exact ab.refl _
  ·refine aa.eR (by simp only[go_sem]) xA4 (jx k hk0 (by omega) _ _) (dL _ _) ?_
   refine aa.eval xA1 ?_
   refine aa.nil ⟨by trivial,?_⟩
   refine Wp.seq ?_
   refine Wp.seqItems xA1 ?_
   have look:iI Tryz.prog 89 [.tsl 1 2 0 k.length none,.str key] (upd ag 2 (some (.cells (strs k)))) (.tup [.int .i64 (place k key),.bool (there k key)]):=by
    have:=hse.look (fun G G' w v h=>by simpa only[ah,aq] using h) none 2
    rwa [ao] at this
   refine aa.ji [2] (by simp only[go_sem]) xA4 (fun id o h=>by simp only[upd,ag] at h ⊢;split at h<;>simp_all) (fun id h=>by simp only[upd,ag] at h;split at h<;>simp_all) look ?_
   refine aa.eval xA1 ?_
   refine aa.nil ⟨by trivial,?_⟩
   cases ht:there k key with
   |true=>
    have e:ja k key=k:=by simp[ja,ht]
    rw[e]
    refine an0 ht ?_
    refine aa.bF xA2 (by simp only[go_sem,reduceIte,Nat.reduceEqDiff,Nat.reduceAdd,bx,List.map];exact af.refl _) (jy l (by omega)) ?_
    refine aa.eval xA1 ?_
    refine aa.nD 2 (by simp only[go_sem]) xA4 (lP k (by omega) l (by omega)) (by simp[upd]) (by simp) ?_
    refine aa.eval (by simp only[go_sem,reduceIte,Nat.reduceEqDiff,Nat.reduceAdd,bx,bU,bT];exact rfl) ?_
    refine aa.nil ⟨by trivial,?_⟩
    refine Wp.ret ⟨trivial,_,rfl,?_⟩
    simp only[go_sem,reduceIte,Nat.reduceEqDiff,Nat.reduceAdd,bx,unT,eB]
    exact ab.refl _
   |false=>
    have e:ja k key=k.take (place k key)++key::k.drop (place k key):=by simp[ja,ht]
    rw[e]
    have hpos:0<k.length:=List.length_pos_iff.2 hk0
    have hln:(k.take (place k key)++key::k.drop (place k key)).length=k.length+1:=by
     simp only[List.length_append,List.length_cons,List.length_take,List.length_drop];omega
    refine Wp.aw xA1 (by trivial) ?_
    refine Wp.cond_true xA2 ?_
    refine Wp.vF ?_
    refine fv ?_
    refine fv ?_
    refine fv ?_
    refine aQ.opT xA2 (by simp only[fX,go_sem,reduceIte,Nat.reduceEqDiff,Nat.reduceAdd,bx,List.all_cons,List.all_nil,List.length_cons,List.length_nil,Nat.reduceMul,Nat.reduceLeDiff,and_self,if_true,decide_true,Bool.and_self];exact rfl) ?_
    refine aQ.eR (by simp only[go_sem]) xA4 (nK k (place k key) key hpl (by omega) hpos (id:=2) (id2:=3) (h:= .only (upd (upd ag 2 (some (.cells (strs k)))) 3 (some (.cells [.str key]))) [] 4 0) (by decide) (by simp[H.only,upd]) (by simp[H.only,upd]) rfl) (jm _ (id:=2) (id2:=3) (ob:= .cells (strs k)) (ob2:= .cells [.str key]) (by simp[upd]) (by simp[upd,cellsOf]) (by decide) (by simp) (by simp)) ?_
    refine fv ?_
    refine aa.toN (log:=[]) (aa.nil ?_)
    refine Wp.seqItems (by simp only[go_sem,reduceIte,Nat.reduceEqDiff,Nat.reduceAdd,bx,H.aZ];exact rfl) ?_
    refine aa.bF xA2 (by simp only[go_sem,reduceIte,Nat.reduceEqDiff,Nat.reduceAdd,bx,List.map];exact af.refl _) (jy l (by omega)) ?_
    refine aa.eval xA1 ?_
    have hmd:=lP (k.take (place k key)++key::k.drop (place k key)) (by omega) l (by omega)
    rw[hln] at hmd
    refine aa.nD 4 (by simp only[go_sem]) xA4 hmd (by simp[upd]) (by simp) ?_
    refine aa.eval (by simp only[go_sem,reduceIte,Nat.reduceEqDiff,Nat.reduceAdd,bx,bU,bT];exact rfl) ?_
    refine aa.nil ⟨by trivial,?_⟩
    refine Wp.ret ⟨trivial,_,rfl,?_⟩
    simp only[go_sem,reduceIte,Nat.reduceEqDiff,Nat.reduceAdd,bx,unT,eB]
    exact ab.refl _
structure SS where
 x:Sp
 laid:Bool
 out:List Sp
def cb (s:SS) (y:Sp):SS:=
 if bc y s.x=true then ⟨s.x,s.laid,s.out++[y]⟩
 else if bc s.x y=false then ⟨fJ s.x y,s.laid,s.out⟩
 else if s.laid=false then ⟨s.x,true,s.out++[s.x]++[y]⟩ else ⟨s.x,true,s.out++[y]⟩
def lQ (l:List Sp) (x:Sp):SS:=l.foldl cb ⟨x,false,[]⟩
def di (l:List Sp) (x:Sp):List Sp:=if (lQ l x).laid=true then (lQ l x).out else (lQ l x).out++[(lQ l x).x]
def cu (k:List Bs) (l:List Sp) (x:Sp):List Bs × List Sp × Int:=if bg k l then dg k (if hasB x=true then di l x else l) else ([],[],4)
theorem xS {g:Nat→Option Av.Obj} {A B:Av.Obj} (h1:g 1=some A) (h2:g 2=some B):OLe g (upd (upd ag 1 (some A)) 2 (some B)):=OLe.put (OLe.at h1) h2 (cq.refl _)
abbrev BJ:Av.Obj:= .cells [.sl 1 [] (.exact 0),.sl 2 [] (.exact 0)]
def hS (x:Sp) (tk n m:Nat):H:=⟨upd (upd ag 1 (some BJ)) 2 (some (.cells [.str x.f,.str x.t])),n,[tk],m⟩
theorem mZ {a:Nat} (h:a≤128):((a+1)*32≤140737488355328∧a+1<4611686018427387904)∧(a+1+1)*32≤140737488355328∧a+1+1<4611686018427387904:=by omega
set_option maxHeartbeats 1000000 in
theorem BK (k:List Bs) (l:List Sp) (x:Sp):aA Tryz.prog 52 [bT k l,.str x.f,.str x.t] (bU (cu k l x)):=by
 refine f52.um (by simp) (by simp[al,cJ,av]) (gl _) ?_
 unfold c52
 simp only[C.zz]
 have hck:=fY k l
 refine Wp.aw (by simp only[go_sem,reduceIte,Nat.reduceEqDiff,Nat.reduceAdd,bx,bT];exact rfl) (by trivial) ?_
 refine Wp.frz (fun j=>j == 0) [(1,.str x.f),(2,.str x.t),(3,.ref [.sl 1 (strs k) .any,.sl 2 (sps l) .any]),(6,.ptr 1 0)] ⟨upd ag 1 (some BJ),2,[],0⟩ ?_ ?_ (by simp) (by simp[go_sem]) (Nat.le_refl _) ?_
 ·simp only[aC,go_sem,reduceIte,Nat.reduceEqDiff,unT,and_true,beq_self_eq_true,Nat.reduceBEq,Bool.false_eq_true]
  and_intros<;>exact ab.refl _
 ·intro j o h
  show ∃o',_∧cq o' o
  refine ⟨o,?_,cq.refl o⟩
  simp only[upd,ag] at h
  split at h
  ·rename_i e;subst e;cases h;simp[H.drop,upd]
  ·cases h
 refine Wp.xl ?_
 cases hc:bg k l with
 |false=>
  rw[hc] at hck
  simp only[Bool.false_eq_true,if_false] at hck
  have d1:decide ((4:Int)=0)=false:=rfl
  refine an1 d1 hck ?_
  refine Wp.ret ⟨trivial,_,rfl,?_⟩
  simp only[go_sem,reduceIte,Nat.reduceEqDiff,Nat.reduceAdd,bx,unT,eB]
  simp only[cu,hc,Bool.false_eq_true,if_false]
  exact fF 4
 |true=>
  rw[hc] at hck
  simp only[if_true] at hck
  have d1:decide ((0:Int)=0)=true:=rfl
  obtain ⟨b1,b2,b3,b4⟩:=dh hc
  cases hB:hasB x with
  |false=>
   rw[show cu k l x=dg k l by simp[cu,hc,hB]]
   refine an3 (cj3 d1 hB @aX.eq_1) hck (jy l (by omega)) (pd x) ?_
   by_cases hk0:k=[]
   ·subst hk0
    refine aa.bF (by simp only[go_sem]) xA4 (gy (sz:=1) (bytes:=16) f61) ?_
    refine aa.eval xA1 ?_
    refine aa.bF xA2 (by simp only[go_sem,reduceIte,Nat.reduceEqDiff,Nat.reduceAdd,bx,List.map];exact af.refl _) (qm l (by omega)) ?_
    refine aa.eval (by simp only[go_sem,reduceIte,Nat.reduceEqDiff,Nat.reduceAdd,bx,bU,bT];exact rfl) ?_
    refine aa.nil ⟨by trivial,?_⟩
    refine Wp.ret ⟨trivial,_,rfl,?_⟩
    simp only[go_sem,reduceIte,Nat.reduceEqDiff,Nat.reduceAdd,bx,unT,eB]
    exact ab.refl _
   ·refine aa.eR (by simp only[go_sem]) xA4 (jx k hk0 (by omega) _ _) (dL _ _) ?_
    refine aa.eval xA1 ?_
    refine aa.nD 3 (by simp only[go_sem]) xA4 (lP k (by omega) l (by omega)) (by simp[upd]) (by simp) ?_
    refine aa.eval (by simp only[go_sem,reduceIte,Nat.reduceEqDiff,Nat.reduceAdd,bx,bU,bT];exact rfl) ?_
    refine aa.nil ⟨by trivial,?_⟩
    refine Wp.ret ⟨trivial,_,rfl,?_⟩
    simp only[go_sem,reduceIte,Nat.reduceEqDiff,Nat.reduceAdd,bx,unT,eB]
    exact ab.refl _
  |true=>
   rw[show cu k l x=dg k (di l x) by simp[cu,hc,hB]]
   refine an3 (cj4 d1 hB @aX.eq_1 @az) hck (jy l (by omega)) (pd x) ?_
   refine Wp.le (aU.trans (aU.tok _ _) (aU.of (f':=upd (upd ag 1 (some BJ)) 2 (some (.cells [.str x.f,.str x.t]))) (n':=3) (m':=1) (k':=[0]) (fun i=>ab.refl _) (xS (by simp[upd]) (by simp[upd])) (by simp) (by simp) (by simp))) ?_
   refine Wp.mz [3,6,9,37,38] (by simp only[go_sem,reduceIte,Nat.reduceEqDiff,List.map,az];exact rfl) (fun b:Nat × SS × Nat × Nat × Nat=>[(11,.sl 2 (sps b.2.1.out) (.own b.2.2.1)),(12,.bool b.2.1.laid),(39,.int .i64 b.1)]) (fun b=>hS b.2.1.x b.2.2.1 b.2.2.2.1 b.2.2.2.2)
    (fun b=>b.1≤l.length∧3≤b.2.2.2.1∧b.2.1=(l.take b.1).foldl cb ⟨x,false,[]⟩∧b.2.1.out.length≤2*b.1) (fun b=>l.length - b.1) (0,⟨x,false,[]⟩,0,3,1) ⟨by simp,by simp,rfl,by simp⟩ rfl ?_ ?_
   ·simp only[aC,go_sem,reduceIte,Nat.reduceEqDiff,Nat.reduceAdd,bx];and_intros<;>first|exact trivial|exact ab.refl _|exact ab.any _|exact ab.eL rfl|(refine ab.int ?_;omega)
   rintro ⟨j,s,tk,n,m⟩ ⟨h1,h2,h3,h4⟩
   simp only at h1 h2 h3 h4
   have n1:¬(n=1):=by omega
   have n1':¬(1=n):=by omega
   have n2:¬(n=2):=by omega
   have n2':¬(2=n):=by omega
   by_cases hj:j<l.length
   ·have g1:decide ((j:Int)<(l.length:Int))=true:=decide_eq_true (by omega)
    have q1:(0:Int)≤(j:Int):=by omega
    have q2:(j:Int)<(l.length:Int):=by omega
    have e1:IntKind.i64.wrap ((j:Int)+1)=((j+1:Nat):Int):=by rw[IntWalk.i64_in _ (by omega)];omega
    have hst:(l.take (j+1)).foldl cb ⟨x,false,[]⟩=cb s (l.getD j default):=by
     rw[List.take_succ_eq_append_getElem hj,List.foldl_append,←h3,ar hj];rfl
    obtain ⟨⟨r0,r0'⟩,r1,r1'⟩:=mZ (a:=s.out.length) (by omega)
    generalize hy:l.getD j default=y at hst
    unfold hS
    cases ha:bc y s.x with
    |true=>
     have hs:cb s y=⟨s.x,s.laid,s.out++[y]⟩:=by simp[cb,ha]
     refine an1 (bD g1 q1 q2 e1 n1 n1' n2 n2' @az @Int.toNat_natCast (fun d=>bt _ _ d hj) (cj5 hy @aX.eq_1 ha r0 r0')) (fZ y s.x) ?_
     refine ⟨(j+1,⟨s.x,s.laid,s.out++[y]⟩,m,n+1,m+1),⟨hj,by simp only;omega,by simp only;rw[hst,hs],by simp only[List.length_append,List.length_singleton];clear r0 r1;omega⟩,by simp only;omega,?_⟩
     refine aU.tmN (Nat.le_refl _) (xS (by simp[upd,n1']) (by simp[upd,n2'])) ?_
     simp only[aC,go_sem,reduceIte,Nat.reduceEqDiff,Nat.reduceAdd,bx];and_intros<;>first|exact trivial|exact ab.refl _|exact ab.any _|exact ab.of_eq (by simp[sps,aX])|(refine ab.int ?_;omega)
    |false=>
     cases hb:bc s.x y with
     |false=>
      have hs:cb s y=⟨fJ s.x y,s.laid,s.out⟩:=by simp[cb,ha,hb]
      refine an3 (bD g1 q1 q2 e1 n1 n1' n2 n2' @az @Int.toNat_natCast (fun d=>bt _ _ d hj) (cj4 hy @aX.eq_1 ha hb)) (fZ y s.x) (fZ s.x y) (xD s.x y) ?_
      refine ⟨(j+1,⟨fJ s.x y,s.laid,s.out⟩,tk,n+1,m),⟨hj,by simp only;omega,by simp only;rw[hst,hs],by simp only;clear r0 r1;omega⟩,by simp only;omega,?_⟩
      refine aU.tmN (Nat.le_refl _) (xS (by simp[upd,n1']) (by simp[upd,n2'])) ?_
      exact xSb
     |true=>
      cases hl:s.laid with
      |true=>
       have hs:cb s y=⟨s.x,true,s.out++[y]⟩:=by simp[cb,ha,hb,hl]
       refine an2 (bD g1 q1 q2 e1 n1 n1' n2 n2' @az @Int.toNat_natCast (fun d=>bt _ _ d hj) (cj7 hy @aX.eq_1 ha hb hl r0 r0')) (fZ y s.x) (fZ s.x y) ?_
       refine ⟨(j+1,⟨s.x,true,s.out++[y]⟩,m,n+1,m+1),⟨hj,by simp only;omega,by simp only;rw[hst,hs],by simp only[List.length_append,List.length_singleton];clear r0 r1;omega⟩,by simp only;omega,?_⟩
       refine aU.tmN (Nat.le_refl _) (xS (by simp[upd,n1']) (by simp[upd,n2'])) ?_
       simp only[aC,go_sem,reduceIte,Nat.reduceEqDiff,Nat.reduceAdd,bx];and_intros<;>first|exact trivial|exact ab.refl _|exact ab.any _|exact ab.of_eq (by simp[sps,aX])|(refine ab.int ?_;omega)
      |false=>
       have hs:cb s y=⟨s.x,true,s.out++[s.x]++[y]⟩:=by simp[cb,ha,hb,hl]
       refine an2 (bD g1 q1 q2 e1 n1 n1' n2 n2' @az @Int.toNat_natCast (fun d=>bt _ _ d hj) (cj9 hy @aX.eq_1 ha hb hl r0 r0' r1 r1')) (fZ y s.x) (fZ s.x y) ?_
       refine ⟨(j+1,⟨s.x,true,s.out++[s.x]++[y]⟩,m+1,n+1,m+1+1),⟨hj,by simp only;omega,by simp only;rw[hst,hs],by simp only[List.length_append,List.length_singleton];clear r0 r1;omega⟩,by simp only;omega,?_⟩
       refine aU.tmN (Nat.le_refl _) (xS (by simp[upd,n1']) (by simp[upd,n2'])) ?_
       simp only[aC,go_sem,reduceIte,Nat.reduceEqDiff,Nat.reduceAdd,bx];and_intros<;>first|exact trivial|exact ab.refl _|exact ab.any _|exact ab.of_eq (by simp[sps,aX])|(refine ab.int ?_;omega)
   ·obtain rfl:j=l.length:=by omega
    have g1:decide ((l.length:Int)<(l.length:Int))=false:=decide_eq_false (by omega)
    have hgo:lQ l x=s:=by rw[h3,List.take_length];rfl
    obtain ⟨⟨r0,r0'⟩,-⟩:=mZ (a:=s.out.length) (by omega)
    have hk9:k.length≤1000000:=by clear r0;omega
    have hl9:(di l x).length≤1000:=by
     unfold di
     rw[hgo]
     split
     ·clear r0;omega
     ·simp only[List.length_append,List.length_singleton];clear r0;omega
    have hk8:k.length≤1152921504606846976:=Nat.le_trans hk9 (by decide)
    have hl8:(di l x).length≤4611686018427387904:=Nat.le_trans hl9 (by decide)
    unfold hS
    cases hl:s.laid with
    |true=>
     have hsp:di l x=s.out:=by simp[di,hgo,hl]
     refine an0 (cj2 g1 hl) ?_
     by_cases hk0:k=[]
     ·subst hk0
      refine aa.bF (by simp only[go_sem]) xA4 (gy (sz:=1) (bytes:=16) f61) ?_
      refine aa.eval xA1 ?_
      rw[hsp] at hl8 ⊢
      refine aa.bF xA2 (by simp only[go_sem,reduceIte,Nat.reduceEqDiff,Nat.reduceAdd,bx,List.map];exact af.cons (ab.refl _) (af.cons ab.cap af.nil)) (qm s.out hl8) ?_
      refine aa.eval (by simp only[go_sem,reduceIte,Nat.reduceEqDiff,Nat.reduceAdd,bx,bU,bT,n1',n1];exact rfl) ?_
      refine aa.nil ⟨by trivial,?_⟩
      refine Wp.ret ⟨trivial,_,rfl,?_⟩
      simp only[go_sem,reduceIte,Nat.reduceEqDiff,Nat.reduceAdd,bx,unT,eB,n1',n1]
      exact ab.refl _
     ·refine aa.eR (by simp only[go_sem]) xA4 (jx k hk0 hk9 _ _) (dL _ _) ?_
      refine aa.eval xA1 ?_
      rw[hsp] at hl8 ⊢
      refine aa.nD n (by simp only[go_sem]) (by simp only[go_sem,reduceIte,Nat.reduceEqDiff,List.map];exact af.cons (ab.refl _) (af.cons ab.cap af.nil)) (lP k hk8 s.out hl8) (by simp[upd]) (by simp) ?_
      refine aa.eval (by simp only[go_sem,reduceIte,Nat.reduceEqDiff,Nat.reduceAdd,bx,bU,bT,n1',n1];exact rfl) ?_
      refine aa.nil ⟨by trivial,?_⟩
      refine Wp.ret ⟨trivial,_,rfl,?_⟩
      simp only[go_sem,reduceIte,Nat.reduceEqDiff,Nat.reduceAdd,bx,unT,eB,n1',n1]
      exact ab.refl _
    |false=>
     have hsp:di l x=s.out++[s.x]:=by simp[di,hgo,hl]
     have hcap:ab (.sl 2 (sps s.out++[.agg [.str s.x.f,.str s.x.t]]) (.own m)) (.sl 2 (sps (s.out++[s.x])) .any):=(ab.of_eq (y:= .sl 2 (sps (s.out++[s.x])) (.own m)) (by simp[sps,aX])).trans ab.cap
     refine an0 (cj6 g1 hl @az @aX.eq_1 r0 r0') ?_
     by_cases hk0:k=[]
     ·subst hk0
      refine aa.bF (by simp only[go_sem]) xA4 (gy (sz:=1) (bytes:=16) f61) ?_
      refine aa.eval xA1 ?_
      rw[hsp] at hl8 ⊢
      refine aa.bF xA2 (by simp only[go_sem,reduceIte,Nat.reduceEqDiff,Nat.reduceAdd,bx,List.map];exact af.cons (ab.refl _) (af.cons hcap af.nil)) (qm (s.out++[s.x]) hl8) ?_
      refine aa.eval (by simp only[go_sem,reduceIte,Nat.reduceEqDiff,Nat.reduceAdd,bx,bU,bT,n1',n1];exact rfl) ?_
      refine aa.nil ⟨by trivial,?_⟩
      refine Wp.ret ⟨trivial,_,rfl,?_⟩
      simp only[go_sem,reduceIte,Nat.reduceEqDiff,Nat.reduceAdd,bx,unT,eB,n1',n1]
      exact ab.refl _
     ·refine aa.eR (by simp only[go_sem]) xA4 (jx k hk0 hk9 _ _) (dL _ _) ?_
      refine aa.eval xA1 ?_
      rw[hsp] at hl8 ⊢
      refine aa.nD n (by simp only[go_sem]) (by simp only[go_sem,reduceIte,Nat.reduceEqDiff,List.map];exact af.cons (ab.refl _) (af.cons hcap af.nil)) (lP k hk8 (s.out++[s.x]) hl8) (by simp[upd]) (by simp) ?_
      refine aa.eval (by simp only[go_sem,reduceIte,Nat.reduceEqDiff,Nat.reduceAdd,bx,bU,bT,n1',n1];exact rfl) ?_
      refine aa.nil ⟨by trivial,?_⟩
      refine Wp.ret ⟨trivial,_,rfl,?_⟩
      simp only[go_sem,reduceIte,Nat.reduceEqDiff,Nat.reduceAdd,bx,unT,eB,n1',n1]
      exact ab.refl _
theorem CR {a b c:Bs} (h1:Op.bytesLess b a=false) (h2:Op.bytesLess b c=true):Op.bytesLess a c=true:=by
 rcases cN a b with h|h|h
 ·exact bz h h2
 ·rw[h];exact h2
 ·rw[h1] at h;cases h
def NF (l:List Sp):Prop:=(∀s∈l,hasB s=true)∧l.Pairwise fun a b=>bc a b=true
theorem lR {a b:Sp}:bc a b=true↔a.t≠[]∧Op.bytesLess a.t b.f=true:=by simp[bc]
theorem kY {a:Sp}:hasB a=true↔a.t=[]∨Op.bytesLess a.f a.t=true:=by simp[hasB]
theorem nb {a:Sp} {k:Bs}:fz a k=true↔Op.bytesLess k a.f=false∧(a.t=[]∨Op.bytesLess k a.t=true):=by simp[fz]
theorem fM {a b c:Sp} (h1:bc a b=true) (h2:hasB b=true) (h3:bc b c=true):bc a c=true:=by
 rw[lR] at*
 rw[kY] at h2
 refine ⟨h1.1,?_⟩
 rcases h2 with h2|h2
 ·exact absurd h2 h3.1
 ·exact bz (bz h1.2 h2) h3.2
theorem pq {l:List Sp} (h:mF l=true):NF l:=by
 have h1:∀i,i<l.length→hasB (l.getD i default)=true∧(i=0∨bc (l.getD (i - 1) default) (l.getD i default)=true):=by
  intro i hi
  have:=List.all_eq_true.1 h i (List.mem_range.2 hi)
  simpa [jr] using this
 refine ⟨fun s hs=>?_,?_⟩
 ·obtain ⟨i,hi,rfl⟩:=List.mem_iff_getElem.1 hs
  have:=(h1 i hi).1
  rwa [ar hi] at this
 ·rw[List.pairwise_iff_getElem]
  intro i j hi hj hij
  induction j with
  |zero=>omega
  |succ j ih=>
   have h2:=(h1 (j+1) hj).2
   rw[Nat.add_sub_cancel] at h2
   have h3:bc (l[j]'(by omega)) l[j+1]=true:=by
    rcases h2 with h2|h2
    ·omega
    ·rwa [ar hj,ar (by omega)] at h2
   by_cases e:i=j
   ·subst e;exact h3
   ·have h4:=(h1 j (by omega)).1
    rw[ar (by omega)] at h4
    exact fM (ih (by omega) (by omega)) h4 h3
theorem CS {l:List Sp} (h:NF l):mF l=true:=by
 refine eI fun i hi=>?_
 simp only[jr,Bool.and_eq_true,Bool.or_eq_true,decide_eq_true_eq]
 refine ⟨by rw[ar hi];exact h.1 _ (List.getElem_mem hi),?_⟩
 by_cases h0:i=0
 ·exact .inl h0
 ·right
  rw[ar hi,ar (by omega)]
  exact List.pairwise_iff_getElem.1 h.2 _ _ _ _ (by omega)
theorem xU {x y:Sp} (hx:hasB x=true) (hy:hasB y=true) (h1:bc x y=false) (h2:bc y x=false) (q:Bs):fz (fJ x y) q=(fz x q||fz y q):=by
 have a1:x.t=[]∨Op.bytesLess x.t y.f=false:=by
  have:=h1;simp only[bc,Bool.and_eq_false_iff,Bool.not_eq_false',decide_eq_true_eq] at this;exact this
 have a2:y.t=[]∨Op.bytesLess y.t x.f=false:=by
  have:=h2;simp only[bc,Bool.and_eq_false_iff,Bool.not_eq_false',decide_eq_true_eq] at this;exact this
 rw[kY] at hx hy
 refine Bool.eq_iff_iff.2 ?_
 rw[Bool.or_eq_true,nb,nb,nb]
 obtain ⟨xf,xt⟩:=x
 obtain ⟨yf,yt⟩:=y
 simp only[fJ] at*
 clear h1 h2
 by_cases c1:xt=[] <;>by_cases c2:yt=[]
 all_goals
  grind [bz,bk,cN]
theorem rM {x y:Sp} (hx:hasB x=true) (hy:hasB y=true):hasB (fJ x y)=true:=by
 rw[kY] at*
 obtain ⟨xf,xt⟩:=x
 obtain ⟨yf,yt⟩:=y
 simp only[fJ] at*
 by_cases c1:xt=[] <;>by_cases c2:yt=[]
 all_goals
  grind [bz,bk,cN]
theorem tz {o x y:Sp} (h1:bc o x=true) (h2:bc o y=true):bc o (fJ x y)=true:=by
 rw[lR] at*
 refine ⟨h1.1,?_⟩
 simp only[fJ]
 split
 ·exact h1.2
 ·exact h2.2
theorem uE {l:List Sp} {x:Sp} (h:NF l) (hx:hasB x=true) (ha:∀o∈l,bc o x=true):NF (l++[x]):=by
 refine ⟨fun s hs=>?_,?_⟩
 ·rcases List.mem_append.1 hs with hs|hs
  ·exact h.1 s hs
  ·rw[List.mem_singleton.1 hs];exact hx
 ·rw[List.pairwise_append]
  exact ⟨h.2,List.pairwise_singleton _ _,fun a ha' b hb=>by rw[List.mem_singleton.1 hb];exact ha a ha'⟩
theorem vP {l r:List Sp} (h:NF l) (hr:NF r) (ha:∀o∈l,∀z∈r,bc o z=true):NF (l++r):=by
 refine ⟨fun s hs=>?_,?_⟩
 ·rcases List.mem_append.1 hs with hs|hs
  ·exact h.1 s hs
  ·exact hr.1 s hs
 ·rw[List.pairwise_append]
  exact ⟨h.2,hr.2,fun a ha' b hb=>ha a ha' b hb⟩
theorem qn {x:Sp} {l:List Sp} (h:NF (x::l)):NF l:=⟨fun s hs=>h.1 s (List.mem_cons_of_mem _ hs),(List.pairwise_cons.1 h.2).2⟩
theorem gE (a b:List Sp) (q:Bs):aR (a++b) q=(aR a q||aR b q):=by simp[aR,List.any_append]
theorem eZ (a:Sp) (b:List Sp) (q:Bs):aR (a::b) q=(fz a q||aR b q):=by simp[aR]
theorem jz (q:Bs):aR [] q=false:=rfl
theorem uF {x:Sp}:∀(r:List Sp) (out:List Sp),(∀z∈r,bc x z=true)→r.foldl cb ⟨x,true,out⟩=⟨x,true,out++r⟩
 |[],out,_=>by simp
 |y::r,out,h=>by
  have hy:=h y (by simp)
  have e:cb ⟨x,true,out⟩ y=⟨x,true,out++[y]⟩:=by simp[cb,hy]
  rw[List.foldl_cons,e,uF r _ (fun z hz=>h z (by simp[hz]))]
  simp
def nU (s:SS):List Sp:=if s.laid=true then s.out else s.out++[s.x]
theorem qo:∀(r:List Sp) (x:Sp) (out:List Sp),hasB x=true→NF out→(∀o∈out,bc o x=true)→NF r→(∀o∈out,∀z∈r,bc o z=true)→
  NF (nU (r.foldl cb ⟨x,false,out⟩))∧(∀q,aR (nU (r.foldl cb ⟨x,false,out⟩)) q=(aR out q||fz x q||aR r q))∧(nU (r.foldl cb ⟨x,false,out⟩)).length≤out.length+r.length+1
 |[],x,out,hx,ho,ha,_,_=>by
  refine ⟨uE ho hx ha,fun q=>?_,?_⟩
  ·show aR (out++[x]) q=_
   rw[gE,eZ,jz,Bool.or_false,Bool.or_false]
  ·show (out++[x]).length≤_
   simp
 |y::r,x,out,hx,ho,ha,hr,hz=>by
  have hy:hasB y=true:=hr.1 y (by simp)
  have hyr:∀z∈r,bc y z=true:=(List.pairwise_cons.1 hr.2).1
  have hoy:∀o∈out,bc o y=true:=fun o h=>hz o h y (by simp)
  rw[List.foldl_cons]
  cases c1:bc y x with
  |true=>
   have e:cb ⟨x,false,out⟩ y=⟨x,false,out++[y]⟩:=by simp[cb,c1]
   rw[e]
   obtain ⟨g1,g2,g3⟩:=qo r x (out++[y]) hx (uE ho hy hoy) (fun o h=>by
    rcases List.mem_append.1 h with h|h
    ·exact ha o h
    ·rw[List.mem_singleton.1 h];exact c1) (qn hr) (fun o h z hzz=>by
    rcases List.mem_append.1 h with h|h
    ·exact hz o h z (by simp[hzz])
    ·rw[List.mem_singleton.1 h];exact hyr z hzz)
   refine ⟨g1,fun q=>?_,?_⟩
   ·rw[g2,gE,eZ,eZ,jz]
    cases aR out q<;>cases fz x q<;>cases fz y q<;>rfl
   ·simp only[List.length_append,List.length_nil,List.length_cons] at g3 ⊢;omega
  |false=>
   cases c2:bc x y with
   |false=>
    have e:cb ⟨x,false,out⟩ y=⟨fJ x y,false,out⟩:=by simp[cb,c1,c2]
    rw[e]
    obtain ⟨g1,g2,g3⟩:=qo r (fJ x y) out (rM hx hy) ho (fun o h=>tz (ha o h) (hoy o h)) (qn hr) (fun o h z hzz=>hz o h z (by simp[hzz]))
    refine ⟨g1,fun q=>?_,?_⟩
    ·rw[g2,xU hx hy c2 c1,eZ]
     cases aR out q<;>cases fz x q<;>cases fz y q<;>rfl
    ·simp only[List.length_cons] at g3 ⊢;omega
   |true=>
    have e:cb ⟨x,false,out⟩ y=⟨x,true,out++[x]++[y]⟩:=by simp[cb,c1,c2]
    rw[e,uF r _ (fun z h=>fM c2 hy (hyr z h))]
    have e2:nU ⟨x,true,out++[x]++[y]++r⟩=out++(x::y::r):=by simp[nU]
    rw[e2]
    refine ⟨vP ho ⟨fun s hs=>?_,?_⟩ fun o h z hzz=>?_,fun q=>?_,?_⟩
    ·rcases List.mem_cons.1 hs with rfl|hs
     ·exact hx
     ·exact hr.1 s hs
    ·rw[List.pairwise_cons]
     refine ⟨fun z h=>?_,hr.2⟩
     rcases List.mem_cons.1 h with rfl|h
     ·exact c2
     ·exact fM c2 hy (hyr z h)
    ·rcases List.mem_cons.1 hzz with rfl|hzz
     ·exact ha o h
     ·exact hz o h z hzz
    ·rw[gE,eZ,Bool.or_assoc]
    ·simp only[List.length_append,List.length_cons];omega
theorem uG {l:List Sp} {x:Sp} (h:NF l) (hx:hasB x=true):NF (di l x)∧(∀q,aR (di l x) q=(fz x q||aR l q))∧(di l x).length≤l.length+1:=by
 have:=qo l x [] hx ⟨by simp,List.Pairwise.nil⟩ (by simp) h (by simp)
 simp only[jz,Bool.false_or,List.length_nil,Nat.zero_add] at this
 exact this
end Go.Proofs.YtpehfflehebmbaaGreat.Reads
end
section
set_option maxRecDepth 10000
namespace Go.Proofs.YtpehfflehebmbaaGreat.Txn
open Go Go.Av Go.Proofs Go.Proofs.YtpehfflehebmbaaGreat.C Go.Proofs.YtpehfflehebmbaaGreat.Batch Go.Proofs.YtpehfflehebmbaaGreat.Space Go.Proofs.YtpehfflehebmbaaGreat.Reads
def fN (S:Spc) (Y:Tx) (q:Bs):Tx × Bs × Int:=
 match bO Y.C q with
 |some c=>if c.d then (Y,[],7) else (Y,c.v,0)
 |none=>if (eE S q Y.t).2=12 then (Y,[],12) else
  if (eo Y.rk Y.rs q).2.2=0 then ({Y with rk:=(eo Y.rk Y.rs q).1,rs:=(eo Y.rk Y.rs q).2.1},(eE S q Y.t).1,(eE S q Y.t).2) else (Y,[],(eo Y.rk Y.rs q).2.2)
set_option maxHeartbeats 2000000 in
theorem BM {x s:Nat} {Y:Tx} {F:Fr} {S:Spc} {FS:Fr} (hF:TxF x s Y F) (hS:cU s S FS) (sm:jY S) (q:Bs):
  aT Tryz.prog 46 [.ref [.ptr x 0],.ref [.str q]] [F,FS] fun r L=>∃v e,r= .tup [.str v,.int .i64 e]∧(v,e)=(fN S Y q).2∧∃F',L=[F',FS]∧TxF x s (fN S Y q).1 F':=by
 obtain ⟨cm,M,K,hM,hxc,hx,hcm,hK⟩:=hF.go
 refine f46.bo (by simp) fun n m ok=>?_
 unfold c46
 simp only[C.zz]
 have fx:=ok.at0 hx
 have fc:=ok.at0 hcm
 have hxn:=ok.lt (by simp) hx
 have hcn:=ok.lt (by simp) hcm
 obtain ⟨o1,o2,o3,o4⟩:=cF hxn
 obtain ⟨p1,p2,p3,p4⟩:=cF hcn
 have hl:=pn true q M
 unfold nQ at hl
 simp only[cQ,if_true] at hl
 refine Wp.aw (by simp only[go_sem,reduceIte,Nat.reduceEqDiff];exact rfl) (by trivial) ?_
 refine Wp.seq (Wp.seq (Wp.reg ?_))
 refine aa.part 12 (by simp only[go_sem,reduceIte,Nat.reduceEqDiff,Nat.reduceAdd,bx,fx,fc,cw,hl,aL];exact rfl) ?_
 simp only[List.drop_succ_cons,List.drop_zero,List.drop_nil]
 refine aa.nil ⟨by simp[ay,au,apart,aH,o3,o4,p3,p4],?_⟩
 have row0:(K= .sl 1 [] (.exact 0)∧ak Y.C=[])∨∃k,K= .tsl 1 k 0 (ak Y.C).length none∧lay [F,FS] k=some (.cells (strs (ak Y.C)))∧k≠x∧k≠cm∧k<n∧((F.o k).isSome=true∨n≤k):=by
  rcases hK with ⟨h1,h2⟩|⟨k,h1,h2,h3,h4⟩
  ·exact .inl ⟨h1,h2⟩
  ·exact .inr ⟨k,h1,ok.at0 h2,h3,h4,ok.lt (by simp) h2,.inl (by rw[h2];rfl)⟩
 have hRb:∀j o,lay [FS] j=some o→j≠n∧j≠n+1∧j≠x∧lay [F,FS] j=some o:=by
  intro j o hj
  have hjn:j<n:=by
   rcases Nat.lt_or_ge j n with h|h
   ·exact h
   ·rw[ok.tail.fq h] at hj;cases hj
  have hFj:F.o j=none:=by
   cases e:F.o j with
   |none=>rfl
   |some y=>rw[ok.old (by rw[e];rfl)] at hj;cases hj
  refine ⟨by omega,by omega,(fun e=>by rw[e,hx] at hFj;cases hFj),?_⟩
  rw[cO,hFj];exact hj
 have hx0:(F.o x).isSome=true:=by rw[hx];rfl
 have hc0:(F.o cm).isSome=true:=by rw[hcm];rfl
 have hcx:(cm=x)=False:=by simp;exact Ne.symm hxc
 have ksF:ks [F,FS]=ks [FS]:=by simp[ks,hF.k]
 have hog:∀c,bO Y.C q=some c→ca M q=c∧(bO M q).isSome=true:=fun c hc=>by rw[ca,hM,hc];exact ⟨rfl,rfl⟩
 have same:∀(o1 o2:Av.Obj) (v:Bs) (e:Int),(fN S Y q)=(Y,v,e)→∃r l',Av.Ends [F,FS] n m (fun r L=>∃v e,r= .tup [.str v,.int .i64 e]∧(v,e)=(fN S Y q).2∧∃F',L=[F',FS]∧TxF x s (fN S Y q).1 F') (.tup [.str v,.int .i64 e]) ⟨upd (upd (lay [F,FS]) n (some o1)) n (some o2),n+1,ks [F,FS],m⟩ r l':=by
  intro o1 o2 v e hg
  refine gf (Y':=Y) (M':=M) (K:=K) (k4:= .sl 1 (strs Y.rk) .any) (k5:= .sl 2 (sps Y.rs) .any) (.inl hx0) (.inl hc0) (by simp only;omega) (by simp only;omega) hxc ok (by simp only;omega) (Nat.le_refl _) ?_ (ab.refl _) (ab.refl _) ?_ hM ?_ ?_ ?_ (ab.refl _) (fun F' h=>⟨v,e,rfl,by rw[hg],F',rfl,by rw[hg];exact h⟩)
  ·simp only[upd,o3,if_false];exact fx
  ·simp only[upd,p3,if_false];exact fc
  ·rcases row0 with h|⟨k,h1,h2,h3,h4,h5,h6⟩
   ·exact .inl h
   ·have hk:(k=n)=False:=eq_false (by omega)
    exact .inr ⟨k,h1,by simp only[upd,hk,if_false];exact h2,h3,h4,by simp only;omega,h6⟩
  ·intro j o hj
   obtain ⟨a,b,c,d⟩:=hRb j o hj
   simp only[upd,if_neg a];exact d
  ·intro t ht;simp only;rw[ksF];exact ht
 have hlk:=Bd hS sm q Y.t
 have hky:=CQ Y.rk Y.rs q
 cases hgo:bO Y.C q with
 |some c=>
  obtain ⟨e1,e2⟩:=hog c hgo
  rw[e1,e2]
  cases hd:c.d with
  |true=>
   refine rn0 (cj2 o3 p3) ?_
   exact Wp.ret ⟨trivial,_,rfl,same _ _ [] 7 (by rw[fN,hgo];simp[hd])⟩
  |false=>
   refine rn0 (cj2 o3 p3) ?_
   exact Wp.ret ⟨trivial,_,rfl,same _ _ c.v 0 (by rw[fN,hgo];simp[hd])⟩
 |none=>
  have e2:(bO M q).isSome=false:=by rw[hM,hgo];rfl
  have hgt:fN S Y q=if (eE S q Y.t).2=12 then (Y,[],12) else
   if (eo Y.rk Y.rs q).2.2=0 then ({Y with rk:=(eo Y.rk Y.rs q).1,rs:=(eo Y.rk Y.rs q).2.1},(eE S q Y.t).1,(eE S q Y.t).2) else (Y,[],(eo Y.rk Y.rs q).2.2):=by rw[fN,hgo]
  rw[e2]
  generalize hgb:eE S q Y.t=gb at*
  generalize hkb:eo Y.rk Y.rs q=kb at*
  have hsub:∀(o1 o2:Av.Obj) j o,FS.o j=some o→upd (upd (lay [F,FS]) n (some o1)) n (some o2) j=some o:=fun o1 o2 j o hj=>by
   obtain ⟨a,b,c,d⟩:=hRb j o (by simp[cO,hj])
   simp only[upd,if_neg a];exact d
  have hxs:=hS.go
  refine rn0 (cj3 o3 p3 fx) ?_
  refine aa.pa (by simp only[go_sem]) xA4 hlk (hsub _ _) fun ids=>?_
  refine aa.evR xA1 ?_
  refine aa.nil ⟨by simp[ay,au,apart,aH],?_⟩
  by_cases h12:gb.2=12
  ·have d1:=decide_eq_true h12
   refine rn0 d1 ?_
   refine Wp.ret ⟨trivial,_,rfl,?_⟩
   rw[h12]
   exact same _ _ [] 12 (by rw[hgt,if_pos h12])
  ·have d1:=decide_eq_false h12
   unfold Reads.bU Reads.bT at hky
   refine rn0 (cj3 d1 fx o3) ?_
   refine aa.bF (by simp only[go_sem]) xA4 hky ?_
   refine aa.evR xA1 ?_
   refine aa.nil ⟨by simp[ay,au,apart,aH,o1,o2,o3,o4],?_⟩
   have n1:(n+1=n)=False:=eq_false (by omega)
   have n2:(n=n+1)=False:=eq_false (by omega)
   by_cases h0:kb.2.2=0
   ·have d2:=decide_eq_true h0
    refine rn0 (cj8 d2 fx o1 o2 o3 o4 n1 n2) ?_
    refine Wp.ret ⟨trivial,_,rfl,gf (Y':={Y with rk:=kb.1,rs:=kb.2.1}) (M':=M) (K:=K) (k4:= .sl 1 (strs kb.1) .any) (k5:= .sl 2 (sps kb.2.1) .any) (.inl hx0) (.inl hc0) (by simp only;omega) (by simp only;omega) hxc ok (by simp only;omega) (Nat.le_refl _) ?_ (ab.refl _) (ab.refl _) ?_ hM ?_ ?_ ?_ (ab.refl _) (fun F' h=>⟨gb.1,gb.2,rfl,by rw[hgt,if_neg h12,if_pos h0],F',rfl,by rw[hgt,if_neg h12,if_pos h0];exact h⟩)⟩
    ·simp only[go_sem,reduceIte]
    ·simp only[upd,hcx,p1,p3,if_false];exact fc
    ·rcases row0 with h|⟨k,h1,h2,h3,h4,h5,h6⟩
     ·exact .inl h
     ·have hk1:(k=n)=False:=eq_false (by omega)
      have hk2:(k=n+1)=False:=eq_false (by omega)
      have hk3:(k=x)=False:=eq_false h3
      exact .inr ⟨k,h1,by simp only[upd,hk1,hk2,hk3,if_false];exact h2,h3,h4,by simp only;omega,h6⟩
    ·intro j o hj
     obtain ⟨a,b,c,d⟩:=hRb j o hj
     simp only[upd,if_neg a,if_neg b,if_neg c];exact d
    ·intro t ht;simp only;rw[ksF];exact ht
   ·have d2:=decide_eq_false h0
    refine rn0 (cj8 d2 fx o1 o2 o3 o4 n1 n2) ?_
    refine Wp.ret ⟨trivial,_,rfl,gf (Y':=Y) (M':=M) (K:=K) (k4:= .sl 1 (strs Y.rk) .any) (k5:= .sl 2 (sps Y.rs) .any) (.inl hx0) (.inl hc0) (by simp only;omega) (by simp only;omega) hxc ok (by simp only;omega) (Nat.le_refl _) ?_ (ab.refl _) (ab.refl _) ?_ hM ?_ ?_ ?_ (ab.refl _) (fun F' h=>⟨[],kb.2.2,rfl,by rw[hgt,if_neg h12,if_neg h0],F',rfl,by rw[hgt,if_neg h12,if_neg h0];exact h⟩)⟩
    ·simp only[upd,o1,o3,if_false];exact fx
    ·simp only[upd,p1,p3,if_false];exact fc
    ·rcases row0 with h|⟨k,h1,h2,h3,h4,h5,h6⟩
     ·exact .inl h
     ·have hk1:(k=n)=False:=eq_false (by omega)
      have hk2:(k=n+1)=False:=eq_false (by omega)
      exact .inr ⟨k,h1,by simp only[upd,hk1,hk2,if_false];exact h2,h3,h4,by simp only;omega,h6⟩
    ·intro j o hj
     obtain ⟨a,b,c,d⟩:=hRb j o hj
     simp only[upd,if_neg a,if_neg b];exact d
    ·intro t ht;simp only;rw[ksF];exact ht
theorem kZ {l:List Fr} {n:Nat} {T:List Nat} {m:Nat} (ok:Ok l n T m) {f:jn} {n' m':Nat} {T':List Nat} (h:∀j,j<n→f j=lay l j):OLe (H.drop ⟨f,n',T',m'⟩ fun j=>decide (n≤j)).objs (lay l):=fun j o hj=>by
 have hjn:j<n:=by
  rcases Nat.lt_or_ge j n with h|h
  ·exact h
  ·rw[ok.fq h] at hj;cases hj
 refine ⟨o,?_,cq.refl _⟩
 simp only[H.drop]
 rw[if_neg (by simp;omega),h j hjn];exact hj
def gG (S:Spc) (Y:Tx) (q:Bs):Tx × Bs × Int:=if Y.ended then (Y,[],17) else ((fN S Y q).1,if (fN S Y q).2.2=0 then (fN S Y q).2.1 else [],(fN S Y q).2.2)
theorem Bj {x s:Nat} {Y:Tx} {F:Fr} {S:Spc} {FS:Fr} (hF:TxF x s Y F) (hS:cU s S FS) (sm:jY S) (q:Bs):
  aT Tryz.prog 14 [.ptr x 0,.str q] [F,FS] fun r L=>r= .tup [.str (gG S Y q).2.1,.int .i64 (gG S Y q).2.2]∧∃F',L=[F',FS]∧TxF x s (gG S Y q).1 F':=by
 refine f14.bo (by simp) fun n m ok=>?_
 unfold c14
 simp only[C.zz]
 have e1:decide (n≤n)=true:=decide_eq_true (by omega)
 have e2:decide (n≤n+1)=true:=decide_eq_true (by omega)
 have f1:(n=n+1)=False:=eq_false (by omega)
 have f2:(n+1=n)=False:=eq_false (by omega)
 have ok1:Ok [F,FS] (n+1+1) (ks [F,FS]) m:=ok.grow (by omega) (Nat.le_refl _)
 have on0:On [F,FS] n m [F,FS] (n+1+1) (ks [F,FS]) m:=⟨by omega,Nat.le_refl _,ok1,.refl,.refl⟩
 have dx:=decide_eq_false (show ¬n≤x from by have:=hF.go;obtain ⟨_,_,_,_,_,hx,_⟩:=this;have:=ok.lt (by simp) hx;omega)
 refine Wp.aw xA1 (by trivial) ?_
 refine Wp.frz (fun j=>decide (n≤j)) [(2,.ref [.ptr x 0]),(3,.ref [.str q])] ⟨lay [F,FS],n+1+1,ks [F,FS],m⟩ ?_ (kZ ok fun j hj=>by simp only[upd];rw[if_neg (by omega),if_neg (by omega)]) (fun t ht=>ht) (Nat.le_refl _) (Nat.le_refl _) ?_
 ·simp only[aC,go_sem,reduceIte,Nat.reduceEqDiff,unT,eB,bx,e1,e2,f1,f2,dx,if_false,if_true,List.drop_zero]
  and_intros<;>first|exact ab.refl _|trivial
 refine de ?_
 cases he:Y.ended with
 |true=>
  have hd:=BH hF (l:=[F,FS]) (by simp) he (.clo (.func 46) [] [.ref [.ptr x 0],.ref [.str q]])
  refine aa.eX xA2 xA3 (hd) (ok1) fun r1 G1 n1 T1 m1 ids1 hq1 on1=>?_
  obtain ⟨rfl,rfl⟩:=hq1
  refine aa.evR xA1 ?_
  refine de ?_
  refine Wp.ret ⟨trivial,_,rfl,_,_,(on0.step on1).ends (ab.refl _) ⟨by rw[gG,if_pos he];rfl,F,rfl,by rw[gG,if_pos he];exact hF⟩⟩
 |false=>
  have hd:=z6 hF (l:=[F,FS]) (by simp) he (g:=46) Tryz.func46 (of_decide_eq_true (by kernel_rfl)) (of_decide_eq_true (by kernel_rfl)) [.ref [.ptr x 0],.ref [.str q]] (Q:=fun v e L=>∃w,v= .str w∧(w,e)=(fN S Y q).2∧∃F',L=[F',FS]∧TxF x s (fN S Y q).1 F') ((BM hF hS sm q).mono fun r L ⟨v,e,h1,h2,h3⟩=>⟨.str v,e,h1,v,rfl,h2,h3⟩)
  refine aa.eX xA2 xA3 (hd) (ok1) fun r1 G1 n1 T1 m1 ids1 hq1 on1=>?_
  obtain ⟨v,e,rfl,w,rfl,hwe,F',rfl,hF'⟩:=hq1
  have hg:gG S Y q=((fN S Y q).1,if (fN S Y q).2.2=0 then (fN S Y q).2.1 else [],(fN S Y q).2.2):=by rw[gG,if_neg (by simp[he])]
  refine aa.evR xA1 ?_
  refine de ?_
  refine Wp.ret ⟨trivial,_,rfl,_,_,(on0.step on1).ends (ab.refl _) ⟨?_,F',rfl,by rw[hg];exact hF'⟩⟩
  rw[hg,←hwe]
  simp only
  split<;>rfl
end Go.Proofs.YtpehfflehebmbaaGreat.Txn
end
section
set_option maxRecDepth 10000
namespace Go.Av
theorem On.cB {F:Fr} {l0 L:List Fr} {n0 m0 n m:Nat} {T:List Nat} (a:On l0 n0 m0 (F::L) n T m):On l0 n0 m0 L n T m where
 gn:=a.gn
 gm:=a.gm
 ok:=a.ok.tail
 wi j:=by
  rcases a.wi j with h|h|h
  ·exact .inl h
  ·exact .inr (.inl h)
  ·refine .inr (.inr ?_)
   rw[cO] at h
   cases e:F.o j with
   |none=>rw[e] at h;simpa using h
   |some o=>rw[e] at h;simp at h
 ki t ht:=a.ki t (by rw[show ks (F::L)=F.k++ks L by simp[ks]];exact List.mem_append_right _ ht)
theorem On.mG {F:Fr} {l0 L:List Fr} {n0 m0 n m:Nat} {T:List Nat} {q r:AV} {QQ:AV→List Fr→Prop} (a:On l0 n0 m0 (F::L) n T m) (hs:ab q r) (hq:QQ r L):Ends l0 n0 m0 QQ q ⟨lay (F::L),n,T,m⟩ r L where
 sub:=hs
 ole j o hj:=by
  refine ⟨o,?_,cq.refl _⟩
  show lay (F::L) j=some o
  rw[cO]
  cases e:F.o j with
  |none=>simpa using hj
  |some y=>rw[a.ok.old (by rw[e];rfl)] at hj;cases hj
 tk t ht:=a.ok.tk t (by rw[show ks (F::L)=F.k++ks L by simp[ks]];exact List.mem_append_right _ ht)
 ok:=a.cB.ok.shrink
 new:=a.cB.wi
 knew:=a.cB.ki
 q:=hq
end Go.Av
namespace Go.Proofs.YtpehfflehebmbaaGreat.Txn
open Go Go.Av Go.Proofs Go.Proofs.YtpehfflehebmbaaGreat.C Go.Proofs.YtpehfflehebmbaaGreat.Batch Go.Proofs.YtpehfflehebmbaaGreat.Space Go.Proofs.YtpehfflehebmbaaGreat.Reads
def dI (C:List Ch) (out:List Pr) (k:Bs):List Pr:=if (ca C k).d=true then out else out++[⟨k,(ca C k).v⟩]
def dA (C:List Ch) (mine:List Bs) (q:Bs):Nat→Nat→List Pr→Nat × List Pr
 |0,j,out=>(j,out)
 |f+1,j,out=>if j<mine.length∧Op.bytesLess (mine.getD j []) q=true then dA C mine q f (j+1) (dI C out (mine.getD j [])) else (j,out)
def drain (C:List Ch) (mine:List Bs) (q:Bs) (j:Nat) (out:List Pr):Nat × List Pr:=dA C mine q (mine.length - j) j out
theorem xV {C:List Ch} {mine:List Bs} {q:Bs} {j:Nat} {out:List Pr} (h1:j<mine.length) (h2:Op.bytesLess (mine.getD j []) q=true):drain C mine q j out=drain C mine q (j+1) (dI C out (mine.getD j [])):=by
 unfold drain
 rw[show mine.length - j=(mine.length - (j+1))+1 by omega,dA,if_pos ⟨h1,h2⟩]
theorem lS {C:List Ch} {mine:List Bs} {q:Bs} {j:Nat} {out:List Pr} (h:¬(j<mine.length∧Op.bytesLess (mine.getD j []) q=true)):drain C mine q j out=(j,out):=by
 unfold drain
 cases mine.length - j with
 |zero=>rfl
 |succ f=>rw[dA,if_neg h]
def dp (C:List Ch) (mine:List Bs) (st:Nat × List Pr) (p:Pr):Nat × List Pr:=
 ((drain C mine p.k st.1 st.2).1,if (bO C p.k).isSome=true then (drain C mine p.k st.1 st.2).2 else (drain C mine p.k st.1 st.2).2++[p])
def cV (C:List Ch) (mine:List Bs) (l:List Pr):Nat × List Pr:=l.foldl (dp C mine) (0,[])
def dB (C:List Ch) (a b:Bs):List Bs:=
 if b=[] then (ak C).drop (plK (ak C) a) else ((ak C).drop (plK (ak C) a)).take (plK ((ak C).drop (plK (ak C) a)) b)
def gH (C:List Ch) (l:List Pr) (a b:Bs):List Pr:=
 ((dB C a b).drop (cV C (dB C a b) l).1).foldl (dI C) (cV C (dB C a b) l).2
theorem nV {C:List Ch} {mine:List Bs} {l:List Pr} {i:Nat} (h:i<l.length):cV C mine (l.take (i+1))=dp C mine (cV C mine (l.take i)) (l.getD i default):=by
 rw[bJ default h,cV,List.foldl_append];rfl
theorem ld (C:List Ch) (out:List Pr) (k:Bs):(dI C out k).length≤out.length+1:=by
 unfold dI;split<;>simp
theorem pt {C:List Ch} {mine:List Bs} {q:Bs}:∀(f j:Nat) (out:List Pr),j≤mine.length→j≤(dA C mine q f j out).1∧(dA C mine q f j out).1≤mine.length∧(dA C mine q f j out).2.length+j≤out.length+(dA C mine q f j out).1
 |0,j,out,h=>⟨Nat.le_refl _,h,Nat.le_refl _⟩
 |f+1,j,out,h=>by
  simp only[dA]
  split
  ·rename_i hc
   obtain ⟨h1,h2,h3⟩:=pt f (j+1) (dI C out (mine.getD j [])) hc.1
   have:=ld C out (mine.getD j [])
   exact ⟨by omega,h2,by omega⟩
  ·exact ⟨Nat.le_refl _,h,Nat.le_refl _⟩
theorem nW {C:List Ch} {mine:List Bs}:∀(l:List Pr) (st:Nat × List Pr),st.1≤mine.length→(l.foldl (dp C mine) st).1≤mine.length∧(l.foldl (dp C mine) st).2.length+st.1≤st.2.length+l.length+(l.foldl (dp C mine) st).1
 |[],st,h=>⟨h,by simp⟩
 |p::l,st,h=>by
  obtain ⟨h1,h2,h3⟩:=pt (C:=C) (mine:=mine) (q:=p.k) (mine.length - st.1) st.1 st.2 h
  obtain ⟨h4,h5⟩:=nW l (dp C mine st p) h2
  have h6:(dp C mine st p).2.length≤(drain C mine p.k st.1 st.2).2.length+1:=by
   unfold dp;split<;>simp
  have e1:(dp C mine st p).1=(drain C mine p.k st.1 st.2).1:=rfl
  simp only[List.foldl_cons,List.length_cons]
  unfold drain at h6 e1
  exact ⟨h4,by omega⟩
theorem xW {x s o tk:Nat} {Y:Tx} {F:Fr} (hF:TxF x s Y F) (out:List Pr) (hl:out.length≤1000000) (k:Bs):
  aT Tryz.prog 94 [.str k,.ref [.ptr x 0],.ptr o 0] [obk o (.cells [.sl 2 (prs out) (.own tk)]) [tk],F] fun r L=>∃tk',L=[obk o (.cells [.sl 2 (prs (dI Y.C out k)) (.own tk')]) [tk'],F]:=by
 obtain ⟨cm,M,K,hM,hxc,hx,hcm,hK⟩:=hF.go
 refine f94.bo (by simp) fun n m ok=>?_
 unfold c94
 simp only[C.zz]
 have fx:=ok.sub (F:=F) (by simp) _ _ hx
 have fc:=ok.sub (F:=F) (by simp) _ _ hcm
 have fo:=ok.sub (F:=obk o (.cells [.sl 2 (prs out) (.own tk)]) [tk]) (by simp) o _ (by simp[eD];rfl)
 have hon:=ok.lt (F:=obk o (.cells [.sl 2 (prs out) (.own tk)]) [tk]) (by simp) (j:=o) (o:= .cells [.sl 2 (prs out) (.own tk)]) (by simp[eD])
 have hxn:=ok.lt (F:=F) (by simp) hx
 have hcn:=ok.lt (F:=F) (by simp) hcm
 obtain ⟨o1,o2,o3,o4⟩:=cF hxn
 obtain ⟨p1,p2,p3,p4⟩:=cF hcn
 obtain ⟨r1,r2,r3,r4⟩:=cF hon
 have hl':=pn false k M
 unfold nQ at hl'
 simp only[cQ,if_false,Bool.false_eq_true] at hl'
 have hog:ca M k=ca Y.C k:=by rw[ca,ca,hM]
 rw[hog] at hl'
 have hpl:(prs out).length=out.length:=by simp[prs]
 have hks:ks [obk o (.cells [.sl 2 (prs out) (.own tk)]) [tk],F]=[tk]:=by simp[ks,obk,hF.k]
 rw[hks] at ok ⊢
 have rm1:(out.length+1)*32≤140737488355328:=by omega
 have rm2:out.length+1<4611686018427387904:=by omega
 have ok1:=ok.more (.cells [.str (ca Y.C k).k,.str (ca Y.C k).v,.bool (ca Y.C k).d])
 have on1:On [obk o (.cells [.sl 2 (prs out) (.own tk)]) [tk],F] n m (ob n (.cells [.str (ca Y.C k).k,.str (ca Y.C k).v,.bool (ca Y.C k).d])::[obk o (.cells [.sl 2 (prs out) (.own tk)]) [tk],F]) (n+1) [tk] m:=(On.refl ok1).grown
 cases hd:(ca Y.C k).d with
 |true=>
  rw[hd] at ok1 on1
  refine rn0 (cj8 fx fc @cw hl' @aL.eq_1 hd o3 o4) ?_
  rw[bm,bu]
  exact ⟨trivial,_,rfl,_,_,on1.mG (ab.refl _) ⟨tk,by rw[dI,if_pos hd]⟩⟩
 |false=>
  rw[hd] at ok1 on1
  refine rn0 (bD fx fc @cw hl' @aL.eq_1 hd o3 o4 r3 r4 fo (cj6 hpl rm1 rm2 @List.mem_singleton.{0} @List.length_cons.{0} @List.length_nil.{0})) ?_
  have hpr:prs (dI Y.C out k)=prs out++[.agg [.str k,.str (ca Y.C k).v]]:=by rw[dI,if_neg (by simp[hd])];simp[prs,bV]
  have e13:=Ok.jN (A:=[ob n (.cells [.str (ca Y.C k).k,.str (ca Y.C k).v,.bool false])]) (.cells [.sl 2 (prs (dI Y.C out k)) (.own m)]) [m] ok1
  have on13:=On.jO (A:=[ob n (.cells [.str (ca Y.C k).k,.str (ca Y.C k).v,.bool false])]) (o':= .cells [.sl 2 (prs (dI Y.C out k)) (.own m)]) ok1
  simp only[List.cons_append,List.nil_append] at e13 on13
  have ft:(([tk]:List Nat).filter fun t=> ![tk].contains t)=[]:=by simp
  rw[ft] at on13
  refine ⟨trivial,.tup [],rfl,.tup [],[obk o (.cells [.sl 2 (prs (dI Y.C out k)) (.own m)]) [m],F],?_⟩
  have:=(on1.step on13).mG (QQ:=fun r L=>∃tk',L=[obk o (.cells [.sl 2 (prs (dI Y.C out k)) (.own tk')]) [tk'],F]) (ab.refl (.tup [])) ⟨m,rfl⟩
  rw[←e13] at this
  show Av.Ends _ _ _ _ _ ⟨upd (upd (upd (lay _) n _) n _) o _,_,_,_⟩ _ _
  rw[bm,bu,←hpr]
  exact this
theorem Aa {keys:List Bs} {off len k:Nat} (hl:off+len≤keys.length) (hr:bL ((keys.drop off).take len)) (hb:keys.length≤1152921504606846976) (q:Bs):
  iI Tryz.prog 89 [.tsl 1 k off len none,.str q] (upd ag k (some (.cells (strs keys)))) (.tup [.int .i64 (plK ((keys.drop off).take len) q),.bool (thK ((keys.drop off).take len) q)]):=by
 have hb:=Reads.lM ((keys.drop off).take len) (by rw[List.length_take,List.length_drop];omega) q (plK ((keys.drop off).take len) q) (eY _ q) (fun i h=>iO h) (fun i h hi=>kD hr h hi)
 have e:strs ((keys.drop off).take len)=((strs keys).drop off).take len:=by simp[strs,List.map_take,List.map_drop]
 rw[e] at hb
 exact hb.CL (by rw[ao];exact hl) (fun G G' w v h=>by simpa only[ah,aq] using h) none k
def cy:Nat→AC→AC
 |0,c=>c
 |n+1,.seq _ b=>cy n b
 |_,c=>c
end Go.Proofs.YtpehfflehebmbaaGreat.Txn
end
section
set_option maxRecDepth 10000
namespace Go.Proofs.YtpehfflehebmbaaGreat.Txn
open Go Go.Av Go.Proofs Go.Proofs.YtpehfflehebmbaaGreat.C Go.Proofs.YtpehfflehebmbaaGreat.Batch Go.Proofs.YtpehfflehebmbaaGreat.Space Go.Proofs.YtpehfflehebmbaaGreat.Reads
theorem il {i j:Nat} {o o':Av.Obj} {l:List Fr} (h1:lay (ob j o'::l) i=none) (h2:lay l j=none):OLe (lay (ob i o::ob j o'::l)) (lay l):=fun k p hk=>by
 have h3:lay (ob j o'::l) k=some p:=by
  rw[bp _ _ (fun e=>by rw[e,h2] at hk;cases hk)];exact hk
 exact ⟨p,by rw[bp _ _ (fun e=>by rw[e,h1] at h3;cases h3)];exact h3,cq.refl _⟩
set_option maxHeartbeats 4000000 in
theorem pv {x s k cm o tk n0 m0 n m p Ln:Nat} {T:List Nat} {Y:Tx} {F:Fr} {k4 k5:AV} {M:List Ch} (hM:∀q,bO M q=bO Y.C q) (hFk:F.k=[]) (hF:TxF x s Y F)
  (hx:F.o x=some (.cells [.ptr s 0,.int .i64 Y.t,.mp cm,.tsl 1 k 0 (ak Y.C).length none,k4,k5,.bool Y.ended])) (hcm:F.o cm=some (.map (bU M))) (hk:F.o k=some (.cells (strs (ak Y.C))))
  (on0:On [F] n0 m0 [obk o (.cells [.sl 2 (prs []) (.own tk)]) [tk],F] n T m) (hT:T=[tk]) (hp:p+Ln≤(ak Y.C).length) (hkl:(ak Y.C).length≤64) (l:List Pr) (hl:l.length≤500000)
  (t:Tm) (h1:t 1= .sl 2 (prs l) .any) (h4:t 4= .ref [.ptr x 0]) (h9:t 9= .ptr o 0) (h10:t 10= .clo (.func 94) [] [.ref [.ptr x 0],.ptr o 0]) (h13:t 13= .tsl 1 k p Ln none):
  Wp Tryz.prog 101 (cy 6 c51) ⟨t,⟨lay [obk o (.cells [.sl 2 (prs []) (.own tk)]) [tk],F],n,T,m⟩⟩ fun e s'=>gw e∧∃q,bR [.tmp 8] s'.t s'.h=some q∧∃r l',Av.Ends [F] n0 m0 (fun r L=>r= .sl 2 (prs ((((((ak Y.C).drop p).take Ln).drop (cV Y.C (((ak Y.C).drop p).take Ln) l).1).foldl (dI Y.C) (cV Y.C (((ak Y.C).drop p).take Ln) l).2))) .any∧L=[F]) q s'.h r l':=by
 unfold c51
 simp only[C.zz]
 simp only[cy]
 have hmine:(((ak Y.C).drop p).take Ln).length=Ln:=by rw[List.length_take,List.length_drop];omega
 have hget:∀j,j<Ln→(strs (ak Y.C))[p+j]? =some (.str ((((ak Y.C).drop p).take Ln).getD j [])):=by
  intro j hj
  have h2:p+j<(ak Y.C).length:=by omega
  simp[strs,List.getD,List.getElem?_take,hj,h2]
 generalize hmi:((ak Y.C).drop p).take Ln=mine at*
 have hpl:(prs l).length=l.length:=by simp[prs]
 refine rn0 (cj2 h1 hpl) ?_
 refine Wp.gU (β:=Nat) [4,9,10,49,50] (by simp only[go_sem,reduceIte,Nat.reduceEqDiff,List.map,h4,h9,h10];exact rfl) (fun i=>[(13,.tsl 1 k (p+(cV Y.C mine (l.take i)).1) (Ln - (cV Y.C mine (l.take i)).1) none),(51,.int .i64 (i:Nat))]) (fun i L=>i≤l.length∧∃tk,L=[obk o (.cells [.sl 2 (prs (cV Y.C mine (l.take i)).2) (.own tk)]) [tk],F]) (fun i=>l.length - i) 0 ⟨Nat.zero_le _,tk,rfl⟩ on0.ok (by simp only[aC,go_sem,reduceIte,Nat.reduceEqDiff,h13,List.take_zero,cV,List.foldl_nil,Nat.add_zero,Nat.sub_zero];exact ⟨ab.refl _,ab.refl _,trivial⟩) ?_
 rintro i L n5 T5 m5 on ⟨hi,tk5,rfl⟩
 have hle:=nW (C:=Y.C) (mine:=mine) (l.take i) (0,[]) (Nat.zero_le _)
 rw[hmine] at hle
 have hle1:(cV Y.C mine (l.take i)).1≤Ln:=hle.1
 have hle2:(cV Y.C mine (l.take i)).2.length≤l.length+Ln:=by
  have h3:=hle.2
  have h4:(l.take i).length≤l.length:=by rw[List.length_take];omega
  have h5:(cV Y.C mine (l.take i)).2.length=((l.take i).foldl (dp Y.C mine) (0,[])).2.length:=rfl
  simp only[List.length_nil] at h3
  omega
 by_cases hi2:i<l.length
 ·obtain ⟨g1,h2,h3,e1⟩:=ixF (j:=i) (n:=l.length) (by omega) (by omega)
  have hat:(prs l).getD i .any=bV (l.getD i default):=cR bV l i .any hi2
  have hsn:=nV (C:=Y.C) (mine:=mine) hi2
  generalize hst:cV Y.C mine (l.take i)=st at*
  generalize l.getD i default=q at*
  have ok6:=on.ok.more (.cells [.str q.k,.str q.v])
  refine rn0 (cj6 g1 h2 h3 hat hpl @bV.eq_1) ?_
  rw[bm,bu]
  refine Wp.gU (β:=Nat × List Pr) [4,9,10,17,49,50,51] xA7 (fun b=>[(13,.tsl 1 k (p+b.1) (Ln - b.1) none)]) (fun b L=>b.1≤Ln∧b.2.length≤st.2.length+(b.1 - st.1)∧st.1≤b.1∧drain Y.C mine q.k b.1 b.2=drain Y.C mine q.k st.1 st.2∧∃tk,L=[ob n5 (.cells [.str q.k,.str q.v]),obk o (.cells [.sl 2 (prs b.2) (.own tk)]) [tk],F]) (fun b=>Ln - b.1) st ⟨hle1,by omega,Nat.le_refl _,rfl,tk5,rfl⟩ ok6 xA9 ?_
  rintro ⟨j,out⟩ L n7 T7 m7 on7 ⟨hj,hjo,hjs,hdr,tk7,rfl⟩
  simp only at hj hjo hjs hdr ⊢
  have ok7:=on7.ok
  have f17:=aK n5 (.cells [.str q.k,.str q.v]) [obk o (.cells [.sl 2 (prs out) (.own tk7)]) [tk7],F]
  have fo:=ok7.sub (F:=obk o (.cells [.sl 2 (prs out) (.own tk7)]) [tk7]) (by simp) o _ (by simp[eD];rfl)
  have fx:=ok7.sub (F:=F) (by simp) _ _ hx
  have fc:=ok7.sub (F:=F) (by simp) _ _ hcm
  have fk:=ok7.sub (F:=F) (by simp) _ _ hk
  have hol:(prs out).length=out.length:=by simp[prs]
  obtain ⟨x1,x2,x3,x4⟩:=cF (ok7.lt (F:=F) (by simp) hx)
  obtain ⟨c1',c2',c3',c4'⟩:=cF (ok7.lt (F:=F) (by simp) hcm)
  obtain ⟨b1,b2,b3,b4⟩:=cF (ok7.lt (F:=ob n5 (.cells [.str q.k,.str q.v])) (by simp) (j:=n5) (o:= .cells [.str q.k,.str q.v]) (by simp[aW]))
  have hlk:=pn true q.k M
  unfold nQ at hlk
  simp only[cQ,if_true] at hlk
  have hog:ca M q.k=ca Y.C q.k:=by rw[ca,ca,hM]
  rw[hog,hM] at hlk
  have ok8:=ok7.more (.cells [.str (ca Y.C q.k).k,.str (ca Y.C q.k).v,.bool (ca Y.C q.k).d])
  by_cases hjl:j<Ln
  ·have gj:=hget j hjl
   have c1:decide ((0:Int)<((Ln - j:Nat):Int))=true:=decide_eq_true (by omega)
   have c2:(0:Int)<((Ln - j:Nat):Int):=by omega
   have z0:Int.toNat 0=0:=rfl
   cases hb:Op.bytesLess (mine.getD j []) q.k with
   |true=>
    have hgo:=xV (C:=Y.C) (out:=out) (by omega:j<mine.length) hb
    have e1:p+j+1*1=p+(j+1):=by omega
    have e2:Ln - j - 1=Ln - (j+1):=by omega
    have c3:(1:Int)≤((Ln - j:Nat):Int):=by omega
    generalize mine.getD j []=w at*
    have i01:(0:Int)≤1:=by decide
    have t1:Int.toNat 1=1:=rfl
    refine rn0 (lI c1 c2 z0 gj f17 fk hb @Int.le_refl @and_self @Nat.zero_mul @Nat.add_zero) ?_
    have hpb:=ld Y.C out w
    refine aa.lG [_] [_,_] [] (by simp only[go_sem]) (by simp only[go_sem,reduceIte,Nat.reduceEqDiff];exact rfl) Tryz.func94 (of_decide_eq_true (by kernel_rfl)) (of_decide_eq_true (by kernel_rfl)) (by simp only[go_sem,reduceIte,Nat.reduceEqDiff,List.map,List.nil_append,List.cons_append];exact af.refl _) (xW hF out (by omega) w) ok7 fun r G' n8 m8 ids hq hn8 hm8 ok8 wi8 ki8=>?_
    obtain ⟨tk8,rfl⟩:=hq
    simp only[List.cons_append,List.nil_append,List.append_nil] at ok8 wi8 ki8 ⊢
    refine aa.evR xA1 ?_
    refine aa.nil ⟨by trivial,?_⟩
    refine rn0 (cj6 e1 e2 c3 i01 t1 @and_self) ?_
    refine ⟨(j+1,dI Y.C out w),_,n8,_,m8,⟨hn8,hm8,ok8,wi8,ki8⟩,⟨by simp only;omega,by simp only;omega,by simp only;omega,by rw[←hdr,hgo],tk8,rfl⟩,by simp only;omega,?_⟩
    exact xSu
   |false=>
    have hend:=lS (C:=Y.C) (out:=out) (fun h=>by rw[hb] at h;cases h.2:¬(j<mine.length∧Op.bytesLess (mine.getD j []) q.k=true))
    rw[hend] at hdr
    generalize mine.getD j []=w at*
    refine rn0 (lI c1 c2 z0 gj f17 fk hb @Int.le_refl @and_self @Nat.zero_mul @Nat.add_zero) ?_
    refine Wp.reg ?_
    refine aa.part 13 (by simp only[go_sem,reduceIte,Nat.reduceEqDiff,Nat.reduceAdd,bx,fx,fc,cw,hlk,aL,f17,x3,x4,c3',c4',b3,b4];exact rfl) ?_
    simp only[List.drop_succ_cons,List.drop_zero,List.drop_nil]
    refine aa.nil ⟨by simp[ay,au,apart,aH,x3,x4,c3',c4',b3,b4],?_⟩
    rw[bm,bu]
    cases hth:(bO Y.C q.k).isSome with
    |true=>
     have hstep:dp Y.C mine st q=(j,out):=by rw[dp,←hdr,hth];rfl
     rw[hstep] at hsn
     refine rn0 (cj2 hth e1) ?_
     refine ⟨i+1,[obk o (.cells [.sl 2 (prs out) (.own tk7)]) [tk7],F],n7+1,T7,m7,(on7.grown.step (On.refl ok8).grown).cB.cB,⟨by omega,tk7,by rw[hsn]⟩,by omega,?_⟩
     refine aU.of (dr ?_) (il (Ok.alone ok8) (Ok.alone ok7)) (fun _ h=>h) (Nat.le_refl _) (Nat.le_refl _)
     rw[hsn]
     exact xSb
    |false=>
     have hstep:dp Y.C mine st q=(j,out++[q]):=by rw[dp,←hdr,hth];rfl
     rw[hstep] at hsn
     have hpr:prs (out++[q])=prs out++[.agg [.str q.k,.str q.v]]:=by simp[prs,bV]
     have e13:=Ok.jN (A:=[_,_]) (.cells [.sl 2 (prs (out++[q])) (.own m7)]) [m7] ok8
     have on13:=On.jO (A:=[_,_]) (o':= .cells [.sl 2 (prs (out++[q])) (.own m7)]) ok8
     simp only[List.cons_append,List.nil_append] at e13 on13
     have f17':=ok8.sub (F:=ob n5 (.cells [.str q.k,.str q.v])) (by simp) n5 _ (by simp[aW];rfl)
     have fo':=ok8.sub (F:=obk o (.cells [.sl 2 (prs out) (.own tk7)]) [tk7]) (by simp) o _ (by simp[eD];rfl)
     have htk:tk7∈T7:=ok7.tk tk7 (by simp[ks,obk])
     have rm1:(out.length+1)*32≤140737488355328:=by omega
     have rm2:out.length+1<4611686018427387904:=by omega
     rw[hpr] at e13
     refine rn0 (fR hth e1 f17' fo' hol rm1 rm2 htk @List.length_cons.{0} @List.length_nil.{0}) ?_
     rw[e13]
     refine ⟨i+1,[obk o (.cells [.sl 2 (prs (out++[q])) (.own m7)]) [m7],F],_,_,m7+1,((on7.grown.step (On.refl ok8).grown).step on13).cB.cB,⟨by omega,m7,by rw[hsn]⟩,by omega,?_⟩
     have ok9:=on13.ok
     rw[←hpr]
     refine aU.of (dr ?_) (il (Ok.alone ok9) (Ok.alone ok9.tail)) (fun t ht=>by simpa using ht) (Nat.le_refl _) (Nat.le_refl _)
     rw[hsn]
     exact xSb
  ·obtain rfl:j=Ln:=by omega
   have hend:=lS (C:=Y.C) (mine:=mine) (q:=q.k) (j:=j) (out:=out) (fun h=>by omega)
   rw[hend] at hdr
   have c1:decide ((0:Int)<((j - j:Nat):Int))=false:=decide_eq_false (by omega)
   refine rn0 c1 ?_
   refine Wp.reg ?_
   refine aa.part 13 (by simp only[go_sem,reduceIte,Nat.reduceEqDiff,Nat.reduceAdd,bx,fx,fc,cw,hlk,aL,f17,x3,x4,c3',c4',b3,b4];exact rfl) ?_
   simp only[List.drop_succ_cons,List.drop_zero,List.drop_nil]
   refine aa.nil ⟨by simp[ay,au,apart,aH,x3,x4,c3',c4',b3,b4],?_⟩
   rw[bm,bu]
   cases hth:(bO Y.C q.k).isSome with
   |true=>
    have hstep:dp Y.C mine st q=(j,out):=by rw[dp,←hdr,hth];rfl
    rw[hstep] at hsn
    refine rn0 (cj2 hth e1) ?_
    refine ⟨i+1,[obk o (.cells [.sl 2 (prs out) (.own tk7)]) [tk7],F],n7+1,T7,m7,(on7.grown.step (On.refl ok8).grown).cB.cB,⟨by omega,tk7,by rw[hsn]⟩,by omega,?_⟩
    refine aU.of (dr ?_) (il (Ok.alone ok8) (Ok.alone ok7)) (fun _ h=>h) (Nat.le_refl _) (Nat.le_refl _)
    rw[hsn]
    exact xSb
   |false=>
    have hstep:dp Y.C mine st q=(j,out++[q]):=by rw[dp,←hdr,hth];rfl
    rw[hstep] at hsn
    have hpr:prs (out++[q])=prs out++[.agg [.str q.k,.str q.v]]:=by simp[prs,bV]
    have e13:=Ok.jN (A:=[_,_]) (.cells [.sl 2 (prs (out++[q])) (.own m7)]) [m7] ok8
    have on13:=On.jO (A:=[_,_]) (o':= .cells [.sl 2 (prs (out++[q])) (.own m7)]) ok8
    simp only[List.cons_append,List.nil_append] at e13 on13
    have f17':=ok8.sub (F:=ob n5 (.cells [.str q.k,.str q.v])) (by simp) n5 _ (by simp[aW];rfl)
    have fo':=ok8.sub (F:=obk o (.cells [.sl 2 (prs out) (.own tk7)]) [tk7]) (by simp) o _ (by simp[eD];rfl)
    have htk:tk7∈T7:=ok7.tk tk7 (by simp[ks,obk])
    have rm1:(out.length+1)*32≤140737488355328:=by omega
    have rm2:out.length+1<4611686018427387904:=by omega
    rw[hpr] at e13
    refine rn0 (fR hth e1 f17' fo' hol rm1 rm2 htk @List.length_cons.{0} @List.length_nil.{0}) ?_
    rw[e13]
    refine ⟨i+1,[obk o (.cells [.sl 2 (prs (out++[q])) (.own m7)]) [m7],F],_,_,m7+1,((on7.grown.step (On.refl ok8).grown).step on13).cB.cB,⟨by omega,m7,by rw[hsn]⟩,by omega,?_⟩
    have ok9:=on13.ok
    rw[←hpr]
    refine aU.of (dr ?_) (il (Ok.alone ok9) (Ok.alone ok9.tail)) (fun t ht=>by simpa using ht) (Nat.le_refl _) (Nat.le_refl _)
    rw[hsn]
    exact xSb
 ·obtain rfl:i=l.length:=by omega
  rw[List.take_length] at*
  have g1:=ixE (l.length)
  generalize hst:cV Y.C mine l=st at*
  obtain ⟨j,out0⟩:=st
  simp only at hle1 hle2 ⊢
  refine rn0 g1 ?_
  refine Wp.gU (β:=Nat) [9,10,90,91] xA7 (fun i=>[(92,.int .i64 (i:Nat))]) (fun i L=>i≤Ln - j∧∃tk,L=[obk o (.cells [.sl 2 (prs (((mine.drop j).take i).foldl (dI Y.C) out0)) (.own tk)]) [tk],F]) (fun i=>Ln - j - i) 0 ⟨Nat.zero_le _,tk5,rfl⟩ on.ok xA9 ?_
  rintro i L n7 T7 m7 on7 ⟨hi3,tk7,rfl⟩
  have ok7:=on7.ok
  have fk:=ok7.sub (F:=F) (by simp) _ _ hk
  have hdl:(mine.drop j).length=Ln - j:=by rw[List.length_drop,hmine]
  by_cases hi4:i<Ln - j
  ·obtain ⟨g1,h2,h3,e1⟩:=ixF (j:=i) (n:=(Ln - j)) (by omega) (by omega)
   have gj:=hget (j+i) (by omega)
   have hw:mine.getD (j+i) []=(mine.drop j).getD i []:=by simp[List.getD]
   rw[hw] at gj
   have hsn:=bJ ([]:Bs) (by rw[hdl];exact hi4:i<(mine.drop j).length)
   have hout:(((mine.drop j).take i).foldl (dI Y.C) out0).length≤out0.length+i:=by
    have key:∀(ks:List Bs) (o:List Pr),(ks.foldl (dI Y.C) o).length≤o.length+ks.length:=by
     intro ks
     induction ks with
     |nil=>intro o;simp
     |cons a ks ih=>intro o;have h1:=ih (dI Y.C o a);have h2:=ld Y.C o a;simp only[List.foldl_cons,List.length_cons];omega
    have:=key ((mine.drop j).take i) out0
    rw[List.length_take] at this
    omega
   have hstep:((mine.drop j).take (i+1)).foldl (dI Y.C) out0=dI Y.C (((mine.drop j).take i).foldl (dI Y.C) out0) ((mine.drop j).getD i []):=by
    rw[hsn,List.foldl_append];rfl
   generalize (((mine.drop j).take i).foldl (dI Y.C) out0)=out at*
   generalize (mine.drop j).getD i []=w at*
   have ei:p+j+i*1=p+(j+i):=by omega
   refine rn0 (cj8 g1 h2 h3 @and_self @Int.toNat_natCast ei fk gj) ?_
   refine aa.lG [] [_,_] [] (by simp only[go_sem]) (by simp only[go_sem,reduceIte,Nat.reduceEqDiff];exact rfl) Tryz.func94 (of_decide_eq_true (by kernel_rfl)) (of_decide_eq_true (by kernel_rfl)) (by simp only[go_sem,reduceIte,Nat.reduceEqDiff,List.map,List.nil_append,List.cons_append];exact af.refl _) (xW hF out (by omega) w) ok7 fun r G' n8 m8 ids hq hn8 hm8 ok8 wi8 ki8=>?_
   obtain ⟨tk8,rfl⟩:=hq
   simp only[List.cons_append,List.nil_append,List.append_nil] at ok8 wi8 ki8 ⊢
   refine aa.evR xA1 ?_
   refine aa.nil ⟨by trivial,?_⟩
   refine rn0 e1 ?_
   refine ⟨i+1,_,n8,_,m8,⟨hn8,hm8,ok8,wi8,ki8⟩,⟨by omega,tk8,by rw[hstep]⟩,by omega,?_⟩
   exact xSu
  ·obtain rfl:i=Ln - j:=by omega
   have g1:=ixE ((Ln - j))
   have htl:(mine.drop j).take (Ln - j)=mine.drop j:=List.take_of_length_le (by rw[hdl];exact Nat.le_refl _)
   rw[htl] at ok7 on7 ⊢
   have fo:=ok7.sub (F:=obk o (.cells [.sl 2 (prs ((mine.drop j).foldl (dI Y.C) out0)) (.own tk7)]) [tk7]) (by simp) o _ (by simp[eD];rfl)
   refine rn0 (cj2 g1 fo) ?_
   exact Wp.ret ⟨trivial,_,rfl,_,_,((on0.step on).step on7).mG ab.cap ⟨rfl,rfl⟩⟩
theorem vQ (l:List Pr):cV [] [] l=(0,l):=by
 have key:∀(l o:List Pr),l.foldl (dp [] []) (0,o)=(0,o++l):=by
  intro l
  induction l with
  |nil=>intro o;simp
  |cons p l ih=>
   intro o
   have h1:dp [] [] (0,o) p=(0,o++[p]):=by
    rw[dp,lS (by simp)];simp[bO]
   rw[List.foldl_cons,h1,ih];simp
 have:=key l []
 rw[List.nil_append] at this
 exact this
theorem vR (l:List Pr) (a b:Bs):gH [] l a b=l:=by
 have h1:dB [] a b=[]:=by unfold dB;simp[ak]
 rw[gH,h1,vQ];rfl
set_option maxHeartbeats 4000000 in
theorem pw {x s cm o tk n0 m0 n m:Nat} {T:List Nat} {Y:Tx} {F:Fr} {K k4 k5:AV} {M:List Ch} (hM:∀q,bO M q=bO Y.C q) (hC:Y.C=[])
  (hx:F.o x=some (.cells [.ptr s 0,.int .i64 Y.t,.mp cm,K,k4,k5,.bool Y.ended])) (hcm:F.o cm=some (.map (bU M)))
  (on0:On [F] n0 m0 [obk o (.cells [.sl 2 (prs []) (.own tk)]) [tk],F] n T m) (l:List Pr) (hl:l.length≤500000)
  (t:Tm) (h1:t 1= .sl 2 (prs l) .any) (h4:t 4= .ref [.ptr x 0]) (h9:t 9= .ptr o 0) (h13:t 13= .sl 1 [] (.exact 0)):
  Wp Tryz.prog 101 (cy 6 c51) ⟨t,⟨lay [obk o (.cells [.sl 2 (prs []) (.own tk)]) [tk],F],n,T,m⟩⟩ fun e s'=>gw e∧∃q,bR [.tmp 8] s'.t s'.h=some q∧∃r l',Av.Ends [F] n0 m0 (fun r L=>r= .sl 2 (prs l) .any∧L=[F]) q s'.h r l':=by
 unfold c51
 simp only[C.zz]
 simp only[cy]
 have hpl:(prs l).length=l.length:=by simp[prs]
 have z0:decide ((0:Int)<((0:Nat):Int))=false:=rfl
 refine rn0 (cj2 h1 hpl) ?_
 refine Wp.gU (β:=Nat) [4,9,13,49,50] (by simp only[go_sem,reduceIte,Nat.reduceEqDiff,List.map,h4,h9,h13];exact rfl) (fun i=>[(51,.int .i64 (i:Nat))]) (fun i L=>i≤l.length∧∃tk,L=[obk o (.cells [.sl 2 (prs (l.take i)) (.own tk)]) [tk],F]) (fun i=>l.length - i) 0 ⟨Nat.zero_le _,tk,rfl⟩ on0.ok xA9 ?_
 rintro i L n5 T5 m5 on ⟨hi,tk5,rfl⟩
 by_cases hi2:i<l.length
 ·obtain ⟨g1,h2,h3,e1⟩:=ixF (j:=i) (n:=l.length) (by omega) (by omega)
  have hat:(prs l).getD i .any=bV (l.getD i default):=cR bV l i .any hi2
  have hsn:=bJ (default:Pr) hi2
  have hol:(prs (l.take i)).length≤500000:=by simp[prs];omega
  generalize l.getD i default=q at*
  generalize l.take i=out at*
  have ok6:=on.ok.more (.cells [.str q.k,.str q.v])
  refine rn0 (cj6 g1 h2 h3 hat hpl @bV.eq_1) ?_
  rw[bm,bu]
  have ok7:=ok6
  refine Wp.mB (WpL.next ?_)
  have f17:=aK n5 (.cells [.str q.k,.str q.v]) [obk o (.cells [.sl 2 (prs out) (.own tk5)]) [tk5],F]
  have fo:=ok7.sub (F:=obk o (.cells [.sl 2 (prs out) (.own tk5)]) [tk5]) (by simp) o _ (by simp[eD];rfl)
  have fx:=ok7.sub (F:=F) (by simp) _ _ hx
  have fc:=ok7.sub (F:=F) (by simp) _ _ hcm
  obtain ⟨x1,x2,x3,x4⟩:=cF (ok7.lt (F:=F) (by simp) hx)
  obtain ⟨c1',c2',c3',c4'⟩:=cF (ok7.lt (F:=F) (by simp) hcm)
  obtain ⟨b1,b2,b3,b4⟩:=cF (ok7.lt (F:=ob n5 (.cells [.str q.k,.str q.v])) (by simp) (j:=n5) (o:= .cells [.str q.k,.str q.v]) (by simp[aW]))
  have hlk:=pn true q.k M
  unfold nQ at hlk
  simp only[cQ,if_true] at hlk
  have hog:ca M q.k=⟨[],[],false⟩:=by rw[ca,hM,hC];rfl
  rw[hog,hM,hC] at hlk
  have ok8:=ok7.more (.cells [.str [],.str [],.bool false])
  refine rn0 (cj2 @List.length_nil.{0} z0) ?_
  refine Wp.reg ?_
  refine aa.part 13 (by simp only[go_sem,reduceIte,Nat.reduceEqDiff,Nat.reduceAdd,bx,fx,fc,cw,hlk,aL,f17,x3,x4,c3',c4',b3,b4,bO,Option.isSome_none];exact rfl) ?_
  simp only[List.drop_succ_cons,List.drop_zero,List.drop_nil]
  refine aa.nil ⟨by simp[ay,au,apart,aH,x3,x4,c3',c4',b3,b4],?_⟩
  rw[bm,bu]
  have hpr:prs (out++[q])=prs out++[.agg [.str q.k,.str q.v]]:=by simp[prs,bV]
  have e13:=Ok.jN (A:=[_,_]) (.cells [.sl 2 (prs (out++[q])) (.own m5)]) [m5] ok8
  have on13:=On.jO (A:=[_,_]) (o':= .cells [.sl 2 (prs (out++[q])) (.own m5)]) ok8
  simp only[List.cons_append,List.nil_append] at e13 on13
  have f17':=ok8.sub (F:=ob n5 (.cells [.str q.k,.str q.v])) (by simp) n5 _ (by simp[aW];rfl)
  have fo':=ok8.sub (F:=obk o (.cells [.sl 2 (prs out) (.own tk5)]) [tk5]) (by simp) o _ (by simp[eD];rfl)
  have htk:tk5∈T5:=ok7.tk tk5 (by simp[ks,obk])
  have rm1:((prs out).length+1)*32≤140737488355328:=by omega
  have rm2:(prs out).length+1<4611686018427387904:=by omega
  rw[hpr] at e13
  refine rn0 (cj8 e1 f17' fo' rm1 rm2 htk @List.length_cons.{0} @List.length_nil.{0}) ?_
  rw[e13]
  refine ⟨i+1,[obk o (.cells [.sl 2 (prs (out++[q])) (.own m5)]) [m5],F],_,_,m5+1,(((On.refl ok6).grown.step (On.refl ok8).grown).step on13).cB.cB,⟨by omega,m5,by rw[hsn]⟩,by omega,?_⟩
  have ok9:=on13.ok
  rw[←hpr]
  refine aU.of (dr ?_) (il (Ok.alone ok9) (Ok.alone ok9.tail)) (fun t ht=>by simpa using ht) (Nat.le_refl _) (Nat.le_refl _)
  exact xSb
 ·obtain rfl:i=l.length:=by omega
  rw[List.take_length] at*
  have g1:=ixE (l.length)
  have fo:=on.ok.sub (F:=obk o (.cells [.sl 2 (prs l) (.own tk5)]) [tk5]) (by simp) o _ (by simp[eD];rfl)
  refine rn0 (cj2 g1 @List.length_nil.{0}) ?_
  refine Wp.mB (WpL.next ?_)
  refine rn0 (cj2 z0 fo) ?_
  exact Wp.ret ⟨trivial,_,rfl,_,_,(on0.step on).mG ab.cap ⟨rfl,rfl⟩⟩
set_option maxHeartbeats 4000000 in
theorem BN {x s:Nat} {Y:Tx} {F:Fr} (hF:TxF x s Y F) (hr:bL (ak Y.C)) (hl:Y.C.length≤64) (l:List Pr) (hll:l.length≤500000) (a b:Bs):
  aT Tryz.prog 51 [.ptr x 0,.sl 2 (prs l) .any,.str a,.str b] [F] fun r L=>r= .sl 2 (prs (gH Y.C l a b)) .any∧L=[F]:=by
 obtain ⟨cm,M,K,hM,hxc,hx,hcm,hK⟩:=hF.go
 have hkl:=bP Y.C
 obtain ⟨objs,ids,ho,hi,hb⟩:=nN hK hr (by omega) a
 refine f51.bo (by simp) fun n m ok=>?_
 have hseq:∃r1 r2 r3 r4 r5 r6,c51= .seq r1 (.seq r2 (.seq r3 (.seq r4 (.seq r5 (.seq r6 (cy 6 c51)))))):=⟨_,_,_,_,_,_,rfl⟩
 have ksF:ks [F]=[]:=by simp[ks,hF.k]
 have hxn:=ok.lt (by simp) hx
 have e1:decide (n≤n)=true:=decide_eq_true (by omega)
 have dx:=decide_eq_false (show ¬n≤x by omega)
 rw[ksF] at ok ⊢
 unfold c51
 simp only[C.zz]
 refine Wp.aw xA1 (by trivial) ?_
 refine Wp.frz (fun j=>decide (n≤j)) [(1,.sl 2 (prs l) .any),(2,.str a),(3,.str b),(4,.ref [.ptr x 0])] ⟨lay [F],n+1,[],m⟩ ?_ (kZ ok fun j hj=>by simp only[upd];rw[if_neg (by omega)]) (fun t ht=>ht) (Nat.le_refl _) (Nat.le_refl _) ?_
 ·simp only[aC,go_sem,reduceIte,Nat.reduceEqDiff,unT,eB,bx,e1,dx,if_false,if_true,List.drop_zero]
  and_intros<;>first|exact ab.refl _|trivial
 refine Wp.aw xA1 (by trivial) ?_
 rw[rp (k:=[m])]
 have ok1:Ok [F] (n+1) [] m:=ok.grow (by omega) (Nat.le_refl _)
 have ok4:=ok1.xu (.cells [.sl 2 [] (.own m)])
 have on4:On [F] n m [obk (n+1) (.cells [.sl 2 (prs []) (.own m)]) [m],F] (n+1+1) [m] (m+1):=by
  refine ⟨by omega,by omega,ok4,fun j=>?_,fun t ht=>?_⟩
  ·by_cases e:j=n+1
   ·exact .inl (by omega)
   ·rw[dk _ _ _ e]
    cases h:lay [F] j with
    |none=>exact .inr (.inr rfl)
    |some o=>exact .inr (.inl rfl)
  ·rw[show ks [obk (n+1) (.cells [.sl 2 (prs []) (.own m)]) [m],F]=[m] by simp[ks,obk,hF.k]] at ht
   exact .inr (by rw[List.mem_singleton.1 ht];exact Nat.le_refl _)
 refine Wp.le (aU.trans (aU.tok _ _) (aU.of (f':=lay [obk (n+1) (.cells [.sl 2 (prs []) (.own m)]) [m],F]) (n':=n+1+1) (m':=m+1) (k':=[m]) (fun i=>ab.refl _) ?_ (by simp) (by simp) (by simp))) ?_
 ·intro j o hj
  by_cases e:j=n+1
  ·subst e
   rw[eN] at hj
   cases hj
   exact ⟨_,eN _ _ _ _,af.cons (ab.eL rfl) af.nil⟩
  ·rw[dk _ _ _ e] at hj
   exact ⟨o,(dk _ _ _ e).trans hj,cq.refl _⟩
 have fx:=on4.ok.sub (F:=F) (by simp) _ _ hx
 have hsub:∀id o,F.o id=some o→lay [obk (n+1) (.cells [.sl 2 (prs []) (.own m)]) [m],F] id=some o:=fun id o h=>on4.ok.sub (F:=F) (by simp) id o h
 have hp:=eY (ak Y.C) a
 have hpi1:(0:Int)≤(plK (ak Y.C) a:Int):=by omega
 have hpi2:(plK (ak Y.C) a:Int)≤((ak Y.C).length:Int):=by omega
 have fin:∀(mine:List Bs),mine=dB Y.C a b→∀q (h:H),(∃r l',Av.Ends [F] n m (fun r L=>r= .sl 2 (prs (((mine.drop (cV Y.C mine l).1).foldl (dI Y.C) (cV Y.C mine l).2))) .any∧L=[F]) q h r l')→∃r l',Av.Ends [F] n m (fun r L=>r= .sl 2 (prs (gH Y.C l a b)) .any∧L=[F]) q h r l':=by
  rintro mine rfl q h he
  exact he
 rcases hK with ⟨rfl,h2⟩|⟨k,rfl,h2,h3,h4⟩
 ·have hC:Y.C=[]:=by
   cases h:Y.C with
   |nil=>rfl
   |cons c C=>rw[h] at h2;simp[ak] at h2
  have hp0:plK (ak Y.C) a=0:=by rw[h2];rfl
  rw[hp0] at hb
  rw[hC,vR]
  obtain ⟨objs2,ids2,ho2,hi2,hb2⟩:=nN (K:= .sl 1 [] (.exact 0)) (keys:=ak Y.C) (o:=F.o) (s:=x) (c:=cm) (.inl ⟨rfl,h2⟩) hr (by omega) b
  have hp1:plK (ak Y.C) b=0:=by rw[h2];rfl
  rw[hp1] at hb2
  have z0:((0:Nat):Int)=0:=rfl
  refine rn0 fx ?_
  refine aa.ji ids (by simp only[go_sem]) xA4 (fun id o h=>hsub id o (ho id o h)) hi hb ?_
  refine aa.evR xA1 ?_
  refine aa.nil ⟨by trivial,?_⟩
  by_cases hbe:b=[]
  ·have d1:decide (b=[])=true:=decide_eq_true hbe
   refine Wp.aw (by simp only[go_sem,reduceIte,Nat.reduceEqDiff,Nat.reduceAdd,bx,fx,z0,Int.le_refl,and_self,Int.toNat_zero,List.length_nil,if_true];exact rfl) (by trivial) ?_
   refine Wp.seq ?_
   refine Wp.aw (by simp only[go_sem,reduceIte,Nat.reduceEqDiff,Nat.reduceAdd,bx,d1];exact rfl) (by trivial) ?_
   refine Wp.cond_false xA2 ?_
   refine Wp.skip ?_
   refine pw hM hC hx hcm on4 l hll _ ?_ ?_ ?_ ?_
   all_goals simp only[go_sem,reduceIte,Nat.reduceEqDiff,List.take_nil,List.drop_nil,Nat.sub_zero]
  ·have d1:decide (b=[])=false:=decide_eq_false hbe
   refine Wp.aw (by simp only[go_sem,reduceIte,Nat.reduceEqDiff,Nat.reduceAdd,bx,fx,z0,Int.le_refl,and_self,Int.toNat_zero,List.length_nil,if_true];exact rfl) (by trivial) ?_
   refine Wp.seq ?_
   refine Wp.aw (by simp only[go_sem,reduceIte,Nat.reduceEqDiff,Nat.reduceAdd,bx,d1,Bool.not_false];exact rfl) (by trivial) ?_
   refine Wp.cond_true xA2 ?_
   refine Wp.seqItems xA1 ?_
   refine aa.ji ids2 (by simp only[go_sem]) (by simp only[go_sem,reduceIte,Nat.reduceEqDiff,List.map,List.take_nil,List.drop_nil,Nat.sub_zero];exact af.refl _) (fun id o h=>hsub id o (ho2 id o h)) hi2 hb2 ?_
   refine aa.eval xA1 ?_
   refine aa.nil ⟨by trivial,?_⟩
   refine Wp.jX (by simp only[go_sem,reduceIte,Nat.reduceEqDiff,Nat.reduceAdd,bx,z0,Int.le_refl,and_self,Int.toNat_zero,List.length_nil,if_true];exact rfl) (by trivial) ?_
   refine pw hM hC hx hcm on4 l hll _ ?_ ?_ ?_ ?_
   all_goals simp only[go_sem,reduceIte,Nat.reduceEqDiff,List.take_nil,List.drop_nil,Nat.sub_zero]
 ·refine rn0 fx ?_
  refine aa.ji ids (by simp only[go_sem]) xA4 (fun id o h=>hsub id o (ho id o h)) hi hb ?_
  refine aa.evR xA1 ?_
  refine aa.nil ⟨by trivial,?_⟩
  have z1:plK (ak Y.C) a*1=plK (ak Y.C) a:=Nat.mul_one _
  by_cases hbe:b=[]
  ·have d1:decide (b=[])=true:=decide_eq_true hbe
   refine Wp.aw (by simp only[go_sem,reduceIte,Nat.reduceEqDiff,Nat.reduceAdd,bx,fx,hpi1,hpi2,and_self,Int.toNat_natCast,Nat.zero_add,z1,if_true,Option.map_none];exact rfl) (by trivial) ?_
   refine Wp.seq ?_
   refine Wp.aw (by simp only[go_sem,reduceIte,Nat.reduceEqDiff,Nat.reduceAdd,bx,d1];exact rfl) (by trivial) ?_
   refine Wp.cond_false xA2 ?_
   refine Wp.skip ?_
   have hm:((ak Y.C).drop (plK (ak Y.C) a)).take ((ak Y.C).length - plK (ak Y.C) a)=dB Y.C a b:=by
    rw[dB,if_pos hbe,List.take_of_length_le (by rw[List.length_drop];exact Nat.le_refl _)]
   refine Wp.mono (pv hM hF.k hF hx hcm h2 on4 rfl (p:=plK (ak Y.C) a) (Ln:=(ak Y.C).length - plK (ak Y.C) a) (by omega) (by omega) l hll _ ?_ ?_ ?_ ?_ ?_) ?_
   all_goals first|(simp only[go_sem,reduceIte,Nat.reduceEqDiff];done)|skip
   rintro e s' ⟨h5,q,h6,h7⟩
   rw[hm] at h7
   exact ⟨h5,q,h6,h7⟩
  ·have d1:decide (b=[])=false:=decide_eq_false hbe
   have hdt:((ak Y.C).drop (plK (ak Y.C) a)).take ((ak Y.C).length - plK (ak Y.C) a)=(ak Y.C).drop (plK (ak Y.C) a):=List.take_of_length_le (by rw[List.length_drop];exact Nat.le_refl _)
   have hb2:=Aa (k:=k) (keys:=ak Y.C) (off:=plK (ak Y.C) a) (len:=(ak Y.C).length - plK (ak Y.C) a) (by omega) (by rw[hdt];exact hr.sublist (List.drop_sublist _ _)) (by omega) b
   rw[hdt] at hb2
   have hp2:=eY ((ak Y.C).drop (plK (ak Y.C) a)) b
   rw[List.length_drop] at hp2
   have hpi3:(0:Int)≤(plK ((ak Y.C).drop (plK (ak Y.C) a)) b:Int):=by omega
   have hpi4:(plK ((ak Y.C).drop (plK (ak Y.C) a)) b:Int)≤(((ak Y.C).length - plK (ak Y.C) a:Nat):Int):=by omega
   refine Wp.aw (by simp only[go_sem,reduceIte,Nat.reduceEqDiff,Nat.reduceAdd,bx,fx,hpi1,hpi2,and_self,Int.toNat_natCast,Nat.zero_add,z1,if_true,Option.map_none];exact rfl) (by trivial) ?_
   refine Wp.seq ?_
   refine Wp.aw (by simp only[go_sem,reduceIte,Nat.reduceEqDiff,Nat.reduceAdd,bx,d1,Bool.not_false];exact rfl) (by trivial) ?_
   refine Wp.cond_true xA2 ?_
   refine Wp.seqItems xA1 ?_
   refine aa.ji [k] (by simp only[go_sem]) xA4 (fun id o h=>?_) (fun id h=>?_) hb2 ?_
   ·simp only[upd,ag] at h
    split at h
    ·rename_i e;subst e;cases h;exact hsub _ _ h2
    ·cases h
   ·simp only[upd,ag] at h
    split at h
    ·rename_i e;simp[e]
    ·cases h
   refine aa.eval xA1 ?_
   refine aa.nil ⟨by trivial,?_⟩
   refine Wp.jX (by simp only[go_sem,reduceIte,Nat.reduceEqDiff,Nat.reduceAdd,bx,hpi3,hpi4,and_self,Int.toNat_natCast,if_true,Option.map_none,Int.toNat_zero,Nat.zero_mul,Nat.add_zero,Nat.sub_zero,Int.le_refl];exact rfl) (by trivial) ?_
   have hm:((ak Y.C).drop (plK (ak Y.C) a)).take (plK ((ak Y.C).drop (plK (ak Y.C) a)) b)=dB Y.C a b:=by rw[dB,if_neg hbe]
   refine Wp.mono (pv hM hF.k hF hx hcm h2 on4 rfl (p:=plK (ak Y.C) a) (Ln:=plK ((ak Y.C).drop (plK (ak Y.C) a)) b) (by omega) (by omega) l hll _ ?_ ?_ ?_ ?_ ?_) ?_
   all_goals first|(simp only[go_sem,reduceIte,Nat.reduceEqDiff];done)|skip
   rintro e s' ⟨h5,q,h6,h7⟩
   rw[hm] at h7
   exact ⟨h5,q,h6,h7⟩
end Go.Proofs.YtpehfflehebmbaaGreat.Txn
end
section
set_option maxRecDepth 10000
namespace Go.Av
theorem nX {A B:List Fr} {F:Fr} {n m i:Nat} {T:List Nat} (o:Obj) (ok:Ok (A++F::B) n T m) (h:(F.o i).isSome=true):upd (lay (A++F::B)) i (some o)=lay (A++⟨upd F.o i (some o),F.k⟩::B):=by
 have hA:lay A i=none:=cd.2 fun G hG=>by
  rcases (List.pairwise_append.1 ok.dj).2.2 G hG F (by simp) i with h1|h1
  ·exact h1
  ·rw[h1] at h;cases h
 funext j
 simp only[upd,bK,cO]
 by_cases e:j=i
 ·subst e;simp[hA]
 ·simp[e]
theorem On.CT {A B:List Fr} {F:Fr} {n m i:Nat} {T:List Nat} (o:Obj) (ok:Ok (A++F::B) n T m) (h:(F.o i).isSome=true):On (A++F::B) n m (A++⟨upd F.o i (some o),F.k⟩::B) n T m:=by
 have hn:i<n:=by
  obtain ⟨x,hx⟩:=Option.isSome_iff_exists.1 h
  exact ok.lt (F:=F) (by simp) hx
 have hdj:=List.pairwise_append.1 ok.dj
 have hdc:=List.pairwise_cons.1 hdj.2.1
 refine ⟨Nat.le_refl _,Nat.le_refl _,⟨fun G hG j hj=>?_,?_,fun t ht=>ok.tk t (by simpa [ks] using ht),?_,ok.tb⟩,fun j=>?_,fun t ht=> .inl (by simpa [ks] using ht)⟩
 ·rcases List.mem_append.1 hG with hG|hG
  ·exact ok.bd G (by simp[hG]) j hj
  ·rcases List.mem_cons.1 hG with rfl|hG
   ·simp only[upd];rw[if_neg (by omega)];exact ok.bd F (by simp) j hj
   ·exact ok.bd G (by simp[hG]) j hj
 ·have aux:∀(G:Fr),(∀j,G.o j=none∨F.o j=none)→∀j,G.o j=none∨(⟨upd F.o i (some o),F.k⟩:Fr).o j=none:=fun G hG j=>by
   rcases hG j with h1|h1
   ·exact .inl h1
   ·by_cases e:j=i
    ·subst e;rw[h1] at h;cases h
    ·simp only[upd,if_neg e];exact .inr h1
  refine List.pairwise_append.2 ⟨hdj.1,List.pairwise_cons.2 ⟨fun G hG j=>?_,hdc.2⟩,fun G hG G' hG'=>?_⟩
  ·exact (aux G (fun j=>(hdc.1 G hG j).symm) j).symm
  ·rcases List.mem_cons.1 hG' with rfl|hG'
   ·exact aux G (hdj.2.2 G hG F (by simp))
   ·exact hdj.2.2 G hG G' (by simp[hG'])
 ·have htd:=List.pairwise_append.1 ok.td
  have htc:=List.pairwise_cons.1 htd.2.1
  exact List.pairwise_append.2 ⟨htd.1,List.pairwise_cons.2 ⟨htc.1,htc.2⟩,fun G hG G' hG'=>by
   rcases List.mem_cons.1 hG' with rfl|hG'
   ·exact htd.2.2 G hG F (by simp)
   ·exact htd.2.2 G hG G' (by simp[hG'])⟩
 ·rw[←nX o ok h]
  simp only[upd]
  by_cases e:j=i
  ·subst e
   right;left
   obtain ⟨x,hx⟩:=Option.isSome_iff_exists.1 h
   rw[ok.sub (F:=F) (by simp) _ _ hx];rfl
  ·rw[if_neg e]
   cases hh:lay (A++F::B) j with
   |none=>exact .inr (.inr rfl)
   |some x=>exact .inr (.inl rfl)
end Go.Av
namespace Go.Proofs.YtpehfflehebmbaaGreat.Txn
open Go Go.Av Go.Proofs Go.Proofs.YtpehfflehebmbaaGreat.C Go.Proofs.YtpehfflehebmbaaGreat.Batch Go.Proofs.YtpehfflehebmbaaGreat.Space Go.Proofs.YtpehfflehebmbaaGreat.Reads
theorem TxF.read {x s cm:Nat} {Y:Tx} {F:Fr} {M:List Ch} {K:AV} (hM:∀q,bO M q=bO Y.C q) (hxc:x≠cm)
  (hcm:F.o cm=some (.map (bU M))) (hK:rH K (ak Y.C) F.o x cm) (hk:F.k=[]) (hfin:F.Fin) (Y':Tx) (hC:Y'.C=Y.C):
  TxF x s Y' ⟨upd F.o x (some (.cells [.ptr s 0,.int .i64 Y'.t,.mp cm,K,.sl 1 (strs Y'.rk) .any,.sl 2 (sps Y'.rs) .any,.bool Y'.ended])),F.k⟩:=by
 refine ⟨⟨cm,M,K,fun q=>by rw[hM,hC],hxc,by simp[upd],?_,?_⟩,hk,?_⟩
 ·simp only[upd];rw[if_neg (Ne.symm hxc)];exact hcm
 ·rw[hC]
  rcases hK with h|⟨k,h1,h2,h3,h4⟩
  ·exact .inl h
  ·exact .inr ⟨k,h1,by simp only[upd];rw[if_neg h3];exact h2,h3,h4⟩
 ·obtain ⟨ids,hi⟩:=hfin
  refine ⟨x::ids,fun id hid=>?_⟩
  by_cases e:id=x
  ·simp[e]
  ·simp only[upd,if_neg e] at hid
   exact List.mem_cons_of_mem _ (hi id hid)
def er (Y:Tx) (l:List Pr) (a b:Bs):Tx × List Pr × Int:=
 if (cu Y.rk Y.rs ⟨a,b⟩).2.2=0 then ({Y with rk:=(cu Y.rk Y.rs ⟨a,b⟩).1,rs:=(cu Y.rk Y.rs ⟨a,b⟩).2.1},l,0) else (Y,[],(cu Y.rk Y.rs ⟨a,b⟩).2.2)
def kg (Y:Tx) (l:List Pr) (a b:Bs) (most:Int):Tx × List Pr × Int:=
 if 0<most∧most≤l.length then er Y (l.take most.toNat) a ((l.getD (most.toNat - 1) default).k++[0]) else er Y l a b
def gI (S:Spc) (Y:Tx) (a b:Bs) (most:Int):Tx × List Pr × Int:=
 if (cn S a b Y.t (-1)).2≠0∨most=0 then (Y,[],(cn S a b Y.t (-1)).2) else
  kg Y (if b=[]∨Op.bytesLess a b=true then gH Y.C (cn S a b Y.t (-1)).1 a b else (cn S a b Y.t (-1)).1) a b most
def xX (x s o:Nat) (R:Tx × List Pr × Int) (FS:Fr):AV→List Fr→Prop:=fun r L=>r= .tup [.sl 2 (prs R.2.1) .any,.int .i64 R.2.2]∧∃F' b',L=[ob o (.cells [.str b']),F',FS]∧TxF x s R.1 F'
set_option maxHeartbeats 4000000 in
theorem px {x s o n0 m0 n m:Nat} {T:List Nat} {Y:Tx} {F FS:Fr} {G0:List Fr} (hF:TxF x s Y F) (l:List Pr) (a b:Bs)
  (on0:On G0 n0 m0 [ob o (.cells [.str b]),F,FS] n T m) (t:Tm) (h0:t 0= .ref [.ptr x 0]) (h1:t 1= .ref [.str a]) (h2:t 2= .ptr o 0) (h6:t 6= .sl 2 (prs l) .any):
  Wp Tryz.prog 78 (cy 5 c49) ⟨t,⟨lay [ob o (.cells [.str b]),F,FS],n,T,m⟩⟩ fun e s'=>gw e∧∃q,bR [.tmp 4,.tmp 5] s'.t s'.h=some q∧∃r l',Av.Ends G0 n0 m0 (xX x s o (er Y l a b) FS) q s'.h r l':=by
 obtain ⟨cm,M,K,hM,hxc,hx,hcm,hK⟩:=hF.go
 unfold c49
 simp only[C.zz]
 simp only[cy]
 have fx:=on0.ok.sub (F:=F) (by simp) _ _ hx
 have fo:=aK o (.cells [.str b]) [F,FS]
 obtain ⟨x1,x2,x3,x4⟩:=cF (on0.ok.lt (F:=F) (by simp) hx)
 obtain ⟨b1,b2,b3,b4⟩:=cF (on0.ok.lt (F:=ob o (.cells [.str b])) (by simp) (j:=o) (o:= .cells [.str b]) (by simp[aW]))
 have hsp:=BK Y.rk Y.rs ⟨a,b⟩
 unfold Reads.bU Reads.bT at hsp
 simp only at hsp
 have hE:er Y l a b=if (cu Y.rk Y.rs ⟨a,b⟩).2.2=0 then ({Y with rk:=(cu Y.rk Y.rs ⟨a,b⟩).1,rs:=(cu Y.rk Y.rs ⟨a,b⟩).2.1},l,0) else (Y,[],(cu Y.rk Y.rs ⟨a,b⟩).2.2):=rfl
 rw[hE]
 generalize cu Y.rk Y.rs ⟨a,b⟩=kb at*
 have ok8:=on0.ok.more (.cells [.sl 1 (strs kb.1) .any,.sl 2 (sps kb.2.1) .any])
 have on8:=on0.step (On.refl ok8).grown
 refine rn0 (cj5 h0 h1 h2 fx fo) ?_
 refine aa.bF (by simp only[go_sem]) xA4 hsp ?_
 refine aa.evR xA1 ?_
 refine aa.nil ⟨by simp[ay,au,apart,aH,x3,x4,b3,b4],?_⟩
 rw[bm,bu]
 have g8:=aK n (.cells [.sl 1 (strs kb.1) .any,.sl 2 (sps kb.2.1) .any]) [ob o (.cells [.str b]),F,FS]
 have gx:=ok8.sub (F:=F) (by simp) _ _ hx
 by_cases hk:kb.2.2=0
 ·have d1:=decide_eq_true hk
  rw[if_pos hk]
  have e13:=nX (A:=[_,_]) (F:=F) (i:=x) (.cells [.ptr s 0,.int .i64 Y.t,.mp cm,K,.sl 1 (strs kb.1) .any,.sl 2 (sps kb.2.1) .any,.bool Y.ended]) ok8 (by rw[hx];rfl)
  have on13:=On.CT (A:=[_,_]) (F:=F) (i:=x) (.cells [.ptr s 0,.int .i64 Y.t,.mp cm,K,.sl 1 (strs kb.1) .any,.sl 2 (sps kb.2.1) .any,.bool Y.ended]) ok8 (by rw[hx];rfl)
  simp only[List.cons_append,List.nil_append] at e13 on13
  refine rn0 (cj5 d1 h0 h6 g8 gx) ?_
  rw[e13]
  exact Wp.ret ⟨trivial,_,rfl,_,_,(on8.step on13).mG (ab.refl _) ⟨rfl,_,b,rfl,TxF.read hM hxc hcm hK hF.k hF.fin {Y with rk:=kb.1,rs:=kb.2.1} rfl⟩⟩
 ·have d1:=decide_eq_false hk
  rw[if_neg hk]
  refine rn0 d1 ?_
  exact Wp.ret ⟨trivial,_,rfl,_,_,on8.mG (ab.tup (af.cons ab.cap (af.refl _))) ⟨rfl,F,b,rfl,hF⟩⟩
set_option maxHeartbeats 4000000 in
theorem vU {x s o n0 m0 n m:Nat} {T:List Nat} {Y:Tx} {F FS:Fr} {G0:List Fr} (hF:TxF x s Y F) (l:List Pr) (hl:l.length≤1000000) (a b:Bs) (most:Int) (hlk:∀p∈l,p.k.length≤4611686018427387904)
  (on0:On G0 n0 m0 [ob o (.cells [.str b]),F,FS] n T m) (t:Tm) (h0:t 0= .ref [.ptr x 0]) (h1:t 1= .ref [.str a]) (h2:t 2= .ptr o 0) (h3:t 3= .ref [.int .i64 most]) (h6:t 6= .sl 2 (prs l) .any):
  Wp Tryz.prog 78 (cy 4 c49) ⟨t,⟨lay [ob o (.cells [.str b]),F,FS],n,T,m⟩⟩ fun e s'=>gw e∧∃q,bR [.tmp 4,.tmp 5] s'.t s'.h=some q∧∃r l',Av.Ends G0 n0 m0 (xX x s o (kg Y l a b most) FS) q s'.h r l':=by
 have fo:=aK o (.cells [.str b]) [F,FS]
 have hpl:(prs l).length=l.length:=by simp[prs]
 by_cases hc:0<most∧most≤(l.length:Int)
 ·obtain ⟨c1,c2⟩:=hc
  have d1:=decide_eq_true c1
  have d2:=decide_eq_true c2
  have hC:kg Y l a b most=er Y (l.take most.toNat) a ((l.getD (most.toNat - 1) default).k++[0]):=by rw[kg,if_pos ⟨c1,c2⟩]
  rw[hC]
  have hlt:most.toNat - 1<l.length:=by omega
  have hat:(prs (l.take most.toNat)).getD (most.toNat - 1) .any=bV (l.getD (most.toNat - 1) default):=by
   have:=cR bV (l.take most.toNat) (most.toNat - 1) .any (by rw[List.length_take];omega)
   unfold prs
   rw[this,Av.ar (by rw[List.length_take];omega),Av.ar hlt,List.getElem_take]
  have hkl:(l.getD (most.toNat - 1) default).k.length≤4611686018427387904:=by
   rw[Av.ar hlt];exact hlk _ (List.getElem_mem hlt)
  have e1:IntKind.i64.wrap (most - 1)=((most.toNat - 1:Nat):Int):=by rw[IntWalk.i64_in _ (by omega)];omega
  have c3:(0:Int)≤most:=by omega
  have c4:(0:Int)≤((most.toNat - 1:Nat):Int):=by omega
  have c5:((most.toNat - 1:Nat):Int)<((most.toNat:Nat):Int):=by omega
  have htl:(prs l).take most.toNat=prs (l.take most.toNat):=by simp[prs,List.map_take]
  have hpl2:(prs (l.take most.toNat)).length=most.toNat:=by simp[prs];omega
  have rm:(l.getD (most.toNat - 1) default).k.length+1<9223372036854775808:=by omega
  generalize l.getD (most.toNat - 1) default=w at*
  have e13:=Ok.bu (A:=[]) (.cells [.str (w.k++[0])]) on0.ok
  have on13:=On.dv (A:=[]) (o':= .cells [.str (w.k++[0])]) on0.ok
  simp only[List.nil_append] at e13 on13
  have hE:=px hF (l.take most.toNat) a (w.k++[0]) (on0.step on13)
  generalize hR:cy 5 c49=R at*
  have hD:cy 4 c49= .seq (match cy 4 c49 with| .seq a _=>a|c=>c) R:=by rw[←hR];rfl
  rw[hD]
  unfold c49
  simp only[C.zz]
  simp only[cy]
  refine rn0 (bD h3 h6 d1 d2 hpl c3 c2 @and_self htl e1 c4 (bD c5 hpl2 @Int.toNat_natCast hat @bV.eq_1 h2 rm fo @ite_self.{1} @List.length_cons.{0} @List.length_nil.{0} @List.drop_zero.{0})) ?_
  rw[e13]
  exact hE _ (by simp only[go_sem,reduceIte,Nat.reduceEqDiff];exact h0) (by simp only[go_sem,reduceIte,Nat.reduceEqDiff];exact h1) (by simp only[go_sem,reduceIte,Nat.reduceEqDiff];exact h2) (by simp only[go_sem,reduceIte,Nat.reduceEqDiff])
 ·have hC:kg Y l a b most=er Y l a b:=by rw[kg,if_neg hc]
  rw[hC]
  have hE:=px hF l a b on0
  generalize hR:cy 5 c49=R at*
  have hD:cy 4 c49= .seq (match cy 4 c49 with| .seq a _=>a|c=>c) R:=by rw[←hR];rfl
  rw[hD]
  unfold c49
  simp only[C.zz]
  simp only[cy]
  by_cases c1:0<most
  ·have d1:=decide_eq_true c1
   have d2:=decide_eq_false (fun h=>hc ⟨c1,h⟩:¬most≤(l.length:Int))
   refine rn0 (cj5 h3 h6 d1 d2 hpl) ?_
   exact hE _ (by simp only[go_sem,reduceIte,Nat.reduceEqDiff];exact h0) (by simp only[go_sem,reduceIte,Nat.reduceEqDiff];exact h1) (by simp only[go_sem,reduceIte,Nat.reduceEqDiff];exact h2) (by simp only[go_sem,reduceIte,Nat.reduceEqDiff];exact h6)
  ·have d1:=decide_eq_false c1
   refine rn0 (cj3 h3 h6 d1) ?_
   exact hE _ (by simp only[go_sem,reduceIte,Nat.reduceEqDiff];exact h0) (by simp only[go_sem,reduceIte,Nat.reduceEqDiff];exact h1) (by simp only[go_sem,reduceIte,Nat.reduceEqDiff];exact h2) (by simp only[go_sem,reduceIte,Nat.reduceEqDiff];exact h6)
end Go.Proofs.YtpehfflehebmbaaGreat.Txn
end
section
set_option maxRecDepth 10000
namespace Go.Proofs.YtpehfflehebmbaaGreat.Txn
open Go Go.Av Go.Proofs Go.Proofs.YtpehfflehebmbaaGreat.C Go.Proofs.YtpehfflehebmbaaGreat.Batch Go.Proofs.YtpehfflehebmbaaGreat.Space Go.Proofs.YtpehfflehebmbaaGreat.Reads
theorem rN {C:List Ch} {out:List Pr} {k:Bs} {p:Pr} (h:p∈dI C out k):p∈out∨p.k=k:=by
 unfold dI at h
 split at h
 ·exact .inl h
 ·rcases List.mem_append.1 h with h|h
  ·exact .inl h
  ·rw[List.mem_singleton.1 h];exact .inr rfl
theorem rO {C:List Ch}:∀{ks:List Bs} {out:List Pr} {p:Pr},p∈ks.foldl (dI C) out→p∈out∨p.k∈ks
 |[],out,p,h=> .inl h
 |k::ks,out,p,h=>by
  rcases rO (ks:=ks) h with h|h
  ·rcases rN h with h|h
   ·exact .inl h
   ·exact .inr (by simp[h])
  ·exact .inr (by simp[h])
theorem nY {C:List Ch} {mine:List Bs} {q:Bs} {p:Pr}:∀{f j:Nat} {out:List Pr},p∈(dA C mine q f j out).2→p∈out∨p.k∈mine
 |0,j,out,h=> .inl h
 |f+1,j,out,h=>by
  simp only[dA] at h
  split at h
  ·rename_i hc
   rcases nY h with h|h
   ·rcases rN h with h|h
    ·exact .inl h
    ·refine .inr ?_
     rw[h,Av.ar hc.1];exact List.getElem_mem hc.1
   ·exact .inr h
  ·exact .inl h
theorem py {C:List Ch} {mine:List Bs} {p:Pr}:∀{l:List Pr} {st:Nat × List Pr},p∈(l.foldl (dp C mine) st).2→p∈st.2∨p∈l∨p.k∈mine
 |[],st,h=> .inl h
 |q::l,st,h=>by
  rcases py (l:=l) h with h|h|h
  ·have h2:p∈(drain C mine q.k st.1 st.2).2∨p=q:=by
    unfold dp at h
    simp only at h
    split at h
    ·exact .inl h
    ·rcases List.mem_append.1 h with h|h
     ·exact .inl h
     ·exact .inr (List.mem_singleton.1 h)
   rcases h2 with h|h
   ·rcases nY h with h|h
    ·exact .inl h
    ·exact .inr (.inr h)
   ·exact .inr (.inl (by simp[h]))
  ·exact .inr (.inl (by simp[h]))
  ·exact .inr (.inr h)
theorem nZ {C:List Ch} {a b k:Bs} (h:k∈dB C a b):k∈ak C:=by
 unfold dB at h
 split at h
 ·exact List.mem_of_mem_drop h
 ·exact List.mem_of_mem_drop (List.mem_of_mem_take h)
theorem xY {C:List Ch} {l:List Pr} {a b:Bs} {p:Pr} (h:p∈gH C l a b):p∈l∨p.k∈ak C:=by
 unfold gH at h
 rcases rO h with h|h
 ·rcases py h with h|h|h
  ·simp at h
  ·exact .inl h
  ·exact .inr (nZ h)
 ·exact .inr (nZ (List.mem_of_mem_drop h))
theorem xZ {C:List Ch} {a b:Bs}:(dB C a b).length≤C.length:=by
 have h:=bP C
 unfold dB
 split
 ·rw[List.length_drop];omega
 ·rw[List.length_take,List.length_drop];omega
theorem x5 {C:List Ch} {l:List Pr} {a b:Bs}:(gH C l a b).length≤l.length+C.length:=by
 have h1:=nW (C:=C) (mine:=dB C a b) l (0,[]) (Nat.zero_le _)
 have h2:∀(ks:List Bs) (o:List Pr),(ks.foldl (dI C) o).length≤o.length+ks.length:=by
  intro ks
  induction ks with
  |nil=>intro o;simp
  |cons a ks ih=>intro o;have h1:=ih (dI C o a);have h2:=ld C o a;simp only[List.foldl_cons,List.length_cons];omega
 have h3:=h2 ((dB C a b).drop (cV C (dB C a b) l).1) (cV C (dB C a b) l).2
 have h4:=xZ (C:=C) (a:=a) (b:=b)
 rw[List.length_drop] at h3
 have h5:(cV C (dB C a b) l)=l.foldl (dp C (dB C a b)) (0,[]):=rfl
 rw[←h5] at h1
 simp only[List.length_nil] at h1
 unfold gH
 omega
theorem x6 {S:Spc} {a b:Bs} {t:Int} {p:Pr} (h:p∈(cn S a b t (-1)).1):p.k∈ae S.L:=by
 unfold cn at h
 split at h
 ·simp only[eh,if_pos (by decide:(-1:Int)<0),cY,List.mem_filterMap] at h
  obtain ⟨q,hq,ht⟩:=h
  have:p.k=q:=by
   unfold dQ at ht
   split at ht
   ·cases ht;rfl
   ·cases ht
  rw[this]
  unfold bZ at hq
  exact List.mem_of_mem_drop ((List.takeWhile_prefix _).subset hq)
 ·simp at h
theorem rP {S:Spc} {a b:Bs} {t:Int}:(cn S a b t (-1)).1.length≤S.L.length:=by
 unfold cn
 split
 ·simp only[eh,if_pos (by decide:(-1:Int)<0),cY]
  refine Nat.le_trans (List.length_filterMap_le _ _) ?_
  unfold bZ
  refine Nat.le_trans (List.takeWhile_prefix _).length_le ?_
  rw[List.length_drop];simp[ae]
 ·simp
set_option maxHeartbeats 4000000 in
theorem Ab {x s o:Nat} {Y:Tx} {F:Fr} {S:Spc} {FS:Fr} (hF:TxF x s Y F) (hS:cU s S FS) (hr:bb S.L) (sm:Small S) (hSk:∀p∈S.L,p.1.length≤1000000) (hrC:bL (ak Y.C)) (hl:Y.C.length≤64) (hCk:∀c∈Y.C,c.k.length≤1000000) (a b:Bs) (most:Int):
  aT Tryz.prog 49 [.ref [.ptr x 0],.ref [.str a],.ptr o 0,.ref [.int .i64 most]] [ob o (.cells [.str b]),F,FS] (xX x s o (gI S Y a b most) FS):=by
 obtain ⟨cm,M,K,hM,hxc,hx,hcm,hK⟩:=hF.go
 refine f49.bo (by simp) fun n m ok=>?_
 have hkS:∀q∈ae S.L,q.length≤1000000:=fun q hq=>by
  obtain ⟨p,hp,rfl⟩:=List.mem_map.1 hq
  exact hSk p hp
 have hkC:∀q∈ak Y.C,q.length≤1000000:=fun q hq=>by
  obtain ⟨c,hc,rfl⟩:=List.mem_map.1 hq
  exact hCk c hc
 have hL0:(cn S a b Y.t (-1)).1.length≤500000:=Nat.le_trans rP sm.1
 have hL0k:∀p∈(cn S a b Y.t (-1)).1,p.k.length≤1000000:=fun p hp=>hkS _ (x6 hp)
 have hov:=BN hF hrC hl (cn S a b Y.t (-1)).1 hL0 a b
 have hovl:=x5 (C:=Y.C) (l:=(cn S a b Y.t (-1)).1) (a:=a) (b:=b)
 have hovk:∀p∈gH Y.C (cn S a b Y.t (-1)).1 a b,p.k.length≤1000000:=fun p hp=>by
  rcases xY hp with h|h
  ·exact hL0k p h
  ·exact hkC _ h
 have hT:gI S Y a b most=if (cn S a b Y.t (-1)).2≠0∨most=0 then (Y,[],(cn S a b Y.t (-1)).2) else
  kg Y (if b=[]∨Op.bytesLess a b=true then gH Y.C (cn S a b Y.t (-1)).1 a b else (cn S a b Y.t (-1)).1) a b most:=rfl
 rw[hT]
 have hsc:=BG hS hr sm a b Y.t (-1)
 generalize cn S a b Y.t (-1)=sb at*
 generalize hov2:gH Y.C sb.1 a b=ol at*
 have fx:=ok.sub (F:=F) (by simp) _ _ hx
 have fo:=aK o (.cells [.str b]) [F,FS]
 have hkC2:=fun (most:Int) (l:List Pr) (hl:l.length≤1000000) (hlk:∀p∈l,p.k.length≤4611686018427387904) {n2 m2:Nat} {T2:List Nat} (on2:On [ob o (.cells [.str b]),F,FS] n m [ob o (.cells [.str b]),F,FS] n2 T2 m2)=>vU hF l hl a b most hlk on2
 generalize hR:cy 4 c49=R at*
 have hD:c49= .seq (match c49 with| .seq a _=>a|c=>c) (.seq (match cy 1 c49 with| .seq a _=>a|c=>c) (.seq (match cy 2 c49 with| .seq a _=>a|c=>c) (.seq (match cy 3 c49 with| .seq a _=>a|c=>c) R))):=by rw[←hR];rfl
 rw[hD]
 unfold c49
 simp only[C.zz]
 simp only[cy]
 refine rn0 (cj2 fx fo) ?_
 refine aa.iM ([_,_]) ([]) xA2 xA3 (hsc) (hS.k) (ok) fun n2 m2 ids2 hn2 hm2 hids2 ok2=>?_
 have on2:On [ob o (.cells [.str b]),F,FS] n m [ob o (.cells [.str b]),F,FS] n2 _ m2:=⟨hn2,hm2,ok2,.refl,.refl⟩
 refine aa.evR xA1 ?_
 refine aa.nil ⟨by simp[ay,au,apart,aH],?_⟩
 simp only[List.cons_append,List.nil_append] at ok2 ⊢
 by_cases he:sb.2=0
 ·have d1:=decide_eq_true he
  by_cases hm0:most=0
  ·have d2:=decide_eq_true hm0
   rw[if_pos (.inr hm0)]
   refine rn0 (cj2 d1 d2) ?_
   exact Wp.ret ⟨trivial,_,rfl,_,_,on2.ends (ab.tup (af.cons ab.cap (af.refl _))) ⟨rfl,F,b,rfl,hF⟩⟩
  ·have d2:=decide_eq_false hm0
   rw[if_neg (by simp[he,hm0])]
   by_cases hb:b=[]
   ·have d3:=decide_eq_true hb
    rw[if_pos (.inl hb)]
    refine rn0 (cj4 d1 d2 d3 fo) ?_
    refine aa.iM ([_]) ([FS]) xA2 xA3 (hov) (hF.k) (ok2) fun n3 m3 ids3 hn3 hm3 hids3 ok3=>?_
    refine aa.evR xA1 ?_
    refine aa.nil ⟨by trivial,?_⟩
    simp only[List.cons_append,List.nil_append] at ok3 ⊢
    have on3:=on2.step ⟨hn3,hm3,ok3,.refl,.refl⟩
    show Wp _ _ _ _ _
    exact hkC2 most ol (by omega) (fun p hp=>by have:=hovk p hp;omega) on3 _ (by simp only[go_sem,reduceIte,Nat.reduceEqDiff]) (by simp only[go_sem,reduceIte,Nat.reduceEqDiff]) (by simp only[go_sem,reduceIte,Nat.reduceEqDiff]) (by simp only[go_sem,reduceIte,Nat.reduceEqDiff]) (by simp only[go_sem,reduceIte,Nat.reduceEqDiff])
   ·have d3:=decide_eq_false hb
    cases hlt:Op.bytesLess a b with
    |true=>
     rw[if_pos (.inr rfl)]
     refine rn0 (cj5 d1 d2 d3 fo hlt) ?_
     refine aa.iM ([_]) ([FS]) xA2 xA3 (hov) (hF.k) (ok2) fun n3 m3 ids3 hn3 hm3 hids3 ok3=>?_
     refine aa.evR xA1 ?_
     refine aa.nil ⟨by trivial,?_⟩
     simp only[List.cons_append,List.nil_append] at ok3 ⊢
     have on3:=on2.step ⟨hn3,hm3,ok3,.refl,.refl⟩
     show Wp _ _ _ _ _
     exact hkC2 most ol (by omega) (fun p hp=>by have:=hovk p hp;omega) on3 _ (by simp only[go_sem,reduceIte,Nat.reduceEqDiff]) (by simp only[go_sem,reduceIte,Nat.reduceEqDiff]) (by simp only[go_sem,reduceIte,Nat.reduceEqDiff]) (by simp only[go_sem,reduceIte,Nat.reduceEqDiff]) (by simp only[go_sem,reduceIte,Nat.reduceEqDiff])
    |false=>
     rw[if_neg (by simp[hb])]
     refine rn0 (cj5 d1 d2 d3 fo hlt) ?_
     exact hkC2 most sb.1 (by omega) (fun p hp=>by have:=hL0k p hp;omega) on2 _ (by simp only[go_sem,reduceIte,Nat.reduceEqDiff]) (by simp only[go_sem,reduceIte,Nat.reduceEqDiff]) (by simp only[go_sem,reduceIte,Nat.reduceEqDiff]) (by simp only[go_sem,reduceIte,Nat.reduceEqDiff]) (by simp only[go_sem,reduceIte,Nat.reduceEqDiff])
 ·have d1:=decide_eq_false he
  rw[if_pos (.inl he)]
  refine rn0 d1 ?_
  exact Wp.ret ⟨trivial,_,rfl,_,_,on2.ends (ab.tup (af.cons ab.cap (af.refl _))) ⟨rfl,F,b,rfl,hF⟩⟩
end Go.Proofs.YtpehfflehebmbaaGreat.Txn
end
section
set_option maxRecDepth 10000
namespace Go.Proofs.YtpehfflehebmbaaGreat.Txn
open Go Go.Av Go.Proofs Go.Proofs.YtpehfflehebmbaaGreat.C Go.Proofs.YtpehfflehebmbaaGreat.Batch Go.Proofs.YtpehfflehebmbaaGreat.Space
abbrev Lt (a b:Bs):Prop:=Op.bytesLess a b=true
theorem Lt.trans {a b c:Bs} (h1:Lt a b) (h2:Lt b c):Lt a c:=bz h1 h2
theorem Lt.ne {a b:Bs} (h:Lt a b):¬a=b:=fun e=>by rw[e,Lt,bk] at h;cases h
theorem Lt.Dc {a b:Bs} (h:Lt a b):¬Lt b a:=fun h2=>(h.trans h2).ne rfl
def dR (l:List Pr):Prop:=l.Pairwise fun a b=>Lt a.k b.k
theorem pz:∀{a b:List Pr},dR a→dR b→(∀p,p∈a↔p∈b)→a=b
 |[],[],_,_,_=>rfl
 |[],y::b,_,_,h=>by have:=(h y).2 (by simp);simp at this
 |x::a,[],_,_,h=>by have:=(h x).1 (by simp);simp at this
 |x::a,y::b,ha,hb,h=>by
  have ha':=List.pairwise_cons.1 ha
  have hb':=List.pairwise_cons.1 hb
  have hxy:x=y:=by
   rcases List.mem_cons.1 ((h x).1 (by simp)) with e|hx
   ·exact e
   ·rcases List.mem_cons.1 ((h y).2 (by simp)) with e|hy
    ·exact e.symm
    ·exact absurd (hb'.1 x hx) (ha'.1 y hy).Dc
  subst hxy
  congr 1
  refine pz ha'.2 hb'.2 fun p=>⟨fun hp=>?_,fun hp=>?_⟩
  ·rcases List.mem_cons.1 ((h p).1 (by simp[hp])) with e|h1
   ·subst e;exact absurd rfl (ha'.1 p hp).ne
   ·exact h1
  ·rcases List.mem_cons.1 ((h p).2 (by simp[hp])) with e|h1
   ·subst e;exact absurd rfl (hb'.1 p hp).ne
   ·exact h1
def gZ (l:List Pr) (k v:Bs):List Pr:=(l.takeWhile fun p=>Op.bytesLess p.k k)++⟨k,v⟩::((l.dropWhile fun p=>Op.bytesLess p.k k).filter fun p=>decide (p.k≠k))
def vV (l:List Pr) (k:Bs):List Pr:=l.filter fun p=>decide (p.k≠k)
theorem x7 {l:List Pr} {k:Bs} {p:Pr}:p∈vV l k↔p∈l∧p.k≠k:=by simp[vV]
theorem vX {l:List Pr} (h:dR l) (k:Bs):dR (vV l k):=List.Pairwise.sublist List.filter_sublist h
theorem rQ {l:List Pr} {k:Bs} {p:Pr} (h:p∈l.takeWhile fun p=>Op.bytesLess p.k k):Lt p.k k:=by
 induction l with
 |nil=>simp at h
 |cons x l ih=>
  rw[List.takeWhile_cons] at h
  split at h
  ·rename_i hx
   rcases List.mem_cons.1 h with rfl|h
   ·exact hx
   ·exact ih h
  ·simp at h
theorem rR {l:List Pr} (hl:dR l) {k:Bs} {p:Pr} (h:p∈l.dropWhile fun p=>Op.bytesLess p.k k):¬Lt p.k k:=by
 induction l with
 |nil=>simp at h
 |cons x l ih=>
  have hx:=List.pairwise_cons.1 hl
  rw[List.dropWhile_cons] at h
  split at h
  ·exact ih hx.2 h
  ·rename_i hn
   rcases List.mem_cons.1 h with rfl|h
   ·exact hn
   ·intro hp
    exact hn ((hx.1 p h).trans hp)
theorem x8 {l:List Pr} (hl:dR l) {k v:Bs} {p:Pr}:p∈gZ l k v↔p=⟨k,v⟩∨(p∈l∧p.k≠k):=by
 unfold gZ
 rw[List.mem_append,List.mem_cons,List.mem_filter,decide_eq_true_eq]
 constructor
 ·rintro (h|h|⟨h1,h2⟩)
  ·exact .inr ⟨(List.takeWhile_prefix _).subset h,(rQ h).ne⟩
  ·exact .inl h
  ·exact .inr ⟨(List.dropWhile_suffix _).subset h1,h2⟩
 ·rintro (h|⟨h1,h2⟩)
  ·exact .inr (.inl h)
  ·rw[←List.takeWhile_append_dropWhile (p:=fun p:Pr=>Op.bytesLess p.k k) (l:=l)] at h1
   rcases List.mem_append.1 h1 with h|h
   ·exact .inl h
   ·exact .inr (.inr ⟨h,h2⟩)
theorem v7 {l:List Pr} (hl:dR l) (k v:Bs):dR (gZ l k v):=by
 unfold gZ
 refine List.pairwise_append.2 ⟨hl.sublist (List.takeWhile_prefix _).sublist,List.pairwise_cons.2 ⟨fun p hp=>?_,(hl.sublist (List.dropWhile_suffix _).sublist).sublist List.filter_sublist⟩,fun a ha b hb=>?_⟩
 ·rw[List.mem_filter,decide_eq_true_eq] at hp
  have h1:=rR hl hp.1
  rcases cN k p.k with h|h|h
  ·exact h
  ·exact absurd h.symm hp.2
  ·exact absurd h h1
 ·have h1:=rQ ha
  rcases List.mem_cons.1 hb with rfl|hb
  ·exact h1
  ·rw[List.mem_filter,decide_eq_true_eq] at hb
   have h2:=rR hl hb.1
   rcases cN k b.k with h|h|h
   ·exact h1.trans h
   ·exact absurd h.symm hb.2
   ·exact absurd h h2
def qp (l:List Pr) (c:Ch):List Pr:=if c.d then vV l c.k else gZ l c.k c.v
def dE (C:List Ch) (l:List Pr):List Pr:=C.foldl qp l
theorem lT:∀(C:List Ch) {l:List Pr},dR l→dR (dE C l)
 |[],l,h=>h
 |c::C,l,h=>by
  refine lT C (l:=qp l c) ?_
  unfold qp
  split
  ·exact vX h _
  ·exact v7 h _ _
theorem lf:∀(C:List Ch) {l:List Pr},dR l→bL (ak C)→∀p,p∈dE C l↔(∃c∈C,c.k=p.k∧c.d=false∧c.v=p.v)∨(p∈l∧∀c∈C,c.k≠p.k)
 |[],l,h,hC,p=>by simp[dE]
 |c::C,l,h,hC,p=>by
  have hr:dR (qp l c):=lT [c] h
  have hC':(∀k∈ak C,Lt c.k k)∧bL (ak C):=List.pairwise_cons.1 hC
  have ih:=lf C hr hC'.2 p
  have hne:∀c'∈C,c'.k≠c.k:=fun c' hc' e=>(hC'.1 c'.k (List.mem_map.2 ⟨c',hc',rfl⟩)).ne e.symm
  have hown:p∈qp l c↔(c.k=p.k∧c.d=false∧c.v=p.v)∨(p∈l∧p.k≠c.k):=by
   unfold qp
   cases hd:c.d with
   |true=>simp[x7]
   |false=>
    simp only[Bool.false_eq_true,if_false,x8 h,true_and]
    constructor
    ·rintro (rfl|h1)
     ·exact .inl ⟨rfl,rfl⟩
     ·exact .inr h1
    ·rintro (⟨h1,h2⟩|h1)
     ·left;cases p;simp only at h1 h2;rw[h1,h2]
     ·exact .inr h1
  show p∈dE C (qp l c)↔_
  rw[ih,hown]
  constructor
  ·rintro (⟨c',h1,h2⟩|⟨h1|⟨h1,h2⟩,h3⟩)
   ·exact .inl ⟨c',by simp[h1],h2⟩
   ·exact .inl ⟨c,by simp,h1⟩
   ·refine .inr ⟨h1,fun c' hc'=>?_⟩
    rcases List.mem_cons.1 hc' with rfl|hc'
    ·exact Ne.symm h2
    ·exact h3 c' hc'
  ·rintro (⟨c',h1,h2⟩|⟨h1,h2⟩)
   ·rcases List.mem_cons.1 h1 with rfl|h1
    ·exact .inr ⟨.inl h2,fun c'' hc'' e=>hne c'' hc'' (e.trans h2.1.symm)⟩
    ·exact .inl ⟨c',h1,h2⟩
   ·exact .inr ⟨.inr ⟨h1,Ne.symm (h2 c (by simp))⟩,fun c' hc'=>h2 c' (by simp[hc'])⟩
def inR (a b k:Bs):Bool:= !Op.bytesLess k a&&(decide (b=[])||Op.bytesLess k b)
theorem lU {C:List Ch} (hC:bL (ak C)) {c:Ch} (h:c∈C):bO C c.k=some c:=by
 induction C with
 |nil=>simp at h
 |cons x C ih=>
  have hx:(∀k∈ak C,Lt x.k k)∧bL (ak C):=List.pairwise_cons.1 hC
  simp only[bO]
  rcases List.mem_cons.1 h with rfl|h
  ·rw[if_pos rfl]
  ·rw[if_neg (hx.1 c.k (List.mem_map.2 ⟨c,h,rfl⟩)).ne]
   exact ih hx.2 h
theorem kh {C:List Ch} {q:Bs}:bO C q=none↔∀c∈C,c.k≠q:=by
 constructor
 ·intro h c hc e
  induction C with
  |nil=>simp at hc
  |cons x C ih=>
   simp only[bO] at h
   split at h
   ·cases h
   ·rename_i hne
    rcases List.mem_cons.1 hc with rfl|hc
    ·exact hne e
    ·exact ih h hc
 ·exact po
theorem qq {l:List Pr} {j:Nat} (h:j<l.length):l.drop j=l.getD j default::l.drop (j+1):=by
 rw[List.drop_eq_getElem_cons h,List.getD_eq_getElem?_getD,List.getElem?_eq_getElem h];rfl
structure OvI (C:List Ch) (mine:List Bs) (l:List Pr) (i j:Nat) (out:List Pr):Prop where
 jl:j≤mine.length
 rise:dR out
 low:∀p∈out,(∀k,j≤k→k<mine.length→Lt p.k (mine.getD k []))∧∀q∈l.drop i,Lt p.k q.k
 mem:∀p,p∈out↔(∃k,k<j∧mine.getD k []=p.k∧(ca C p.k).d=false∧(ca C p.k).v=p.v)∨(p∈l.take i∧bO C p.k=none)
theorem lg {C:List Ch} {out:List Pr} {k:Bs} {p:Pr}:p∈dI C out k↔p∈out∨(p.k=k∧(ca C k).d=false∧(ca C k).v=p.v):=by
 unfold dI
 cases hd:(ca C k).d with
 |true=>simp
 |false=>
  simp only[Bool.false_eq_true,if_false,List.mem_append,List.mem_singleton,true_and]
  constructor
  ·rintro (h|rfl)
   ·exact .inl h
   ·exact .inr ⟨rfl,rfl⟩
  ·rintro (h|⟨h1,h2⟩)
   ·exact .inl h
   ·right;cases p;simp only at h1 h2;rw[h1,h2]
theorem OvI.own {C:List Ch} {mine:List Bs} {l:List Pr} {i j:Nat} {out:List Pr} (h:OvI C mine l i j out) (hm:bL mine) (hj:j<mine.length) (hq:∀q∈l.drop i,Lt (mine.getD j []) q.k):OvI C mine l i (j+1) (dI C out (mine.getD j [])) where
 jl:=hj
 rise:=by
  unfold dI
  split
  ·exact h.rise
  ·refine List.pairwise_append.2 ⟨h.rise,by simp,fun a ha b hb=>?_⟩
   rw[List.mem_singleton.1 hb]
   exact (h.low a ha).1 j (Nat.le_refl _) hj
 low p hp:=by
  rcases lg.1 hp with hp|⟨hp,-⟩
  ·exact ⟨fun k hk hk2=>(h.low p hp).1 k (by omega) hk2,(h.low p hp).2⟩
  ·rw[hp]
   exact ⟨fun k hk hk2=>bL.at hm (by omega) hk2,hq⟩
 mem p:=by
  rw[lg,h.mem]
  constructor
  ·rintro ((⟨k,h1,h2⟩|h1)|⟨h1,h2⟩)
   ·exact .inl ⟨k,by omega,h2⟩
   ·exact .inr h1
   ·exact .inl ⟨j,by omega,h1.symm,by rw[h1];exact h2⟩
  ·rintro (⟨k,h1,h2⟩|h1)
   ·by_cases e:k=j
    ·subst e
     exact .inr ⟨h2.1.symm,by rw[h2.1];exact h2.2⟩
    ·exact .inl (.inl ⟨k,by omega,h2⟩)
   ·exact .inl (.inr h1)
theorem pA {C:List Ch} {mine:List Bs} {l:List Pr} {i:Nat} (hm:bL mine) (hl:dR l) (hi:i<l.length):∀(f j:Nat) (out:List Pr),f=mine.length - j→OvI C mine l i j out→
  OvI C mine l i (dA C mine (l.getD i default).k f j out).1 (dA C mine (l.getD i default).k f j out).2∧∀k,(dA C mine (l.getD i default).k f j out).1≤k→k<mine.length→¬Lt (mine.getD k []) (l.getD i default).k
 |0,j,out,hf,h=>⟨h,fun k h1 h2=>by simp only[dA] at h1;omega⟩
 |f+1,j,out,hf,h=>by
  simp only[dA]
  split
  ·rename_i hc
   refine pA hm hl hi f (j+1) _ (by omega) (h.own hm hc.1 fun q hq=>?_)
   rw[qq hi] at hq
   rcases List.mem_cons.1 hq with rfl|hq
   ·exact hc.2
   ·have hd:dR (l.drop i):=hl.sublist (List.drop_sublist _ _)
    rw[qq hi] at hd
    exact Lt.trans hc.2 ((List.pairwise_cons.1 hd).1 q hq)
  ·rename_i hc
   refine ⟨h,fun k h1 h2 hlt=>?_⟩
   have hjl:j<mine.length:=by simp only at h1;omega
   rcases Nat.lt_or_ge j k with hjk|hjk
   ·exact hc ⟨hjl,Lt.trans (bL.at hm hjk h2) hlt⟩
   ·have:k=j:=by simp only at h1;omega
    subst this
    exact hc ⟨hjl,hlt⟩
theorem x9 {C:List Ch} {mine:List Bs} {l:List Pr} {i:Nat} {st:Nat × List Pr} (hm:bL mine) (hl:dR l) (hi:i<l.length) (hown:∀k,k<mine.length→bO C (mine.getD k [])≠none) (h:OvI C mine l i st.1 st.2):
  OvI C mine l (i+1) (dp C mine st (l.getD i default)).1 (dp C mine st (l.getD i default)).2:=by
 obtain ⟨h1,h2⟩:=pA hm hl hi (mine.length - st.1) st.1 st.2 rfl h
 have e1:(dp C mine st (l.getD i default)).1=(dA C mine (l.getD i default).k (mine.length - st.1) st.1 st.2).1:=rfl
 have e2:(dp C mine st (l.getD i default)).2=if (bO C (l.getD i default).k).isSome=true then (dA C mine (l.getD i default).k (mine.length - st.1) st.1 st.2).2 else (dA C mine (l.getD i default).k (mine.length - st.1) st.1 st.2).2++[l.getD i default]:=rfl
 rw[e1,e2]
 generalize dA C mine (l.getD i default).k (mine.length - st.1) st.1 st.2=r at*
 have hd:=qq hi
 have hdr:dR (l.drop i):=hl.sublist (List.drop_sublist _ _)
 rw[hd] at hdr
 have hdc:=List.pairwise_cons.1 hdr
 have htk:l.take (i+1)=l.take i++[l.getD i default]:=bJ default hi
 generalize l.getD i default=q at*
 cases ho:(bO C q.k).isSome with
 |true=>
  simp only[if_true]
  refine ⟨h1.jl,h1.rise,fun p hp=>⟨(h1.low p hp).1,fun q' hq'=>(h1.low p hp).2 q' (by rw[hd];simp[hq'])⟩,fun p=>?_⟩
  rw[h1.mem,htk]
  constructor
  ·rintro (h3|⟨h3,h4⟩)
   ·exact .inl h3
   ·exact .inr ⟨by simp[h3],h4⟩
  ·rintro (h3|⟨h3,h4⟩)
   ·exact .inl h3
   ·rcases List.mem_append.1 h3 with h3|h3
    ·exact .inr ⟨h3,h4⟩
    ·rw[List.mem_singleton.1 h3] at h4
     rw[h4] at ho;cases ho
 |false=>
  simp only[Bool.false_eq_true,if_false]
  have hon:bO C q.k=none:=by
   cases e:bO C q.k with
   |none=>rfl
   |some c=>rw[e] at ho;cases ho
  have hlow:∀k,r.1≤k→k<mine.length→Lt q.k (mine.getD k []):=fun k hk hk2=>by
   rcases cN q.k (mine.getD k []) with h3|h3|h3
   ·exact h3
   ·exact absurd (h3▸hon) (hown k hk2)
   ·exact absurd h3 (h2 k hk hk2)
  refine ⟨h1.jl,?_,fun p hp=>?_,fun p=>?_⟩
  ·refine List.pairwise_append.2 ⟨h1.rise,by simp,fun a ha b hb=>?_⟩
   rw[List.mem_singleton.1 hb]
   exact (h1.low a ha).2 q (by rw[hd];simp)
  ·rcases List.mem_append.1 hp with hp|hp
   ·exact ⟨(h1.low p hp).1,fun q' hq'=>(h1.low p hp).2 q' (by rw[hd];simp[hq'])⟩
   ·rw[List.mem_singleton.1 hp]
    exact ⟨hlow,hdc.1⟩
  ·rw[List.mem_append,h1.mem,htk,List.mem_append,List.mem_singleton]
   constructor
   ·rintro ((h3|⟨h3,h4⟩)|rfl)
    ·exact .inl h3
    ·exact .inr ⟨.inl h3,h4⟩
    ·exact .inr ⟨.inr rfl,hon⟩
   ·rintro (h3|⟨h3|h3,h4⟩)
    ·exact .inl (.inl h3)
    ·exact .inl (.inr ⟨h3,h4⟩)
    ·exact .inr h3
theorem pB {C:List Ch} {mine:List Bs} {l:List Pr} (hm:bL mine) (hl:dR l) (hown:∀k,k<mine.length→bO C (mine.getD k [])≠none):∀i,i≤l.length→OvI C mine l i (cV C mine (l.take i)).1 (cV C mine (l.take i)).2
 |0,_=>⟨Nat.zero_le _,by simp[cV,dR],fun p hp=>by simp[cV] at hp,fun p=>by simp[cV]⟩
 |i+1,h=>by
  rw[nV (by omega)]
  exact x9 hm hl (by omega) hown (pB hm hl hown i (by omega))
theorem rS {C:List Ch} {mine:List Bs} {l:List Pr} (hm:bL mine):∀(f j:Nat) (out:List Pr),f=mine.length - j→OvI C mine l l.length j out→OvI C mine l l.length mine.length ((mine.drop j).foldl (dI C) out)
 |0,j,out,hf,h=>by
  have:=h.jl
  have e:j=mine.length:=by omega
  subst e
  simpa using h
 |f+1,j,out,hf,h=>by
  have hj:j<mine.length:=by omega
  have hd:mine.drop j=mine.getD j []::mine.drop (j+1):=by
   rw[List.drop_eq_getElem_cons hj,List.getD_eq_getElem?_getD,List.getElem?_eq_getElem hj];rfl
  rw[hd,List.foldl_cons]
  exact rS hm f (j+1) _ (by omega) (h.own hm hj fun q hq=>by simp at hq)
theorem ya {C:List Ch} {mine:List Bs} {l:List Pr} (hm:bL mine) (hl:dR l) (hown:∀k,k<mine.length→bO C (mine.getD k [])≠none):
  dR ((mine.drop (cV C mine l).1).foldl (dI C) (cV C mine l).2)∧∀p,p∈(mine.drop (cV C mine l).1).foldl (dI C) (cV C mine l).2↔(p.k∈mine∧(ca C p.k).d=false∧(ca C p.k).v=p.v)∨(p∈l∧bO C p.k=none):=by
 have h:=pB (C:=C) hm hl hown l.length (Nat.le_refl _)
 rw[List.take_length] at h
 have h2:=rS hm _ _ _ rfl h
 refine ⟨h2.rise,fun p=>?_⟩
 rw[h2.mem,List.take_length]
 constructor
 ·rintro (⟨k,h3,h4,h5⟩|h3)
  ·refine .inl ⟨?_,h5⟩
   rw[←h4,Av.ar h3];exact List.getElem_mem h3
  ·exact .inr h3
 ·rintro (⟨h3,h4⟩|h3)
  ·obtain ⟨k,hk,e⟩:=List.getElem_of_mem h3
   exact .inl ⟨k,hk,by rw[Av.ar hk];exact e,h4⟩
  ·exact .inr h3
theorem lV {k:List Bs} (hk:bL k) {a q:Bs}:q∈k.drop (plK k a)↔q∈k∧¬Lt q a:=by
 constructor
 ·intro h
  refine ⟨List.mem_of_mem_drop h,?_⟩
  obtain ⟨i,hi,rfl⟩:=List.getElem_of_mem h
  rw[List.length_drop] at hi
  have:=kD hk (q:=a) (i:=plK k a+i) (by omega) (by omega)
  rw[List.getElem_drop]
  rw[Av.ar (by omega)] at this
  simp only[Lt,this];simp
 ·rintro ⟨h1,h2⟩
  obtain ⟨i,hi,rfl⟩:=List.getElem_of_mem h1
  rcases Nat.lt_or_ge i (plK k a) with h|h
  ·have:=iO (k:=k) (q:=a) h
   rw[Av.ar hi] at this
   exact absurd this h2
  ·rw[List.mem_iff_getElem]
   exact ⟨i - plK k a,by rw[List.length_drop];omega,by rw[List.getElem_drop];congr 1;omega⟩
theorem v8 {k:List Bs} (hk:bL k) {b q:Bs}:q∈k.take (plK k b)↔q∈k∧Lt q b:=by
 constructor
 ·intro h
  refine ⟨List.mem_of_mem_take h,?_⟩
  obtain ⟨i,hi,rfl⟩:=List.getElem_of_mem h
  rw[List.length_take] at hi
  have:=iO (k:=k) (q:=b) (i:=i) (by omega)
  rw[List.getElem_take]
  rw[Av.ar (by omega)] at this
  exact this
 ·rintro ⟨h1,h2⟩
  obtain ⟨i,hi,rfl⟩:=List.getElem_of_mem h1
  rcases Nat.lt_or_ge i (plK k b) with h|h
  ·rw[List.mem_iff_getElem]
   exact ⟨i,by rw[List.length_take];omega,by rw[List.getElem_take]⟩
  ·have:=kD hk (q:=b) h hi
   rw[Av.ar hi] at this
   rw[Lt,this] at h2;cases h2
theorem qt {a b q:Bs}:inR a b q=true↔¬Lt q a∧(b=[]∨Lt q b):=by
 simp[inR,Lt]
theorem yd {C:List Ch} (hC:bL (ak C)) {a b q:Bs}:q∈dB C a b↔q∈ak C∧inR a b q=true:=by
 have hr:bL ((ak C).drop (plK (ak C) a)):=hC.sublist (List.drop_sublist _ _)
 rw[qt]
 unfold dB
 by_cases hb:b=[]
 ·rw[if_pos hb,lV hC];simp[hb]
 ·rw[if_neg hb,v8 hr,lV hC]
  constructor
  ·rintro ⟨⟨h1,h2⟩,h3⟩;exact ⟨h1,h2,.inr h3⟩
  ·rintro ⟨h1,h2,h3⟩;exact ⟨⟨h1,h2⟩,h3.resolve_left hb⟩
theorem wa {C:List Ch} (hC:bL (ak C)) (a b:Bs):bL (dB C a b):=by
 unfold dB
 split
 ·exact hC.sublist (List.drop_sublist _ _)
 ·exact (hC.sublist (List.drop_sublist _ _)).sublist (List.take_sublist _ _)
theorem rT {k:List Bs} (hk:bL k) {a b q:Bs}:q∈bZ k a b↔q∈k∧inR a b q=true:=by
 have hr:bL (k.drop (plK k a)):=hk.sublist (List.drop_sublist _ _)
 have key:∀(l:List Bs),bL l→(q∈l.takeWhile (eU b)↔q∈l∧eU b q=true):=by
  intro l
  induction l with
  |nil=>intro _;simp
  |cons x l ih=>
   intro hl
   have hx:=List.pairwise_cons.1 hl
   rw[List.takeWhile_cons]
   cases hs:eU b x with
   |true=>
    simp only[if_true,List.mem_cons,ih hx.2]
    constructor
    ·rintro (rfl|h)
     ·exact ⟨.inl rfl,hs⟩
     ·exact ⟨.inr h.1,h.2⟩
    ·rintro ⟨rfl|h1,h2⟩
     ·exact .inl rfl
     ·exact .inr ⟨h1,h2⟩
   |false=>
    simp only[Bool.false_eq_true,if_false,List.not_mem_nil,false_iff]
    rintro ⟨h1,h2⟩
    simp only[eU,Bool.or_eq_true,decide_eq_true_eq,Bool.or_eq_false_iff,decide_eq_false_iff_not] at hs h2
    rcases List.mem_cons.1 h1 with rfl|h1
    ·rcases h2 with h2|h2
     ·exact hs.1 h2
     ·rw[hs.2] at h2;cases h2
    ·rcases h2 with h2|h2
     ·exact hs.1 h2
     ·have:=bz (hx.1 q h1) h2
      rw[hs.2] at this;cases this
 unfold bZ
 rw[key _ hr,lV hk,qt]
 simp only[eU,Bool.or_eq_true,decide_eq_true_eq,Lt]
 constructor
 ·rintro ⟨⟨h1,h2⟩,h3⟩;exact ⟨h1,h2,h3⟩
 ·rintro ⟨h1,h2,h3⟩;exact ⟨⟨h1,h2⟩,h3⟩
theorem jU {S:Spc} {t:Int} {q:Bs} {p:Pr} (h:dQ S t q=some p):p.k=q:=by
 unfold dQ at h
 split at h
 ·cases h;rfl
 ·cases h
theorem jA {S:Spc} (hr:bb S.L) {a b:Bs} {t:Int} {p:Pr}:p∈cY S a b t↔p.k∈ae S.L∧inR a b p.k=true∧dQ S t p.k=some p:=by
 unfold cY
 rw[List.mem_filterMap]
 constructor
 ·rintro ⟨q,h1,h2⟩
  have e:=jU h2
  subst e
  have:=(rT hr).1 h1
  exact ⟨this.1,this.2,h2⟩
 ·rintro ⟨h1,h2,h3⟩
  exact ⟨p.k,(rT hr).2 ⟨h1,h2⟩,h3⟩
theorem im {S:Spc} (hr:bb S.L) (a b:Bs) (t:Int):dR (cY S a b t):=by
 have hs:bL (bZ (ae S.L) a b):=(List.Pairwise.sublist (List.drop_sublist _ _) hr).sublist (List.takeWhile_prefix _).sublist
 unfold cY dR
 refine List.Pairwise.filterMap _ (fun x y hxy p hp q hq=>?_) hs
 rw[jU hp,jU hq];exact hxy
theorem ye {S:Spc} (hr:bb S.L) {C:List Ch} (hC:bL (ak C)) (a b:Bs) (t:Int):
  (if b=[]∨Op.bytesLess a b=true then gH C (cY S a b t) a b else cY S a b t)=(dE C (cY S [] [] t)).filter fun p=>inR a b p.k:=by
 have hall:∀p,inR [] [] p=true:=fun p=>by simp[inR,iN]
 have hsees:=lf C (im hr [] [] t) hC
 have hfr:dR ((dE C (cY S [] [] t)).filter fun p=>inR a b p.k):=List.Pairwise.sublist List.filter_sublist (lT C (im hr [] [] t))
 by_cases hc:b=[]∨Op.bytesLess a b=true
 ·rw[if_pos hc]
  have hown:∀k,k<(dB C a b).length→bO C ((dB C a b).getD k [])≠none:=fun k hk e=>by
   have h1:(dB C a b).getD k []∈ak C:=by rw[Av.ar hk];exact nZ (List.getElem_mem hk)
   obtain ⟨c,hc,e2⟩:=List.mem_map.1 h1
   exact kh.1 e c hc e2
  obtain ⟨h1,h2⟩:=ya (wa hC a b) (im hr a b t) hown
  refine pz h1 hfr fun p=>?_
  rw[gH,h2 p,List.mem_filter,hsees,yd hC,jA hr,jA hr]
  have hk:∀{p:Pr},(p.k∈ak C∧(ca C p.k).d=false∧(ca C p.k).v=p.v)↔∃c∈C,c.k=p.k∧c.d=false∧c.v=p.v:=by
   intro p
   constructor
   ·rintro ⟨h3,h4,h5⟩
    obtain ⟨c,hc,e⟩:=List.mem_map.1 h3
    have ho:ca C p.k=c:=by rw[ca,←e,lU hC hc];rfl
    rw[ho] at h4 h5
    exact ⟨c,hc,e,h4,h5⟩
   ·rintro ⟨c,hc,e,h4,h5⟩
    have ho:ca C p.k=c:=by rw[ca,←e,lU hC hc];rfl
    exact ⟨List.mem_map.2 ⟨c,hc,e⟩,by rw[ho];exact h4,by rw[ho];exact h5⟩
  rw[kh,←hk]
  constructor
  ·rintro (⟨⟨h3,h4⟩,h5⟩|⟨⟨h3,h4,h5⟩,h6⟩)
   ·exact ⟨.inl ⟨h3,h5⟩,h4⟩
   ·exact ⟨.inr ⟨⟨h3,hall _,h5⟩,h6⟩,h4⟩
  ·rintro ⟨⟨h3,h5⟩|⟨⟨h3,-,h5⟩,h6⟩,h4⟩
   ·exact .inl ⟨⟨h3,h4⟩,h5⟩
   ·exact .inr ⟨⟨h3,h4,h5⟩,h6⟩
 ·rw[if_neg hc]
  have hno:∀q,¬inR a b q=true:=fun q h=>by
   obtain ⟨h1,h2⟩:=qt.1 h
   rcases h2 with h2|h2
   ·exact hc (.inl h2)
   ·rcases cN a b with h3|h3|h3
    ·exact hc (.inr h3)
    ·subst h3;exact h1 h2
    ·exact h1 (bz h2 h3)
  have e1:cY S a b t=[]:=by
   cases e:cY S a b t with
   |nil=>rfl
   |cons p l=>
    have:p∈cY S a b t:=by rw[e];simp
    exact absurd ((jA hr).1 this).2.1 (hno _)
  rw[e1]
  symm
  rw[List.filter_eq_nil_iff]
  intro p _ h
  exact hno _ h
end Go.Proofs.YtpehfflehebmbaaGreat.Txn
end
