/- Parts of a proof: a layer of abstract values over the model, the functions' walks, plain laws. -/
import Derived.Deep.CondSized
import Derived.IntWalk
import Derived.KernelRfl
import Derived.Laws.Append
import Derived.Laws.AppendOwn
import Derived.Laws.BytesArg
import Derived.Laws.Cover3
import Derived.Laws.Entries
import Derived.Laws.IdiomCopy
import Derived.Laws.IdiomStrings
import Derived.Laws.Pointers
import Derived.Laws.Small
import Derived.Laws.Strings
import Derived.Laws.StructEq
import Derived.MapKept
import Derived.OpenShut
import Derived.Orders
import Derived.OrdersIn
import Derived.ProofKit
import Derived.RangeFuncRecord
import Derived.RangeFuncSeq
import Derived.ReadAgain
import Derived.Scope
import Derived.Shelf.Slices.Cells
import Derived.Shelf.Slices.Delete
import Derived.Shelf.Spec.SlicesInsertGrow
import Derived.SizedLaws
import Derived.Test.YtpehfflehebmbaaGreatRows
import Derived.Test.YtpehfflehebmbaaGreatTSD
set_option linter.unusedSimpArgs false
set_option linter.unusedVariables false
section
set_option maxRecDepth 10000
namespace Go.Proofs.YtpehfflehebmbaaGreat.Space
open Go Go.Av Go.Proofs Go.Proofs.YtpehfflehebmbaaGreat.C Go.Proofs.YtpehfflehebmbaaGreat.Batch
theorem wF {L:List Fr} {n m id:Nat} {T:List Nat} {o o2:Av.Obj} (h:lay L id=some o):H.patch ⟨lay L,n,T,m⟩ (.only (upd ag id (some o)) [] n m) (.only (upd (upd ag id (some o)) n (some o2)) [] (n+1) m)=⟨lay (ob n o2::L),n+1,T,m⟩:=by
 refine H.ext (fun j=>?_) rfl ?_ rfl
 ·simp only[H.patch,H.only,upd,ag,lay,aY]
  by_cases e1:j=n
  ·subst e1;simp
  ·by_cases e2:j=id
   ·subst e2;simp[e1,h]
   ·have:¬(n≤j∧j<n+1):=by omega
    simp[e1,e2,this]
 ·simp[H.patch,H.only]
theorem AD {G G':aI} {w:World} {v:Value} (h:ak G w (.sl 1 [] (.exact 0)) v):ak G' w (.sl 1 [] (.exact 0)) v:=by
 simp only[ak,cJ] at h ⊢
 rcases h with h|⟨B,off,C,vs,q1,q2,q3,q4,q5,q6⟩
 ·exact .inl h
 ·left
  subst q6
  simpa [fU] using ⟨_,q1⟩
theorem B9 {K:AV} {o:jC} {s c:Nat} (hK:rS K [] o s c):∃(objs:jC) (ids:List Nat),(∀id p,objs id=some p→o id=some p)∧(∀id,(objs id).isSome→id∈ids)∧iN Tryz.prog 61 [K] objs (.sl 1 [] (.exact 0)):=by
 have hb:=gD (sz:=1) (bytes:=16) f61
 rcases hK with ⟨rfl,h⟩|⟨k,rfl,h1,h2,h3⟩
 ·refine ⟨ag,[],fun id p h=>by simp[ag] at h,fun id h=>by simp[ag] at h,fun n m=>?_⟩
  intro G w vs hv R F
  exact hb n m G w vs ((af.cons ab.cap af.nil) G w vs hv) R F
 ·refine ⟨upd ag k (some (.cells [])),[k],fun id p h=>?_,fun id h=>?_,?_⟩
  ·simp only[upd,ag] at h
   split at h
   ·rename_i e;subst e;cases h;exact h1
   ·cases h
  ·simp only[upd,ag] at h
   split at h
   ·rename_i e;simp[e]
   ·cases h
  ·exact hb.look (fun G G' w v h=>AD h) none k
theorem sf {G G':aI} {w:World}:∀(l:List Bs) (vs:List Value),ar G w (strs l) vs→ar G' w (strs l) vs
 |[],vs,h=>by simpa [strs,ar] using h
 |s::l,vs,h=>by
  simp only[strs,List.map_cons,ar] at h ⊢
  obtain ⟨v,us,e,h1,h2⟩:=h
  exact ⟨v,us,e,by simpa only[ak] using h1,sf l us h2⟩
theorem sg (l:List Bs) (h0:l≠[]) (hl:l.length≤1000000) (id n m:Nat) (hid:id<n):bo Tryz.prog 61 [.tsl 1 id 0 l.length none] (.only (upd ag id (some (.cells (strs l)))) [] n m) (.tsl 1 n 0 l.length none) (.only (upd (upd ag id (some (.cells (strs l)))) n (some (.cells (strs l)))) [] (n+1) m):=by
 have:=bo.C6 (args:=[]) (fun n m=>Reads.jJ l h0 hl n m) (fun G G' w vs h=>sf l vs h) none id n m hid
 rwa [an] at this
def jb (mark:Int) (S:Spc) (k:Bs):Spc:=iW S k (eU (aX S.L k) mark)
def iw (mark:Int) (S:Spc) (ks:List Bs):Spc:=ks.foldl (jb mark) S
def bD (S:Spc) (mark:Int):Spc × Int:=if mark<S.mark∨S.last<mark then (S,2) else ({iw mark S (ae S.L) with mark:=mark},0)
theorem qK (v:List Ver) (m:Int):(eU v m).length≤v.length:=by
 unfold eU
 split
 ·rw[List.length_take];omega
 ·simp
theorem tT {S:Spc} (h:Small S) (hr:bk S.L) (m:Int) (k:Bs):Small (jb m S k)∧bk (jb m S k).L:=by
 refine ⟨⟨?_,fun q=>?_⟩,kf hr _ _⟩
 ·show (dv S.L k (eU (aX S.L k) m)).length≤_
  have hp:=e9 (ae S.L) k
  have hk:(ae S.L).length=S.L.length:=by simp[ae]
  have:=h.1
  by_cases ht:thK (ae S.L) k=true
  ·unfold dv
   simp only[ht,if_true]
   have ht2:=ht
   simp only[thK,Bool.and_eq_true,decide_eq_true_eq] at ht2
   have:=ht2.1
   split
   ·simp;omega
   ·simp;omega
  ·have hm:aX S.L k=[]:=by
    refine fD _ _ fun hm=>?_
    have:=nt hr k
    rw[decide_eq_true (show k∈ae S.L from hm)] at this
    exact ht this
   have hv:eU (aX S.L k) m=[]:=by
    have:=qK (aX S.L k) m
    rw[hm] at this ⊢
    exact List.length_eq_zero_iff.1 (by simpa using this)
   rw[hv,dv,if_pos rfl,if_neg ht];exact this
 ·show (aX (dv _ _ _) q).length≤_
  rw[lr hr]
  split
  ·have:=qK (aX S.L k) m
   have:=h.2 k
   omega
  ·exact h.2 q
theorem uW (m:Int):∀(l:List Bs) (S:Spc),Small S→bk S.L→Small (iw m S l)∧bk (iw m S l).L
 |[],S,h,hr=>⟨h,hr⟩
 |k::l,S,h,hr=>by
  obtain ⟨h1,h2⟩:=tT h hr m k
  exact uW m l _ h1 h2
theorem wG (m:Int) (S:Spc) (l:List Bs) {j:Nat} (h:j<l.length):iw m S (l.take (j+1))=jb m (iw m S (l.take j)) (l.getD j []):=by
 rw[bt [] h,iw,List.foldl_append];rfl
set_option maxHeartbeats 1000000 in
theorem yD {s:Nat} {S:Spc} {F:Fr} (hF:cQ s S F) (hr:bk S.L) (hS:Small S) (mark:Int):aL Tryz.prog 37 [.ptr s 0,.int .i64 mark] [F] (fun r L=>r= .int .i64 (bD S mark).2∧∃F',L=[F']∧cQ s (bD S mark).1 F'):=by
 obtain ⟨c,M,K,hM,hsc,hs,hc,hK⟩:=hF.go
 refine f37.bw (by simp) fun n m ok=>?_
 unfold c37
 simp only[C.zz]
 have fs:=ok.at0 hs
 have stop:∀(e:Int),bD S mark=(S,e)→∃r l',Av.Ends [F] n m (fun r L=>r= .int .i64 (bD S mark).2∧∃F',L=[F']∧cQ s (bD S mark).1 F') (.int .i64 e) ⟨lay [F],n,ks [F],m⟩ r l':=by
  intro e h
  rw[h]
  exact ⟨_,_,(On.refl ok).ends (ab.refl _) ⟨rfl,F,rfl,hF⟩⟩
 by_cases p1:mark<S.mark
 ·have d1:=decide_eq_true p1
  have hres:bD S mark=(S,2):=by rw[bD,if_pos (.inl p1)]
  refine xL0 (cj2 fs d1) (fE hF) ?_
  intro ids
  exact Wp.ret ⟨trivial,_,rfl,stop 2 hres⟩
 ·have d1:=decide_eq_false p1
  by_cases p2:S.last<mark
  ·have d2:=decide_eq_true p2
   have hres:bD S mark=(S,2):=by rw[bD,if_pos (.inr p2)]
   refine xL0 (cj3 fs d1 d2) (fE hF) ?_
   intro ids
   exact Wp.ret ⟨trivial,_,rfl,stop 2 hres⟩
  ·have d2:=decide_eq_false p2
   have hres:bD S mark=({iw mark S (ae S.L) with mark:=mark},0):=by rw[bD,if_neg (by omega)]
   have hkl:(ae S.L).length=S.L.length:=by simp[ae]
   have hS1:=hS.1
   by_cases hz:ae S.L=[]
   ·rw[hz] at hK
    obtain ⟨objs,idk,ho,hi,hb⟩:=B9 hK
    have g1:decide ((0:Int)<((0:Nat):Int))=false:=rfl
    refine xL0 (cj3 fs d1 d2) (fE hF) ?_
    intro ids
    refine aa.jy idk (by simp only[go_sem]) xA4 (fun id o h=>ok.sub (by simp) id o (ho id o h)) hi hb ?_
    refine aa.evR xA1 ?_
    refine aa.nil ⟨by trivial,?_⟩
    refine rn0 g1 ?_
    refine Wp.mN (WpL.next ?_)
    refine rn0 (cj2 g1 fs) ?_
    have hz2:iw mark S (ae S.L)=S:=by rw[hz];rfl
    rw[hz2] at hres
    have on3:=On.put (o:= .cells [K,.mp c,.int .i64 S.last,.int .i64 mark]) ok (by rw[hs];rfl)
    have hF3:=hF.times hs S.last mark
    refine Wp.ret ⟨trivial,.int .i64 0,rfl,.int .i64 (bD S mark).2,[⟨upd F.o s (some (.cells [K,.mp c,.int .i64 S.last,.int .i64 mark])),F.k⟩],?_⟩
    rw[qu]
    refine on3.ends (by rw[hres];exact ab.refl _) ⟨rfl,_,rfl,?_⟩
    rw[hres];exact hF3
   ·rcases hK with ⟨rfl,h2⟩|⟨k,rfl,h2,h3,h4⟩
    ·exact absurd h2 hz
    ·refine xL0 (cj3 fs d1 d2) (fE hF) ?_
     intro ids
     have fk:=ok.at0 h2
     have hkn:=ok.lt (by simp) h2
     refine aa.eW (by simp only[go_sem]) xA4 (sg (ae S.L) hz (by omega) k n m hkn) (jV _ _ _ (ids:=[k]) ⟨fun j o h=>?_,fun t h=>by simp[H.only] at h⟩ rfl rfl (fun id h=>?_) (by simp[H.only]) (by simp[H.only])) ?_
     ·simp only[H.only,upd,ag] at h
      split at h
      ·rename_i e;subst e;cases h;exact fk
      ·cases h
     ·simp only[H.only,upd,ag] at h
      split at h
      ·rename_i e;simp[e]
      ·cases h
     rw[wF fk]
     refine aa.evR xA1 ?_
     refine aa.nil ⟨by trivial,?_⟩
     refine Wp.block ?_
     have ok2:=ok.more (.cells (strs (ae S.L)))
     refine Wp.fY (β:=Nat) [0,1,30,31] xA7 (fun i=>[(32,.int .i64 (i:Nat))]) (fun i L=>i≤(ae S.L).length∧∃F',L=[ob n (.cells (strs (ae S.L))),F']∧cQ s (iw mark S ((ae S.L).take i)) F') (fun i=>(ae S.L).length - i) 0 ⟨Nat.zero_le _,F,rfl,hF⟩ ok2 xA9 ?_
     rintro i L n1 T1 m1 on ⟨hi,F',rfl,hF'⟩
     obtain ⟨c',M',K',hM',hsc',hs',hc',hK'⟩:=hF'.go
     by_cases hi2:i<(ae S.L).length
     ·obtain ⟨g1,h2,h3,e1⟩:=ixF (j:=i) (n:=(ae S.L).length) (by omega) (by omega)
      have gk:=aH n (.cells (strs (ae S.L))) [F']
      have gs:=on.ok.sub (F:=F') (by simp) _ _ hs'
      have gc:=on.ok.sub (F:=F') (by simp) _ _ hc'
      have hget:(strs (ae S.L))[i]? =some (.str ((ae S.L).getD i [])):=by
       simp[strs,hi2]
      have hdo:=wG mark S (ae S.L) hi2
      obtain ⟨hS',hr'⟩:=uW mark ((ae S.L).take i) S hS hr
      generalize (ae S.L).getD i []=q at*
      generalize iw mark S ((ae S.L).take i)=S' at*
      have hv:=xU (aX S'.L q) (by have:=hS'.2 q;omega) mark
      have hlk:=jH M' q
      rw[hM'.eq] at hlk
      unfold vAV at hlk
      have fit:af [cW (.sl 3 [] (.exact 0)) false (jm M' q),.int .i64 mark] [.sl 3 ((aX S'.L q).map bf) .any,.int .i64 mark]:=af.cons hlk (af.refl _)
      refine rn1 (gh g1 h2 h3 gk hget gs gc @cG @Nat.zero_add @Nat.mul_one) hv ?_
      refine aa.uK [_] [F'] [] (by simp only[go_sem]) xA4 (Bz hF' hr' hS'.1 q (eU (aX S'.L q) mark)) on.ok fun r G' n' m' ids hq hn' hm' ok3 wi ki=>?_
      obtain ⟨rfl,F2,rfl,hF2⟩:=hq
      refine aa.evR xA1 ?_
      refine aa.nil ⟨by trivial,?_⟩
      refine rn0 e1 ?_
      refine ⟨i+1,[_,F2],n',_,m',⟨hn',hm',ok3,wi,ki⟩,⟨by omega,F2,rfl,?_⟩,by omega,?_⟩
      ·rw[hdo];exact hF2
      ·exact xSu
     ·have hie:i=(ae S.L).length:=by omega
      subst hie
      have g1:=ixE ((ae S.L).length)
      rw[List.take_length] at hF' hs'
      refine rn0 g1 ?_
      refine Wp.le (aU.of (fun i=>ab.refl _) (mO (Ok.alone on.ok)) (fun _ h=>h) (Nat.le_refl _) (Nat.le_refl _)) ?_
      have on2:=On.under on
      have gs:=on2.ok.at0 hs'
      refine rn0 gs ?_
      have on3:=on2.step (On.put (o:= .cells [K',.mp c',.int .i64 (iw mark S (ae S.L)).last,.int .i64 mark]) on2.ok (by rw[hs'];rfl))
      have hF3:=hF'.times hs' (iw mark S (ae S.L)).last mark
      refine Wp.ret ⟨trivial,.int .i64 0,rfl,.int .i64 (bD S mark).2,[⟨upd F'.o s (some (.cells [K',.mp c',.int .i64 (iw mark S (ae S.L)).last,.int .i64 mark])),F'.k⟩],?_⟩
      rw[qu]
      refine on3.ends (by rw[hres];exact ab.refl _) ⟨rfl,_,rfl,?_⟩
      rw[hres];exact hF3
instance:Inhabited It:=⟨([],[])⟩
def encI (p:It):AV:= .agg [.str p.1,vAV p.2]
def wH (A:List It) (l:List It):List It:=l.foldl (fun A p=>dv A p.1 p.2) A
def yE (x:It) (ahead:Bs) (first:Bool) (last:Int):Bool:=decide ((x.1.length:Int)≤128)&&(first||Op.bytesLess ahead x.1)&&decide (0<x.2.length)&&chB x.2&&decide ((x.2.getD 0 default).t≤last)
def nz (l:List It) (i:Nat):Bs:=if i=0 then [] else (l.getD (i - 1) default).1
def o7 (l:List It) (last:Int) (i:Nat):Bool:=yE (l.getD i default) (nz l i) (decide (i=0)) last
def ldB (l:List It) (last mark:Int):Bool:= !decide (last<0)&& !decide (1152921504606846976<last)&& !decide (mark<0)&& !decide (last<mark)&&(List.range l.length).all (o7 l last)
theorem si (p:It) (L:List It):ae (p::L)=p.1::ae L:=rfl
theorem jM (k:Bs) (ks:List Bs) (q:Bs):plK (k::ks) q=if Op.bytesLess k q=true then plK ks q+1 else 0:=by
 simp only[plK,List.findIdx_cons]
 cases h:Op.bytesLess k q<;>simp
theorem AE (q:Bs):thK [] q=false:=by simp[thK]
theorem yF (k:Bs) (ks:List Bs) (q:Bs):thK (k::ks) q=if Op.bytesLess k q=true then thK ks q else decide (k=q):=by
 simp only[thK,jM]
 cases h:Op.bytesLess k q<;>simp
theorem oF (q:Bs) (v:List Ver):dv [] q v=if v=[] then [] else [(q,v)]:=by
 simp[dv,ae,AE,plK]
theorem kh (p:It) (L:List It) (q:Bs) (v:List Ver):dv (p::L) q v=if Op.bytesLess p.1 q=true then p::dv L q v else if p.1=q then (if v=[] then L else (q,v)::L) else (if v=[] then p::L else (q,v)::p::L):=by
 simp only[dv,si,yF,jM]
 by_cases h:Op.bytesLess p.1 q=true
 ·simp only[if_pos h,List.take_succ_cons,List.drop_succ_cons,List.cons_append]
  split<;>split<;>rfl
 ·simp only[if_neg h]
  by_cases e:p.1=q
  ·simp[e]
  ·simp[e]
theorem oG (q:Bs) (v:List Ver) (B:List It):∀A:List It,(∀p∈A,Op.bytesLess p.1 q=true)→dv (A++B) q v=A++dv B q v
 |[],_=>rfl
 |p::A,h=>by
  rw[List.cons_append,kh,if_pos (h p (by simp)),oG q v B A (fun x hx=>h x (by simp[hx]))];rfl
theorem iy {p:It} {L:List It}:bk (p::L)↔(∀x∈L,Op.bytesLess p.1 x.1=true)∧bk L:=by
 simp[bk,bE,ae,List.pairwise_cons]
theorem sj {A B:List It}:bk (A++B)↔bk A∧bk B∧∀x∈A,∀y∈B,Op.bytesLess x.1 y.1=true:=by
 unfold bk bE ae
 rw[List.map_append,List.pairwise_append]
 simp
def wGo (q:Bs) (v:List Ver):Bool→List It→List It
 |laid,[]=>if laid then [] else [(q,v)]
 |laid,p::l=>(if laid=false∧Op.bytesLess p.1 q=false then [(q,v)] else [])++((if p.1=q then [] else [p])++wGo q v (laid|| !Op.bytesLess p.1 q) l)
def oH (L:List It) (q:Bs) (v:List Ver):List It:=wGo q v (decide (v=[])) L
theorem so (q:Bs) (v:List Ver):∀L:List It,(∀p∈L,p.1≠q)→wGo q v true L=L
 |[],_=>rfl
 |p::L,h=>by
  rw[wGo,if_neg (h p (by simp))]
  simp only[Bool.true_eq_false,false_and,if_false,List.nil_append,Bool.true_or,List.singleton_append]
  rw[so q v L (fun x hx=>h x (by simp[hx]))]
theorem lE {a b:Bs} (h:Op.bytesLess a b=true):a≠b:=fun e=>by rw[e,aW] at h;cases h
theorem after {p:It} {L:List It} {q:Bs} (hr:bk (p::L)) (h:Op.bytesLess p.1 q=false):∀x∈L,x.1≠q:=by
 intro x hx e
 have:=(iy.1 hr).1 x hx
 rw[e,h] at this;cases this
theorem sq {q:Bs} {v:List Ver}:∀L:List It,bk L→oH L q v=dv L q v
 |[],_=>by
  rw[oF,oH,wGo]
  by_cases h:v=[] <;>simp[h]
 |p::L,hr=>by
  have ih:=sq (q:=q) (v:=v) L (iy.1 hr).2
  rw[kh,oH,wGo]
  by_cases h:Op.bytesLess p.1 q=true
  ·have hn:=lE h
   rw[if_pos h,←ih,oH]
   simp[h,hn]
  ·have h':Op.bytesLess p.1 q=false:=by simpa using h
   have ha:=so q v L (after hr h')
   rw[if_neg h]
   by_cases hv:v=[] <;>by_cases e:p.1=q<;>simp[hv,e,h',ha] <;>(try (rw [e] at h';simp[h']))<;>simp_all
def Full (L:List It):Prop:=∀p∈L,p.2≠[]
theorem sr:∀(l A:List It),bk (A++l)→Full l→wH A l=A++l
 |[],A,_,_=>by simp[wH]
 |p::l,A,hr,hf=>by
  have h1:=(sj.1 hr).2.2
  have hs:dv A p.1 p.2=A++[p]:=by
   have:=oG p.1 p.2 [] A (fun x hx=>h1 x hx p (by simp))
   rw[List.append_nil,oF,if_neg (hf p (by simp))] at this
   exact this
  have e:wH A (p::l)=wH (dv A p.1 p.2) l:=rfl
  rw[e,hs,sr l (A++[p]) (by simpa using hr) (fun x hx=>hf x (by simp[hx]))]
  simp
theorem wI {L:List It} (hr:bk L) (hf:Full L):wH [] L=L:=by
 have:=sr L [] (by simpa using hr) hf
 simpa using this
theorem wJ {L:List It} (hf:Full L) (q:Bs) (v:List Ver):Full (dv L q v):=by
 induction L with
 |nil=>rw[oF];split<;>simp_all [Full]
 |cons p L ih=>
  have h1:p.2≠[]:=hf p (by simp)
  have h2:Full L:=fun x hx=>hf x (by simp[hx])
  have h3:=ih h2
  rw[kh]
  intro x hx
  split at hx
  ·rcases List.mem_cons.1 hx with rfl|hx
   ·exact h1
   ·exact h3 x hx
  ·split at hx<;>split at hx
   ·exact h2 x hx
   ·rename_i hv
    rcases List.mem_cons.1 hx with rfl|hx
    ·exact hv
    ·exact h2 x hx
   ·exact hf x hx
   ·rename_i hv
    rcases List.mem_cons.1 hx with rfl|hx
    ·exact hv
    ·exact hf x hx
theorem ss {L:List It} (hr:bk L) {p:It} (hp:p∈L):aX L p.1=p.2:=by
 induction L with
 |nil=>simp at hp
 |cons x L ih=>
  obtain ⟨h1,h2⟩:=iy.1 hr
  rcases List.mem_cons.1 hp with rfl|hp
  ·simp[aX]
  ·rw[aX,if_neg (lE (h1 p hp))];exact ih h2 hp
theorem su {A B:List It} {q:Bs} (h:∀x∈A,x.1≠q):aX (A++B) q=aX B q:=by
 rw[fO,if_neg]
 intro hm
 obtain ⟨p,hp,e⟩:=List.mem_map.1 hm
 exact h p hp e
def gK (mark:Int) (L:List It):List It:=L.filterMap fun p=>if eU p.2 mark=[] then none else some (p.1,eU p.2 mark)
theorem wK {mark:Int} {L:List It} {x:It} (h:x∈gK mark L):∃p∈L,p.1=x.1:=by
 obtain ⟨p,hp,e⟩:=List.mem_filterMap.1 h
 split at e
 ·cases e
 ·cases e;exact ⟨p,hp,rfl⟩
theorem uX (mark:Int) (a b:Int):∀(B A:List It),bk (A++B)→iw mark ⟨gK mark A++B,a,b⟩ (ae B)=⟨gK mark (A++B),a,b⟩
 |[],A,_=>by simp[iw,ae]
 |p::B,A,hr=>by
  have h1:=(sj.1 hr).2.2
  have hlt:∀x∈gK mark A,Op.bytesLess x.1 p.1=true:=fun x hx=>by
   obtain ⟨y,hy,e⟩:=wK hx
   rw[←e];exact h1 y hy p (by simp)
  have hg:aX (gK mark A++p::B) p.1=p.2:=by
   rw[su (fun x hx=>lE (hlt x hx))];simp[aX]
  have e1:iw mark ⟨gK mark A++p::B,a,b⟩ (ae (p::B))=iw mark (jb mark ⟨gK mark A++p::B,a,b⟩ p.1) (ae B):=rfl
  have e2:jb mark ⟨gK mark A++p::B,a,b⟩ p.1=⟨gK mark (A++[p])++B,a,b⟩:=by
   simp only[jb,iW,hg,oG _ _ _ _ hlt,kh,aW,Bool.false_eq_true,if_false,if_true]
   by_cases hv:eU p.2 mark=[]
   ·simp[gK,hv]
   ·simp[gK,hv]
  rw[e1,e2,uX mark a b B (A++[p]) (by simpa using hr)]
  simp
theorem qL {S:Spc} (hr:bk S.L) (mark:Int):iw mark S (ae S.L)= {S with L:=gK mark S.L}:=by
 have:=uX mark S.last S.mark S.L [] (by simpa using hr)
 simpa [gK] using this
theorem pT (mark:Int) (L:List It):Full (gK mark L):=by
 intro x hx
 obtain ⟨p,hp,e⟩:=List.mem_filterMap.1 hx
 split at e
 ·cases e
 ·cases e;assumption
def inB (k a b:Bs):Bool:= !Op.bytesLess k a&&fb b k
theorem yG {b:Bs}:∀{ks:List Bs} {k:Bs},(∀x∈ks,Op.bytesLess k x=true)→fb b k=false→∀x∈ks,fb b x=false:=by
 intro ks k h hk x hx
 simp only[fb,Bool.or_eq_false_iff,decide_eq_false_iff_not] at hk ⊢
 refine ⟨hk.1,?_⟩
 cases hc:Op.bytesLess x b with
 |false=>rfl
 |true=>rw[bp (h x hx) hc] at hk;cases hk.2
theorem mT {b:Bs}:∀ks:List Bs,bE ks→ks.takeWhile (fb b)=ks.filter (fb b)
 |[],_=>rfl
 |k::ks,hr=>by
  obtain ⟨h1,h2⟩:=List.pairwise_cons.1 hr
  rw[List.takeWhile_cons,List.filter_cons]
  cases hk:fb b k with
  |true=>simp only[if_true];rw[mT ks h2]
  |false=>
   simp only[Bool.false_eq_true,if_false]
   refine (List.filter_eq_nil_iff.2 fun x hx=>?_).symm
   rw[yG h1 hk x hx];exact Bool.false_ne_true
theorem uY {a b:Bs}:∀ks:List Bs,bE ks→ca ks a b=ks.filter fun k=>inB k a b
 |[],_=>by simp[ca]
 |k::ks,hr=>by
  obtain ⟨h1,h2⟩:=List.pairwise_cons.1 hr
  by_cases h:Op.bytesLess k a=true
  ·have ih:=uY (a:=a) (b:=b) ks h2
   rw[ca,jM,if_pos h,List.drop_succ_cons,List.filter_cons,if_neg (by simp[inB,h])]
   exact ih
  ·have h':Op.bytesLess k a=false:=by simpa using h
   rw[ca,jM,if_neg h,List.drop_zero,mT _ hr]
   refine List.filter_congr fun x hx=>?_
   have:Op.bytesLess x a=false:=by
    rcases List.mem_cons.1 hx with rfl|hx
    ·exact h'
    ·cases hc:Op.bytesLess x a with
     |false=>rfl
     |true=>rw[bp (h1 x hx) hc] at h';cases h'
   simp[inB,this]
theorem oI {α β:Type} {f g:α→Option β}:∀{l:List α},(∀x∈l,f x=g x)→l.filterMap f=l.filterMap g
 |[],_=>rfl
 |x::l,h=>by
  rw[List.filterMap_cons,List.filterMap_cons,h x (by simp),oI (fun y hy=>h y (by simp[hy]))]
theorem AF {α:Type} {a b:Bs} {L:List It} (hr:bk L) (f:List Ver→Bs→Option α):(ca (ae L) a b).filterMap (fun k=>f (aX L k) k)=(L.filter fun p=>inB p.1 a b).filterMap fun p=>f p.2 p.1:=by
 rw[uY _ hr,ae,List.filter_map,List.filterMap_map]
 refine oI fun p hp=>?_
 have:=ss hr (List.mem_filter.1 hp).1
 simp only[Function.comp,this]
def yH (t:Int) (p:It):Option Pr:=if (atB p.2 t).2=true then some ⟨p.1,(atB p.2 t).1⟩ else none
theorem AG {S:Spc} (hr:bk S.L) (a b:Bs) (t:Int):cT S a b t=(S.L.filter fun p=>inB p.1 a b).filterMap (yH t):=by
 have:=AF (a:=a) (b:=b) hr (fun v k=>if (atB v t).2=true then some (⟨k,(atB v t).1⟩:Pr) else none)
 exact this
def du (S:Spc):AV:= .agg [.sl 2 (S.L.map encI) .any,.int .i64 S.last,.int .i64 S.mark]
theorem wL (p:It):av (encI p)=true:=by simp[al,av,aK,encI,vAV,bJ]
theorem oJ (l:List It):al (l.map encI)=true:=Av.cU wL l
theorem dd (S:Spc):av (du S)=true:=by simp[al,av,aK,du,oJ]
theorem lp (S:Spc) (t:Int):aB Tryz.prog 112 [du S,.int .i64 t] (.int .i64 (cB S t)):=by
 refine f112.aJ (by simp) (by simp[al,av,dd]) rfl ?_
 unfold CC
 simp only[C.zz]
 by_cases h1:t<S.mark
 ·have d1:=decide_eq_true h1
  refine rn0 (cj2 @du.eq_1 d1) ?_
  refine aM ?_
  rw[cB,if_pos h1];exact ab.refl _
 ·have d1:=decide_eq_false h1
  by_cases h2:S.last<t
  ·have d2:=decide_eq_true h2
   refine rn0 (cj3 @du.eq_1 d1 d2) ?_
   refine aM ?_
   rw[cB,if_neg h1,if_pos h2];exact ab.refl _
  ·have d2:=decide_eq_false h2
   refine rn0 (cj3 @du.eq_1 d1 d2) ?_
   refine aM ?_
   rw[cB,if_neg h1,if_neg h2];exact ab.refl _
theorem od (k a b:Bs) (lk:Ls k) (la:Ls a) (lb:Ls b):aB Tryz.prog 106 [.str k,.str a,.str b] (.bool (inB k a b)):=by
 refine f106.aJ (by simp) (by simp[al,av]) rfl ?_
 unfold BQ
 simp only[C.zz]
 have b1:=cN k a lk la
 have b2:=cN k b lk lb
 cases h1:Op.bytesLess k a with
 |true=>
  rw[h1] at b1
  refine rn1 h1 b1 ?_
  refine aM ?_
  rw[inB,h1];exact ab.refl _
 |false=>
  rw[h1] at b1
  by_cases h2:b=[]
  ·have d2:=decide_eq_true h2
   refine rn1 d2 b1 ?_
   refine aM ?_
   rw[inB,fb,h1,d2];exact ab.refl _
  ·have d2:=decide_eq_false h2
   refine rn2 d2 b1 b2 ?_
   refine aM ?_
   rw[inB,fb,h1,d2];exact ab.refl _
theorem tV {L:List It} {q:Bs} {j:Nat} (h:∀i,i<j→(L.getD i default).1≠q) (hj:j<L.length) (he:(L.getD j default).1=q):aX L q=(L.getD j default).2:=by
 induction L generalizing j with
 |nil=>simp at hj
 |cons p L ih=>
  cases j with
  |zero=>simp only[List.getD_cons_zero] at he ⊢;simp[aX,he]
  |succ j=>
   have h0:=h 0 (by omega)
   simp only[List.getD_cons_zero] at h0
   simp only[List.getD_cons_succ] at he ⊢
   rw[aX,if_neg h0]
   exact ih (fun i hi=>by have:=h (i+1) (by omega);simpa using this) (by simpa using hj) he
theorem qM {L:List It} {q:Bs} (h:∀i,i<L.length→(L.getD i default).1≠q):aX L q=[]:=by
 refine fD _ _ fun hm=>?_
 obtain ⟨p,hp,e⟩:=List.mem_map.1 hm
 obtain ⟨i,hi,rfl⟩:=List.mem_iff_getElem.1 hp
 exact h i hi (by rw[au hi];exact e)
theorem yI (S:Spc) (hl:S.L.length≤1000000) (q:Bs):aB Tryz.prog 79 [du S,.str q] (.sl 3 ((aX S.L q).map bf) .any):=by
 refine f79.aJ (by simp) (by simp[al,av,dd]) (by simp[av,aK,bJ]) ?_
 unfold c79
 simp only[C.zz]
 have hil:(S.L.map encI).length=S.L.length:=by simp
 refine rn0 @du.eq_1 ?_
 refine Wp.dW [1,2] xA6 (fun j:Nat=>[(5,.int .i64 (j:Nat))]) (fun j=>j≤S.L.length∧∀i,i<j→(S.L.getD i default).1≠q) (fun j=>S.L.length - j) 0 ⟨Nat.zero_le _,fun i h=>absurd h (by omega)⟩ ?_ ?_
 ·exact xSb
 rintro j ⟨hj,hno⟩
 by_cases hj2:j<S.L.length
 ·obtain ⟨g1,h2,h3,e1⟩:=ixF (j:=j) (n:=S.L.length) (by omega) (by omega)
  have hat:=dh encI S.L j .any hj2
  by_cases he:(S.L.getD j default).1=q
  ·have d1:=decide_eq_true he
   have hm:=tV hno hj2 he
   generalize S.L.getD j default=x at*
   refine rn0 (cj8 g1 h2 h3 hat hil @encI.eq_1 @vAV.eq_1 d1) ?_
   refine aM ?_
   rw[hm];exact ab.refl _
  ·have d1:=decide_eq_false he
   have hno2:∀i,i<j+1→(S.L.getD i default).1≠q:=fun i hi=>by
    by_cases e:i=j
    ·rw[e];exact he
    ·exact hno i (by omega)
   generalize S.L.getD j default=x at*
   refine rn0 (cj9 g1 h2 h3 hat hil @encI.eq_1 @vAV.eq_1 d1 e1) ?_
   refine ⟨j+1,⟨by omega,hno2⟩,by omega,?_⟩
   exact xSu
 ·have hje:j=S.L.length:=by omega
  subst hje
  have g1:=ixE (S.L.length)
  refine rn0 (cj2 g1 hil) ?_
  refine aM ?_
  rw[qM hno];exact ab.cap
theorem yJ (S:Spc) (hS:lX S) (q:Bs) (t:Int):aB Tryz.prog 70 [du S,.str q,.int .i64 t] (.tup [.str (dS S q t).1,.int .i64 (dS S q t).2]):=by
 refine f70.aJ (by simp) (by simp[al,av,dd]) rfl ?_
 unfold c70
 simp only[C.zz]
 have hk:=lp S t
 have hf:=yI S (by have:=hS.1;omega) q
 have hat:=Bw (aX S.L q) (by have:=hS.2 q;omega) t
 by_cases h1:cB S t=0
 ·have d1:=decide_eq_true h1
  cases ha:(atB (aX S.L q) t).2 with
  |true=>
   rw[ha] at hat
   refine rn3 (cj2 @du.eq_1 d1) hk hf hat ?_
   refine aM ?_
   rw[dS,if_pos h1,if_pos ha];exact ab.refl _
  |false=>
   rw[ha] at hat
   refine rn3 (cj2 @du.eq_1 d1) hk hf hat ?_
   refine aM ?_
   rw[dS,if_pos h1,if_neg (by simp[ha])];exact ab.refl _
 ·have d1:=decide_eq_false h1
  refine rn1 (cj2 @du.eq_1 d1) hk ?_
  refine aM ?_
  rw[dS,if_neg h1];exact ab.refl _
theorem mh (l:List It) (q:Bs) (v:List Ver):l.map encI++[.agg [.str q,.sl 3 (v.map bf) .any]]=(l++[(q,v)]).map encI:=by simp[encI,vAV]
theorem oK (l:List It) (p:It):l.map encI++[.agg [.str p.1,.sl 3 (p.2.map bf) .any]]=(l++[p]).map encI:=by simp[encI,vAV]
theorem AH {l:List It} {j:Nat} (h:j<l.length):l.drop j=l.getD j default::l.drop (j+1):=by
 rw[List.drop_eq_getElem_cons h,List.getD_eq_getElem?_getD,List.getElem?_eq_getElem h];rfl
theorem nA {n:Nat} (h:n≤2000000):(n+1)*40≤140737488355328∧n+1<4611686018427387904∧(n+1+1)*40≤140737488355328∧n+1+1<4611686018427387904:=by omega
theorem nv {n:Nat} (h:n≤2000000):(n+1)*32≤140737488355328∧n+1<4611686018427387904∧(n+1+1)*32≤140737488355328∧n+1+1<4611686018427387904:=by omega
theorem lsI {L:List It} (h:∀p∈L,Ls p.1) {j:Nat} (hj:j<L.length):Ls (L.getD j default).1:=by
 rw[au hj];exact h _ (List.getElem_mem hj)
set_option maxHeartbeats 2000000 in
theorem Ca (l:List It) (hl:l.length≤1000000) (lk:∀p∈l,Ls p.1) (q:Bs) (hq:Ls q) (v:List Ver) (hv:v.length≤1000001):aB Tryz.prog 80 [.sl 2 (l.map encI) .any,.str q,.sl 3 (v.map bf) .any] (.sl 2 ((oH l q v).map encI) .any):=by
 refine f80.aJ (by simp) (by simp[al,av,aK,oJ,bJ]) (by simp[av,aK,oJ]) ?_
 unfold c80
 simp only[C.zz]
 have z:decide ((v.length:Int)=0)=decide (v=[]):=by cases v<;>simp;omega
 have hil:(l.map encI).length=l.length:=by simp
 refine rn0 (cj2 z @List.length_map.{0,0}) ?_
 refine Wp.le (aU.tok _ _) ?_
 refine Wp.fH [0,1,2] xA7 (fun (j:Nat × List It × Bool) tk=>[(7,.sl 2 (j.2.1.map encI) (.own tk)),(8,.bool j.2.2),(9,.int .i64 (j.1:Nat))]) (fun j=>j.1≤l.length∧j.2.1++wGo q v j.2.2 (l.drop j.1)=oH l q v∧j.2.1.length≤2*j.1) (fun j=>l.length - j.1) (0,[],decide (v=[])) _ ⟨Nat.zero_le _,by simp[oH],Nat.le_refl _⟩ rfl ?_ ?_
 ·simp only[aC,go_sem,reduceIte,Nat.reduceEqDiff,Nat.reduceAdd,bx];and_intros<;>first|exact trivial|exact ab.refl _|exact ab.any _|exact ab.eN rfl|(refine ab.int ?_;omega)
 rintro ⟨j,o,b⟩ tk m ⟨hj,ho,hol⟩
 simp only at hj ho hol
 obtain ⟨g0,g0',g1',g1''⟩:=nA (show o.length≤2000000 by omega)
 by_cases hc:j<l.length
 ·obtain ⟨g1,h2,h3,e1⟩:=ixF (j:=j) (n:=l.length) (by omega) (by omega)
  have hat:=dh encI l j .any hc
  rw[AH hc,wGo] at ho
  have hbel:=cN (l.getD j default).1 q (lsI lk hc) hq
  have hsn:=oK o (l.getD j default)
  have hsq:=mh o q v
  have hsn3:=oK (o++[(q,v)]) (l.getD j default)
  rw[←hsq] at hsn3
  by_cases hk:(l.getD j default).1=q
  ·have q4:decide ((l.getD j default).1=q)=true:=decide_eq_true hk
   rw[if_pos hk,List.nil_append] at ho
   cases b with
   |true=>
    simp only[Bool.true_eq_false,false_and,if_false,List.nil_append,Bool.true_or] at ho
    generalize l.getD j default=x at*
    refine rn0 (cj9 hil g1 h2 h3 q4 e1 hat @encI.eq_1 @vAV.eq_1) ?_
    refine ⟨(j+1,o,true),tk,m,⟨by simp only;omega,ho,by simp only;omega⟩,by simp only;omega,?_⟩
    exact xSu
   |false=>
    cases hb:Op.bytesLess (l.getD j default).1 q with
    |true=>rw[hk,aW] at hb;cases hb
    |false=>
     rw[hb] at hbel ho
     simp only[true_and,and_self,if_true,Bool.not_false,Bool.or_true] at ho
     generalize l.getD j default=x at*
     refine rn1 (bN hil g1 h2 h3 q4 e1 hat @encI.eq_1 @vAV.eq_1 @List.length_map.{0,0} g0 g0') hbel ?_
     refine ⟨(j+1,o++[(q,v)],true),m,m+1,⟨by simp only;omega,by rw[←ho];simp,by simp;omega⟩,by simp only;omega,?_⟩
     refine aU.tm (by simp only[aC,go_sem,reduceIte,Nat.reduceEqDiff,Nat.reduceAdd,bx];and_intros<;>first|exact trivial|exact ab.refl _|exact ab.any _|exact ab.of_eq (by rw[←hsq])|(refine ab.int ?_;omega))
  ·have q4:decide ((l.getD j default).1=q)=false:=decide_eq_false hk
   rw[if_neg hk] at ho
   cases b with
   |true=>
    simp only[Bool.true_eq_false,false_and,if_false,List.nil_append,Bool.true_or] at ho
    generalize l.getD j default=x at*
    refine rn0 (bN hil g1 h2 h3 q4 e1 hat @encI.eq_1 @vAV.eq_1 @List.length_map.{0,0} g0 g0') ?_
    refine ⟨(j+1,o++[x],true),m,m+1,⟨by simp only;omega,by rw[←ho];simp,by simp;omega⟩,by simp only;omega,?_⟩
    refine aU.tm (by simp only[aC,go_sem,reduceIte,Nat.reduceEqDiff,Nat.reduceAdd,bx];and_intros<;>first|exact trivial|exact ab.refl _|exact ab.any _|exact ab.of_eq (by rw[←hsn])|(refine ab.int ?_;omega))
   |false=>
    cases hb:Op.bytesLess (l.getD j default).1 q with
    |true=>
     rw[hb] at hbel ho
     simp only[Bool.true_eq_false,and_false,if_false,List.nil_append,Bool.not_true,Bool.or_self] at ho
     generalize l.getD j default=x at*
     refine rn1 (bN hil g1 h2 h3 q4 e1 hat @encI.eq_1 @vAV.eq_1 @List.length_map.{0,0} g0 g0') hbel ?_
     refine ⟨(j+1,o++[x],false),m,m+1,⟨by simp only;omega,by rw[←ho];simp,by simp;omega⟩,by simp only;omega,?_⟩
     refine aU.tm (by simp only[aC,go_sem,reduceIte,Nat.reduceEqDiff,Nat.reduceAdd,bx];and_intros<;>first|exact trivial|exact ab.refl _|exact ab.any _|exact ab.of_eq (by rw[←hsn])|(refine ab.int ?_;omega))
    |false=>
     rw[hb] at hbel ho
     simp only[true_and,and_self,if_true,Bool.not_false,Bool.or_true] at ho
     generalize l.getD j default=x at*
     refine rn1 (bN hil g1 h2 h3 q4 e1 hat @encI.eq_1 @vAV.eq_1 @List.length_map.{0,0} @List.length_cons.{0} (cj6 @List.length_nil.{0} @Nat.zero_add g0 g0' g1' g1'')) hbel ?_
     refine ⟨(j+1,o++[(q,v)]++[x],true),m+1,m+2,⟨by simp only;omega,by rw[←ho];simp,by simp;omega⟩,by simp only;omega,?_⟩
     refine aU.tm (by simp only[aC,go_sem,reduceIte,Nat.reduceEqDiff,Nat.reduceAdd,bx];and_intros<;>first|exact trivial|exact ab.refl _|exact ab.any _|exact ab.of_eq (by rw[←hsn3])|(refine ab.int ?_;omega))
 ·obtain rfl:j=l.length:=by omega
  have g1:=ixE (l.length)
  rw[List.drop_length,wGo] at ho
  cases b with
  |true=>
   simp only[if_true,List.append_nil] at ho
   refine rn0 (cj2 hil g1) ?_
   refine aM ?_
   rw[←ho];exact ab.cap
  |false=>
   simp only[Bool.false_eq_true,if_false] at ho
   have hsq:=mh o q v
   refine rn0 (cj5 hil g1 @List.length_map.{0,0} g0 g0') ?_
   refine aM ?_
   rw[←ho,←hsq];exact ab.cap
theorem oL (a b:List Pr) (ha:a.length≤1000000):aB Tryz.prog 16 [.sl 2 (prs a) .any,.sl 2 (prs b) .any] (.bool (decide (a=b))):=by
 refine f16.aJ (by simp) (by simp[al,av,aK,dX]) rfl ?_
 unfold c16
 simp only[C.zz]
 by_cases hab:a.length=b.length
 ·have g0:decide ((a.length:Int)=(b.length:Int))=true:=decide_eq_true (by omega)
  refine rn0 (cj2 g0 @aO) ?_
  refine Wp.dW [0,1] xA6 (fun j:Nat=>[(5,.int .i64 (j:Nat))]) (fun j=>j≤a.length∧∀i,i<j→a.getD i default=b.getD i default) (fun j=>a.length - j) 0 ⟨Nat.zero_le _,fun i h=>absurd h (by omega)⟩ ?_ ?_
  ·exact xSb
  rintro j ⟨hj,hs⟩
  by_cases hc:j<a.length
  ·obtain ⟨g1,h2,h3,e1⟩:=ixF (j:=j) (n:=a.length) (by omega) (by omega)
   have h3':(j:Int)<(b.length:Int):=by omega
   have he:∀(x y:Pr),(decide (x.k=y.k)&&decide (x.v=y.v))=decide (x=y):=by
    rintro ⟨x1,x2⟩ ⟨y1,y2⟩
    rw[Bool.eq_iff_iff];simp
   cases hp:decide (a.getD j default=b.getD j default) with
   |true=>
    have hp':=(he _ _).trans hp
    repeat (first
     |((first|apply Wp.cA|apply Wp.eC);(· simp only[go_sem,reduceIte,Nat.reduceEqDiff,Nat.reduceAdd,bx,ax,if_true,if_false,Nat.reduceMul,Nat.reduceLeDiff,g1,h2,h3,h3',e1,hp',aO,cg _ _ _ hc,cg b j _ (show j<b.length by omega),bR];exact rfl))
     |(refine aa.nil ⟨?_,?_⟩;(· first|trivial|simp[aw,aq,apart,aG]))
     |(apply Wp.bu;(· simp only[go_sem,reduceIte,Nat.reduceEqDiff,Nat.reduceAdd,bx,ax,if_true,if_false,Nat.reduceMul,Nat.reduceLeDiff,g1,h2,h3,h3',e1,hp',aO,cg _ _ _ hc,cg b j _ (show j<b.length by omega),bR];exact rfl);(· rfl))
     |refine Wp.skip ?_
     |refine Wp.label ?_
     |refine Wp.block ?_
     |refine Wp.exit ?_
     |refine Wp.seq ?_)
    refine ⟨j+1,⟨by omega,fun i hi=>?_⟩,by omega,?_⟩
    ·by_cases e:i=j
     ·subst e;exact of_decide_eq_true hp
     ·exact hs i (by omega)
    ·exact xSu
   |false=>
    have hp':=(he _ _).trans hp
    repeat (first
     |((first|apply Wp.cA|apply Wp.eC);(· simp only[go_sem,reduceIte,Nat.reduceEqDiff,Nat.reduceAdd,bx,ax,if_true,if_false,Nat.reduceMul,Nat.reduceLeDiff,g1,h2,h3,h3',e1,hp',aO,cg _ _ _ hc,cg b j _ (show j<b.length by omega),bR];exact rfl))
     |(refine aa.nil ⟨?_,?_⟩;(· first|trivial|simp[aw,aq,apart,aG]))
     |(apply Wp.bu;(· simp only[go_sem,reduceIte,Nat.reduceEqDiff,Nat.reduceAdd,bx,ax,if_true,if_false,Nat.reduceMul,Nat.reduceLeDiff,g1,h2,h3,h3',e1,hp',aO,cg _ _ _ hc,cg b j _ (show j<b.length by omega),bR];exact rfl);(· rfl))
     |refine Wp.skip ?_
     |refine Wp.label ?_
     |refine Wp.block ?_
     |refine Wp.exit ?_
     |refine Wp.seq ?_)
    refine aM ?_
    rw[decide_eq_false (fun e=>of_decide_eq_false hp (by rw[e]))];exact ab.refl _
  ·obtain rfl:j=a.length:=by omega
   have g1:=ixE (a.length)
   refine rn0 (cj2 g1 @aO) ?_
   refine aM ?_
   have:a=b:=by
    refine List.ext_getElem hab fun i h1 h2=>?_
    have:=hs i h1
    rwa [au h1,au h2] at this
   rw[decide_eq_true this];exact ab.refl _
 ·have g0:decide ((a.length:Int)=(b.length:Int))=false:=decide_eq_false (by omega)
  refine rn0 (cj2 g0 @aO) ?_
  refine aM ?_
  rw[decide_eq_false (fun e=>hab (by rw[e]))];exact ab.refl _
theorem AI {l:List Ch} {j:Nat} {q:Bs} (hj:j≤l.length):q∈(l.take j).map (·.k)↔∃i,i<j∧(l.getD i default).k=q:=by
 constructor
 ·intro h
  obtain ⟨c,hc,e⟩:=List.mem_map.1 h
  obtain ⟨i,hi,rfl⟩:=List.mem_iff_getElem.1 hc
  rw[List.length_take] at hi
  refine ⟨i,by omega,?_⟩
  rw[au (by omega)]
  rw[List.getElem_take] at e;exact e
 ·rintro ⟨i,hi,e⟩
  refine List.mem_map.2 ⟨l.getD i default,?_,e⟩
  rw[au (by omega)]
  exact List.mem_iff_getElem.2 ⟨i,by rw[List.length_take];omega,by rw[List.getElem_take]⟩
set_option maxHeartbeats 2000000 in
theorem Cb (l:List Ch) (hl:l.length≤1000000):aB Tryz.prog 77 [.sl 3 (chs l) .any] (.bool (gI l)):=by
 refine f77.aJ (by simp) (by simp[al,av,aK,ik]) rfl ?_
 unfold c77
 simp only[C.zz]
 refine rn0 @ao ?_
 refine Wp.dW [0] xA6 (fun j:Nat=>[(3,.int .i64 (j:Nat))]) (fun j=>j≤l.length∧∀i,i<j→gY l i=true) (fun j=>l.length - j) 0 ⟨Nat.zero_le _,fun i h=>absurd h (by omega)⟩ ?_ ?_
 ·exact xSb
 rintro j ⟨hj,hs⟩
 by_cases hcj:j<l.length
 ·obtain ⟨g1,h2,h3,e1⟩:=ixF (j:=j) (n:=l.length) (by omega) (by omega)
  have hat:=bZ l j .any hcj
  have no:gY l j=false→gI l=false:=fun h=>by rw[gI,eQ hcj h]
  have def0:gY l j=(!decide ((l.getD j default).k∈(l.take j).map (·.k))&&decide (((l.getD j default).k.length:Int)≤128)&&decide (((l.getD j default).v.length:Int)≤200)&&(!(l.getD j default).d||decide ((l.getD j default).v=[]))):=rfl
  have hdup:=AI (q:=(l.getD j default).k) hj
  by_cases q1:128<((l.getD j default).k.length:Int)
  ·have d1:=decide_eq_true q1
   have hf:gI l=false:=no (by rw[def0,decide_eq_false (show ¬((l.getD j default).k.length:Int)≤128 by omega)];simp)
   generalize l.getD j default=x at*
   refine rn0 (cj7 g1 h2 h3 hat @aP.eq_1 @ao d1) ?_
   refine aM ?_
   rw[hf];exact ab.refl _
  have d1:=decide_eq_false q1
  by_cases q2:200<((l.getD j default).v.length:Int)
  ·have d2:=decide_eq_true q2
   have hf:gI l=false:=no (by rw[def0,decide_eq_false (show ¬((l.getD j default).v.length:Int)≤200 by omega)];simp)
   generalize l.getD j default=x at*
   refine rn0 (cj8 g1 h2 h3 hat @aP.eq_1 @ao d1 d2) ?_
   refine aM ?_
   rw[hf];exact ab.refl _
  have d2:=decide_eq_false q2
  by_cases q3:(l.getD j default).d=true∧(l.getD j default).v≠[]
  ·have hd:=q3.1
   have d4:=decide_eq_false q3.2
   have hf:gI l=false:=no (by rw[def0,hd,d4];simp)
   generalize l.getD j default=x at*
   refine rn0 (gh g1 h2 h3 hat @aP.eq_1 @ao d1 d2 hd d4) ?_
   refine aM ?_
   rw[hf];exact ab.refl _
  have q6:(l.getD j default).d=false∨((l.getD j default).d=true∧(l.getD j default).v=[]):=by
   cases hd:(l.getD j default).d with
   |false=>exact .inl rfl
   |true=>exact .inr ⟨rfl,Classical.byContradiction fun e=>q3 ⟨hd,e⟩⟩
  rcases q6 with hd|⟨hd,q4⟩
  ·refine rn0 (cj9 g1 h2 h3 hat @aP.eq_1 @ao d1 d2 hd) ?_
   refine Wp.dW [0,3] xA6 (fun i:Nat=>[(4,.int .i64 (i:Nat))]) (fun i=>i≤j∧∀i',i'<i→(l.getD i' default).k≠(l.getD j default).k) (fun i=>j - i) 0 ⟨Nat.zero_le _,fun i h=>absurd h (by omega)⟩ ?_ ?_
   ·exact xSb
   rintro i ⟨hi,hn⟩
   by_cases hi2:i<j
   ·have k1:decide ((i:Int)<(j:Int))=true:=decide_eq_true (by omega)
    have k2:(0:Int)≤(i:Int):=by omega
    have k3:(i:Int)<(l.length:Int):=by omega
    have k4:IntKind.i64.wrap ((i:Int)+1)=((i+1:Nat):Int):=by rw[IntWalk.i64_in _ (by omega)];omega
    have hat2:=bZ l i .any (by omega)
    by_cases q5:(l.getD i default).k=(l.getD j default).k
    ·have d5:=decide_eq_true q5
     have hf:gI l=false:=no (by rw[def0,decide_eq_true (hdup.2 ⟨i,hi2,q5⟩)];rfl)
     refine rn0 (gh k1 k2 k3 h2 h3 hat hat2 @aP.eq_1 @ao d5) ?_
     refine aM ?_
     rw[hf];exact ab.refl _
    ·have d5:=decide_eq_false q5
     have hn2:∀i',i'<i+1→(l.getD i' default).k≠(l.getD j default).k:=fun i' hi'=>by
      by_cases e:i'=i
      ·rw[e];exact q5
      ·exact hn i' (by omega)
     refine rn0 (nZ k1 k2 k3 h2 h3 hat hat2 @aP.eq_1 @ao d5 k4) ?_
     refine ⟨i+1,⟨by omega,hn2⟩,by omega,?_⟩
     exact xSu
   ·have hij:i=j:=by omega
    subst hij
    have k1:decide ((i:Int)<(i:Int))=false:=decide_eq_false (by omega)
    have hyes:gY l i=true:=by
     rw[def0,decide_eq_false (fun h=>by obtain ⟨i',h1',h2'⟩:=hdup.1 h;exact hn i' h1' h2'),decide_eq_true (show ((l.getD i default).k.length:Int)≤128 by omega),decide_eq_true (show ((l.getD i default).v.length:Int)≤200 by omega)]
     rw[hd];rfl
    refine rn0 (cj2 k1 e1) ?_
    refine ⟨i+1,⟨by omega,fK hs hyes⟩,by omega,?_⟩
    exact xSu
  ·have d4:=decide_eq_true q4
   refine rn0 (gh g1 h2 h3 hat @aP.eq_1 @ao d1 d2 hd d4) ?_
   refine Wp.dW [0,3] xA6 (fun i:Nat=>[(4,.int .i64 (i:Nat))]) (fun i=>i≤j∧∀i',i'<i→(l.getD i' default).k≠(l.getD j default).k) (fun i=>j - i) 0 ⟨Nat.zero_le _,fun i h=>absurd h (by omega)⟩ ?_ ?_
   ·exact xSb
   rintro i ⟨hi,hn⟩
   by_cases hi2:i<j
   ·have k1:decide ((i:Int)<(j:Int))=true:=decide_eq_true (by omega)
    have k2:(0:Int)≤(i:Int):=by omega
    have k3:(i:Int)<(l.length:Int):=by omega
    have k4:IntKind.i64.wrap ((i:Int)+1)=((i+1:Nat):Int):=by rw[IntWalk.i64_in _ (by omega)];omega
    have hat2:=bZ l i .any (by omega)
    by_cases q5:(l.getD i default).k=(l.getD j default).k
    ·have d5:=decide_eq_true q5
     have hf:gI l=false:=no (by rw[def0,decide_eq_true (hdup.2 ⟨i,hi2,q5⟩)];rfl)
     refine rn0 (gh k1 k2 k3 h2 h3 hat hat2 @aP.eq_1 @ao d5) ?_
     refine aM ?_
     rw[hf];exact ab.refl _
    ·have d5:=decide_eq_false q5
     have hn2:∀i',i'<i+1→(l.getD i' default).k≠(l.getD j default).k:=fun i' hi'=>by
      by_cases e:i'=i
      ·rw[e];exact q5
      ·exact hn i' (by omega)
     refine rn0 (nZ k1 k2 k3 h2 h3 hat hat2 @aP.eq_1 @ao d5 k4) ?_
     refine ⟨i+1,⟨by omega,hn2⟩,by omega,?_⟩
     exact xSu
   ·have hij:i=j:=by omega
    subst hij
    have k1:decide ((i:Int)<(i:Int))=false:=decide_eq_false (by omega)
    have hyes:gY l i=true:=by
     rw[def0,decide_eq_false (fun h=>by obtain ⟨i',h1',h2'⟩:=hdup.1 h;exact hn i' h1' h2'),decide_eq_true (show ((l.getD i default).k.length:Int)≤128 by omega),decide_eq_true (show ((l.getD i default).v.length:Int)≤200 by omega)]
     rw[hd,decide_eq_true q4];rfl
    refine rn0 (cj2 k1 e1) ?_
    refine ⟨i+1,⟨by omega,fK hs hyes⟩,by omega,?_⟩
    exact xSu
 ·have hje:j=l.length:=by omega
  subst hje
  have g1:=ixE (l.length)
  refine rn0 (cj2 g1 @ao) ?_
  refine aM ?_
  rw[gI,eK hs]
  exact ab.refl _
theorem sw {S:Spc} (hr:bk S.L) (hS:Small S) {j:Nat} (hj:j<S.L.length):(S.L.getD j default).2.length≤500000:=by
 have:=hS.2 (S.L.getD j default).1
 rwa [ss hr (by rw[au hj];exact List.getElem_mem hj)] at this
def ez (a b:Bs) (t:Int) (p:It):Option Pr:=if inB p.1 a b=true then yH t p else none
theorem mU (a b:Bs) (t:Int):∀L:List It,(L.filter fun p=>inB p.1 a b).filterMap (yH t)=L.filterMap (ez a b t)
 |[]=>rfl
 |p::L=>by
  have ih:=mU a b t L
  by_cases h:inB p.1 a b=true
  ·rw[List.filter_cons,if_pos h,List.filterMap_cons,List.filterMap_cons,ih,ez,if_pos h]
  ·rw[List.filter_cons,if_neg h,List.filterMap_cons,ih,ez,if_neg h]
theorem pU (most:Int) (l:List Pr) (x:Pr):eu most (l++[x])=if most<0∨((eu most l).length:Int)<most then eu most l++[x] else eu most l:=by
 unfold eu
 by_cases h:most<0
 ·simp[h]
 ·simp only[if_neg h,false_or]
  split
  ·rename_i hl
   rw[List.length_take] at hl
   rw[List.take_append,List.take_of_length_le (l:=[x]) (by simp;omega)]
  ·rename_i hl
   rw[List.length_take] at hl
   rw[List.take_append]
   have:most.toNat - l.length=0:=by omega
   rw[this];simp
theorem sx (most:Int) (l:List Pr):(eu most l).length≤l.length:=by
 unfold eu;split
 ·exact Nat.le_refl _
 ·rw[List.length_take];omega
theorem pV {α β:Type} [Inhabited α] (f:α→Option β) {l:List α} {j:Nat} (h:j<l.length):(l.take (j+1)).filterMap f=(l.take j).filterMap f++(f (l.getD j default)).toList:=by
 rw[bt default h,List.filterMap_append]
 congr 1
theorem Dg (most:Int):prs (eu most [])=[]:=by simp[eu,prs]
theorem pW (l:List Pr) (k v:Bs):prs l++[.agg [.str k,.str v]]=prs (l++[⟨k,v⟩]):=by simp[prs,bR]
set_option maxHeartbeats 2000000 in
theorem AJ (S:Spc) (hr:bk S.L) (hS:Small S) (lk:∀p∈S.L,Ls p.1) (a b:Bs) (la:Ls a) (lb:Ls b) (t most:Int):aB Tryz.prog 116 [du S,.str a,.str b,.int .i64 t,.int .i64 most] (.tup [.sl 2 (prs (cn S a b t most).1) .any,.int .i64 (cn S a b t most).2]):=by
 refine f116.aJ (by simp) (by simp[al,av,dd]) (by simp[av,al,aK,dX]) ?_
 unfold CG
 simp only[C.zz]
 have hk:=lp S t
 by_cases k1:cB S t=0
 ·have d0:=decide_eq_true k1
  have hres:cn S a b t most=(eu most (S.L.filterMap (ez a b t)),0):=by
   rw[cn,if_pos k1,AG hr,mU]
  rw[hres]
  have hil:(S.L.map encI).length=S.L.length:=by simp
  have hS1:=hS.1
  refine rn1 (cj2 @du.eq_1 d0) hk ?_
  refine Wp.le (aU.tok _ _) ?_
  refine Wp.fH [1,2,3,4,5] xA7 (fun (j:Nat) tk=>[(13,.sl 2 (prs (eu most ((S.L.take j).filterMap (ez a b t)))) (.own tk)),(14,.int .i64 (j:Nat))]) (fun j=>j≤S.L.length) (fun j=>S.L.length - j) 0 _ (Nat.zero_le _) rfl ?_ ?_
  ·simp only[aC,go_sem,reduceIte,Nat.reduceEqDiff,Nat.reduceAdd,bx,List.take_zero,List.filterMap_nil,Dg];and_intros<;>first|exact trivial|exact ab.refl _|exact ab.any _|exact ab.eN rfl|(refine ab.int ?_;omega)
  rintro j tk m hj
  by_cases hj2:j<S.L.length
  ·obtain ⟨g1,h2,h3,e1⟩:=ixF (j:=j) (n:=S.L.length) (by omega) (by omega)
   have hat:=dh encI S.L j .any hj2
   have hw:=od (S.L.getD j default).1 a b (lsI lk hj2) la lb
   have hta:=Bw (S.L.getD j default).2 (by have:=sw hr hS hj2;omega) t
   have hsn:=pV (ez a b t) hj2
   have hol:(eu most ((S.L.take j).filterMap (ez a b t))).length≤500000:=by
    have h1:=sx most ((S.L.take j).filterMap (ez a b t))
    have h2:=List.length_filterMap_le (ez a b t) (S.L.take j)
    rw[List.length_take] at h2
    omega
   have hcs:=pU most ((S.L.take j).filterMap (ez a b t))
   have keep:ez a b t (S.L.getD j default)=none→eu most ((S.L.take (j+1)).filterMap (ez a b t))=eu most ((S.L.take j).filterMap (ez a b t)):=fun h=>by rw[hsn,h];simp
   have add:∀x,ez a b t (S.L.getD j default)=some x→eu most ((S.L.take (j+1)).filterMap (ez a b t))=if most<0∨((eu most ((S.L.take j).filterMap (ez a b t))).length:Int)<most then eu most ((S.L.take j).filterMap (ez a b t))++[x] else eu most ((S.L.take j).filterMap (ez a b t)):=fun x h=>by rw[hsn,h,←hcs];simp
   have htw:ez a b t (S.L.getD j default)=if inB (S.L.getD j default).1 a b=true then (if (atB (S.L.getD j default).2 t).2=true then some ⟨(S.L.getD j default).1,(atB (S.L.getD j default).2 t).1⟩ else none) else none:=rfl
   obtain ⟨g0,g0',g1',g1''⟩:=nv (show (eu most ((S.L.take j).filterMap (ez a b t))).length≤2000000 by omega)
   generalize hnx:eu most ((S.L.take (j+1)).filterMap (ez a b t))=nx at*
   generalize eu most ((S.L.take j).filterMap (ez a b t))=o at*
   generalize S.L.getD j default=x at*
   have hps:=pW o x.1 (atB x.2 t).1
   cases b1:(atB x.2 t).2 with
   |false=>
    rw[b1] at hta
    have hk2:=keep (by rw[htw,b1];simp)
    refine rn1 (cj8 g1 h2 h3 e1 hat hil @encI.eq_1 @vAV.eq_1) hta ?_
    refine ⟨j+1,tk,m,by omega,by omega,?_⟩
    rw[hnx,hk2]
    exact xSu
   |true=>
    rw[b1] at hta
    cases b2:inB x.1 a b with
    |false=>
     rw[b2] at hw
     have hk2:=keep (by rw[htw,b2];simp)
     refine rn2 (cj8 g1 h2 h3 e1 hat hil @encI.eq_1 @vAV.eq_1) hta hw ?_
     refine ⟨j+1,tk,m,by omega,by omega,?_⟩
     rw[hnx,hk2]
     exact xSu
    |true=>
     rw[b2] at hw
     have hk2:=add ⟨x.1,(atB x.2 t).1⟩ (by rw[htw,b2,b1];simp)
     by_cases m1:most<0
     ·have d1:=decide_eq_true m1
      rw[if_pos (.inl m1)] at hk2
      refine rn2 (bN g1 h2 h3 e1 hat hil @encI.eq_1 @vAV.eq_1 d1 @aO g0 g0') hta hw ?_
      refine ⟨j+1,m,m+1,by omega,by omega,?_⟩
      rw[hnx,hk2]
      refine aU.tm (by simp only[aC,go_sem,reduceIte,Nat.reduceEqDiff,Nat.reduceAdd,bx];and_intros<;>first|exact trivial|exact ab.refl _|exact ab.any _|exact ab.of_eq (by rw[←hps])|(refine ab.int ?_;omega))
     ·have d1:=decide_eq_false m1
      by_cases m2:(o.length:Int)<most
      ·have d2:=decide_eq_true m2
       rw[if_pos (.inr m2)] at hk2
       refine rn2 (bN g1 h2 h3 e1 hat hil @encI.eq_1 @vAV.eq_1 d1 d2 @aO (cj2 g0 g0')) hta hw ?_
       refine ⟨j+1,m,m+1,by omega,by omega,?_⟩
       rw[hnx,hk2]
       refine aU.tm (by simp only[aC,go_sem,reduceIte,Nat.reduceEqDiff,Nat.reduceAdd,bx];and_intros<;>first|exact trivial|exact ab.refl _|exact ab.any _|exact ab.of_eq (by rw[←hps])|(refine ab.int ?_;omega))
      ·have d2:=decide_eq_false m2
       rw[if_neg (fun h=>h.elim m1 m2)] at hk2
       refine rn2 (nZ g1 h2 h3 e1 hat hil @encI.eq_1 @vAV.eq_1 d1 d2 @aO) hta hw ?_
       refine ⟨j+1,tk,m,by omega,by omega,?_⟩
       rw[hnx,hk2]
       exact xSu
  ·have hje:j=S.L.length:=by omega
   subst hje
   have g1:=ixE (S.L.length)
   refine rn0 (cj2 g1 hil) ?_
   refine aM ?_
   rw[List.take_length];exact ab.tup (af.cons ab.cap (af.refl _))
 ·have d0:=decide_eq_false k1
  have hres:cn S a b t most=([],cB S t):=by rw[cn,if_neg k1]
  rw[hres]
  refine rn1 (cj2 @du.eq_1 d0) hk ?_
  refine aM ?_
  exact ab.tup (af.cons ab.cap (af.refl _))
def qN (mark:Int) (p:It):Option It:=if eU p.2 mark=[] then none else some (p.1,eU p.2 mark)
set_option maxHeartbeats 1000000 in
theorem AK (S:Spc) (hr:bk S.L) (hS:Small S) (mark:Int):aB Tryz.prog 36 [du S,.int .i64 mark] (.tup [du (bD S mark).1,.int .i64 (bD S mark).2]):=by
 refine f36.aJ (by simp) (by simp[al,av,dd]) (by simp[av,al,dd]) ?_
 unfold c36
 simp only[C.zz]
 have hil:(S.L.map encI).length=S.L.length:=by simp
 have hS1:=hS.1
 by_cases p1:mark<S.mark
 ·have d1:=decide_eq_true p1
  have hres:bD S mark=(S,2):=by rw[bD,if_pos (.inl p1)]
  rw[hres]
  refine rn0 (cj2 @du.eq_1 d1) ?_
  refine aM ?_
  exact ab.refl _
 have d1:=decide_eq_false p1
 by_cases p2:S.last<mark
 ·have d2:=decide_eq_true p2
  have hres:bD S mark=(S,2):=by rw[bD,if_pos (.inr p2)]
  rw[hres]
  refine rn0 (cj3 @du.eq_1 d1 d2) ?_
  refine aM ?_
  exact ab.refl _
 have d2:=decide_eq_false p2
 have hres:bD S mark=(⟨S.L.filterMap (qN mark),S.last,mark⟩,0):=by
  rw[bD,if_neg (by omega),qL hr];rfl
 rw[hres]
 refine rn0 (cj3 @du.eq_1 d1 d2) ?_
 refine Wp.le (aU.tok _ _) ?_
 refine Wp.fH [1,2,4,5] xA7 (fun (j:Nat) tk=>[(6,.sl 2 (((S.L.take j).filterMap (qN mark)).map encI) (.own tk)),(7,.int .i64 (j:Nat))]) (fun j=>j≤S.L.length) (fun j=>S.L.length - j) 0 _ (Nat.zero_le _) rfl ?_ ?_
 ·simp only[aC,go_sem,reduceIte,Nat.reduceEqDiff,Nat.reduceAdd,bx,List.take_zero,List.filterMap_nil,List.map_nil];and_intros<;>first|exact trivial|exact ab.refl _|exact ab.any _|exact ab.eN rfl|(refine ab.int ?_;omega)
 rintro j tk m hj
 by_cases hj2:j<S.L.length
 ·obtain ⟨g1,h2,h3,e1⟩:=ixF (j:=j) (n:=S.L.length) (by omega) (by omega)
  have hat:=dh encI S.L j .any hj2
  have hva:=wm (S.L.getD j default).2 (by have:=sw hr hS hj2;omega) mark
  have hsn:=pV (qN mark) hj2
  have hol:((S.L.take j).filterMap (qN mark)).length≤500000:=by
   have h2:=List.length_filterMap_le (qN mark) (S.L.take j)
   rw[List.length_take] at h2
   omega
  obtain ⟨g0,g0',g1',g1''⟩:=nA (show ((S.L.take j).filterMap (qN mark)).length≤2000000 by omega)
  have hvw:qN mark (S.L.getD j default)=if eU (S.L.getD j default).2 mark=[] then none else some ((S.L.getD j default).1,eU (S.L.getD j default).2 mark):=rfl
  generalize hnx:(S.L.take (j+1)).filterMap (qN mark)=nx at*
  generalize (S.L.take j).filterMap (qN mark)=o at*
  generalize S.L.getD j default=x at*
  have hsq:=mh o x.1 (eU x.2 mark)
  generalize eU x.2 mark=v at*
  by_cases hv:v=[]
  ·rw[hvw,if_pos hv] at hsn
   have z:decide ((0:Int)<(v.length:Int))=false:=by rw[hv];rfl
   refine rn1 (gh g1 h2 h3 e1 hat hil @encI.eq_1 @vAV.eq_1 @List.length_map.{0,0} z) hva ?_
   refine ⟨j+1,tk,m,by omega,by omega,?_⟩
   rw[hnx,hsn]
   refine aU.tm (by simp only[aC,go_sem,reduceIte,Nat.reduceEqDiff,Nat.reduceAdd,bx,Option.toList,List.append_nil];and_intros<;>first|exact trivial|exact ab.refl _|exact ab.any _|(refine ab.int ?_;omega))
  ·rw[hvw,if_neg hv] at hsn
   have z:decide ((0:Int)<(v.length:Int))=true:=by
    refine decide_eq_true ?_
    have:=List.length_pos_iff.2 hv
    omega
   refine rn1 (bN g1 h2 h3 e1 hat hil @encI.eq_1 @vAV.eq_1 @List.length_map.{0,0} z g0 g0') hva ?_
   refine ⟨j+1,m,m+1,by omega,by omega,?_⟩
   rw[hnx,hsn]
   refine aU.tm (by simp only[aC,go_sem,reduceIte,Nat.reduceEqDiff,Nat.reduceAdd,bx,Option.toList];and_intros<;>first|exact trivial|exact ab.refl _|exact ab.any _|exact ab.of_eq (by rw[←hsq])|(refine ab.int ?_;omega))
 ·have hje:j=S.L.length:=by omega
  subst hje
  have g1:=ixE (S.L.length)
  refine rn0 (cj2 g1 hil) ?_
  refine aM ?_
  rw[List.take_length];exact ab.tup (af.cons (ab.agg (af.cons ab.cap (af.refl _))) (af.refl _))
def upR (t:Int) (S:Spc) (A:List It) (c:Ch):List It:=dv A c.k (fM (aX S.L c.k) ⟨t,c.v,c.d⟩).1
theorem tW {l:List Ch} (h:gI l=true) {j:Nat} (hj:j<l.length):gY l j=true:=List.all_eq_true.1 h j (List.mem_range.2 hj)
theorem AL {l:List Ch} (h:gI l=true) {j:Nat} (hj:j<l.length):(l.getD j default).k∉(l.take j).map (·.k):=by
 have:=tW h hj
 simp only[gY,Bool.and_eq_true,Bool.not_eq_true',decide_eq_false_iff_not] at this
 exact this.1.1.1
theorem uZ {l:List Ch} (h:gI l=true) {j:Nat} (hj:j<l.length):(l.getD j default).k.length≤128:=by
 have:=tW h hj
 simp only[gY,Bool.and_eq_true,decide_eq_true_eq] at this
 omega
theorem yK (t:Int) (S:Spc) (hr:bk S.L) (l:List Ch) (h:gI l=true):∀j,j≤l.length→bk ((l.take j).foldl (upR t S) S.L)∧(∀q,q∉(l.take j).map (·.k)→aX ((l.take j).foldl (upR t S) S.L) q=aX S.L q)∧doS t S (l.take j)= {S with L:=(l.take j).foldl (upR t S) S.L}
 |0,_=>by simp[doS,hr]
 |j+1,hj=>by
  obtain ⟨h1,h2,h3⟩:=yK t S hr l h j (by omega)
  have e:(l.take (j+1)).foldl (upR t S) S.L=upR t S ((l.take j).foldl (upR t S) S.L) (l.getD j default):=by
   rw[bt default (show j<l.length by omega),List.foldl_append];rfl
  have hn:=AL h (show j<l.length by omega)
  rw[e]
  refine ⟨kf h1 _ _,fun q hq=>?_,?_⟩
  ·rw[bt default (show j<l.length by omega),List.map_append,List.mem_append,not_or] at hq
   rw[upR,lr h1,if_neg (fun e=>hq.2 (by rw[List.map_cons,e];exact List.mem_cons_self))]
   exact h2 q hq.1
  ·rw[uR t S l (show j<l.length by omega),h3,cb,iW]
   simp only[upR,h2 _ hn]
theorem oM {L:List It} {q:Bs} {v:List Ver} {x:It} (h:x∈dv L q v):x=(q,v)∨x∈L:=by
 unfold dv at h
 split at h<;>split at h
 ·rcases List.mem_append.1 h with h|h
  ·exact .inr (List.mem_of_mem_take h)
  ·exact .inr (List.mem_of_mem_drop h)
 ·exact .inr h
 ·rcases List.mem_append.1 h with h|h
  ·exact .inr (List.mem_of_mem_take h)
  ·rcases List.mem_cons.1 h with h|h
   ·exact .inl h
   ·exact .inr (List.mem_of_mem_drop h)
 ·rcases List.mem_append.1 h with h|h
  ·exact .inr (List.mem_of_mem_take h)
  ·rcases List.mem_cons.1 h with h|h
   ·exact .inl h
   ·exact .inr (List.mem_of_mem_drop h)
theorem u0 {L:List It} (lk:∀p∈L,Ls p.1) {q:Bs} (hq:Ls q) (v:List Ver):∀p∈dv L q v,Ls p.1:=fun p hp=>by
 rcases oM hp with rfl|hp
 ·exact hq
 ·exact lk p hp
theorem yL (t:Int) (S:Spc):∀(l:List Ch) (A:List It),(l.foldl (upR t S) A).length≤A.length+l.length
 |[],A=>by simp
 |c::l,A=>by
  have h1:=yL t S l (upR t S A c)
  have h2:=ou A c.k (fM (aX S.L c.k) ⟨t,c.v,c.d⟩).1
  simp only[upR] at h1 h2
  simp only[List.foldl_cons,List.length_cons,upR]
  omega
set_option maxHeartbeats 2000000 in
theorem yM (S:Spc) (hr:bk S.L) (hS:Small S) (lk:∀p∈S.L,Ls p.1) (t:Int) (l:List Ch) (hl:l.length≤500000):aB Tryz.prog 35 [du S,.int .i64 t,.sl 3 (chs l) .any] (.tup [du (bO S t l).1,.int .i64 (bO S t l).2]):=by
 refine f35.aJ (by simp) (by simp[al,av,aK,dd,ik]) (by simp[av,al,dd]) ?_
 unfold c35
 simp only[C.zz]
 have hS1:=hS.1
 by_cases p1:t≤S.last
 ·have d1:=decide_eq_true p1
  have hres:bO S t l=(S,18):=by rw[bO,if_pos (.inl p1)]
  rw[hres]
  refine rn0 (cj2 @du.eq_1 d1) ?_
  refine aM ?_
  exact ab.refl _
 have d1:=decide_eq_false p1
 by_cases p2:1152921504606846976<t
 ·have d2:=decide_eq_true p2
  have hres:bO S t l=(S,18):=by rw[bO,if_pos (.inr p2)]
  rw[hres]
  refine rn0 (cj3 @du.eq_1 d1 d2) ?_
  refine aM ?_
  exact ab.refl _
 have d2:=decide_eq_false p2
 have hmc:=Cb l (by omega)
 cases hf:gI l with
 |false=>
  have hres:bO S t l=(S,2):=by rw[bO,if_neg (by omega),if_pos hf]
  rw[hres]
  rw[hf] at hmc
  refine rn1 (cj3 @du.eq_1 d1 d2) hmc ?_
  refine aM ?_
  exact ab.refl _
 |true=>
  have hdo:=yK t S hr l hf
  have hres:bO S t l=(⟨l.foldl (upR t S) S.L,t,S.mark⟩,0):=by
   have:=(hdo l.length (Nat.le_refl _)).2.2
   rw[List.take_length] at this
   rw[bO,if_neg (by omega),if_neg (by rw[hf];exact Bool.false_ne_true.symm),this]
  rw[hres]
  rw[hf] at hmc
  refine rn1 (cj3 @du.eq_1 d1 d2) hmc ?_
  refine Wp.dW [1,2,3,6,7] xA6 (fun j:Nat=>[(8,.sl 2 (((l.take j).foldl (upR t S) S.L).map encI) .any),(9,.int .i64 (j:Nat))]) (fun j=>j≤l.length∧∀p∈(l.take j).foldl (upR t S) S.L,Ls p.1) (fun j=>l.length - j) 0 ⟨Nat.zero_le _,lk⟩ ?_ ?_
  ·exact xSb
  rintro j ⟨hj,hls⟩
  by_cases hj2:j<l.length
  ·obtain ⟨g1,h2,h3,e1⟩:=ixF (j:=j) (n:=l.length) (by omega) (by omega)
   have hat:=bZ l j .any hj2
   obtain ⟨hr1,hg1,-⟩:=hdo j hj
   have hlen:=yL t S (l.take j) S.L
   rw[List.length_take] at hlen
   have hkl:=uZ hf hj2
   have hup:(l.take (j+1)).foldl (upR t S) S.L=upR t S ((l.take j).foldl (upR t S) S.L) (l.getD j default):=by
    rw[bt default hj2,List.foldl_append];rfl
   have hul:∀A c,upR t S A c=dv A c.k (fM (aX S.L c.k) ⟨t,c.v,c.d⟩).1:=fun _ _=>rfl
   rw[hul] at hup
   generalize hnx:(l.take (j+1)).foldl (upR t S) S.L=nx at*
   generalize (l.take j).foldl (upR t S) S.L=A at*
   generalize l.getD j default=c at*
   have hfd:=yI S (by omega) c.k
   have had:=BY (aX S.L c.k) (by have:=hS.2 c.k;omega) ⟨t,c.v,c.d⟩
   have hal:=qC (aX S.L c.k) ⟨t,c.v,c.d⟩
   have hml:=hS.2 c.k
   have hlk:Ls c.k:=by unfold Ls;omega
   generalize fM (aX S.L c.k) ⟨t,c.v,c.d⟩=w at*
   have hwi:=Ca A (by omega) hls c.k hlk w.1 (by omega)
   rw[sq A hr1] at hwi
   simp only[bf] at had
   unfold du at hfd
   have hlsn:∀p∈nx,Ls p.1:=by rw[hup];exact u0 hls hlk _
   refine rn3 (cj7 g1 h2 h3 e1 hat @aP.eq_1 @ao) hfd had hwi ?_
   refine ⟨j+1,⟨by omega,by rw[hnx];exact hlsn⟩,by omega,?_⟩
   rw[hnx,hup]
   exact xSu
  ·have hje:j=l.length:=by omega
   subst hje
   have g1:=ixE (l.length)
   refine rn0 (cj2 g1 @ao) ?_
   refine aM ?_
   rw[List.take_length];exact ab.refl _
theorem Cc {l:List It} {last:Int} {j:Nat} (h:o7 l last j=true):(l.getD j default).1.length≤128:=by
 simp only[o7,yE,Bool.and_eq_true,decide_eq_true_eq] at h
 omega
theorem AM {l:List It} {last:Int} {j:Nat} (h:o7 l last (j+1)=true):Op.bytesLess (l.getD j default).1 (l.getD (j+1) default).1=true:=by
 simp only[o7,yE,nz,Bool.and_eq_true,Bool.or_eq_true,decide_eq_true_eq,Nat.add_one_ne_zero,false_or,if_false,Nat.add_sub_cancel] at h
 exact h.1.1.1.2
theorem AN {l:List It} {last:Int} {j:Nat} (h:o7 l last j=true):(l.getD j default).2≠[]:=by
 simp only[o7,yE,Bool.and_eq_true,decide_eq_true_eq] at h
 exact List.length_pos_iff.1 h.1.1.2
theorem tX {l:List It} {last mark:Int} (h:ldB l last mark=true) {j:Nat} (hj:j<l.length):o7 l last j=true:=by
 simp only[ldB,Bool.and_eq_true] at h
 exact List.all_eq_true.1 h.2 j (List.mem_range.2 hj)
theorem u2 {l:List It} {last mark:Int} (h:ldB l last mark=true):bk l∧Full l:=by
 have up:∀i j,i<j→j<l.length→Op.bytesLess (l.getD i default).1 (l.getD j default).1=true:=by
  intro i j hij
  induction j with
  |zero=>omega
  |succ j ih=>
   intro hj
   have h1:=AM (tX h hj)
   by_cases e:i=j
   ·rw[e];exact h1
   ·exact bp (ih (by omega) (by omega)) h1
 refine ⟨List.pairwise_iff_getElem.2 fun i j hi hj hij=>?_,fun p hp=>?_⟩
 ·simp only[ae,List.length_map] at hi hj
  have:=up i j hij hj
  rw[au hi,au hj] at this
  simpa [ae] using this
 ·obtain ⟨i,hi,rfl⟩:=List.mem_iff_getElem.1 hp
  have:=AN (tX h hi)
  rwa [au hi] at this
structure Fit (S:Spc) (k:Nat):Prop where
 ri:bk S.L
 fu:Full S.L
 ln:S.L.length≤k
 vs:∀p∈S.L,p.2.length≤k
 ls:∀p∈S.L,Ls p.1
theorem Fit.mono {S:Spc} {k j:Nat} (h:Fit S k) (hk:k≤j):Fit S j:=⟨h.ri,h.fu,Nat.le_trans h.ln hk,fun p hp=>Nat.le_trans (h.vs p hp) hk,h.ls⟩
theorem oN {L:List It} {k:Nat} (h:∀p∈L,p.2.length≤k) (q:Bs):(aX L q).length≤k:=by
 induction L with
 |nil=>simp[aX]
 |cons p L ih=>
  rw[aX]
  split
  ·exact h p (by simp)
  ·exact ih (fun x hx=>h x (by simp[hx]))
theorem Fit.room {S:Spc} {k j:Nat} (h:Fit S k) (hk:k+j≤500000):Room S j:=⟨by have:=h.ln;omega,fun q=>by have:=oN h.vs q;omega⟩
theorem Fit.small {S:Spc} {k:Nat} (h:Fit S k) (hk:k≤500000):Small S:=⟨by have:=h.ln;omega,fun q=>by have:=oN h.vs q;omega⟩
theorem Fit.zero:Fit ⟨[],0,0⟩ 0:=⟨by simp[bk,bE,ae],fun p hp=>by simp at hp,Nat.le_refl _,fun p hp=>by simp at hp,fun p hp=>by simp at hp⟩
theorem Fit.lay {S:Spc} {k:Nat} (h:Fit S k):wH [] S.L=S.L:=wI h.ri h.fu
theorem Fit.times {S:Spc} {k:Nat} (h:Fit S k) (a b:Int):Fit {S with last:=a,mark:=b} k:=⟨h.ri,h.fu,h.ln,h.vs,h.ls⟩
theorem Fit.step {S:Spc} {k:Nat} (h:Fit S k) (t:Int) (c:Ch) (hc:Ls c.k):Fit (cb t S c) (k+1):=by
 refine ⟨kf h.ri _ _,wJ h.fu _ _,?_,fun p hp=>?_,u0 h.ls hc _⟩
 ·have:=ou S.L c.k (fM (aX S.L c.k) ⟨t,c.v,c.d⟩).1
  have:=h.ln
  simp only[cb,iW];omega
 ·simp only[cb,iW] at hp
  rcases oM hp with rfl|hp
  ·have h1:=qC (aX S.L c.k) ⟨t,c.v,c.d⟩
   have h2:=oN h.vs c.k
   simp only;omega
  ·have:=h.vs p hp;omega
theorem Fit.dos:∀(l:List Ch) {S:Spc} {k:Nat} (h:Fit S k) (t:Int) (hc:∀c∈l,Ls c.k),Fit (doS t S l) (k+l.length)
 |[],S,k,h,t,hc=>h
 |c::l,S,k,h,t,hc=>by
  have:=Fit.dos l (h.step t c (hc c (by simp))) t (fun x hx=>hc x (by simp[hx]))
  exact this.mono (by simp only[List.length_cons];omega)
theorem Fit.apply {S:Spc} {k:Nat} (h:Fit S k) (t:Int) (l:List Ch) (hc:∀c∈l,Ls c.k):Fit (bO S t l).1 (k+l.length):=by
 unfold bO
 split
 ·exact h.mono (by omega)
 ·split
  ·exact h.mono (by omega)
  ·have:=Fit.dos l h t hc
   exact ⟨this.ri,this.fu,this.ln,this.vs,this.ls⟩
theorem lF {mark:Int} {L:List It} {x:It} (h:x∈gK mark L):∃p∈L,p.1=x.1∧x.2=eU p.2 mark:=by
 obtain ⟨p,hp,e⟩:=List.mem_filterMap.1 h
 split at e
 ·cases e
 ·cases e;exact ⟨p,hp,rfl,rfl⟩
theorem pX (mark:Int):∀L:List It,bk L→bk (gK mark L)
 |[],_=>by simp[gK,bk,bE,ae]
 |p::L,h=>by
  obtain ⟨h1,h2⟩:=iy.1 h
  have ih:=pX mark L h2
  by_cases hv:eU p.2 mark=[]
  ·have e:gK mark (p::L)=gK mark L:=by simp[gK,hv]
   rw[e];exact ih
  ·have e:gK mark (p::L)=(p.1,eU p.2 mark)::gK mark L:=by simp[gK,hv]
   rw[e]
   refine iy.2 ⟨fun x hx=>?_,ih⟩
   obtain ⟨y,hy,e2,-⟩:=lF hx
   rw[←e2];exact h1 y hy
theorem Fit.vac {S:Spc} {k:Nat} (h:Fit S k) (mark:Int):Fit (bD S mark).1 k:=by
 unfold bD
 split
 ·exact h
 ·rw[qL h.ri]
  refine ⟨pX mark S.L h.ri,pT mark S.L,?_,fun p hp=>?_,fun p hp=>?_⟩
  ·have:=List.length_filterMap_le (fun p:It=>if eU p.2 mark=[] then none else some (p.1,eU p.2 mark)) S.L
   exact Nat.le_trans this h.ln
  ·obtain ⟨y,hy,-,e⟩:=lF hp
   rw[e]
   exact Nat.le_trans (qK _ _) (h.vs y hy)
  ·obtain ⟨y,hy,e,-⟩:=lF hp
   rw[←e];exact h.ls y hy
theorem Dh {l:List It} {last mark:Int} (h:ldB l last mark=true):∀p∈l,Ls p.1:=fun p hp=>by
 obtain ⟨i,hi,rfl⟩:=List.mem_iff_getElem.1 hp
 have:=Cc (tX h hi)
 rw[au hi] at this
 unfold Ls;omega
theorem Fit.load {l:List It} {last mark:Int} {k:Nat} (h:ldB l last mark=true) (hl:l.length≤k) (hv:∀p∈l,p.2.length≤k):Fit ⟨l,last,mark⟩ k:=⟨(u2 h).1,(u2 h).2,hl,hv,Dh h⟩
structure Rt (S:Spc):Prop where
 it:∀p∈S.L,p.1.length≤128∧chB p.2=true∧(p.2.getD 0 default).t≤S.last
 mn:0≤S.mark
 ml:S.mark≤S.last
 mx:S.last≤1152921504606846976
theorem Rt.zero:Rt ⟨[],0,0⟩:=⟨fun p hp=>by simp at hp,by simp,by simp,by simp⟩
theorem qO:chB []=true:=rfl
theorem u3 {l:List Ver}:chB l=true↔∀i,i<l.length→vOk l i=true:=by
 rw[chB,List.all_eq_true]
 exact ⟨fun h i hi=>h i (List.mem_range.2 hi),fun h i hi=>h i (List.mem_range.1 hi)⟩
theorem oO {x:Ver} {v:List Ver}:chB (x::v)=true↔okV x=true∧chB v=true∧(v≠[]→(v.getD 0 default).t<x.t):=by
 rw[u3,u3]
 constructor
 ·intro h
  refine ⟨?_,fun i hi=>?_,fun hv=>?_⟩
  ·have:=h 0 (by simp)
   rwa [fL rfl,List.getD_cons_zero] at this
  ·have:=h (i+1) (by simp;omega)
   rw[eL (by omega)] at this
   simp only[List.getD_cons_succ,Nat.add_sub_cancel,Bool.and_eq_true,decide_eq_true_eq] at this
   cases i with
   |zero=>rw[fL rfl];exact this.1
   |succ i=>
    rw[eL (by omega)]
    simp only[List.getD_cons_succ,Nat.add_sub_cancel,Bool.and_eq_true,decide_eq_true_eq] at this ⊢
    exact this
  ·have:=h 1 (by have:=List.length_pos_iff.2 hv;simp;omega)
   rw[eL (by omega)] at this
   simp only[List.getD_cons_succ,Nat.sub_self,List.getD_cons_zero,Bool.and_eq_true,decide_eq_true_eq] at this
   exact this.2
 ·rintro ⟨h1,h2,h3⟩ i hi
  cases i with
  |zero=>rw[fL rfl,List.getD_cons_zero];exact h1
  |succ i=>
   have hi2:i<v.length:=by simpa using hi
   have:=h2 i hi2
   rw[eL (by omega)]
   simp only[List.getD_cons_succ,Nat.add_sub_cancel,Bool.and_eq_true,decide_eq_true_eq]
   cases i with
   |zero=>
    rw[fL rfl] at this
    exact ⟨this,by rw[List.getD_cons_zero];exact h3 (fun e=>by rw[e] at hi2;simp at hi2)⟩
   |succ i=>
    rw[eL (by omega)] at this
    simp only[Nat.add_sub_cancel,Bool.and_eq_true,decide_eq_true_eq] at this
    rw[List.getD_cons_succ];exact this
theorem yN {v:List Ver} (h:chB v=true):∀k,chB (v.take k)=true:=by
 induction v with
 |nil=>intro k;simp[qO]
 |cons x v ih=>
  intro k
  cases k with
  |zero=>exact qO
  |succ k=>
   obtain ⟨h1,h2,h3⟩:=oO.1 h
   rw[List.take_succ_cons]
   refine oO.2 ⟨h1,ih h2 k,fun hv=>?_⟩
   cases v with
   |nil=>simp at hv
   |cons y v=>
    cases k with
    |zero=>simp at hv
    |succ k=>simpa using h3 (by simp)
theorem wM {v:List Ver} (h:chB v=true) (m:Int):chB (eU v m)=true∧(eU v m≠[]→((eU v m).getD 0 default)=v.getD 0 default):=by
 rw[eU,if_pos h]
 refine ⟨yN h _,fun hn=>?_⟩
 cases v with
 |nil=>simp at hn
 |cons x v=>
  cases hk:ku (x::v) m with
  |zero=>rw[hk] at hn;simp at hn
  |succ k=>rw[List.take_succ_cons];rfl
theorem wN {v:List Ver} {x:Ver} (hv:chB v=true) (hx:okV x=true) (ht:v≠[]→(v.getD 0 default).t<x.t):fM v x=(x::v,0):=by
 rw[fM,if_neg (by simp[hv]),if_neg (by simp[hx]),if_neg]
 rintro ⟨h1,h2⟩
 have:=ht (List.length_pos_iff.1 h1)
 omega
theorem Cd {c:Ch} {t:Int} (h1:1≤t) (h2:t≤1152921504606846976) (h3:((c.v.length:Nat):Int)≤200) (h4:(!c.d||decide (c.v=[]))=true):okV ⟨t,c.v,c.d⟩=true:=by
 simp only[okV,decide_eq_true h1,decide_eq_true h2,decide_eq_true h3,Bool.true_and]
 exact h4
theorem oP {L:List It} (h:∀p∈L,chB p.2=true) (q:Bs):chB (aX L q)=true:=by
 induction L with
 |nil=>exact qO
 |cons p L ih=>
  rw[aX]
  split
  ·exact h p (by simp)
  ·exact ih (fun x hx=>h x (by simp[hx]))
theorem wP {L:List It} {P:It→Prop} (h:∀p∈L,P p) (q:Bs) (hn:aX L q≠[]):∃p,P p∧p.2=aX L q∧p.1=q:=by
 induction L with
 |nil=>simp[aX] at hn
 |cons p L ih=>
  rw[aX] at hn ⊢
  split
  ·rename_i e;exact ⟨p,h p (by simp),rfl,e⟩
  ·rename_i e
   rw[if_neg e] at hn
   exact ih (fun x hx=>h x (by simp[hx])) hn
theorem Rt.head {S:Spc} (h:Rt S) (q:Bs) (hn:aX S.L q≠[]):((aX S.L q).getD 0 default).t≤S.last:=by
 obtain ⟨p,h1,h2,-⟩:=wP h.it q hn
 rw[←h2];exact h1.2.2
theorem Ce {l:List Ch} (h:gI l=true) {j:Nat} (hj:j<l.length):(((l.getD j default).v.length:Nat):Int)≤200∧(!(l.getD j default).d||decide ((l.getD j default).v=[]))=true:=by
 have:=tW h hj
 simp only[gY,Bool.and_eq_true,decide_eq_true_eq] at this
 exact ⟨this.1.2,this.2⟩
theorem pY {S:Spc} (h:Rt S) {t:Int} (h1:S.last<t) (h2:t≤1152921504606846976) {l:List Ch} (hf:gI l=true):∀j,j≤l.length→∀p∈(l.take j).foldl (upR t S) S.L,p.1.length≤128∧chB p.2=true∧(p.2.getD 0 default).t≤t
 |0,_=>by
  simp only[List.take_zero,List.foldl_nil]
  intro p hp
  obtain ⟨a,b,c⟩:=h.it p hp
  exact ⟨a,b,by omega⟩
 |j+1,hj=>by
  have ih:=pY h h1 h2 hf j (by omega)
  rw[bt default (show j<l.length by omega),List.foldl_append]
  intro p hp
  simp only[List.foldl_cons,List.foldl_nil,upR] at hp
  rcases oM hp with rfl|hp
  ·have hk:=uZ hf (show j<l.length by omega)
   obtain ⟨a,b⟩:=Ce hf (show j<l.length by omega)
   have hm:=oP (fun p hp=>(h.it p hp).2.1) (l.getD j default).k
   have hx:=Cd (t:=t) (by have:=h.mn;have:=h.ml;omega) h2 a b
   have ha:=wN hm hx (fun hn=>by have:=h.head _ hn;simp only;omega)
   rw[ha]
   refine ⟨by simpa using hk,oO.2 ⟨hx,hm,fun hn=>?_⟩,by simp⟩
   have:=h.head _ hn
   simp only;omega
  ·exact ih p hp
theorem Rt.apply {S:Spc} {k:Nat} (h:Rt S) (hF:Fit S k) (t:Int) (l:List Ch):Rt (bO S t l).1:=by
 unfold bO
 split
 ·exact h
 ·split
  ·exact h
  ·rename_i h1 h2
   have hf:gI l=true:=by simpa using h2
   have e:=(yK t S hF.ri l hf l.length (Nat.le_refl _)).2.2
   have hu:=pY h (t:=t) (by omega) (by omega) hf l.length (Nat.le_refl _)
   rw[List.take_length] at e hu
   rw[e]
   exact ⟨fun p hp=>hu p hp,h.mn,by have:=h.ml;simp only;omega,by simp only;omega⟩
theorem Rt.vac {S:Spc} {k:Nat} (h:Rt S) (hF:Fit S k) (m:Int):Rt (bD S m).1:=by
 unfold bD
 split
 ·exact h
 ·rename_i h1
  rw[qL hF.ri]
  refine ⟨fun p hp=>?_,by have:=h.mn;simp only;omega,by simp only;omega,h.mx⟩
  obtain ⟨y,hy,e1,e2⟩:=lF hp
  obtain ⟨a,b,c⟩:=h.it y hy
  obtain ⟨d,e⟩:=wM b m
  rw[e2]
  refine ⟨by rw[←e1];exact a,d,?_⟩
  rw[e (by rw[←e2];exact pT m S.L p hp)];exact c
theorem Rt.load {S:Spc} {k:Nat} (h:Rt S) (hF:Fit S k):ldB S.L S.last S.mark=true:=by
 have hall:(List.range S.L.length).all (o7 S.L S.last)=true:=by
  refine List.all_eq_true.2 fun i hi=>?_
  have hi:=List.mem_range.1 hi
  have hm:S.L.getD i default∈S.L:=by rw[au hi];exact List.getElem_mem hi
  obtain ⟨a,b,c⟩:=h.it _ hm
  have hn:=hF.fu _ hm
  have hl:(decide (i=0)||Op.bytesLess (nz S.L i) (S.L.getD i default).1)=true:=by
   by_cases e:i=0
   ·simp[e]
   ·rw[Bool.or_eq_true];right
    rw[nz,if_neg e]
    have:=bE.at (k:=ae S.L) hF.ri (i:=i - 1) (j:=i) (by omega) (by simpa [ae] using hi)
    have e1:(ae S.L).getD i []=(S.L.getD i default).1:=by rw[au (by simpa [ae] using hi),au hi];simp[ae]
    have e2:(ae S.L).getD (i - 1) []=(S.L.getD (i - 1) default).1:=by rw[au (by simp[ae];omega),au (by omega)];simp[ae]
    rwa [e1,e2] at this
  rw[o7,yE,hl,b,decide_eq_true (show (((S.L.getD i default).1.length:Nat):Int)≤128 by omega),decide_eq_true (List.length_pos_iff.2 hn),decide_eq_true c];rfl
 have h1:=h.mn
 have h2:=h.ml
 have h3:=h.mx
 rw[ldB,hall,decide_eq_false (show ¬S.last<0 by omega),decide_eq_false (show ¬1152921504606846976<S.last by omega),decide_eq_false (show ¬S.mark<0 by omega),decide_eq_false (show ¬S.last<S.mark by omega)];rfl
end Go.Proofs.YtpehfflehebmbaaGreat.Space
end
section
set_option maxRecDepth 10000
namespace Go.Proofs.YtpehfflehebmbaaGreat.Txn
open Go Go.Av Go.Proofs Go.Proofs.YtpehfflehebmbaaGreat.C Go.Proofs.YtpehfflehebmbaaGreat.Batch Go.Proofs.YtpehfflehebmbaaGreat.Space
def mi (c:Ch):Bool→List Ch→List Ch
 |laid,[]=>if laid then [] else [c]
 |laid,x::l=>(if laid=false∧Op.bytesLess x.k c.k=false then [c] else [])++((if x.k=c.k then [] else [x])++mi c (laid|| !Op.bytesLess x.k c.k) l)
theorem pZ (c:Ch):∀l:List Ch,(∀x∈l,x.k≠c.k)→mi c true l=l
 |[],_=>rfl
 |x::l,h=>by
  rw[mi,if_neg (h x (by simp))]
  simp only[Bool.true_eq_false,false_and,if_false,List.nil_append,Bool.true_or,List.singleton_append]
  rw[pZ c l fun y hy=>h y (by simp[hy])]
theorem u4:∀{C:List Ch},bE (ah C)→∀c,mi c false C=iY C c
 |[],_,c=>by simp[mi,iY,ah,thK,plK]
 |x::C,h,c=>by
  have hx:(∀k∈ah C,Lt x.k k)∧bE (ah C):=List.pairwise_cons.1 h
  have ih:=u4 hx.2 c
  have hp:plK (ah (x::C)) c.k=if Op.bytesLess x.k c.k=true then plK (ah C) c.k+1 else 0:=jM _ _ _
  have ht:thK (ah (x::C)) c.k=if Op.bytesLess x.k c.k=true then thK (ah C) c.k else decide (x.k=c.k):=by
   unfold thK
   rw[hp]
   split
   ·simp[ah]
   ·simp[ah]
  cases hl:Op.bytesLess x.k c.k with
  |true=>
   have hne:x.k≠c.k:=lE hl
   rw[hl] at hp ht
   simp only[if_true] at hp ht
   rw[mi,hl,if_neg hne]
   simp only[Bool.true_eq_false,and_false,if_false,List.nil_append,Bool.not_true,Bool.or_self,List.singleton_append,ih]
   unfold iY
   rw[hp,ht]
   cases thK (ah C) c.k<;>simp
  |false=>
   rw[hl] at hp ht
   simp only[Bool.false_eq_true,if_false] at hp ht
   rw[mi,hl]
   have hrest:∀y∈C,y.k≠c.k:=fun y hy e=>by
    have h1:=hx.1 y.k (List.mem_map.2 ⟨y,hy,rfl⟩)
    rw[Lt,e,hl] at h1;cases h1
   simp only[and_self,if_true,Bool.not_false,Bool.or_true,pZ c C hrest]
   unfold iY
   rw[hp,ht]
   by_cases e:x.k=c.k
   ·simp[e]
   ·simp[e]
def pGo (k v:Bs):Bool→List Pr→List Pr
 |laid,[]=>if laid then [] else [⟨k,v⟩]
 |laid,x::l=>(if laid=false∧Op.bytesLess x.k k=false then [⟨k,v⟩] else [])++((if x.k=k then [] else [x])++pGo k v (laid|| !Op.bytesLess x.k k) l)
theorem sy (k v:Bs):∀l:List Pr,pGo k v true l=l.filter fun p=>decide (p.k≠k)
 |[]=>rfl
 |x::l=>by
  rw[pGo,List.filter_cons]
  simp only[Bool.true_eq_false,false_and,if_false,List.nil_append,Bool.true_or,sy k v l]
  by_cases e:x.k=k
  ·simp[e]
  ·simp[e]
theorem yO (k v:Bs):∀l:List Pr,pGo k v false l=hP l k v
 |[]=>rfl
 |x::l=>by
  rw[pGo]
  unfold hP
  rw[List.takeWhile_cons,List.dropWhile_cons]
  cases hl:Op.bytesLess x.k k with
  |true=>
   have hne:x.k≠k:=lE hl
   simp only[Bool.true_eq_false,and_false,if_false,List.nil_append,Bool.not_true,Bool.or_self,if_neg hne,List.singleton_append,if_true,List.cons_append]
   rw[yO k v l];rfl
  |false=>
   simp only[and_self,if_true,Bool.not_false,Bool.or_true,sy,Bool.false_eq_true,if_false,List.nil_append]
   rw[List.filter_cons]
   by_cases e:x.k=k
   ·simp[e]
   ·simp[e]
def dH (l:List Pr) (a b:Bs) (most:Int):List Pr:=eu most (l.filter fun p=>inR a b p.k)
end Go.Proofs.YtpehfflehebmbaaGreat.Txn
end
section
set_option maxRecDepth 100000
namespace Go.Proofs.YtpehfflehebmbaaGreat.Reads
open Go Go.Av Go.Proofs Go.Proofs.YtpehfflehebmbaaGreat.C Go.Proofs.YtpehfflehebmbaaGreat.Batch
def kj (k:List Bs) (l:List Sp) (key:Bs):Bool:=bb k l&&(there k key||aE l key)
end Go.Proofs.YtpehfflehebmbaaGreat.Reads
end
section
set_option maxRecDepth 10000
namespace Go.Proofs.YtpehfflehebmbaaGreat.Reads
open Go Go.Av Go.Proofs Go.Proofs.YtpehfflehebmbaaGreat.C Go.Proofs.YtpehfflehebmbaaGreat.Batch
def bE (k:List Bs):Prop:=k.Pairwise fun a b=>Op.bytesLess a b=true
theorem kx {k:List Bs} {l:List Sp} (h:og k l=true):bE k∧∀x∈k,aE l x=false:=by
 refine ⟨?_,fun x hx=>?_⟩
 ·unfold bE
  rw[List.pairwise_iff_getElem]
  intro i j hi hj hij
  have:=rising h hij hj
  rwa [au hi,au hj] at this
 ·obtain ⟨i,hi,rfl⟩:=List.mem_iff_getElem.1 hx
  have:=List.all_eq_true.1 h i (List.mem_range.2 hi)
  simp only[kOk,Bool.and_eq_true,Bool.not_eq_true'] at this
  rw[←au (d:=[]) hi];exact this.2
theorem u5 {k:List Bs} {l:List Sp} (h:bE k) (h2:∀x∈k,aE l x=false):og k l=true:=by
 refine eK fun i hi=>?_
 simp only[kOk,Bool.and_eq_true,Bool.or_eq_true,decide_eq_true_eq,Bool.not_eq_true']
 refine ⟨?_,by rw[au hi];exact h2 _ (List.getElem_mem hi)⟩
 by_cases h0:i=0
 ·exact .inl h0
 ·right
  rw[au hi,au (by omega)]
  exact List.pairwise_iff_getElem.1 h _ _ _ _ (by omega)
theorem iz {k:List Bs} (h:bE k) (q:Bs):there k q=decide (q∈k):=by
 have hk:=u5 (l:=[]) h (fun _ _=>rfl)
 have hp:=lx k q
 refine Bool.eq_iff_iff.2 ?_
 simp only[there,Bool.and_eq_true,decide_eq_true_eq]
 constructor
 ·rintro ⟨h1,h2⟩
  rw[au h1] at h2
  rw[←h2];exact List.getElem_mem h1
 ·intro hm
  obtain ⟨i,hi,e⟩:=List.mem_iff_getElem.1 hm
  have he:k.getD i []=q:=by rw[au hi];exact e
  have h1:¬i<place k q:=by
   intro hlt
   have:=ow hlt
   rw[he,aW] at this;cases this
  have h2:¬place k q<i:=by
   intro hlt
   have a1:=rising hk hlt hi
   rw[he] at a1
   have a2:=ox (key:=q) hk (Nat.le_refl _) (Nat.lt_trans hlt hi)
   rw[a1] at a2;cases a2
  have:place k q=i:=by omega
  rw[this]
  exact ⟨hi,he⟩
theorem nB {k:List Bs} (h:bE k) (key q:Bs):q∈ja k key↔q∈k∨q=key:=by
 unfold ja
 rw[iz h]
 by_cases hm:key∈k
 ·rw[if_pos (by simpa using hm)]
  constructor
  ·exact .inl
  ·rintro (h|rfl)
   ·exact h
   ·exact hm
 ·rw[if_neg (by simpa using hm)]
  have e:k=k.take (place k key)++k.drop (place k key):=by simp
  constructor
  ·intro hq
   rcases List.mem_append.1 hq with hq|hq
   ·exact .inl (List.mem_of_mem_take hq)
   ·rcases List.mem_cons.1 hq with hq|hq
    ·exact .inr hq
    ·exact .inl (List.mem_of_mem_drop hq)
  ·rintro (hq|rfl)
   ·rw[e] at hq
    rcases List.mem_append.1 hq with hq|hq
    ·exact List.mem_append.2 (.inl hq)
    ·exact List.mem_append.2 (.inr (List.mem_cons_of_mem _ hq))
   ·simp
theorem sA {k:List Bs} (h:bE k) (key:Bs):bE (ja k key):=by
 have hk:=u5 (l:=[]) h (fun _ _=>rfl)
 unfold ja
 rw[iz h]
 by_cases hm:key∈k
 ·rw[if_pos (by simpa using hm)];exact h
 ·rw[if_neg (by simpa using hm)]
  have a1:∀a∈k.take (place k key),Op.bytesLess a key=true:=by
   intro a ha
   obtain ⟨i,hi,rfl⟩:=List.mem_iff_getElem.1 ha
   rw[List.length_take] at hi
   have:=ow (k:=k) (key:=key) (i:=i) (by omega)
   rw[au (by omega)] at this
   rw[List.getElem_take];exact this
  have a2:∀a∈k.drop (place k key),Op.bytesLess key a=true:=by
   intro a ha
   have ham:=List.mem_of_mem_drop ha
   obtain ⟨i,hi,rfl⟩:=List.mem_iff_getElem.1 ha
   rw[List.length_drop] at hi
   have:=ox (key:=key) hk (i:=place k key+i) (by omega) (by omega)
   rw[au (by omega)] at this
   rw[List.getElem_drop] at ham ⊢
   rcases cf key k[place k key+i] with e|e|e
   ·exact e
   ·rw[←e] at ham;exact absurd ham hm
   ·rw[this] at e;cases e
  unfold bE
  rw[List.pairwise_append]
  refine ⟨h.sublist (List.take_sublist _ _),?_,fun a ha b hb=>?_⟩
  ·rw[List.pairwise_cons]
   exact ⟨a2,h.sublist (List.drop_sublist _ _)⟩
  ·rcases List.mem_cons.1 hb with rfl|hb
   ·exact a1 a ha
   ·exact bp (a1 a ha) (a2 b hb)
theorem sB {ks:List Bs} {l:List Sp} (hk:bE ks) (hl:NF l):
  ((cY ks l).2.2=0∨(cY ks l).2.2=9)∧((cY ks l).2.2=0→bb (cY ks l).1 (cY ks l).2.1=true∧∀q,(there (cY ks l).1 q||aE (cY ks l).2.1 q)=(decide (q∈ks)||aE l q)):=by
 have hr:bE (ks.filter fun x=> !aE l x):=List.Pairwise.sublist List.filter_sublist hk
 unfold cY
 split
 ·rename_i hc
  simp only[Bool.and_eq_true,decide_eq_true_eq] at hc
  refine ⟨.inl rfl,fun _=>⟨?_,fun q=>?_⟩⟩
  ·simp only[bb,decide_eq_true hc.1,decide_eq_true hc.2,BC hl,Bool.and_self,Bool.true_and]
   refine u5 hr fun x hx=>?_
   have:=(List.mem_filter.1 hx).2
   simpa using this
  ·simp only
   rw[iz hr]
   cases hs:aE l q with
   |true=>simp
   |false=>simp[List.mem_filter,hs]
 ·exact ⟨.inr rfl,fun h=>by cases h⟩
theorem AO {k:List Bs} {l:List Sp} (h:bb k l=true) (key:Bs):
  ((dF k l key).2.2=0∨(dF k l key).2.2=9)∧((dF k l key).2.2=0→bb (dF k l key).1 (dF k l key).2.1=true∧∀q,kj (dF k l key).1 (dF k l key).2.1 q=(kj k l q||decide (q=key))):=by
 obtain ⟨b1,b2,b3,b4⟩:=cF h
 obtain ⟨r1,r2⟩:=kx b4
 have e:dF k l key=cY (ja k key) l:=by simp[dF,h]
 rw[e]
 obtain ⟨m1,m2⟩:=sB (sA r1 key) (ly b3)
 refine ⟨m1,fun h0=>?_⟩
 obtain ⟨c1,c2⟩:=m2 h0
 refine ⟨c1,fun q=>?_⟩
 unfold kj
 rw[c1,h,Bool.true_and,Bool.true_and,c2,iz r1]
 have:decide (q∈ja k key)=(decide (q∈k)||decide (q=key)):=by
  rw[Bool.eq_iff_iff]
  simp only[decide_eq_true_eq,Bool.or_eq_true]
  exact nB r1 key q
 rw[this]
 cases decide (q∈k)<;>cases decide (q=key)<;>cases aE l q<;>rfl
theorem yP {x:Sp} (h:hasB x=false) (q:Bs):eD x q=false:=by
 cases hw:eD x q with
 |false=>rfl
 |true=>
  rw[dB] at hw
  have hn:¬(x.t=[]∨Op.bytesLess x.f x.t=true):=fun e=>by rw[fJ.2 e] at h;cases h
  rcases hw.2 with e|e
  ·exact absurd (.inl e) hn
  ·exact absurd (.inr (De hw.1 e)) hn
theorem yQ {k:List Bs} {l:List Sp} (h:bb k l=true) (x:Sp):
  ((bV k l x).2.2=0∨(bV k l x).2.2=9)∧((bV k l x).2.2=0→bb (bV k l x).1 (bV k l x).2.1=true∧∀q,kj (bV k l x).1 (bV k l x).2.1 q=(kj k l q||eD x q)):=by
 obtain ⟨b1,b2,b3,b4⟩:=cF h
 obtain ⟨r1,r2⟩:=kx b4
 have e:bV k l x=cY k (if hasB x=true then cV l x else l):=by simp[bV,h]
 rw[e]
 have hn:NF (if hasB x=true then cV l x else l)∧∀q,aE (if hasB x=true then cV l x else l) q=(eD x q||aE l q):=by
  cases hh:hasB x with
  |true=>rw[if_pos rfl];exact ⟨(nw (ly b3) hh).1,(nw (ly b3) hh).2.1⟩
  |false=>rw[if_neg (by simp)];exact ⟨ly b3,fun q=>by rw[yP hh,Bool.false_or]⟩
 obtain ⟨m1,m2⟩:=sB r1 hn.1
 refine ⟨m1,fun h0=>?_⟩
 obtain ⟨c1,c2⟩:=m2 h0
 refine ⟨c1,fun q=>?_⟩
 unfold kj
 rw[c1,h,Bool.true_and,Bool.true_and,c2,iz r1,hn.2]
 cases decide (q∈k)<;>cases eD x q<;>cases aE l q<;>rfl
end Go.Proofs.YtpehfflehebmbaaGreat.Reads
end
section
namespace Go.Av
open Go.ChangeShapes Go.WideShapes Go.ChangeAt Go.RowKit
section
variable {H:Type} {enc:TypeId × Value→H} {P:Program} {w:World}
def G0:aI:=⟨fun _=>False,fun _=>0,fun _=>False,fun _=>none,fun _=>False,fun _=>none⟩
def dI (P:Program) (e:TypeId) (cs:List AV):AV:=if bT P e then .agg cs else cs.headD .any
mutual
def lG:AV→Nat
 | .int _ _=>1
 | .bool _=>1
 | .str l=>l.length+1
 | .sl _ xs _=>cz xs+1
 | .agg cs=>cz cs
 |_=>0
def cz:List AV→Nat
 |[]=>0
 |x::xs=>lG x+cz xs
end
theorem hX:∀l m:List AV,cz (l++m)=cz l+cz m
 |[],m=>by simp[cz]
 |x::l,m=>by simp[cz,hX l m];omega
theorem p5 (P:Program) (e:TypeId) (cs:List AV):lG (dI P e cs)≤cz cs:=by
 unfold dI
 split
 ·simp[lG]
 ·cases cs with
  |nil=>simp[lG,cz]
  |cons x cs=>simp[cz]
structure mX (B:DataW H→Nat) (BL:List (DataW H)→Nat):Prop where
 str:∀l,B (.lit (.string l))=l.length+1
 int:∀k n,B (.lit (.int k n))=1
 bool:∀b,B (.lit (.bool b))=1
 nil:B .nil=1
 slice:∀a b,B (.slice a b)=BL a+BL b+1
 agg:∀a,B (.agg a)=BL a+1
 nils:BL []=0
 cons:∀d l,BL (d::l)=B d+BL l
theorem mX.snoc {B:DataW H→Nat} {BL:List (DataW H)→Nat} (hB:mX B BL):∀(l:List (DataW H)) (d:DataW H),BL (l++[d])=BL l+B d
 |[],d=>by simp[hB.cons,hB.nils]
 |x::l,d=>by simp[hB.cons,mX.snoc hB l d];omega
theorem mX.take {B:DataW H→Nat} {BL:List (DataW H)→Nat} (hB:mX B BL):∀(l:List (DataW H)) (m:Nat),BL (l.take m)≤BL l
 |[],m=>by simp
 |x::l,0=>by simp[hB.nils]
 |x::l,m+1=>by simp[hB.cons,mX.take hB l m]
theorem jj {P:Program} {e:TypeId} {n:Nat}:∀{l:List (DataW H)} {d:DataW H},d∈l→n∈d.weights P e→n∈DataW.weightsAll P e l
 |x::l,d,h,hn=>by
  simp only[DataW.weightsAll,List.mem_append]
  rcases List.mem_cons.1 h with rfl|h
  ·exact .inl hn
  ·exact .inr (jj h hn)
inductive sC {α β:Type} (R:α→β→Prop):List α→List β→Prop
 |nil:sC R [] []
 |cons {a b l m}:R a b→sC R l m→sC R (a::l) (b::m)
def Fits (P:Program):Nat→TypeId→List AV→Prop
 |0,_,_=>False
 |k+1,t,xs=>match P.underlying t with
  |some .bool=>∃b,xs=[.bool b]
  |some (.int q)=>∃n,xs=[.int q n]∧(Lit.int q n).wf=true
  |some .string=>∃l,xs=[.str l]∧l.length≤reachBytes
  |some (.slice e)=>∃ys,xs=[.sl (P.cellsOf e) ys .any]∧ys.length*P.bytesOf e≤reachBytes∧∀y∈ys,∃cs,Fits P k e cs∧y=dI P e cs
  |some (.struct fs)=>∃xss,xs=xss.flatten∧sC (fun (f:Field) cs=>Fits P k f.type cs) fs.toList xss
  |_=>False
def hZ (P:Program):Nat→TypeId→Bool
 |0,_=>false
 |k+1,t=>match P.underlying t with
  |some .bool|some (.int _)|some .string=>true
  |some (.slice e)=>decide (e<P.types.size)&&decide (0<P.cellsOf e)&&(bT P e||decide (P.cellsOf e=1))&&hZ P k e
  |some (.struct fs)=>decide (t<P.types.size)&&fs.all fun f=>hZ P k f.type
  |_=>false
theorem p6 {a:Addr} {v:Value} (h:w.cell? a=some v):a.spot=none:=by
 unfold World.cell? at h
 split at h
 ·split at h
  ·cases h
  ·rename_i hs;cases hh:a.spot with
   |none=>rfl
   |some x=>simp[hh] at hs
 ·cases h
theorem sD (b:Bool):One (.bool b):=⟨fun _=>by simp,fun _=>by simp⟩
theorem tY (k:IntKind) (n:Int):One (.int k n):=⟨fun _=>by simp,fun _=>by simp⟩
theorem tZ (s:ByteArray):One (.string s):=⟨fun _=>by simp,fun _=>by simp⟩
theorem p7 (a:Option Addr) (l c:Nat):One (.slice a l c):=⟨fun _=>by simp,fun _=>by simp⟩
theorem lH {R:Field→List AV→Prop} {G:aI} {B:DataW H→Nat} {BL:List (DataW H)→Nat} (hB:mX B BL) (full:List Value) (rd:Field→List Value→DataW H→Prop)
  (hrd:∀f cs d,rd f cs d→∃xs,R f xs∧ar G w xs cs∧(∀v∈cs,One v)∧cz xs≤B d):∀(fs:List Field) (ds:List (DataW H)) (off:Nat),ds.length=fs.length→
  (∀(j:Nat) f,fs[j]? =some f→f.offset=off+((fs.take j).map fun f=>P.cellsOf f.type).sum)→full.length=off+(fs.map fun f=>P.cellsOf f.type).sum→
  (∀(j:Nat) f d,fs[j]? =some f→ds[j]? =some d→rd f ((full.drop f.offset).take (P.cellsOf f.type)) d)→∃xss,sC R fs xss∧ar G w xss.flatten (full.drop off)∧(∀v∈full.drop off,One v)∧cz xss.flatten≤BL ds
 |[],ds,off,hl,h1,h2,h3=>by
  have e:full.drop off=[]:=List.drop_eq_nil_of_le (by simp at h2;omega)
  exact ⟨[],.nil,by rw[e];exact .nil,by rw[e];simp,by simp[cz]⟩
 |f::fs,[],off,hl,h1,h2,h3=>by cases hl
 |f::fs,d::ds,off,hl,h1,h2,h3=>by
  have o0:f.offset=off:=by simpa using h1 0 f rfl
  have hf:=h3 0 f d rfl rfl
  rw[o0] at hf
  obtain ⟨xs,r1,r2,r3,r4⟩:=hrd f _ d hf
  obtain ⟨xss,q1,q2,q3,q4⟩:=lH hB full rd hrd fs ds (off+P.cellsOf f.type) (by simpa using hl) (fun j g hj=>by
   have:=h1 (j+1) g (by simpa using hj)
   simp only[List.take_succ_cons,List.map_cons,List.sum_cons] at this;omega) (by simp only[List.map_cons,List.sum_cons] at h2;omega) (fun j g d' hg hd=>h3 (j+1) g d' (by simpa using hg) (by simpa using hd))
  have e:full.drop off=(full.drop off).take (P.cellsOf f.type)++full.drop (off+P.cellsOf f.type):=by
   rw[←List.drop_drop,List.take_append_drop]
  refine ⟨xs::xss,.cons r1 q1,?_,?_,?_⟩
  ·rw[e,List.flatten_cons];exact r2.append q2
  ·rw[e];intro v hv
   rcases List.mem_append.1 hv with hv|hv
   ·exact r3 v hv
   ·exact q3 v hv
  ·rw[List.flatten_cons,hX,hB.cons];omega
theorem wQ {e:TypeId} {cs:List AV} {vs:List Value} (hs:vs.length=P.cellsOf e) (hr:ar G0 w cs vs) (ho:∀v∈vs,One v) (hc:bT P e=false→P.cellsOf e=1):
  ∃v:Value,v.cells.toList=vs∧ak G0 w (dI P e cs) v:=by
 unfold dI
 cases ha:bT P e with
 |true=>exact ⟨.agg vs.toArray,by simp[Value.cells],by simp only[if_true,ak];exact ⟨vs,rfl,hr⟩⟩
 |false=>
  rw[hc ha] at hs
  obtain ⟨v,rfl⟩:=List.length_eq_one_iff.1 hs
  have hl:=hr.length
  obtain ⟨x,rfl⟩:=List.length_eq_one_iff.1 (show cs.length=1 by simpa using hl.symm)
  simp only[ar] at hr
  obtain ⟨v',us,e1,hv,e2⟩:=hr
  cases e1
  refine ⟨v,?_,by simpa using hv⟩
  have:=ho v (by simp)
  cases v<;>first|rfl|exact absurd rfl (this.1 _)|exact absurd rfl (this.2 _)
theorem Fits.slice {k:Nat} {t e:TypeId} {ys:List AV} (ht:P.underlying t=some (.slice e)) (h1:ys.length*P.bytesOf e≤reachBytes) (h2:∀y∈ys,∃cs,Fits P k e cs∧y=dI P e cs):Fits P (k+1) t [.sl (P.cellsOf e) ys .any]:=by
 unfold Fits;rw[ht];exact ⟨ys,rfl,h1,h2⟩
theorem wR (hl:laidOutB P=true) {B:DataW H→Nat} {BL:List (DataW H)→Nat} (hB:mX B BL):∀(k:Nat) (t:TypeId),hZ P k t=true→∀(fuel:Nat) (cs:List Value) (x:DataW H × List MemPlace),
  DataW.trod enc P w 0 (fun _=>true) true fuel t cs=some x→(∀n∈x.1.weights P t,n≤reachBytes)→∃xs,Fits P k t xs∧ar G0 w xs cs∧(∀v∈cs,One v)∧cz xs≤B x.1:=by
 intro k
 induction k with
 |zero=>intro t h;cases h
 |succ k ih=>
  intro t hp fuel cs x hx hwt
  simp only[hZ] at hp
  split at hp
  ·rename_i ht
   obtain ⟨b,rfl,rfl⟩:=DataW.trod_bool ht hx
   exact ⟨[.bool b],by simp only[Fits,ht];exact ⟨b,rfl⟩,.cons (by simp[ak]) .nil,by simp[sD],by simp[hB.bool,cz,lG]⟩
  ·rename_i q ht
   obtain ⟨n,rfl,rfl,hw⟩:=DataW.trod_int ht hx
   exact ⟨[.int q n],by simp only[Fits,ht];exact ⟨n,rfl,hw⟩,.cons (by simp[ak]) .nil,by simp[tY],by simp[hB.int,cz,lG]⟩
  ·rename_i ht
   obtain ⟨s,rfl,rfl,-⟩:=DataW.trod_string ht hx
   refine ⟨[.str s.data.toList],by simp only[Fits,ht];exact ⟨_,rfl,hwt _ (by simp[DataW.weights])⟩,.cons (by simp[ak]) .nil,by simp[tZ],by simp[hB.str,cz,lG]⟩
  ·rename_i e ht
   simp only[Bool.and_eq_true,decide_eq_true_eq] at hp
   obtain ⟨⟨⟨-,hsz⟩,hag⟩,hpe⟩:=hp
   rcases DataW.trod_slice ht hx with ⟨rfl,rfl⟩|⟨a,len,cap,elems,rest,n,rfl,rfl,rfl,hb,hlc,hcm,hel,hread,hrest,-⟩
   ·refine ⟨[.sl (P.cellsOf e) [] .any],Fits.slice ht (by simp) (fun y hy=>by cases hy),.cons ?_ .nil,by simp[p7],by simp[hB.nil,cz,lG]⟩
    unfold ak;exact .inl ⟨rfl,⟨none,rfl⟩,trivial⟩
   ·have hone:bT P e=false→P.cellsOf e=1:=by
     intro ha
     simpa [ha] using hag
    have each:∀i,i<len→∃vs xs,w.cells? 0 (a.add (i*P.cellsOf e)) (P.cellsOf e)=some vs∧Fits P k e xs∧ar G0 w xs vs∧(∀v∈vs,One v)∧∀y,elems[i]? =some y→cz xs≤B y.1:=by
     intro i hi
     have h:=hread i hi
     rw[List.getElem?_eq_getElem (by omega)] at h
     obtain ⟨vs,h1,h2⟩:=Option.bind_eq_some_iff.1 h
     obtain ⟨xs,h3,h4,h5,h6⟩:=ih e hpe n vs _ h2 (fun m hm=>hwt m (by
      simp only[DataW.weights,ht,List.mem_cons,List.mem_append]
      exact .inr (.inl (jj (List.mem_map.2 ⟨_,List.getElem_mem (by omega),rfl⟩) hm))))
     exact ⟨vs,xs,h1,h3,h4,h5,fun y hy=>by rw[List.getElem?_eq_getElem (by omega)] at hy;cases hy;exact h6⟩
    have build:∀m,m≤len→∃ys vs,ys.length=m∧vs.length=m*P.cellsOf e∧(∀y∈ys,∃cs,Fits P k e cs∧y=dI P e cs)∧az G0 w (P.cellsOf e) ys vs∧(∀(i:Nat) v,vs[i]? =some v→w.cell? (a.add i)=some v∧One v)∧cz ys≤BL ((elems.map (·.1)).take m):=by
     intro m
     induction m with
     |zero=>intro _;exact ⟨[],[],rfl,by simp,by simp,by simp[az],by simp,by simp[cz]⟩
     |succ m ihm=>
      intro hm
      obtain ⟨ys,vs,k1,k2,k3,k4,k5,k6⟩:=ihm (by omega)
      obtain ⟨us,xs,e1,e2,e3,e4,eb⟩:=each m (by omega)
      obtain ⟨-,e5,e6⟩:=World.cells?_some e1
      obtain ⟨v,hv1,hv2⟩:=wQ e5 e3 e4 hone
      refine ⟨ys++[dI P e xs],vs++us,by simp[k1],by simp[k2,e5,Nat.add_mul],?_,?_,?_,?_⟩
      ·intro y hy
       rcases List.mem_append.1 hy with hy|hy
       ·exact k3 y hy
       ·simp at hy;exact ⟨xs,e2,hy⟩
      ·refine k4.append ?_
       simp only[az]
       exact ⟨v,[],by simp[hv1],by rw[←Array.length_toList,hv1,e5],hv2,rfl⟩
      ·intro i z hz
       rcases Nat.lt_or_ge i vs.length with hi|hi
       ·rw[List.getElem?_append_left hi] at hz;exact k5 i z hz
       ·rw[List.getElem?_append_right hi] at hz
        have hlt:i - vs.length<us.length:=(List.getElem?_eq_some_iff.1 hz).1
        have:=e6 (i - vs.length) (by omega)
        rw[hz] at this
        have ea:(a.add (m*P.cellsOf e)).add (i - vs.length)=a.add i:=by
         rw[←k2]
         unfold Addr.add
         by_cases h0:vs.length=0
         ·simp[h0]
         ·by_cases h1:i - vs.length=0
          ·have:i=vs.length:=by omega
           subst this;simp
          ·have:i≠0:=by omega
           simp[h0,h1,this];omega
        rw[ea] at this
        exact ⟨this,e4 z (List.mem_of_getElem? hz)⟩
      ·have hlt:m<(elems.map (·.1)).length:=by simp;omega
       rw[List.take_succ_eq_append_getElem hlt,hB.snoc,hX]
       have h1:=eb _ (List.getElem?_eq_getElem (by omega))
       have h2:=p5 P e xs
       simp only[List.getElem_map,cz]
       omega
    obtain ⟨ys,vs,k1,k2,k3,k4,k5,k6⟩:=build len (Nat.le_refl _)
    refine ⟨[.sl (P.cellsOf e) ys .any],Fits.slice ht ?_ k3,.cons ?_ .nil,by simp[p7],?_⟩
    ·have:=hwt ((elems.length+rest.length)*P.bytesOf e) (by simp[DataW.weights,ht])
     exact Nat.le_trans (Nat.mul_le_mul_right _ (by omega)) this
    rotate_left
    ·have:=hB.take (elems.map (·.1)) len
     simp only[hB.slice,cz,lG]
     omega
    unfold ak
    by_cases hcap:cap=0
    ·have:ys=[]:=List.length_eq_zero_iff.1 (by omega)
     exact .inl ⟨this,⟨some a,by simp;omega⟩,by simp[fU]⟩
    ·have hspot:a.spot=none:=by
      by_cases hl0:len=0
      ·obtain ⟨hr1,hr2⟩:=hrest rfl
       have h:=hr2 0 (by omega)
       rw[List.getElem?_eq_getElem (by omega)] at h
       obtain ⟨vs',h1,h2⟩:=Option.bind_eq_some_iff.1 h
       obtain ⟨-,g1,g2⟩:=World.cells?_some h1
       have:=g2 0 hsz
       rw[List.getElem?_eq_getElem (by omega)] at this
       have:=p6 this
       simpa [hl0,Addr.add] using this
      ·obtain ⟨us,xs,e1,e2,e3,e4,-⟩:=each 0 (by omega)
       obtain ⟨-,g1,g2⟩:=World.cells?_some e1
       have:=g2 0 hsz
       rw[List.getElem?_eq_getElem (by omega)] at this
       have:=p6 this
       simpa [Addr.add] using this
     obtain ⟨B,off,sp⟩:=a
     simp only at hspot
     subst hspot
     refine .inr ⟨B,off,cap,vs,by simp[k1],by omega,by rw[k2,k1],k4,fun i v hv=>?_,by simp[cJ]⟩
     obtain ⟨c1,c2⟩:=k5 i v hv
     rw[add_plain] at c1
     exact ⟨c1,c2,by simp[G0],by simp[G0]⟩
  ·rename_i fs ht
   simp only[Bool.and_eq_true,decide_eq_true_eq] at hp
   obtain ⟨hlt,hp⟩:=hp
   rw[Array.all_eq_true_iff_forall_mem] at hp
   obtain ⟨xs,n,rfl,rfl,hlen,hxl,hread⟩:=DataW.trod_struct ht hx
   obtain ⟨-,hsum,hoff⟩:=kid_struct hl hlt ht
   obtain ⟨xss,q1,q2,q3,q4⟩:=lH (P:=P) (R:=fun (f:Field) cs=>Fits P k f.type cs) (G:=G0) (w:=w) hB cs
    (fun f us d=>hZ P k f.type=true∧∃y,DataW.trod enc P w 0 (fun _=>true) true n f.type us=some y∧y.1=d∧∀m∈d.weights P f.type,m≤reachBytes)
    (fun f us d ⟨h1,y,h2,h3,h4⟩=>by subst h3;exact ih f.type h1 n us y h2 h4) fs.toList (xs.map (·.1)) 0 (by simp[hxl]) (fun j f hj=>by rw[hoff j f hj];omega) (by rw[hlen,hsum];omega)
    (fun i f d hi hd=>by
     refine ⟨hp f (by have:=List.mem_of_getElem? hi;simpa using this),?_⟩
     have h:=hread i f (by simpa using hi)
     rw[List.getElem?_map] at hd
     cases hxi:xs[i]? with
     |none=>rw[hxi] at hd;cases hd
     |some y=>
      rw[hxi] at h hd
      refine ⟨y,h,by simpa using hd,fun m hm=>hwt m ?_⟩
      simp only[DataW.weights,ht]
      exact DataW.weights_mem_each (j:=i) (t:=f.type) (d:=d) (by rw[List.getElem?_map,hi];rfl) (by rw[List.getElem?_map,hxi];exact hd) m hm)
   refine ⟨xss.flatten,by simp only[Fits,ht];exact ⟨xss,rfl,q1⟩,by simpa using q2,by simpa using q3,?_⟩
   rw[hB.agg];omega
  ·cases hp
def nC (P:Program) (k:Nat) (t:TypeId) (a:AV):Prop:=∃cs,Fits P k t cs∧a=dI P t cs
theorem AP {k:Nat} {t:TypeId} {v:Value} {xs:List AV} {base:Nat} (hp:hZ P k t=true) (hok:Value.okWide P w .any base t v) (hr:ar G0 w xs v.cells.toList) (ho:∀u∈v.cells.toList,One u):ak G0 w (dI P t xs) v:=by
 unfold dI
 cases ha:bT P t with
 |true=>
  have:∃cs,v= .agg cs:=by
   unfold bT at ha
   unfold Value.okWide at hok
   split at ha
   ·rename_i h;rw[h] at hok;obtain ⟨cs,h,-⟩:=hok;exact ⟨cs,h⟩
   ·rename_i h;rw[h] at hok;obtain ⟨cs,h,-⟩:=hok;exact ⟨cs,h⟩
   ·cases ha
  obtain ⟨cs,rfl⟩:=this
  simp only[if_true,ak]
  exact ⟨cs.toList,by simp,by simpa [Value.cells] using hr⟩
 |false=>
  have hv:v.cells= #[v]:=by
   cases v<;>try rfl
   exfalso
   cases k with
   |zero=>cases hp
   |succ k=>
    unfold hZ at hp
    unfold bT at ha
    unfold Value.okWide Cell.okWide Cell.ok at hok
    split at hp
    all_goals (try (rename_i h;rw[h] at hok ha;simp at hok ha;done))
    all_goals (try (rename_i h;rw[h] at hok ha;simp at hok;done))
    all_goals simp_all
  rw[hv] at hr
  have hl:=hr.length
  obtain ⟨x,rfl⟩:=List.length_eq_one_iff.1 (show xs.length=1 by simpa using hl.symm)
  simp only[ar] at hr
  obtain ⟨v',us,e1,hx,e2⟩:=hr
  cases e1
  simpa using hx
theorem sE (hl:laidOutB P=true) {B:DataW H→Nat} {BL:List (DataW H)→Nat} (hB:mX B BL) {k:Nat} {base:Nat}:∀{ts us:List TypeId} {vs:List Value} {ds:List (DataW H)} {ps:List MemPlace},(∀t∈ts,hZ P k t=true)→
  (∀(j:Nat) t v,ts[j]? =some t→vs[j]? =some v→Value.okWide P w .any base t v)→(∀n∈DataW.weightsEach P (ts++us) ds,n≤reachBytes)→DataW.TrodAll enc P w 0 (fun _=>true) true ts vs ds ps→∃avs,sC (nC P k) ts avs∧ar G0 w avs vs∧cz avs≤BL ds
 |[],us,[],[],_,_,_,_,_=>⟨[],.nil,.nil,by simp[cz]⟩
 |t::ts,us,v::vs,d::ds,_,hp,hok,hwt,⟨p,q,⟨fuel,h1⟩,h2,_⟩=>by
  obtain ⟨xs,f1,f2,f3,f4⟩:=wR hl hB k t (hp t (by simp)) fuel _ _ h1 (fun n hn=>hwt n (by simp only[List.cons_append,DataW.weightsEach,List.mem_append];exact .inl hn))
  obtain ⟨avs,g1,g2,g3⟩:=sE hl hB (us:=us) (fun t ht=>hp t (by simp[ht])) (fun j t v a b=>hok (j+1) t v (by simpa using a) (by simpa using b)) (fun n hn=>hwt n (by simp only[List.cons_append,DataW.weightsEach,List.mem_append];exact .inr hn)) h2
  refine ⟨dI P t xs::avs,.cons ⟨xs,f1,rfl⟩ g1,.cons (AP (hp t (by simp)) (hok 0 t v rfl rfl) f2 f3) g2,?_⟩
  have:=p5 P t xs
  simp only[cz,hB.cons] at f4 ⊢
  omega
theorem mV {sp:Nat→Bool}:∀{ts:List TypeId} {vs:List Value} {ds:List (DataW H)} {ps:List MemPlace},DataW.TrodAll enc P w 0 sp true ts vs ds ps→ds.length=ts.length
 |[],[],[],_,h=>rfl
 |t::ts,v::vs,d::ds,_,⟨p,q,h1,h2,e⟩=>by simp[mV h2]
theorem ky {w':World} {sp:Nat→Bool}:∀{ts:List TypeId} {vs:List Value} {ds:List (DataW H)} {ps:List MemPlace},DataW.TrodAll enc P w 0 sp true ts vs ds ps→(∀p∈ps,w.sameAt w' p)→DataW.TrodAll enc P w' 0 sp true ts vs ds ps
 |[],[],[],_,h,_=>h
 |t::ts,v::vs,d::ds,_,⟨p,q,⟨fuel,h1⟩,h2,e⟩,hs=>by
  subst e
  exact ⟨p,q,⟨fuel,DataW.trod_carry fuel _ _ _ h1 (fun x hx=>hs x (List.mem_append_left _ hx))⟩,ky h2 (fun x hx=>hs x (List.mem_append_right _ hx)),rfl⟩
theorem wS (hl:laidOutB P=true) {B:DataW H→Nat} {BL:List (DataW H)→Nat} (hB:mX B BL) (hm:mapsRowed P=true) (hz:∀t e,t<P.types.size→P.underlying t=some (.slice e)→0<P.cellsOf e) {f:FuncId} {fn:Func} {s:ChangeSpec} {k base:Nat} {W:World} {args:Array Value} {ds gs:List (DataW H)} {before:List MemPlace} {tb:TypeId}
  (hvars:s.vars=[]) (hfn:∀l:List (DataW H),l.length=fn.params.size→s.fn H l= {results:=[.lit (.bool true)],args:=l}) (hrt:fn.resultTypes= #[tb]) (htb:P.underlying tb=some .bool)
  (hpl':fn.params.toList.all (hZ P k)=true) (hlt':fn.params.toList.all (fun t=>decide (t<P.types.size))=true)
  (hval:∀(j:Nat) t v,fn.params[j]? =some t→args[j]? =some v→Value.okWide P W .any base t v) (hW:DataW.Whole enc P fn.params.toList s.vars false W args.toList ds gs before)
  {us:List TypeId} (hwt:(DataW.weightsEach P (fn.params.toList++us) (ds++gs)).all (· ≤reachBytes)=true)
  (law:∀avs,sC (nC P k) fn.params.toList avs→cz avs≤BL (ds++gs)→aB P f avs (.bool true)):
  Calls P f args W fun e W'=>∃v,e= .returned v∧s.post enc P fn false true false false W args v W':=by
 have hpl:∀t∈fn.params.toList,hZ P k t=true:=List.all_eq_true.1 hpl'
 have hlt:∀t∈fn.params.toList,t<P.types.size:=fun t ht=>of_decide_eq_true (List.all_eq_true.1 hlt' t ht)
 have hW':=hW
 obtain ⟨p,q,hA,hV,rfl,-,-⟩:=hW
 rw[hvars] at hV
 obtain ⟨rfl,rfl⟩:=trodVars_none hV
 rw[List.append_nil] at hwt law
 obtain ⟨avs,g1,g2,g3⟩:=sE hl hB hpl (fun j t v a b=>hval j t v (by simpa using a) (by simpa using b)) (fun n hn=>of_decide_eq_true (List.all_eq_true.1 hwt n hn)) hA
 have hlaw:=law avs g1 g3 0 0 G0 W args.toList g2 eG ⟨fun _ _ _ h=>h,fun _ _ _ h=>h⟩
 rw[show args.toList.toArray=args from Array.toArray_toList] at hlaw
 refine hlaw.mono ?_
 rintro e W' ⟨v,G',he,T,-,hv⟩
 subst he
 simp only[ak] at hv
 subst hv
 have keep:∀B,B<W.heap.size→W'.heap[B]? =W.heap[B]? :=fun B hB=>T.keep B hB (fun x=>ct B x) (fun ⟨t,ht,_⟩=>by simp[H0,Av.H.only] at ht)
 have hlt':∀x∈p,x.block<W.heap.size:=DataW.TrodAll.lt hA
 have hlen:=mV hA
 refine ⟨_,rfl,ds,[],p++[],[],p,[],hW',?_,?_,?_,?_,fun h=>by cases h⟩
 ·rw[hfn _ (by simpa using hlen),hrt]
  exact trodAll_mk1 (shut_bool htb _)
 ·rw[hfn _ (by simpa using hlen)]
  have:=DataW.TrodAll.respare (kids_rows hl hm) hz (spare':=fun b=>decide (b<W.heap.size)) hlt hA (fun x hx=>by simpa using hlt' x hx)
  simp only[List.append_nil]
  refine ky this fun x hx=>?_
  have hb:=hlt' x hx
  cases x with
  |cell b off=>unfold World.sameAt World.cell?;simp only;rw[keep b hb]
  |map b=>exact keep b hb
 ·rw[hvars,hfn _ (by simpa using hlen)]
  rfl
 ·refine ⟨T.os,T.output,fun i hi=>?_⟩
  rw[keep i hi]
  generalize W.heap[i]? =o
  cases o with
  |none=>rfl
  |some o=>cases o<;>simp
end
end Go.Av
end
section
set_option maxRecDepth 100000
namespace Go.Proofs.YtpehfflehebmbaaGreat.Reads
open Go Go.Av Go.Proofs Go.Proofs.YtpehfflehebmbaaGreat.C
theorem laid:laidOutB Tryz.prog=true:=by kernel_rfl
theorem BE:mapsRowed Tryz.prog=true:=by kernel_rfl
theorem full:∀t e,t<Tryz.prog.types.size→Tryz.prog.underlying t=some (.slice e)→0<Tryz.prog.cellsOf e:=slices_full_of Tryz.prog (by kernel_rfl)
theorem own:ownKnob Tryz.prog.godebug=none:=by kernel_rfl
theorem Di {H:Type}:mX (H:=H) Rows.uptoBulk Rows.uptoBulkAll:=
 ⟨fun l=>by simp[Rows.uptoBulk],fun k n=>by simp[Rows.uptoBulk],fun b=>by simp[Rows.uptoBulk],by simp[Rows.uptoBulk],fun a b=>by simp[Rows.uptoBulk],fun a=>by simp[Rows.uptoBulk],by simp[Rows.uptoBulkAll],fun d l=>by simp[Rows.uptoBulkAll]⟩
theorem oQ {α:Type} {t:TypeId} {k:Nat} {enc:α→AV} {Q:α→Prop} (h1:∀cs,Fits Tryz.prog k t cs→∃x,dI Tryz.prog t cs=enc x∧Q x):∀{ys:List AV},(∀y∈ys,∃cs,Fits Tryz.prog k t cs∧y=dI Tryz.prog t cs)→∃l:List α,ys=l.map enc∧∀x∈l,Q x
 |[],_=>⟨[],rfl,by simp⟩
 |y::ys,h=>by
  obtain ⟨l,rfl,hl⟩:=oQ h1 (ys:=ys) (fun z hz=>h z (by simp[hz]))
  obtain ⟨cs,g1,g2⟩:=h y (by simp)
  obtain ⟨x,e,q⟩:=h1 cs g1
  refine ⟨x::l,by simp[g2,e],fun z hz=>?_⟩
  rcases List.mem_cons.1 hz with rfl|hz
  ·exact q
  ·exact hl z hz
end Go.Proofs.YtpehfflehebmbaaGreat.Reads
end
section
set_option maxRecDepth 10000
namespace Go.Proofs.YtpehfflehebmbaaGreat.Reads
open Go Go.Av Go.Proofs Go.Proofs.YtpehfflehebmbaaGreat.C Go.Proofs.YtpehfflehebmbaaGreat.Batch
structure Dx (k:List Bs) (l:List Sp) (n:Nat):Prop where
 nf:NF l
 rise:bE k
 un:∀x∈k,aE l x=false
 kn:k.length≤n
 ln:l.length≤n
def LsS (l:List Sp):Prop:=∀i,Ls (l.getD i default).f∧Ls (l.getD i default).t
def LsK (k:List Bs):Prop:=∀i,Ls (k.getD i [])
theorem oR:Ls []:=by unfold Ls;simp
theorem LsS.of {l:List Sp} (h:∀s∈l,Ls s.f∧Ls s.t):LsS l:=by
 intro i
 by_cases hi:i<l.length
 ·rw[au hi];exact h _ (List.getElem_mem hi)
 ·rw[List.getD_eq_getElem?_getD,List.getElem?_eq_none (by omega)];exact ⟨oR,oR⟩
theorem LsK.of {k:List Bs} (h:∀s∈k,Ls s):LsK k:=by
 intro i
 by_cases hi:i<k.length
 ·rw[au hi];exact h _ (List.getElem_mem hi)
 ·rw[List.getD_eq_getElem?_getD,List.getElem?_eq_none (by omega)];exact oR
theorem gL (l:List Sp) (hl:l.length≤1000000) (hs:LsS l) (q:Bs) (hq:Ls q):aB Tryz.prog 136 [.sl 2 (sps l) .any,.str q] (.bool (aE l q)):=by
 refine f136.aJ (by simp) (by simp[al,av,aK,cX]) rfl ?_
 unfold CW
 simp only[C.zz]
 refine o5 ?_
 refine Wp.dW [0,1] xA6 (fun j:Nat=>[(5,.int .i64 j)]) (fun j=>j≤l.length∧∀i,i<j→eD (l.getD i default) q=false) (fun j=>l.length - j) 0 ⟨Nat.zero_le _,fun i h=>absurd h (by omega)⟩ ?_ ?_
 ·exact xSb
 rintro j ⟨hj,hn⟩
 by_cases hc:j<l.length
 ·have g1:decide ((j:Int)<(l.length:Int))=true:=decide_eq_true (by omega)
  have h2:(0:Int)≤(j:Int):=by omega
  have h3:(j:Int)<(l.length:Int):=by omega
  have e1:IntKind.i64.wrap ((j:Int)+1)=((j+1:Nat):Int):=by rw[IntWalk.i64_in _ (by omega)];omega
  cases hw:eD (l.getD j default) q with
  |true=>
   have hsp:aE l q=true:=List.any_eq_true.2 ⟨l.getD j default,by rw[au hc];exact List.getElem_mem hc,hw⟩
   refine an1 (cj9 g1 h2 h3 e1 @ay @Int.toNat_natCast (fun d=>bz _ _ d hc) @aZ.eq_1 hw) (pE (l.getD j default) q (hs j).1 (hs j).2 hq) ?_
   refine aM ?_
   rw[hsp];exact ab.refl _
  |false=>
   refine an1 (cj9 g1 h2 h3 e1 @ay @Int.toNat_natCast (fun d=>bz _ _ d hc) @aZ.eq_1 hw) (pE (l.getD j default) q (hs j).1 (hs j).2 hq) ?_
   refine ⟨j+1,⟨by omega,fun i hi=>?_⟩,by omega,?_⟩
   ·by_cases e:i=j
    ·subst e;exact hw
    ·exact hn i (by omega)
   ·exact xSu
 ·obtain rfl:j=l.length:=by omega
  have g1:decide ((l.length:Int)<(l.length:Int))=false:=decide_eq_false (by omega)
  have hsp:aE l q=false:=List.any_eq_false.2 fun s hss=>by
   obtain ⟨i,hi,rfl⟩:=List.mem_iff_getElem.1 hss
   have:=hn i hi
   rw[au hi] at this
   simp[this]
  refine an0 (cj2 g1 @ay) ?_
  refine aM ?_
  rw[hsp];exact ab.refl _
theorem gl (k:List Bs) (l:List Sp) (hk:LsK k) (hl:LsS l):aB Tryz.prog 114 [cP k l] (.bool (bb k l)):=by
 refine f114.aJ (by simp) (by simp[al,ep]) rfl ?_
 unfold CE
 simp only[C.zz]
 refine Wp.aA (by simp only[go_sem,reduceIte,Nat.reduceEqDiff,Nat.reduceAdd,bx,cP];exact rfl) (by trivial) ?_
 refine Wp.frz (fun _=>true) [(1,.ref [.sl 1 (strs k) .any,.sl 2 (sps l) .any])] ⟨ag,1,[],0⟩ ?_ (OLe.none _) (by simp) (by simp[go_sem]) (Nat.le_refl _) ?_
 ·simp only[aC,go_sem,reduceIte,Nat.reduceEqDiff,unT,and_true]
  exact ab.refl _
 by_cases b1:k.length≤64
 rotate_left
 ·have d1:decide ((64:Int)<(k.length:Int))=true:=decide_eq_true (by omega)
  refine an0 (cj2 d1 @an) ?_
  refine aM ?_
  simp only[bb,decide_eq_false b1,Bool.false_and]
  exact ab.refl _
 have d1:decide ((64:Int)<(k.length:Int))=false:=decide_eq_false (by omega)
 by_cases b2:l.length≤64
 rotate_left
 ·have d2:decide ((64:Int)<(l.length:Int))=true:=decide_eq_true (by omega)
  refine an0 (cj4 d1 d2 @an @ay) ?_
  refine aM ?_
  simp only[bb,decide_eq_false b2,Bool.and_false,Bool.false_and]
  exact ab.refl _
 have d2:decide ((64:Int)<(l.length:Int))=false:=decide_eq_false (by omega)
 refine an0 (cj4 d1 d2 @an @ay) ?_
 refine Wp.dW [1] xA6 (fun j:Nat=>[(3,.int .i64 j)]) (fun j=>j≤l.length∧∀i,i<j→jF l i=true) (fun j=>l.length - j) 0 ⟨Nat.zero_le _,fun i h=>absurd h (by omega)⟩ ?_ ?_
 ·exact xSb
 rintro j ⟨hj,hs⟩
 by_cases hc:j<l.length
 ·have g1:decide ((j:Int)<(l.length:Int))=true:=decide_eq_true (by omega)
  have h2:(0:Int)≤(j:Int):=by omega
  have h3:(j:Int)<(l.length:Int):=by omega
  have e1:IntKind.i64.wrap ((j:Int)+1)=((j+1:Nat):Int):=by rw[IntWalk.i64_in _ (by omega)];omega
  have key:∀{b:Bool},jF l j=b→(b=true→∀i,i<j+1→jF l i=true)∧(b=false→bb k l=false):=by
   intro b hb
   refine ⟨fun h i hi=>?_,fun h=>?_⟩
   ·by_cases e:i=j
    ·subst e;rw[hb,h]
    ·exact hs i (by omega)
   ·have:mR l=false:=eQ hc (hb.trans h)
    simp[bb,this]
  cases ha:hasB (l.getD j default) with
  |false=>
   have q:=(key (b:=false) (by simp only[jF,ha,Bool.false_and])).2 rfl
   refine an1 (cj9 g1 h2 h3 e1 @ay @Int.toNat_natCast (fun d=>bz _ _ d hc) @aZ.eq_1 ha) (lU (l.getD j default) (hl j).1 (hl j).2) ?_
   refine aM ?_
   rw[q];exact ab.refl _
  |true=>
   by_cases hz:j=0
   ·have g2:decide ((0:Int)<(j:Int))=false:=decide_eq_false (by omega)
    have q:=(key (b:=true) (by simp only[jF,ha,hz,decide_true,Bool.true_or,Bool.and_self] at ha ⊢;simp only[ha,Bool.and_self])).1 rfl
    refine an1 (gh g1 g2 h2 h3 e1 @ay @Int.toNat_natCast (fun d=>bz _ _ d hc) @aZ.eq_1 ha) (lU (l.getD j default) (hl j).1 (hl j).2) ?_
    refine ⟨j+1,⟨by omega,q⟩,by omega,?_⟩
    exact xSu
   ·have g2:decide ((0:Int)<(j:Int))=true:=decide_eq_true (by omega)
    have e2:IntKind.i64.wrap ((j:Int) - 1)=((j - 1:Nat):Int):=by rw[IntWalk.i64_in _ (by omega)];omega
    have h4:(0:Int)≤((j - 1:Nat):Int):=by omega
    have h5:((j - 1:Nat):Int)<(l.length:Int):=by omega
    have h6:j - 1<l.length:=by omega
    have hq:jF l j=bg (l.getD (j - 1) default) (l.getD j default):=by simp only[jF,ha,decide_eq_false hz,Bool.true_and,Bool.false_or]
    cases he:decide ((l.getD (j - 1) default).t=[]) with
    |true=>
     have q:=(key (b:=false) (by rw[hq,bg,he];rfl)).2 rfl
     refine an1 (bN g1 g2 h2 h3 h4 h5 e1 e2 @ay @Int.toNat_natCast (fun d=>bz _ _ d hc) (cj4 (fun d=>bz _ _ d h6) @aZ.eq_1 ha he)) (lU (l.getD j default) (hl j).1 (hl j).2) ?_
     refine aM ?_
     rw[q];exact ab.refl _
    |false=>
     cases hp:Op.bytesLess (l.getD (j - 1) default).t (l.getD j default).f with
     |true=>
      have q:=(key (b:=true) (by rw[hq,bg,he,hp];rfl)).1 rfl
      repeat (first
       |((first|apply Wp.seqItems|apply Wp.items|((first
         |(refine aa.bM ?_ ?_ (lU (l.getD j default) (hl j).1 (hl j).2) ?_;(· simp only[go_sem,reduceIte,Nat.reduceEqDiff,Nat.reduceAdd,bx]);(· simp only[go_sem,reduceIte,Nat.reduceEqDiff,Nat.reduceAdd,bx,List.map];first|exact af.refl _|(repeat (first|exact af.nil|refine af.cons xA5 ?_))))
         |(refine aa.bM ?_ ?_ (cN (l.getD (j - 1) default).t (l.getD j default).f (hl _).2 (hl _).1) ?_;(· simp only[go_sem,reduceIte,Nat.reduceEqDiff,Nat.reduceAdd,bx]);(· simp only[go_sem,reduceIte,Nat.reduceEqDiff,Nat.reduceAdd,bx,List.map];first|exact af.refl _|(repeat (first|exact af.nil|refine af.cons xA5 ?_)))));apply aa.eval));(· simp only[go_sem,reduceIte,Nat.reduceEqDiff,Nat.reduceAdd,bx,ax,if_true,if_false,Nat.reduceMul,Nat.reduceLeDiff,g1,g2,h2,h3,h4,h5,e1,e2,ay,Int.toNat_natCast,bz _ _ _ hc,bz _ _ _ h6,aZ,ha,he,hp];exact rfl))
       |(refine aa.nil ⟨?_,?_⟩;(· first|trivial|simp[aw,aq,apart,aG]))
       |(apply Wp.bu;(· simp only[go_sem,reduceIte,Nat.reduceEqDiff,Nat.reduceAdd,bx,ax,if_true,if_false,Nat.reduceMul,Nat.reduceLeDiff,g1,g2,h2,h3,h4,h5,e1,e2,ay,Int.toNat_natCast,bz _ _ _ hc,bz _ _ _ h6,aZ,ha,he,hp];exact rfl);(· rfl))
       |refine Wp.skip ?_
       |refine Wp.label ?_
       |refine Wp.block ?_
       |refine Wp.exit ?_
       |refine Wp.seq ?_)
      refine ⟨j+1,⟨by omega,q⟩,by omega,?_⟩
      exact xSu
     |false=>
      have q:=(key (b:=false) (by rw[hq,bg,he,hp];rfl)).2 rfl
      repeat (first
       |((first|apply Wp.seqItems|apply Wp.items|((first
         |(refine aa.bM ?_ ?_ (lU (l.getD j default) (hl j).1 (hl j).2) ?_;(· simp only[go_sem,reduceIte,Nat.reduceEqDiff,Nat.reduceAdd,bx]);(· simp only[go_sem,reduceIte,Nat.reduceEqDiff,Nat.reduceAdd,bx,List.map];first|exact af.refl _|(repeat (first|exact af.nil|refine af.cons xA5 ?_))))
         |(refine aa.bM ?_ ?_ (cN (l.getD (j - 1) default).t (l.getD j default).f (hl _).2 (hl _).1) ?_;(· simp only[go_sem,reduceIte,Nat.reduceEqDiff,Nat.reduceAdd,bx]);(· simp only[go_sem,reduceIte,Nat.reduceEqDiff,Nat.reduceAdd,bx,List.map];first|exact af.refl _|(repeat (first|exact af.nil|refine af.cons xA5 ?_)))));apply aa.eval));(· simp only[go_sem,reduceIte,Nat.reduceEqDiff,Nat.reduceAdd,bx,ax,if_true,if_false,Nat.reduceMul,Nat.reduceLeDiff,g1,g2,h2,h3,h4,h5,e1,e2,ay,Int.toNat_natCast,bz _ _ _ hc,bz _ _ _ h6,aZ,ha,he,hp];exact rfl))
       |(refine aa.nil ⟨?_,?_⟩;(· first|trivial|simp[aw,aq,apart,aG]))
       |(apply Wp.bu;(· simp only[go_sem,reduceIte,Nat.reduceEqDiff,Nat.reduceAdd,bx,ax,if_true,if_false,Nat.reduceMul,Nat.reduceLeDiff,g1,g2,h2,h3,h4,h5,e1,e2,ay,Int.toNat_natCast,bz _ _ _ hc,bz _ _ _ h6,aZ,ha,he,hp];exact rfl);(· rfl))
       |refine Wp.skip ?_
       |refine Wp.label ?_
       |refine Wp.block ?_
       |refine Wp.exit ?_
       |refine Wp.seq ?_)
      refine aM ?_
      rw[q];exact ab.refl _
 obtain rfl:j=l.length:=by omega
 have g1:decide ((l.length:Int)<(l.length:Int))=false:=decide_eq_false (by omega)
 have hsp:mR l=true:=eK hs
 refine an0 (cj2 g1 @ay) ?_
 refine Wp.dW [1] xA6 (fun j:Nat=>[(4,.int .i64 j)]) (fun j=>j≤k.length∧∀i,i<j→kOk k l i=true) (fun j=>k.length - j) 0 ⟨Nat.zero_le _,fun i h=>absurd h (by omega)⟩ ?_ ?_
 ·exact xSb
 rintro j ⟨hj,hs'⟩
 by_cases hc:j<k.length
 ·have g1:decide ((j:Int)<(k.length:Int))=true:=decide_eq_true (by omega)
  have h2:(0:Int)≤(j:Int):=by omega
  have h3:(j:Int)<(k.length:Int):=by omega
  have e1:IntKind.i64.wrap ((j:Int)+1)=((j+1:Nat):Int):=by rw[IntWalk.i64_in _ (by omega)];omega
  have key:∀{b:Bool},kOk k l j=b→(b=true→∀i,i<j+1→kOk k l i=true)∧(b=false→bb k l=false):=by
   intro b hb
   refine ⟨fun h i hi=>?_,fun h=>?_⟩
   ·by_cases e:i=j
    ·subst e;rw[hb,h]
    ·exact hs' i (by omega)
   ·have:og k l=false:=eQ hc (hb.trans h)
    simp[bb,this]
  have go:∀g:Bool,((decide (j=0)||Op.bytesLess (k.getD (j - 1) []) (k.getD j []))=g)→kOk k l j=(g&& !aE l (k.getD j [])):=fun g hg=>by simp only[kOk,hg]
  by_cases hz:j=0
  ·have g2:decide ((0:Int)<(j:Int))=false:=decide_eq_false (by omega)
   have hg:=go true (by simp[hz])
   cases hp:aE l (k.getD j []) with
   |true=>
    have q:=(key (b:=false) (by rw[hg,hp];rfl)).2 rfl
    refine an1 (cj9 g1 g2 h2 h3 e1 @an @Int.toNat_natCast (fun d=>ba _ _ d hc) hp) (gL l (by omega) hl (k.getD j []) (hk j)) ?_
    refine aM ?_
    rw[q];exact ab.refl _
   |false=>
    have q:=(key (b:=true) (by rw[hg,hp];rfl)).1 rfl
    refine an1 (cj9 g1 g2 h2 h3 e1 @an @Int.toNat_natCast (fun d=>ba _ _ d hc) hp) (gL l (by omega) hl (k.getD j []) (hk j)) ?_
    refine ⟨j+1,⟨by omega,q⟩,by omega,?_⟩
    exact xSu
  ·have g2:decide ((0:Int)<(j:Int))=true:=decide_eq_true (by omega)
   have e2:IntKind.i64.wrap ((j:Int) - 1)=((j - 1:Nat):Int):=by rw[IntWalk.i64_in _ (by omega)];omega
   have h4:(0:Int)≤((j - 1:Nat):Int):=by omega
   have h5:((j - 1:Nat):Int)<(k.length:Int):=by omega
   have h6:j - 1<k.length:=by omega
   have hg:=go _ (show _=Op.bytesLess (k.getD (j - 1) []) (k.getD j []) by simp[hz])
   cases hp:Op.bytesLess (k.getD (j - 1) []) (k.getD j []) with
   |false=>
    have q:=(key (b:=false) (by rw[hg,hp];rfl)).2 rfl
    repeat (first
     |((first|apply Wp.seqItems|apply Wp.items|((first
       |(refine aa.bM ?_ ?_ (cN (k.getD (j - 1) []) (k.getD j []) (hk _) (hk _)) ?_;(· simp only[go_sem,reduceIte,Nat.reduceEqDiff,Nat.reduceAdd,bx]);(· simp only[go_sem,reduceIte,Nat.reduceEqDiff,Nat.reduceAdd,bx,List.map];first|exact af.refl _|(repeat (first|exact af.nil|refine af.cons xA5 ?_)))));apply aa.eval));(· simp only[go_sem,reduceIte,Nat.reduceEqDiff,Nat.reduceAdd,bx,ax,if_true,if_false,Nat.reduceMul,Nat.reduceLeDiff,g1,g2,h2,h3,h4,h5,e1,e2,an,Int.toNat_natCast,ba _ _ _ hc,ba _ _ _ h6,hp];exact rfl))
     |(refine aa.nil ⟨?_,?_⟩;(· first|trivial|simp[aw,aq,apart,aG]))
     |(apply Wp.bu;(· simp only[go_sem,reduceIte,Nat.reduceEqDiff,Nat.reduceAdd,bx,ax,if_true,if_false,Nat.reduceMul,Nat.reduceLeDiff,g1,g2,h2,h3,h4,h5,e1,e2,an,Int.toNat_natCast,ba _ _ _ hc,ba _ _ _ h6,hp];exact rfl);(· rfl))
     |refine Wp.skip ?_
     |refine Wp.label ?_
     |refine Wp.block ?_
     |refine Wp.exit ?_
     |refine Wp.seq ?_)
    refine aM ?_
    rw[q];exact ab.refl _
   |true=>
    cases hp2:aE l (k.getD j []) with
    |true=>
     have q:=(key (b:=false) (by rw[hg,hp,hp2];rfl)).2 rfl
     repeat (first
      |((first|apply Wp.seqItems|apply Wp.items|((first
        |(refine aa.bM ?_ ?_ (cN (k.getD (j - 1) []) (k.getD j []) (hk _) (hk _)) ?_;(· simp only[go_sem,reduceIte,Nat.reduceEqDiff,Nat.reduceAdd,bx]);(· simp only[go_sem,reduceIte,Nat.reduceEqDiff,Nat.reduceAdd,bx,List.map];first|exact af.refl _|(repeat (first|exact af.nil|refine af.cons xA5 ?_))))
        |(refine aa.bM ?_ ?_ (gL l (by omega) hl (k.getD j []) (hk j)) ?_;(· simp only[go_sem,reduceIte,Nat.reduceEqDiff,Nat.reduceAdd,bx]);(· simp only[go_sem,reduceIte,Nat.reduceEqDiff,Nat.reduceAdd,bx,List.map];first|exact af.refl _|(repeat (first|exact af.nil|refine af.cons xA5 ?_)))));apply aa.eval));(· simp only[go_sem,reduceIte,Nat.reduceEqDiff,Nat.reduceAdd,bx,ax,if_true,if_false,Nat.reduceMul,Nat.reduceLeDiff,g1,g2,h2,h3,h4,h5,e1,e2,an,Int.toNat_natCast,ba _ _ _ hc,ba _ _ _ h6,hp,hp2];exact rfl))
      |(refine aa.nil ⟨?_,?_⟩;(· first|trivial|simp[aw,aq,apart,aG]))
      |(apply Wp.bu;(· simp only[go_sem,reduceIte,Nat.reduceEqDiff,Nat.reduceAdd,bx,ax,if_true,if_false,Nat.reduceMul,Nat.reduceLeDiff,g1,g2,h2,h3,h4,h5,e1,e2,an,Int.toNat_natCast,ba _ _ _ hc,ba _ _ _ h6,hp,hp2];exact rfl);(· rfl))
      |refine Wp.skip ?_
      |refine Wp.label ?_
      |refine Wp.block ?_
      |refine Wp.exit ?_
      |refine Wp.seq ?_)
     refine aM ?_
     rw[q];exact ab.refl _
    |false=>
     have q:=(key (b:=true) (by rw[hg,hp,hp2];rfl)).1 rfl
     repeat (first
      |((first|apply Wp.seqItems|apply Wp.items|((first
        |(refine aa.bM ?_ ?_ (cN (k.getD (j - 1) []) (k.getD j []) (hk _) (hk _)) ?_;(· simp only[go_sem,reduceIte,Nat.reduceEqDiff,Nat.reduceAdd,bx]);(· simp only[go_sem,reduceIte,Nat.reduceEqDiff,Nat.reduceAdd,bx,List.map];first|exact af.refl _|(repeat (first|exact af.nil|refine af.cons xA5 ?_))))
        |(refine aa.bM ?_ ?_ (gL l (by omega) hl (k.getD j []) (hk j)) ?_;(· simp only[go_sem,reduceIte,Nat.reduceEqDiff,Nat.reduceAdd,bx]);(· simp only[go_sem,reduceIte,Nat.reduceEqDiff,Nat.reduceAdd,bx,List.map];first|exact af.refl _|(repeat (first|exact af.nil|refine af.cons xA5 ?_)))));apply aa.eval));(· simp only[go_sem,reduceIte,Nat.reduceEqDiff,Nat.reduceAdd,bx,ax,if_true,if_false,Nat.reduceMul,Nat.reduceLeDiff,g1,g2,h2,h3,h4,h5,e1,e2,an,Int.toNat_natCast,ba _ _ _ hc,ba _ _ _ h6,hp,hp2];exact rfl))
      |(refine aa.nil ⟨?_,?_⟩;(· first|trivial|simp[aw,aq,apart,aG]))
      |(apply Wp.bu;(· simp only[go_sem,reduceIte,Nat.reduceEqDiff,Nat.reduceAdd,bx,ax,if_true,if_false,Nat.reduceMul,Nat.reduceLeDiff,g1,g2,h2,h3,h4,h5,e1,e2,an,Int.toNat_natCast,ba _ _ _ hc,ba _ _ _ h6,hp,hp2];exact rfl);(· rfl))
      |refine Wp.skip ?_
      |refine Wp.label ?_
      |refine Wp.block ?_
      |refine Wp.exit ?_
      |refine Wp.seq ?_)
     refine ⟨j+1,⟨by omega,q⟩,by omega,?_⟩
     exact xSu
 obtain rfl:j=k.length:=by omega
 have g1:decide ((k.length:Int)<(k.length:Int))=false:=decide_eq_false (by omega)
 have hk:og k l=true:=eK hs'
 refine an0 (cj2 g1 @an) ?_
 refine aM ?_
 simp only[bb,decide_eq_true b1,decide_eq_true b2,hsp,hk,Bool.and_self]
 exact ab.refl _
def jN (f:FuncId) (args:List AV) (F:Fr) (b:Bool):Prop:=aL Tryz.prog f args [F] fun r L=>r= .bool b∧L=[F]
theorem ua {F:Fr} (hk:F.k=[]) (l:List Bs) (hl:l.length≤4611686018427387904) (p:Bs→Bool) {g:FuncId} {fn:Func} (hf:Tryz.prog.funcs[g]? =some fn) (hb:fn.body.isSome=true) (hn:fn.name≠ "runtime.NumGoroutine") (caps:List AV)
  (hp:∀c∈l,jN g (.str c::caps) F (p c)):
  aL Tryz.prog 102 [.sl 1 (strs l) .any,.clo (.func g) [] caps] [F] fun r L=>r= .int .i64 (ix p l)∧L=[F]:=by
 refine f102.bw (by simp) fun n m ok=>?_
 unfold Al
 simp only[C.zz]
 refine Wp.aA xA1 (by trivial) ?_
 refine Wp.seq ?_
 refine Wp.aA (by simp only[go_sem,reduceIte,Nat.reduceEqDiff,Nat.reduceAdd,bx,an];exact rfl) (by trivial) ?_
 refine Wp.block ?_
 refine Wp.fY (β:=Nat) [0,1,7] xA7 (fun j=>[(8,.int .i64 (j:Nat))]) (fun j L=>j≤l.length∧(∀i (hi:i<l.length),i<j→p l[i]=false)∧L=[F]) (fun j=>l.length - j) 0 ⟨Nat.zero_le _,fun i hi h=>absurd h (by omega),rfl⟩ ok xA9 ?_
 rintro j L n1 T1 m1 on ⟨hj,hs,rfl⟩
 refine Wp.aA xA1 (by trivial) ?_
 refine Wp.seq ?_
 refine Wp.cw (b:=decide ((j:Int)<(l.length:Int))) xA2 (fun hc=>?_) (fun hc=>?_)
 ·have h1:(0:Int)≤(j:Int):=by omega
  have h2:(j:Int)<(l.length:Int):=by simpa using hc
  have h3:j<l.length:=by omega
  have hq:=hp _ (List.getElem_mem h3)
  rw[←au (d:=[]) h3] at hq
  refine Wp.skip ?_
  refine Wp.seq ?_
  refine Wp.block ?_
  refine Wp.aA xA1 (by trivial) ?_
  refine Wp.seqItems (by simp only[go_sem,reduceIte,Nat.reduceEqDiff,Nat.reduceAdd,bx,an,h1,h2,and_self,if_true,Int.toNat_natCast,ba _ _ _ h3];exact rfl) ?_
  refine aa.nX [] [F] [] (by simp only[go_sem]) (by simp only[go_sem,reduceIte,Nat.reduceEqDiff];exact rfl) hf hb hn xA4 hq on.ok fun r G' n2 m2 ids hqq hn2 hm2 ok2 wi ki=>?_
  obtain ⟨rfl,rfl⟩:=hqq
  simp only[List.nil_append,List.append_nil] at ok2 wi ki ⊢
  have on2:On [F] n1 m1 [F] n2 _ m2:=⟨hn2,hm2,ok2,wi,ki⟩
  refine aa.eval xA1 ?_
  refine aa.nil ⟨by trivial,?_⟩
  rw[au h3]
  refine Wp.cw (b:=p l[j]) xA2 (fun hd=>?_) (fun hd=>?_)
  ·refine Wp.aA xA1 (by trivial) ?_
   refine Wp.ret ⟨trivial,_,rfl,_,_,((on.step on2).ends (ab.refl _) ⟨?_,rfl⟩)⟩
   rw[jE h3 hd hs];rfl
  ·refine Wp.skip ?_
   refine Wp.ld (by simp only[go_sem,reduceIte,Nat.reduceEqDiff,Nat.reduceAdd,bx];simp (disch:=omega) only[IntWalk.i64_in];exact rfl) (by trivial) ?_
   refine ⟨j+1,[F],n2,_,m2,on2,⟨by omega,fun i hi h=>?_,rfl⟩,by omega,?_⟩
   ·by_cases he:i=j
    ·subst he;exact hd
    ·exact hs i hi (by omega)
   ·exact xSu
 ·have:¬(j:Int)<(l.length:Int):=by simpa using hc
  refine Wp.exit ?_
  refine Wp.aA xA1 (by trivial) ?_
  refine Wp.ret ⟨trivial,_,rfl,_,_,(on.ends (ab.refl _) ⟨?_,rfl⟩)⟩
  rw[ka fun i hi=>hs i hi (by omega)];rfl
theorem wT {F:Fr} (hk:F.k=[]) (l:List Sp) (hl:l.length≤4611686018427387904) (p:Sp→Bool) {g:FuncId} {fn:Func} (hf:Tryz.prog.funcs[g]? =some fn) (hb:fn.body.isSome=true) (hn:fn.name≠ "runtime.NumGoroutine") (caps:List AV)
  (hp:∀c∈l,jN g (aZ c::caps) F (p c)):
  aL Tryz.prog 135 [.sl 2 (sps l) .any,.clo (.func g) [] caps] [F] fun r L=>r= .int .i64 (ix p l)∧L=[F]:=by
 refine f135.bw (by simp) fun n m ok=>?_
 unfold BS
 simp only[C.zz]
 refine Wp.aA xA1 (by trivial) ?_
 refine Wp.seq ?_
 refine Wp.aA (by simp only[go_sem,reduceIte,Nat.reduceEqDiff,Nat.reduceAdd,bx,ay];exact rfl) (by trivial) ?_
 refine Wp.block ?_
 refine Wp.fY (β:=Nat) [0,1,7] xA7 (fun j=>[(8,.int .i64 (j:Nat))]) (fun j L=>j≤l.length∧(∀i (hi:i<l.length),i<j→p l[i]=false)∧L=[F]) (fun j=>l.length - j) 0 ⟨Nat.zero_le _,fun i hi h=>absurd h (by omega),rfl⟩ ok xA9 ?_
 rintro j L n1 T1 m1 on ⟨hj,hs,rfl⟩
 refine Wp.aA xA1 (by trivial) ?_
 refine Wp.seq ?_
 refine Wp.cw (b:=decide ((j:Int)<(l.length:Int))) xA2 (fun hc=>?_) (fun hc=>?_)
 ·have h1:(0:Int)≤(j:Int):=by omega
  have h2:(j:Int)<(l.length:Int):=by simpa using hc
  have h3:j<l.length:=by omega
  have hq:=hp _ (List.getElem_mem h3)
  rw[←au (d:=default) h3] at hq
  refine Wp.skip ?_
  refine Wp.seq ?_
  refine Wp.block ?_
  refine Wp.aA xA1 (by trivial) ?_
  refine Wp.seqItems (by simp only[go_sem,reduceIte,Nat.reduceEqDiff,Nat.reduceAdd,bx,ay,h1,h2,and_self,if_true,Int.toNat_natCast,bz _ _ _ h3,aZ];exact rfl) ?_
  refine aa.nX [] [F] [] (by simp only[go_sem]) (by simp only[go_sem,reduceIte,Nat.reduceEqDiff];exact rfl) hf hb hn xA4 hq on.ok fun r G' n2 m2 ids hqq hn2 hm2 ok2 wi ki=>?_
  obtain ⟨rfl,rfl⟩:=hqq
  simp only[List.nil_append,List.append_nil] at ok2 wi ki ⊢
  have on2:On [F] n1 m1 [F] n2 _ m2:=⟨hn2,hm2,ok2,wi,ki⟩
  refine aa.eval xA1 ?_
  refine aa.nil ⟨by trivial,?_⟩
  rw[au h3]
  refine Wp.cw (b:=p l[j]) xA2 (fun hd=>?_) (fun hd=>?_)
  ·refine Wp.aA xA1 (by trivial) ?_
   refine Wp.ret ⟨trivial,_,rfl,_,_,((on.step on2).ends (ab.refl _) ⟨?_,rfl⟩)⟩
   rw[jE h3 hd hs];rfl
  ·refine Wp.skip ?_
   refine Wp.ld (by simp only[go_sem,reduceIte,Nat.reduceEqDiff,Nat.reduceAdd,bx];simp (disch:=omega) only[IntWalk.i64_in];exact rfl) (by trivial) ?_
   refine ⟨j+1,[F],n2,_,m2,on2,⟨by omega,fun i hi h=>?_,rfl⟩,by omega,?_⟩
   ·by_cases he:i=j
    ·subst he;exact hd
    ·exact hs i hi (by omega)
   ·exact xSu
 ·have:¬(j:Int)<(l.length:Int):=by simpa using hc
  refine Wp.exit ?_
  refine Wp.aA xA1 (by trivial) ?_
  refine Wp.ret ⟨trivial,_,rfl,_,_,(on.ends (ab.refl _) ⟨?_,rfl⟩)⟩
  rw[ka fun i hi=>hs i hi (by omega)];rfl
theorem o8 {F:Fr} (hk:F.k=[]) (l:List Bs) (hl:l.length≤4611686018427387904) (p:Bs→Bool) {g:FuncId} {fn:Func} (hf:Tryz.prog.funcs[g]? =some fn) (hb:fn.body.isSome=true) (hn:fn.name≠ "runtime.NumGoroutine") (caps:List AV)
  (hp:∀c∈l,jN g (.str c::caps) F (p c)):
  jN 59 [.sl 1 (strs l) .any,.clo (.func g) [] caps] F (l.any p):=by
 refine f59.bw (by simp) fun n m ok=>?_
 unfold c59
 simp only[C.zz]
 refine rn0 @dM ?_
 refine aa.iS xA2 xA3 (ua hk l hl p hf hb hn caps hp) (hk) (ok) fun n1 m1 ids on hids=>?_
 refine aa.evR (by simp only[go_sem,reduceIte,Nat.reduceEqDiff,Nat.reduceAdd,bx,dM];exact rfl) ?_
 refine rn0 @dM ?_
 exact Wp.ret ⟨trivial,_,rfl,_,_,on.ends (ab.refl _) ⟨rfl,rfl⟩⟩
theorem qP {F:Fr} (hk:F.k=[]) (l:List Sp) (hl:l.length≤4611686018427387904) (p:Sp→Bool) {g:FuncId} {fn:Func} (hf:Tryz.prog.funcs[g]? =some fn) (hb:fn.body.isSome=true) (hn:fn.name≠ "runtime.NumGoroutine") (caps:List AV)
  (hp:∀c∈l,jN g (aZ c::caps) F (p c)):
  jN 104 [.sl 2 (sps l) .any,.clo (.func g) [] caps] F (l.any p):=by
 refine f104.bw (by simp) fun n m ok=>?_
 unfold BP
 simp only[C.zz]
 refine rn0 @dM ?_
 refine aa.iS xA2 xA3 (wT hk l hl p hf hb hn caps hp) (hk) (ok) fun n1 m1 ids on hids=>?_
 refine aa.evR (by simp only[go_sem,reduceIte,Nat.reduceEqDiff,Nat.reduceAdd,bx,dM];exact rfl) ?_
 refine rn0 @dM ?_
 exact Wp.ret ⟨trivial,_,rfl,_,_,on.ends (ab.refl _) ⟨rfl,rfl⟩⟩
def ub (x:AV) (F:Fr) (t:Int) (w:Bs→Bs→Bool):Prop:=∀a b,jN 58 [x,.str a,.str b,.int .i64 t] F (w a b)
theorem yR {x:AV} {F:Fr} {t:Int} {w:Bs→Bs→Bool} (hk:F.k=[]) (hw:ub x F t w) (q:Bs) (hq:q.length≤4611686018427387904):jN 103 [.str q,.ref [x],.ref [.int .i64 t]] F (w q (q++[0])):=by
 refine f103.bw (by simp) fun n m ok=>?_
 unfold CA
 simp only[C.zz]
 have hadd:q.length+1<9223372036854775808:=by omega
 have hw2:=hw q (q++[0])
 refine rn0 (cj4 @List.length_cons.{0} @List.length_nil.{0} @Nat.zero_add hadd) ?_
 refine aa.iS xA2 xA3 (hw2) (hk) (ok) fun n1 m1 ids on hids=>?_
 refine aa.evR xA1 ?_
 refine rn0 hadd ?_
 exact Wp.ret ⟨trivial,_,rfl,_,_,on.ends (ab.refl _) ⟨rfl,rfl⟩⟩
theorem yS {x:AV} {F:Fr} {t:Int} {w:Bs→Bs→Bool} (hk:F.k=[]) (hw:ub x F t w) (s:Sp):jN 105 [aZ s,.ref [x],.ref [.int .i64 t]] F (w s.f s.t):=by
 refine f105.qw (by simp) fun n m ok=>?_
 unfold CB
 simp only[C.zz]
 have hw2:=hw s.f s.t
 have ok2:=ok.more (.cells [.str s.f,.str s.t])
 have gb:∀L,lay (ob n (.cells [.str s.f,.str s.t])::L) n=some (.cells [.str s.f,.str s.t]):=fun L=>aH _ _ _
 refine rn0 @aZ.eq_1 ?_
 rw[bm]
 refine rn0 gb ?_
 refine aa.iR ([_]) ([]) xA2 xA3 (hw2) (hk) (ok2) fun n1 m1 ids hn1 hm1 hids ok3=>?_
 simp only[List.cons_append,List.nil_append] at ok3 ⊢
 refine aa.evR xA1 ?_
 refine rn0 gb ?_
 exact Wp.ret ⟨trivial,_,rfl,ab.refl _,fun j hj=>br _ _ (by omega),fun t ht=>by simp[ks,hk] at ht⟩
def jc (k:List Bs) (l:List Sp) (w:Bs→Bs→Bool):Bool:=bb k l&&((k.any fun q=>w q (q++[0]))||l.any fun s=>w s.f s.t)
set_option maxHeartbeats 2000000 in
theorem AQ {x:AV} {F:Fr} {t:Int} {w:Bs→Bs→Bool} (hx:x= .sc (.pointer none)∨∃s,x= .ptr s 0∧(F.o s).isSome=true) (hk:F.k=[]) (hw:ub x F t w) (k:List Bs) (l:List Sp) (lk:∀q∈k,q.length≤4611686018427387904):
  jN 60 [cP k l,x,.int .i64 t] F (jc k l w):=by
 refine f60.qw (by simp) fun n m ok=>?_
 unfold c60
 simp only[C.zz]
 have hck:=gX k l
 unfold cP at hck
 have e1:decide (n≤n)=true:=decide_eq_true (by omega)
 have e2:decide (n≤n+1)=true:=decide_eq_true (by omega)
 have e3:decide (n≤n+1+1)=true:=decide_eq_true (by omega)
 have f1:(n=n+1+1)=False:=eq_false (by omega)
 have f2:(n=n+1)=False:=eq_false (by omega)
 have f3:(n+1=n+1+1)=False:=eq_false (by omega)
 have ok1:Ok [F] (n+1+1+1) (ks [F]) m:=ok.grow (by omega) (Nat.le_refl _)
 have ole:∀a b c:Av.Obj,OLe (H.drop ⟨upd (upd (upd (lay [F]) n (some a)) (n+1) (some b)) (n+1+1) (some c),n+1+1+1,ks [F],m⟩ fun j=>decide (n≤j)).objs (lay [F]):=fun a b c j o hj=>by
  have hjn:j<n:=by
   rcases Nat.lt_or_ge j n with h|h
   ·exact h
   ·rw[ok.fA h] at hj;cases hj
  refine ⟨o,?_,bW.refl _⟩
  simp only[H.drop,upd]
  rw[if_neg (by simp;omega),if_neg (by omega),if_neg (by omega),if_neg (by omega)];exact hj
 have c1:=fun (hc:bb k l=true)=>o8 hk k (by have:=(cF hc).1;omega) (fun q=>w q (q++[0])) Tryz.func103 rfl (of_decide_eq_true (by kernel_rfl)) [.ref [x],.ref [.int .i64 t]] (fun c hc2=>yR hk hw c (lk c hc2))
 have c2:=fun (hc:bb k l=true)=>qP hk l (by have:=(cF hc).2.1;omega) (fun s=>w s.f s.t) Tryz.func105 rfl (of_decide_eq_true (by kernel_rfl)) [.ref [x],.ref [.int .i64 t]] (fun c _=>yS hk hw c)
 have d4:decide ((4:Int)=0)=false:=rfl
 have d0:decide ((0:Int)=0)=true:=rfl
 rcases hx with e|⟨s,e,hs⟩
 ·clear hw
  subst e
  refine Wp.aA (by simp only[go_sem,reduceIte,Nat.reduceEqDiff,Nat.reduceAdd,bx,cP];exact rfl) (by trivial) ?_
  refine Wp.frz (fun j=>decide (n≤j)) [(3,.ref [.sl 1 (strs k) .any,.sl 2 (sps l) .any]),(4,.ref [.sc (.pointer none)]),(5,.ref [.int .i64 t])] ⟨lay [F],n+1+1+1,ks [F],m⟩ ?_ (ole _ _ _) (fun t ht=>ht) (Nat.le_refl _) (Nat.le_refl _) ?_
  ·simp only[aC,go_sem,reduceIte,Nat.reduceEqDiff,unT,bx,e1,e2,e3,f1,f2,f3,if_false,if_true,List.drop_zero]
   and_intros<;>first|exact ab.refl _|trivial
  cases hc:bb k l with
  |false=>
   rw[hc] at hck
   simp only[Bool.false_eq_true,if_false] at hck
   refine rn1 d4 hck ?_
   refine Wp.ret ⟨trivial,_,rfl,?_,fun j hj=>rfl,fun t ht=>ht⟩
   rw[jc,hc];exact ab.refl _
  |true=>
   rw[hc] at hck
   simp only[if_true] at hck
   have k1:=c1 hc
   have k2:=c2 hc
   refine rn1 d0 hck ?_
   cases hb1:(k.any fun q=>w q (q++[0])) with
   |true=>
    rw[hb1] at k1
    refine aa.iS xA2 xA3 (k1) (hk) (ok1) fun n1 m1 ids1 on1 hids1=>?_
    refine aa.evR xA1 ?_
    refine rn0 d0 ?_
    refine Wp.ret ⟨trivial,_,rfl,?_,fun j hj=>rfl,fun t ht=>by simp[ks,hk] at ht⟩
    rw[jc,hc,hb1];exact ab.refl _
   |false=>
    rw[hb1] at k1
    refine aa.iS xA2 xA3 (k1) (hk) (ok1) fun n1 m1 ids1 on1 hids1=>?_
    refine aa.evR xA1 ?_
    refine rn0 d0 ?_
    refine aa.iS xA2 xA3 (k2) (hk) (on1.ok) fun n2 m2 ids2 on2 hids2=>?_
    refine aa.evR xA1 ?_
    refine rn0 d0 ?_
    refine Wp.ret ⟨trivial,_,rfl,?_,fun j hj=>rfl,fun t ht=>by simp[ks,hk] at ht⟩
    rw[jc,hc,hb1];exact ab.refl _
 ·clear hw
  subst e
  refine Wp.aA (by simp only[go_sem,reduceIte,Nat.reduceEqDiff,Nat.reduceAdd,bx,cP];exact rfl) (by trivial) ?_
  refine Wp.frz (fun j=>decide (n≤j)) [(3,.ref [.sl 1 (strs k) .any,.sl 2 (sps l) .any]),(4,.ref [.ptr s 0]),(5,.ref [.int .i64 t])] ⟨lay [F],n+1+1+1,ks [F],m⟩ ?_ (ole _ _ _) (fun t ht=>ht) (Nat.le_refl _) (Nat.le_refl _) ?_
  ·simp only[aC,go_sem,reduceIte,Nat.reduceEqDiff,unT,bx,e1,e2,e3,f1,f2,f3,if_false,if_true,List.drop_zero]
   and_intros<;>first|exact ab.refl _|trivial
  cases hc:bb k l with
  |false=>
   rw[hc] at hck
   simp only[Bool.false_eq_true,if_false] at hck
   refine rn1 d4 hck ?_
   refine Wp.ret ⟨trivial,_,rfl,?_,fun j hj=>rfl,fun t ht=>ht⟩
   rw[jc,hc];exact ab.refl _
  |true=>
   rw[hc] at hck
   simp only[if_true] at hck
   have k1:=c1 hc
   have k2:=c2 hc
   refine rn1 d0 hck ?_
   cases hb1:(k.any fun q=>w q (q++[0])) with
   |true=>
    rw[hb1] at k1
    refine aa.iS xA2 xA3 (k1) (hk) (ok1) fun n1 m1 ids1 on1 hids1=>?_
    refine aa.evR xA1 ?_
    refine rn0 d0 ?_
    refine Wp.ret ⟨trivial,_,rfl,?_,fun j hj=>rfl,fun t ht=>by simp[ks,hk] at ht⟩
    rw[jc,hc,hb1];exact ab.refl _
   |false=>
    rw[hb1] at k1
    refine aa.iS xA2 xA3 (k1) (hk) (ok1) fun n1 m1 ids1 on1 hids1=>?_
    refine aa.evR xA1 ?_
    refine rn0 d0 ?_
    refine aa.iS xA2 xA3 (k2) (hk) (on1.ok) fun n2 m2 ids2 on2 hids2=>?_
    refine aa.evR xA1 ?_
    refine rn0 d0 ?_
    refine Wp.ret ⟨trivial,_,rfl,?_,fun j hj=>rfl,fun t ht=>by simp[ks,hk] at ht⟩
    rw[jc,hc,hb1];exact ab.refl _
theorem p8:∀(x q:Bs),(!Op.bytesLess x q&&Op.bytesLess x (q++[0]))=decide (x=q)
 |[],[]=>by simp[Op.bytesLess]
 |a::x,[]=>by cases x<;>simp[Op.bytesLess]
 |[],b::q=>by simp[Op.bytesLess]
 |a::x,b::q=>by
  have ih:=p8 x q
  simp only[List.cons_append,Op.bytesLess]
  by_cases h1:a<b
  ·have:a≠b:=fun e=>by rw[e] at h1;exact absurd h1 (by simp)
   simp[h1,this]
  ·by_cases h2:a=b
   ·subst h2
    simp only[h1,decide_false,Bool.false_or,beq_self_eq_true,Bool.true_and]
    rw[ih];simp
   ·have:(a == b)=false:=by simp[h2]
    simp[h1,h2,this]
theorem BF {g:Nat→Option Av.Obj} {A B B':Av.Obj} (h1:g 0=some A) (h2:g 1=some B) (hs:bW B B'):OLe g (upd (upd ag 0 (some A)) 1 (some B')):=OLe.put (OLe.at h1) h2 hs
def mkR (l:List Sp) (ks:List Bs):List Bs:=ks.filter fun x=> !aE l x
theorem yU (l:List Sp) {ks:List Bs} {j:Nat} (h:j<ks.length):mkR l (ks.take (j+1))=if aE l (ks.getD j [])=true then mkR l (ks.take j) else mkR l (ks.take j)++[ks.getD j []]:=by
 rw[Av.bt [] h,mkR,List.filter_append,List.filter_cons,List.filter_nil]
 cases aE l (ks.getD j [])<;>simp[mkR]
set_option maxHeartbeats 1000000 in
theorem u6 (ks:List Bs) (l:List Sp) (hk:ks.length≤1000) (hl:l.length≤1000) (lk:LsK ks) (ll:LsS l):aB Tryz.prog 115 [.sl 1 (strs ks) .any,.sl 2 (sps l) .any] (.tup [cP (mkR l ks) l,.bool (decide ((mkR l ks).length≤64)&&decide (l.length≤64))]):=by
 refine f115.aJ (by simp) (by simp[al,av,aK,eo,cX]) (by simp[av,al,ep]) ?_
 unfold CF
 simp only[C.zz]
 refine rn0 @an ?_
 refine Wp.le (aU.tok _ _) ?_
 refine Wp.le (aU.of (fun i=>ab.refl _) (BF (A:= .cells [.sl 1 [] (.exact 0),.sl 2 [] (.exact 0)]) (B:= .cells [.sl 1 [] (.exact 0),.sl 2 [] (.exact 0)]) (B':= .cells [.sl 1 (strs []) (.own 0),.sl 2 [] (.exact 0)]) (by simp[upd]) (by simp[upd]) (af.cons (ab.eN rfl) (af.refl _))) (fun _ h=>h) (Nat.le_refl _) (Nat.le_refl _)) ?_
 refine Wp.mL (β:=Nat × Nat × Nat) [0,1,4,6] xA7 (fun j=>[(7,.int .i64 (j.1:Nat))]) (fun j=>⟨upd (upd ag 0 (some (.cells [.sl 1 [] (.exact 0),.sl 2 [] (.exact 0)]))) 1 (some (.cells [.sl 1 (strs (mkR l (ks.take j.1))) (.own j.2.1),.sl 2 [] (.exact 0)])),2,[j.2.1],j.2.2⟩) (fun j=>j.1≤ks.length) (fun j=>ks.length - j.1) (0,0,1) (Nat.zero_le _) rfl ?_ ?_
 ·exact xSb
 rintro ⟨j,tk,m⟩ hj
 simp only at hj ⊢
 have hfl:(mkR l (ks.take j)).length≤1000:=by
  have:=List.length_filter_le (fun x=> !aE l x) (ks.take j)
  rw[List.length_take] at this
  unfold mkR;omega
 have r1:((mkR l (ks.take j)).length+1)*16≤140737488355328:=by omega
 have r2:(mkR l (ks.take j)).length+1<4611686018427387904:=by omega
 by_cases hc:j<ks.length
 ·obtain ⟨g1,h2,h3,e1⟩:=ixF (j:=j) (n:=ks.length) (by omega) (by omega)
  have hsp:=gL l (by omega) ll (ks.getD j []) (lk j)
  have hsn:=yU l hc
  generalize hnx:mkR l (ks.take (j+1))=nx at*
  generalize mkR l (ks.take j)=o at*
  cases hb:aE l (ks.getD j []) with
  |true=>
   rw[hb] at hsp hsn
   refine rn1 (cj6 g1 h2 h3 e1 @an (fun d=>ba _ _ d hc)) hsp ?_
   refine ⟨(j+1,tk,m),by simp only;omega,by simp only;omega,?_⟩
   rw[if_pos rfl] at hsn
   simp only[hnx,hsn]
   exact xSu
  |false=>
   rw[hb] at hsp hsn
   refine rn1 (nZ g1 h2 h3 e1 @an (fun d=>ba _ _ d hc) @List.length_cons.{0} @List.length_nil.{0} @Nat.zero_add r1 r2) hsp ?_
   rw[if_neg Bool.false_ne_true] at hsn
   have hss:strs o++[.str (ks.getD j [])]=strs (o++[ks.getD j []]):=by simp[strs]
   refine ⟨(j+1,m,m+1),by simp only;omega,by simp only;omega,?_⟩
   simp only[hnx,hsn]
   refine aU.of (cR ?_) (BF (A:= .cells [.sl 1 [] (.exact 0),.sl 2 [] (.exact 0)]) (B:= .cells [.sl 1 (strs o++[.str (ks.getD j [])]) (.own m),.sl 2 [] (.exact 0)]) (by simp[upd]) (by simp[upd]) (af.cons (ab.of_eq (by rw[hss])) (af.refl _))) (fun _ h=>h) (Nat.le_refl _) (Nat.le_refl _)
   exact xSb
 ·have hje:j=ks.length:=by omega
  subst hje
  have g1:=ixE (ks.length)
  rw[List.take_length] at*
  have c1:decide (((mkR l ks).length:Int)≤64)=decide ((mkR l ks).length≤64):=by simp;omega
  have c2:decide ((l.length:Int)≤64)=decide (l.length≤64):=by simp;omega
  cases hd:decide ((mkR l ks).length≤64) with
  |true=>
   rw[hd] at c1
   refine rn0 (cj5 g1 @an @ay c1 c2) ?_
   refine aM ?_
   exact ab.tup (af.cons (ab.agg (af.cons ab.own (af.refl _))) (af.refl _))
  |false=>
   rw[hd] at c1
   refine rn0 (cj5 g1 @an @ay c1 c2) ?_
   refine aM ?_
   exact ab.tup (af.cons (ab.agg (af.cons ab.own (af.refl _))) (af.refl _))
def kGo (q:Bs):Bool→List Bs→List Bs
 |laid,[]=>if laid then [] else [q]
 |laid,p::l=>(if laid=false∧Op.bytesLess p q=false then [q] else [])++((if p=q then [] else [p])++kGo q (laid|| !Op.bytesLess p q) l)
theorem sF (q:Bs):∀l:List Bs,(∀p∈l,p≠q)→kGo q true l=l
 |[],_=>rfl
 |p::l,h=>by
  rw[kGo,if_neg (h p (by simp))]
  simp only[Bool.true_eq_false,false_and,if_false,List.nil_append,Bool.true_or,List.singleton_append]
  rw[sF q l fun x hx=>h x (by simp[hx])]
theorem oS (x:Bs) (k:List Bs) (q:Bs):place (x::k) q=if Op.bytesLess x q=true then place k q+1 else 0:=by
 simp only[place,List.findIdx_cons]
 cases h:Op.bytesLess x q<;>simp
theorem uc (x:Bs) (k:List Bs) (q:Bs):there (x::k) q=if Op.bytesLess x q=true then there k q else decide (x=q):=by
 simp only[there,oS]
 cases h:Op.bytesLess x q<;>simp
theorem yV (x:Bs) (k:List Bs) (q:Bs):ja (x::k) q=if Op.bytesLess x q=true then x::ja k q else if x=q then x::k else q::x::k:=by
 simp only[ja,uc,oS]
 by_cases h:Op.bytesLess x q=true
 ·simp only[if_pos h,List.take_succ_cons,List.drop_succ_cons,List.cons_append]
  split<;>rfl
 ·simp only[if_neg h]
  by_cases e:x=q<;>simp[e]
theorem ud (q:Bs):∀k:List Bs,bE k→kGo q false k=ja k q
 |[],_=>by simp[kGo,ja,there,place]
 |x::k,hr=>by
  obtain ⟨h1,h2⟩:=List.pairwise_cons.1 hr
  have ih:=ud q k h2
  rw[yV,kGo]
  by_cases h:Op.bytesLess x q=true
  ·have hn:x≠q:=fun e=>by rw[e,aW] at h;cases h
   rw[if_pos h,←ih]
   simp[h,hn]
  ·have h':Op.bytesLess x q=false:=by simpa using h
   have ht:=sF q k fun y hy e=>by
    have:=h1 y hy
    rw[e,h'] at this;cases this
   rw[if_neg h]
   by_cases e:x=q
   ·subst e;simp[h',ht]
   ·simp[h',e,ht]
theorem u7 (q:Bs):∀(l:List Bs) (b:Bool),(kGo q b l).length≤l.length+1
 |[],b=>by cases b<;>simp[kGo]
 |p::l,b=>by
  have key:∀(l:List Bs),(kGo q true l).length≤l.length:=by
   intro l
   induction l with
   |nil=>simp[kGo]
   |cons p l ih=>
    rw[kGo]
    simp only[Bool.true_eq_false,false_and,if_false,List.nil_append,Bool.true_or,List.length_append,List.length_cons]
    split<;>simp<;>omega
  have h1:=key l
  have h2:=u7 q l false
  rw[kGo]
  cases b<;>cases Op.bytesLess p q<;>by_cases hk:p=q<;>simp[hk] <;>omega
set_option maxHeartbeats 2000000 in
theorem Cf (k:List Bs) (l:List Sp) (lk:LsK k) (ll:LsS l) (q:Bs) (hq:Ls q):aB Tryz.prog 73 [cP k l,.str q] (bQ (dF k l q)):=by
 refine f73.aJ (by simp) (by simp[al,av,ep]) (gu _) ?_
 unfold c73
 simp only[C.zz]
 have hr:=gl k l lk ll
 unfold cP at hr
 cases hc:bb k l with
 |false=>
  rw[hc] at hr
  refine rn1 @cP.eq_1 hr ?_
  refine aM ?_
  rw[dF,hc];exact fI 4
 |true=>
 rw[hc] at hr
 obtain ⟨b1,b2,b3,b4⟩:=cF hc
 have hri:=(kx b4).1
 refine rn1 @cP.eq_1 hr ?_
 refine Wp.le (aU.tok _ _) ?_
 refine Wp.fH [1,2,4,5] xA7 (fun (j:Nat × List Bs × Bool) tk=>[(6,.sl 1 (strs j.2.1) (.own tk)),(7,.bool j.2.2),(8,.int .i64 (j.1:Nat))]) (fun j=>j.1≤k.length∧j.2.1++kGo q j.2.2 (k.drop j.1)=kGo q false k∧j.2.1.length≤2*j.1) (fun j=>k.length - j.1) (0,[],false) _ ⟨Nat.zero_le _,by simp,Nat.le_refl _⟩ rfl ?_ ?_
 ·simp only[aC,go_sem,reduceIte,Nat.reduceEqDiff,Nat.reduceAdd,bx];and_intros<;>first|exact trivial|exact ab.refl _|exact ab.any _|exact ab.eN rfl|(refine ab.int ?_;omega)
 rintro ⟨j,o,b⟩ tk m ⟨hj,ho,hol⟩
 simp only at hj ho hol
 have g0:(o.length+1)*16≤140737488355328:=by omega
 have g0':o.length+1<4611686018427387904:=by omega
 have g1':(o.length+1+1)*16≤140737488355328:=by omega
 have g1'':o.length+1+1<4611686018427387904:=by omega
 have snoc:∀(o:List Bs) (x:Bs),strs o++[.str x]=strs (o++[x]):=fun o x=>by simp[strs]
 by_cases hcj:j<k.length
 ·obtain ⟨g1,h2,h3,e1⟩:=ixF (j:=j) (n:=k.length) (by omega) (by omega)
  have hdr:k.drop j=k.getD j []::k.drop (j+1):=by
   rw[List.drop_eq_getElem_cons hcj,Av.au hcj]
  rw[hdr,kGo] at ho
  have hbel:=cN (k.getD j []) q (lk j) hq
  have hsg:=ba k j .any hcj
  generalize k.getD j []=x at*
  by_cases hk:x=q
  ·have q4:decide (x=q)=true:=decide_eq_true hk
   rw[if_pos hk,List.nil_append] at ho
   cases b with
   |true=>
    simp only[Bool.true_eq_false,false_and,if_false,List.nil_append,Bool.true_or] at ho
    refine rn0 (cj7 @an g1 h2 h3 q4 e1 hsg) ?_
    refine ⟨(j+1,o,true),tk,m,⟨by simp only;omega,ho,by simp only;omega⟩,by simp only;omega,?_⟩
    exact xSu
   |false=>
    have hb:Op.bytesLess x q=false:=by rw[hk,aW]
    rw[hb] at hbel ho
    simp only[true_and,and_self,if_true,Bool.not_false,Bool.or_true] at ho
    refine rn1 (bN @an g1 h2 h3 q4 e1 hsg @List.length_cons.{0} @List.length_nil.{0} @Nat.zero_add g0 g0') hbel ?_
    refine ⟨(j+1,o++[q],true),m,m+1,⟨by simp only;omega,by rw[←ho];simp,by simp;omega⟩,by simp only;omega,?_⟩
    refine aU.tm (by simp only[aC,go_sem,reduceIte,Nat.reduceEqDiff,Nat.reduceAdd,bx];and_intros<;>first|exact trivial|exact ab.refl _|exact ab.any _|exact ab.of_eq (by rw[snoc])|(refine ab.int ?_;omega))
  ·have q4:decide (x=q)=false:=decide_eq_false hk
   rw[if_neg hk] at ho
   cases b with
   |true=>
    simp only[Bool.true_eq_false,false_and,if_false,List.nil_append,Bool.true_or] at ho
    refine rn0 (bN @an g1 h2 h3 q4 e1 hsg @List.length_cons.{0} @List.length_nil.{0} @Nat.zero_add g0 g0') ?_
    refine ⟨(j+1,o++[x],true),m,m+1,⟨by simp only;omega,by rw[←ho];simp,by simp;omega⟩,by simp only;omega,?_⟩
    refine aU.tm (by simp only[aC,go_sem,reduceIte,Nat.reduceEqDiff,Nat.reduceAdd,bx];and_intros<;>first|exact trivial|exact ab.refl _|exact ab.any _|exact ab.of_eq (by rw[snoc])|(refine ab.int ?_;omega))
   |false=>
    cases hb:Op.bytesLess x q with
    |true=>
     rw[hb] at hbel ho
     simp only[Bool.true_eq_false,and_false,if_false,List.nil_append,Bool.not_true,Bool.or_self] at ho
     refine rn1 (bN @an g1 h2 h3 q4 e1 hsg @List.length_cons.{0} @List.length_nil.{0} @Nat.zero_add g0 g0') hbel ?_
     refine ⟨(j+1,o++[x],false),m,m+1,⟨by simp only;omega,by rw[←ho];simp,by simp;omega⟩,by simp only;omega,?_⟩
     refine aU.tm (by simp only[aC,go_sem,reduceIte,Nat.reduceEqDiff,Nat.reduceAdd,bx];and_intros<;>first|exact trivial|exact ab.refl _|exact ab.any _|exact ab.of_eq (by rw[snoc])|(refine ab.int ?_;omega))
    |false=>
     rw[hb] at hbel ho
     simp only[true_and,and_self,if_true,Bool.not_false,Bool.or_true] at ho
     refine rn1 (bN @an g1 h2 h3 q4 e1 hsg @List.length_cons.{0} @List.length_nil.{0} @Nat.zero_add g0 (cj3 g0' g1' g1'')) hbel ?_
     refine ⟨(j+1,o++[q]++[x],true),m+1,m+2,⟨by simp only;omega,by rw[←ho];simp,by simp;omega⟩,by simp only;omega,?_⟩
     refine aU.tm (by simp only[aC,go_sem,reduceIte,Nat.reduceEqDiff,Nat.reduceAdd,bx];and_intros<;>first|exact trivial|exact ab.refl _|exact ab.any _|exact ab.of_eq (by rw[←snoc,←snoc])|(refine ab.int ?_;omega))
 ·obtain rfl:j=k.length:=by omega
  have g1:=ixE (k.length)
  rw[List.drop_length,kGo] at ho
  have hlen:=u7 q k false
  have hins:LsK (kGo q false k):=by
   refine LsK.of fun s hs=>?_
   rw[ud q k hri] at hs
   rcases (nB hri q s).1 hs with h|h
   ·obtain ⟨i,hi,rfl⟩:=List.mem_iff_getElem.1 h
    have:=lk i
    rwa [Av.au hi] at this
   ·rw[h];exact hq
  have hm:=u6 (kGo q false k) l (by omega) (by omega) hins ll
  have hres:dF k l q=if (decide ((mkR l (kGo q false k)).length≤64)&&decide (l.length≤64))=true then (mkR l (kGo q false k),l,0) else ([],[],9):=by
   rw[dF,if_pos hc,cY,ud q k hri];rfl
  rw[hres]
  unfold cP at hm
  generalize hok:(decide ((mkR l (kGo q false k)).length≤64)&&decide (l.length≤64))=okb at*
  have fin:∀(tkk:AV),True:=fun _=>trivial
  cases b with
  |true=>
   simp only[if_true,List.append_nil] at ho
   rw[←ho] at hm ⊢
   cases okb
   ·refine rn1 (cj2 @an g1) hm ?_
    refine aM ?_
    exact fI 9
   ·refine rn1 (cj2 @an g1) hm ?_
    refine aM ?_
    exact ab.refl _
  |false=>
   simp only[Bool.false_eq_true,if_false] at ho
   rw[←ho] at hm ⊢
   have fit:af [.sl 1 (strs o++[.str q]) (.own m),.sl 2 (sps l) .any] [.sl 1 (strs (o++[q])) .any,.sl 2 (sps l) .any]:=by
    rw[snoc];exact af.cons ab.own (af.refl _)
   cases okb
   ·refine rn1 (cj7 @an g1 @List.length_cons.{0} @List.length_nil.{0} @Nat.zero_add g0 g0') hm ?_
    refine aM ?_
    exact fI 9
   ·refine rn1 (cj7 @an g1 @List.length_cons.{0} @List.length_nil.{0} @Nat.zero_add g0 g0') hm ?_
    refine aM ?_
    exact ab.refl _
structure RS where
 x:Sp
 a:List Sp
 b:List Sp
def eA (x y:Sp):Sp:=⟨if Op.bytesLess y.f x.f=true then y.f else x.f,if y.t=[]∨(x.t≠[]∧Op.bytesLess x.t y.t=true) then y.t else x.t⟩
theorem sG (x y:Sp):eA x y=fN x y:=by
 unfold eA fN
 have e1:(if Op.bytesLess y.f x.f=true then y.f else x.f)=if (Op.bytesLess x.f y.f||decide (x.f=y.f))=true then x.f else y.f:=by
  rcases cf x.f y.f with h|h|h
  ·have:Op.bytesLess y.f x.f=false:=by
    cases h2:Op.bytesLess y.f x.f with
    |false=>rfl
    |true=>have:=bp h h2;rw[aW] at this;cases this
   simp[h,this]
  ·simp[h,aW]
  ·have h2:Op.bytesLess x.f y.f=false:=by
    cases h2:Op.bytesLess x.f y.f with
    |false=>rfl
    |true=>have:=bp h h2;rw[aW] at this;cases this
   have h3:x.f≠y.f:=fun e=>by rw[e,aW] at h;cases h
   simp[h,h2,h3]
 have e2:(if y.t=[]∨(x.t≠[]∧Op.bytesLess x.t y.t=true) then y.t else x.t)=if x.t=[] then [] else if y.t=[] then [] else if (!Op.bytesLess x.t y.t)=true then x.t else y.t:=by
  by_cases h1:y.t=[]
  ·by_cases h2:x.t=[] <;>simp[h1,h2]
  ·by_cases h2:x.t=[]
   ·simp[h1,h2]
   ·cases h3:Op.bytesLess x.t y.t<;>simp[h1,h2,h3]
 rw[e1,e2]
def fZ (s:RS) (y:Sp):RS:=
 if bg y s.x=true then ⟨s.x,s.a++[y],s.b⟩ else if bg s.x y=true then ⟨s.x,s.a,s.b++[y]⟩ else ⟨eA s.x y,s.a,s.b⟩
def ff (l:List Sp) (x:Sp):RS:=l.foldl fZ ⟨x,[],[]⟩
structure Rel (s:SS) (r:RS) (rest:List Sp):Prop where
 x:s.x=r.x
 has:hasB r.x=true
 op:s.laid=false→r.b=[]∧s.out=r.a
 sh:s.laid=true→s.out=r.a++[r.x]++r.b∧∀z∈rest,bg r.x z=true
theorem AR {x y:Sp} (hx:hasB x=true) (hy:hasB y=true) (h:bg x y=true):bg y x=false:=by
 cases h2:bg y x with
 |false=>rfl
 |true=>
  have:=fP h hy h2
  obtain ⟨a,b⟩:=gv.1 this
  rcases fJ.1 hx with e|e
  ·exact absurd e a
  ·have:=bp e b
   rw[aW] at this;cases this
theorem yW:∀(l:List Sp) (s:SS) (r:RS),NF l→Rel s r l→Rel (l.foldl cb s) (l.foldl fZ r) []
 |[],s,r,_,h=>h
 |y::l,s,r,hn,h=>by
  have hy:=hn.1 y (by simp)
  have hap:=(List.pairwise_cons.1 hn.2).1
  rw[List.foldl_cons,List.foldl_cons]
  refine yW l _ _ (lz hn) ?_
  obtain ⟨hx,hh,hop,hsh⟩:=h
  have eS:cb s y=if bg y r.x=true then ⟨r.x,s.laid,s.out++[y]⟩ else if bg r.x y=false then ⟨fN r.x y,s.laid,s.out⟩ else if s.laid=false then ⟨r.x,true,s.out++[r.x]++[y]⟩ else ⟨r.x,true,s.out++[y]⟩:=by unfold cb;rw[hx]
  cases hl:s.laid with
  |false=>
   obtain ⟨o1,o2⟩:=hop hl
   cases c1:bg y r.x with
   |true=>
    have e1:cb s y=⟨r.x,false,s.out++[y]⟩:=by rw[eS,c1,hl];simp
    have e2:fZ r y=⟨r.x,r.a++[y],r.b⟩:=by unfold fZ;rw[c1];simp
    rw[e1,e2]
    exact ⟨rfl,hh,fun _=>⟨o1,by simp only;rw[o2]⟩,fun h=>by simp at h⟩
   |false=>
    cases c2:bg r.x y with
    |false=>
     have e1:cb s y=⟨fN r.x y,false,s.out⟩:=by rw[eS,c1,c2,hl];simp
     have e2:fZ r y=⟨eA r.x y,r.a,r.b⟩:=by unfold fZ;rw[c1,c2];simp
     rw[e1,e2]
     exact ⟨(sG _ _).symm,by simp only;rw[sG];exact rY hh hy,fun _=>⟨o1,o2⟩,fun h=>by simp at h⟩
    |true=>
     have e1:cb s y=⟨r.x,true,s.out++[r.x]++[y]⟩:=by rw[eS,c1,c2,hl];simp
     have e2:fZ r y=⟨r.x,r.a,r.b++[y]⟩:=by unfold fZ;rw[c1,c2];simp
     rw[e1,e2]
     exact ⟨rfl,hh,fun h=>by simp at h,fun _=>⟨by simp only;rw[o1,o2];simp,fun z hz=>fP c2 hy (hap z hz)⟩⟩
  |true=>
   obtain ⟨o1,o2⟩:=hsh hl
   have c2:=o2 y (by simp)
   have c1:=AR hh hy c2
   have e1:cb s y=⟨r.x,true,s.out++[y]⟩:=by rw[eS,c1,c2,hl];simp
   have e2:fZ r y=⟨r.x,r.a,r.b++[y]⟩:=by unfold fZ;rw[c1,c2];simp
   rw[e1,e2]
   exact ⟨rfl,hh,fun h=>by simp at h,fun _=>⟨by simp only;rw[o1];simp,fun z hz=>o2 z (by simp[hz])⟩⟩
theorem u9 {l:List Sp} {x:Sp} (h:NF l) (hx:hasB x=true):(ff l x).a++[(ff l x).x]++(ff l x).b=cV l x:=by
 have hr:=yW l ⟨x,false,[]⟩ ⟨x,[],[]⟩ h ⟨rfl,hx,fun _=>⟨rfl,rfl⟩,fun h=>by simp at h⟩
 unfold cV l5 ff
 obtain ⟨h1,-,h2,h3⟩:=hr
 cases hl:(l.foldl cb ⟨x,false,[]⟩).laid with
 |false=>
  obtain ⟨e1,e2⟩:=h2 hl
  rw[if_neg Bool.false_ne_true,e1,e2,h1];simp
 |true=>
  rw[if_pos rfl,(h3 hl).1]
def LsP (s:Sp):Prop:=Ls s.f∧Ls s.t
structure Cg (r:RS) (n:Nat):Prop where
 a:∀s∈r.a,LsP s
 b:∀s∈r.b,LsP s
 x:LsP r.x
 n:r.a.length+r.b.length≤n
theorem AS {r:RS} {n:Nat} {y:Sp} (h:Cg r n) (hy:LsP y):Cg (fZ r y) (n+1):=by
 obtain ⟨h1,h2,h3,h4⟩:=h
 unfold fZ
 split
 ·exact ⟨fun s hs=>by rcases List.mem_append.1 hs with e|e;exact h1 s e;rw[List.mem_singleton.1 e];exact hy,h2,h3,by simp only[List.length_append,List.length_cons,List.length_nil];omega⟩
 ·split
  ·exact ⟨h1,fun s hs=>by rcases List.mem_append.1 hs with e|e;exact h2 s e;rw[List.mem_singleton.1 e];exact hy,h3,by simp only[List.length_append,List.length_cons,List.length_nil];omega⟩
  ·refine ⟨h1,h2,?_,by simp only;omega⟩
   unfold eA LsP
   simp only
   constructor
   ·split
    ·exact hy.1
    ·exact h3.1
   ·split
    ·exact hy.2
    ·exact h3.2
theorem vb (l:List Sp) (x:Sp) {j:Nat} (h:j<l.length):ff (l.take (j+1)) x=fZ (ff (l.take j) x) (l.getD j default):=by
 rw[Av.bt default h,ff,List.foldl_append];rfl
theorem ue {l:List Sp} (hl:LsS l) {x:Sp} (hx:LsP x):∀j,j≤l.length→Cg (ff (l.take j) x) j
 |0,_=>⟨by simp[ff],by simp[ff],by simpa [ff] using hx,by simp[ff]⟩
 |j+1,hj=>by
  rw[vb l x (show j<l.length by omega)]
  exact AS (ue hl hx j (by omega)) (hl j)
theorem gM {g:Nat→Option Av.Obj} {A B C:Av.Obj} (h0:g 0=some A) (h1:g 1=some B) (h2:g 2=some C):OLe g (upd (upd (upd ag 0 (some A)) 1 (some B)) 2 (some C)):=OLe.put (OLe.put (OLe.at h0) h1 (bW.refl _)) h2 (bW.refl _)
set_option maxHeartbeats 4000000 in
theorem AT (k:List Bs) (l:List Sp) (lk:LsK k) (ll:LsS l) (x:Sp) (hx:LsP x):aB Tryz.prog 76 [cP k l,.str x.f,.str x.t] (bQ (bV k l x)):=by
 refine f76.aJ (by simp) (by simp[al,av,ep]) (gu _) ?_
 unfold c76
 simp only[C.zz]
 have hr:=gl k l lk ll
 unfold cP at hr
 cases hc:bb k l with
 |false=>
  rw[hc] at hr
  refine rn1 @cP.eq_1 hr ?_
  refine aM ?_
  rw[bV,hc];exact fI 4
 |true=>
 rw[hc] at hr
 obtain ⟨b1,b2,b3,b4⟩:=cF hc
 have hhas:=lU x hx.1 hx.2
 cases hB:hasB x with
 |false=>
  rw[hB] at hhas
  have hmk:mkR l k=k:=List.filter_eq_self.2 fun s hs=>by rw[(kx b4).2 s hs];rfl
  have hres:bV k l x=(k,l,0):=by
   have e:(k.filter fun x=> !aE l x)=k:=hmk
   rw[bV,if_pos hc,if_neg (by rw[hB];exact Bool.false_ne_true),cY,e,decide_eq_true b1,decide_eq_true b2];rfl
  refine rn2 (cj2 @cP.eq_1 @aZ.eq_1) hr hhas ?_
  refine aM ?_
  rw[hres];exact ab.refl _
 |true=>
 rw[hB] at hhas
 have hall:=ue ll hx
 refine rn2 (cj2 @cP.eq_1 @aZ.eq_1) hr hhas ?_
 refine Wp.le (aU.tok _ _) ?_
 refine Wp.le (aU.tok _ _) ?_
 refine Wp.le (aU.of (fun i=>ab.refl _) (gM (A:= .cells [.sl 1 (strs k) .any,.sl 2 (sps l) .any]) (B:= .cells [.sl 1 [] (.exact 0),.sl 2 [] (.exact 0)]) (C:= .cells [.str x.f,.str x.t]) (by simp[upd]) (by simp[upd]) (by simp[upd])) (fun _ h=>h) (Nat.le_refl _) (Nat.le_refl _)) ?_
 refine Wp.mL (β:=Nat × (Nat × Nat) × Nat × Nat) [3,6,8] xA7 (fun j=>[(9,.sl 2 (sps (ff (l.take j.1) x).a) (.own j.2.1.1)),(10,.sl 2 (sps (ff (l.take j.1) x).b) (.own j.2.1.2)),(11,.int .i64 (j.1:Nat))]) (fun j=>⟨upd (upd (upd ag 0 (some (.cells [.sl 1 (strs k) .any,.sl 2 (sps l) .any]))) 1 (some (.cells [.sl 1 [] (.exact 0),.sl 2 [] (.exact 0)]))) 2 (some (.cells [.str (ff (l.take j.1) x).x.f,.str (ff (l.take j.1) x).x.t])),j.2.2.1,[j.2.1.1,j.2.1.2],j.2.2.2⟩) (fun j=>j.1≤l.length∧3≤j.2.2.1∧j.2.1.1≠j.2.1.2∧j.2.1.1<j.2.2.2∧j.2.1.2<j.2.2.2) (fun j=>l.length - j.1) (0,(1,0),3,2) ⟨Nat.zero_le _,Nat.le_refl _,by decide,by decide,by decide⟩ ?_ ?_ ?_
 ·rfl
 ·simp only[aC,go_sem,reduceIte,Nat.reduceEqDiff,Nat.reduceAdd,bx,List.take_zero];and_intros<;>first|exact trivial|exact ab.refl _|exact ab.any _|exact ab.eN rfl|(refine ab.int ?_;omega)
 rintro ⟨j,⟨ta,tb⟩,n,m⟩ ⟨hj,hn,htt,hta,htb⟩
 simp only at hj hn htt hta htb ⊢
 have hro:=hall j hj
 by_cases hcj:j<l.length
 ·obtain ⟨g1,h2,h3,e1⟩:=ixF (j:=j) (n:=l.length) (by omega) (by omega)
  have hat:=bz l j .any hcj
  have hy:LsP (l.getD j default):=ll j
  have hsn:=vb l x hcj
  generalize hR1:ff (l.take (j+1)) x=R1 at*
  generalize ff (l.take j) x=R at*
  generalize l.getD j default=y at*
  have a0:(0=n)=False:=eq_false (by omega)
  have a1:(1=n)=False:=eq_false (by omega)
  have a2:(2=n)=False:=eq_false (by omega)
  have a3:(n=0)=False:=eq_false (by omega)
  have a4:(n=1)=False:=eq_false (by omega)
  have a5:(n=2)=False:=eq_false (by omega)
  have ft1:(ta=tb)=False:=eq_false htt
  have ft2:(tb=ta)=False:=eq_false (fun e=>htt e.symm)
  have hrn:=hro.n
  have r1:(R.a.length+1)*32≤140737488355328:=by omega
  have r2:R.a.length+1<4611686018427387904:=by omega
  have r3:(R.b.length+1)*32≤140737488355328:=by omega
  have r4:R.b.length+1<4611686018427387904:=by omega
  have hp1:=rM y R.x hy.2 hro.x.1
  have hp2:=rM R.x y hro.x.2 hy.1
  have hbf:=cN y.f R.x.f hy.1 hro.x.1
  have hbt:=cN R.x.t y.t hro.x.2 hy.2
  unfold aZ at hp1 hp2
  have sn:∀(o:List Sp) (s:Sp),sps o++[.agg [.str s.f,.str s.t]]=sps (o++[s]):=fun o s=>by simp[sps,aZ]
  cases c1:bg y R.x with
  |true=>
   rw[c1] at hp1
   have hst:R1=⟨R.x,R.a++[y],R.b⟩:=by rw[hsn];unfold fZ;rw[c1];simp
   refine rn1 (bN g1 h2 h3 e1 @ay hat @aZ.eq_1 a0 a1 a2 a3 (nZ a4 a5 ft1 ft2 @List.length_cons.{0} @List.length_nil.{0} @Nat.zero_add r1 r2 r3 r4)) hp1 ?_
   refine ⟨(j+1,(m,tb),n+1,m+1),⟨by simp only;omega,by simp only;omega,by simp only;omega,by simp only;omega,by simp only;omega⟩,by simp only;omega,?_⟩
   simp only[hR1,hst]
   refine aU.of (cR ?_) (gM (by simp[upd,a0,a1,a2,a3,a4,a5]) (by simp[upd,a0,a1,a2,a3,a4,a5]) (by simp[upd,a0,a1,a2,a3,a4,a5])) (fun u hu=>by first|exact hu|(simp at hu ⊢;omega)) (by simp) (by simp)
   simp only[aC,go_sem,reduceIte,Nat.reduceEqDiff,Nat.reduceAdd,bx];and_intros<;>first|exact trivial|exact ab.refl _|exact ab.any _|exact ab.of_eq (by rw[sn])|(refine ab.int ?_;omega)
  |false=>
  rw[c1] at hp1
  cases c2:bg R.x y with
  |true=>
   rw[c2] at hp2
   have hst:R1=⟨R.x,R.a,R.b++[y]⟩:=by rw[hsn];unfold fZ;rw[c1,c2];simp
   refine rn2 (bN g1 h2 h3 e1 @ay hat @aZ.eq_1 a0 a1 a2 a3 (nZ a4 a5 ft1 ft2 @List.length_cons.{0} @List.length_nil.{0} @Nat.zero_add r1 r2 r3 r4)) hp1 hp2 ?_
   refine ⟨(j+1,(ta,m),n+1,m+1),⟨by simp only;omega,by simp only;omega,by simp only;omega,by simp only;omega,by simp only;omega⟩,by simp only;omega,?_⟩
   simp only[hR1,hst]
   refine aU.of (cR ?_) (gM (by simp[upd,a0,a1,a2,a3,a4,a5]) (by simp[upd,a0,a1,a2,a3,a4,a5]) (by simp[upd,a0,a1,a2,a3,a4,a5])) (fun u hu=>by first|exact hu|(simp at hu ⊢;omega)) (by simp) (by simp)
   simp only[aC,go_sem,reduceIte,Nat.reduceEqDiff,Nat.reduceAdd,bx];and_intros<;>first|exact trivial|exact ab.refl _|exact ab.any _|exact ab.of_eq (by rw[sn])|(refine ab.int ?_;omega)
  |false=>
  rw[c2] at hp2
  have hst:R1=⟨eA R.x y,R.a,R.b⟩:=by rw[hsn];unfold fZ;rw[c1,c2];simp
  have hL:Op.bytesLess y.f R.x.f=true∨Op.bytesLess y.f R.x.f=false:=by cases Op.bytesLess y.f R.x.f<;>simp
  rcases hL with L1E|L1E
  ·rw[L1E] at hbf
   by_cases p1:y.t=[]
   ·have d1:=decide_eq_true p1
    refine rn4 (bN g1 h2 h3 e1 @ay hat @aZ.eq_1 a0 a1 a2 a3 (bN a4 a5 ft1 ft2 @List.length_cons.{0} @List.length_nil.{0} @Nat.zero_add r1 r2 r3 r4 d1)) hp1 hp2 hbf hbt ?_
    refine ⟨(j+1,(ta,tb),n+1,m),⟨by simp only;omega,by simp only;omega,by simp only;omega,by simp only;omega,by simp only;omega⟩,by simp only;omega,?_⟩
    have hj2:eA R.x y=⟨y.f,y.t⟩:=by unfold eA;simp[L1E,p1]
    simp only[hR1,hst,hj2]
    refine aU.of (cR ?_) (gM (by simp[upd,a0,a1,a2,a3,a4,a5]) (by simp[upd,a0,a1,a2,a3,a4,a5]) (by simp[upd,a0,a1,a2,a3,a4,a5])) (fun u hu=>by first|exact hu|(simp at hu ⊢;omega)) (by simp) (by simp)
    exact xSb
   have d1:=decide_eq_false p1
   by_cases p2:R.x.t=[]
   ·have d2:=decide_eq_true p2
    refine rn4 (bN g1 h2 h3 e1 @ay hat @aZ.eq_1 a0 a1 a2 a3 (bN a4 a5 ft1 ft2 @List.length_cons.{0} @List.length_nil.{0} @Nat.zero_add r1 r2 r3 r4 (cj2 d1 d2))) hp1 hp2 hbf hbt ?_
    refine ⟨(j+1,(ta,tb),n+1,m),⟨by simp only;omega,by simp only;omega,by simp only;omega,by simp only;omega,by simp only;omega⟩,by simp only;omega,?_⟩
    have hj2:eA R.x y=⟨y.f,R.x.t⟩:=by unfold eA;simp[L1E,p1,p2]
    simp only[hR1,hst,hj2]
    refine aU.of (cR ?_) (gM (by simp[upd,a0,a1,a2,a3,a4,a5]) (by simp[upd,a0,a1,a2,a3,a4,a5]) (by simp[upd,a0,a1,a2,a3,a4,a5])) (fun u hu=>by first|exact hu|(simp at hu ⊢;omega)) (by simp) (by simp)
    exact xSb
   have d2:=decide_eq_false p2
   cases p3:Op.bytesLess R.x.t y.t with
   |true=>
    rw[p3] at hbt
    refine rn4 (bN g1 h2 h3 e1 @ay hat @aZ.eq_1 a0 a1 a2 a3 (bN a4 a5 ft1 ft2 @List.length_cons.{0} @List.length_nil.{0} @Nat.zero_add r1 r2 r3 r4 (cj2 d1 d2))) hp1 hp2 hbf hbt ?_
    refine ⟨(j+1,(ta,tb),n+1,m),⟨by simp only;omega,by simp only;omega,by simp only;omega,by simp only;omega,by simp only;omega⟩,by simp only;omega,?_⟩
    have hj2:eA R.x y=⟨y.f,y.t⟩:=by unfold eA;simp[L1E,p1,p2,p3]
    simp only[hR1,hst,hj2]
    refine aU.of (cR ?_) (gM (by simp[upd,a0,a1,a2,a3,a4,a5]) (by simp[upd,a0,a1,a2,a3,a4,a5]) (by simp[upd,a0,a1,a2,a3,a4,a5])) (fun u hu=>by first|exact hu|(simp at hu ⊢;omega)) (by simp) (by simp)
    exact xSb
   |false=>
    rw[p3] at hbt
    refine rn4 (bN g1 h2 h3 e1 @ay hat @aZ.eq_1 a0 a1 a2 a3 (bN a4 a5 ft1 ft2 @List.length_cons.{0} @List.length_nil.{0} @Nat.zero_add r1 r2 r3 r4 (cj2 d1 d2))) hp1 hp2 hbf hbt ?_
    refine ⟨(j+1,(ta,tb),n+1,m),⟨by simp only;omega,by simp only;omega,by simp only;omega,by simp only;omega,by simp only;omega⟩,by simp only;omega,?_⟩
    have hj2:eA R.x y=⟨y.f,R.x.t⟩:=by unfold eA;simp[L1E,p1,p2,p3]
    simp only[hR1,hst,hj2]
    refine aU.of (cR ?_) (gM (by simp[upd,a0,a1,a2,a3,a4,a5]) (by simp[upd,a0,a1,a2,a3,a4,a5]) (by simp[upd,a0,a1,a2,a3,a4,a5])) (fun u hu=>by first|exact hu|(simp at hu ⊢;omega)) (by simp) (by simp)
    exact xSb
  ·rw[L1E] at hbf
   by_cases p1:y.t=[]
   ·have d1:=decide_eq_true p1
    refine rn4 (bN g1 h2 h3 e1 @ay hat @aZ.eq_1 a0 a1 a2 a3 (bN a4 a5 ft1 ft2 @List.length_cons.{0} @List.length_nil.{0} @Nat.zero_add r1 r2 r3 r4 d1)) hp1 hp2 hbf hbt ?_
    refine ⟨(j+1,(ta,tb),n+1,m),⟨by simp only;omega,by simp only;omega,by simp only;omega,by simp only;omega,by simp only;omega⟩,by simp only;omega,?_⟩
    have hj2:eA R.x y=⟨R.x.f,y.t⟩:=by unfold eA;simp[L1E,p1]
    simp only[hR1,hst,hj2]
    refine aU.of (cR ?_) (gM (by simp[upd,a0,a1,a2,a3,a4,a5]) (by simp[upd,a0,a1,a2,a3,a4,a5]) (by simp[upd,a0,a1,a2,a3,a4,a5])) (fun u hu=>by first|exact hu|(simp at hu ⊢;omega)) (by simp) (by simp)
    exact xSb
   have d1:=decide_eq_false p1
   by_cases p2:R.x.t=[]
   ·have d2:=decide_eq_true p2
    refine rn4 (bN g1 h2 h3 e1 @ay hat @aZ.eq_1 a0 a1 a2 a3 (bN a4 a5 ft1 ft2 @List.length_cons.{0} @List.length_nil.{0} @Nat.zero_add r1 r2 r3 r4 (cj2 d1 d2))) hp1 hp2 hbf hbt ?_
    refine ⟨(j+1,(ta,tb),n+1,m),⟨by simp only;omega,by simp only;omega,by simp only;omega,by simp only;omega,by simp only;omega⟩,by simp only;omega,?_⟩
    have hj2:eA R.x y=⟨R.x.f,R.x.t⟩:=by unfold eA;simp[L1E,p1,p2]
    simp only[hR1,hst,hj2]
    refine aU.of (cR ?_) (gM (by simp[upd,a0,a1,a2,a3,a4,a5]) (by simp[upd,a0,a1,a2,a3,a4,a5]) (by simp[upd,a0,a1,a2,a3,a4,a5])) (fun u hu=>by first|exact hu|(simp at hu ⊢;omega)) (by simp) (by simp)
    exact xSb
   have d2:=decide_eq_false p2
   cases p3:Op.bytesLess R.x.t y.t with
   |true=>
    rw[p3] at hbt
    refine rn4 (bN g1 h2 h3 e1 @ay hat @aZ.eq_1 a0 a1 a2 a3 (bN a4 a5 ft1 ft2 @List.length_cons.{0} @List.length_nil.{0} @Nat.zero_add r1 r2 r3 r4 (cj2 d1 d2))) hp1 hp2 hbf hbt ?_
    refine ⟨(j+1,(ta,tb),n+1,m),⟨by simp only;omega,by simp only;omega,by simp only;omega,by simp only;omega,by simp only;omega⟩,by simp only;omega,?_⟩
    have hj2:eA R.x y=⟨R.x.f,y.t⟩:=by unfold eA;simp[L1E,p1,p2,p3]
    simp only[hR1,hst,hj2]
    refine aU.of (cR ?_) (gM (by simp[upd,a0,a1,a2,a3,a4,a5]) (by simp[upd,a0,a1,a2,a3,a4,a5]) (by simp[upd,a0,a1,a2,a3,a4,a5])) (fun u hu=>by first|exact hu|(simp at hu ⊢;omega)) (by simp) (by simp)
    exact xSb
   |false=>
    rw[p3] at hbt
    refine rn4 (bN g1 h2 h3 e1 @ay hat @aZ.eq_1 a0 a1 a2 a3 (bN a4 a5 ft1 ft2 @List.length_cons.{0} @List.length_nil.{0} @Nat.zero_add r1 r2 r3 r4 (cj2 d1 d2))) hp1 hp2 hbf hbt ?_
    refine ⟨(j+1,(ta,tb),n+1,m),⟨by simp only;omega,by simp only;omega,by simp only;omega,by simp only;omega,by simp only;omega⟩,by simp only;omega,?_⟩
    have hj2:eA R.x y=⟨R.x.f,R.x.t⟩:=by unfold eA;simp[L1E,p1,p2,p3]
    simp only[hR1,hst,hj2]
    refine aU.of (cR ?_) (gM (by simp[upd,a0,a1,a2,a3,a4,a5]) (by simp[upd,a0,a1,a2,a3,a4,a5]) (by simp[upd,a0,a1,a2,a3,a4,a5])) (fun u hu=>by first|exact hu|(simp at hu ⊢;omega)) (by simp) (by simp)
    exact xSb
 ·have hje:j=l.length:=by omega
  subst hje
  have g1:=ixE (l.length)
  rw[List.take_length] at hro ⊢
  have hse:=u9 (ly b3) hB
  generalize ff l x=R at*
  have hrn:=hro.n
  have r1:(R.a.length+1)*32≤140737488355328:=by omega
  have r2:R.a.length+1<4611686018427387904:=by omega
  have r3:(R.a.length+1+R.b.length)*32≤140737488355328:=by omega
  have r4:R.a.length+1+R.b.length<4611686018427387904:=by omega
  have ft1:(ta=tb)=False:=eq_false htt
  have ft2:(tb=ta)=False:=eq_false (fun e=>htt e.symm)
  have a3:(n=0)=False:=eq_false (by omega)
  have a4:(n=1)=False:=eq_false (by omega)
  have a5:(n=2)=False:=eq_false (by omega)
  have a0:(0=n)=False:=eq_false (by omega)
  have a1:(1=n)=False:=eq_false (by omega)
  have a2:(2=n)=False:=eq_false (by omega)
  have hrow:sps R.a++[.agg [.str R.x.f,.str R.x.t]]++sps R.b=sps (cV l x):=by rw[←hse];simp[sps,aZ]
  have hls:LsS (cV l x):=by
   refine LsS.of fun s hs=>?_
   rw[←hse] at hs
   rcases List.mem_append.1 hs with h|h
   ·rcases List.mem_append.1 h with h|h
    ·exact hro.a s h
    ·rw[List.mem_singleton.1 h];exact hro.x
   ·exact hro.b s h
  have hln:(cV l x).length≤1000:=by rw[←hse];simp only[List.length_append,List.length_cons,List.length_nil];omega
  have hm:=u6 k (cV l x) (by omega) hln lk hls
  have hres:bV k l x=if (decide ((mkR (cV l x) k).length≤64)&&decide ((cV l x).length≤64))=true then (mkR (cV l x) k,cV l x,0) else ([],[],9):=by
   rw[bV,if_pos hc,if_pos hB];rfl
  rw[hres]
  unfold cP at hm
  generalize (decide ((mkR (cV l x) k).length≤64)&&decide ((cV l x).length≤64))=okb at*
  have fit:∀c,af [.sl 1 (strs k) .any,.sl 2 (sps R.a++[.agg [.str R.x.f,.str R.x.t]]++sps R.b) (.own c)] [.sl 1 (strs k) .any,.sl 2 (sps (cV l x)) .any]:=fun c=>by
   rw[hrow];exact af.cons (ab.refl _) (af.cons ab.own af.nil)
  cases okb
  ·repeat (first
    |((first|apply Wp.cA|apply Wp.eC|((first
      |(refine aa.bM ?_ ?_ (hm) ?_;(· simp only[go_sem,reduceIte,Nat.reduceEqDiff,Nat.reduceAdd,bx]);(· simp only[go_sem,reduceIte,Nat.reduceEqDiff,Nat.reduceAdd,bx,List.map];exact fit _)));apply aa.evR));(· simp only[go_sem,reduceIte,Nat.reduceEqDiff,Nat.reduceAdd,bx,ax,if_true,if_false,Nat.reduceMul,Nat.reduceLeDiff,g1,ay,List.length_cons,List.length_nil,Nat.zero_add,a0,a1,a2,a3,a4,a5,ft1,ft2,r1,r2,r3,r4];exact rfl))
    |(refine aa.nil ⟨?_,?_⟩;(· first|trivial|simp[aw,aq,apart,aG]))
    |(apply Wp.bu;(· simp only[go_sem,reduceIte,Nat.reduceEqDiff,Nat.reduceAdd,bx,ax,if_true,if_false,Nat.reduceMul,Nat.reduceLeDiff,g1,ay,List.length_cons,List.length_nil,Nat.zero_add,a0,a1,a2,a3,a4,a5,ft1,ft2,r1,r2,r3,r4];exact rfl);(· rfl))
    |refine Wp.skip ?_
    |refine Wp.label ?_
    |refine Wp.block ?_
    |refine Wp.exit ?_
    |refine Wp.seq ?_)
   refine aa.nil ⟨by simp[aw,aq,apart,aG];omega,?_⟩
   refine rn0 (cj6 a0 a1 a2 a3 a4 a5) ?_
   refine aM ?_
   exact fI 9
  ·repeat (first
    |((first|apply Wp.cA|apply Wp.eC|((first
      |(refine aa.bM ?_ ?_ (hm) ?_;(· simp only[go_sem,reduceIte,Nat.reduceEqDiff,Nat.reduceAdd,bx]);(· simp only[go_sem,reduceIte,Nat.reduceEqDiff,Nat.reduceAdd,bx,List.map];exact fit _)));apply aa.evR));(· simp only[go_sem,reduceIte,Nat.reduceEqDiff,Nat.reduceAdd,bx,ax,if_true,if_false,Nat.reduceMul,Nat.reduceLeDiff,g1,ay,List.length_cons,List.length_nil,Nat.zero_add,a0,a1,a2,a3,a4,a5,ft1,ft2,r1,r2,r3,r4];exact rfl))
    |(refine aa.nil ⟨?_,?_⟩;(· first|trivial|simp[aw,aq,apart,aG]))
    |(apply Wp.bu;(· simp only[go_sem,reduceIte,Nat.reduceEqDiff,Nat.reduceAdd,bx,ax,if_true,if_false,Nat.reduceMul,Nat.reduceLeDiff,g1,ay,List.length_cons,List.length_nil,Nat.zero_add,a0,a1,a2,a3,a4,a5,ft1,ft2,r1,r2,r3,r4];exact rfl);(· rfl))
    |refine Wp.skip ?_
    |refine Wp.label ?_
    |refine Wp.block ?_
    |refine Wp.exit ?_
    |refine Wp.seq ?_)
   refine aa.nil ⟨by simp[aw,aq,apart,aG];omega,?_⟩
   refine rn0 (cj6 a0 a1 a2 a3 a4 a5) ?_
   refine aM ?_
   exact ab.refl _
end Go.Proofs.YtpehfflehebmbaaGreat.Reads
end
section
set_option maxRecDepth 10000
namespace Go.Proofs.YtpehfflehebmbaaGreat.Txn
open Go Go.Av Go.Proofs Go.Proofs.YtpehfflehebmbaaGreat.C Go.Proofs.YtpehfflehebmbaaGreat.Batch Go.Proofs.YtpehfflehebmbaaGreat.Space Go.Proofs.YtpehfflehebmbaaGreat.Reads
def cq (S:Spc) (Y:Tx) (a b:Bs) (most:Int):Tx × List Pr × Int:=
 if Y.ended then (Y,[],17) else ((fR S Y a b most).1,if (fR S Y a b most).2.2=0 then (fR S Y a b most).2.1 else [],(fR S Y a b most).2.2)
set_option maxHeartbeats 4000000 in
theorem lI {x s:Nat} {Y:Tx} {F:Fr} {S:Spc} {FS:Fr} (hF:TxF x s Y F) (hS:cQ s S FS) (hr:bk S.L) (sm:Small S) (hSk:∀p∈S.L,p.1.length≤1000000) (hrC:Space.bE (ah Y.C)) (hl:Y.C.length≤64) (hCk:∀c∈Y.C,c.k.length≤1000000) (a b:Bs) (most:Int):
  aL Tryz.prog 15 [.ptr x 0,.str a,.str b,.int .i64 most] [F,FS] fun r L=>r= .tup [.sl 2 (prs (cq S Y a b most).2.1) .any,.int .i64 (cq S Y a b most).2.2]∧∃F',L=[F',FS]∧TxF x s (cq S Y a b most).1 F':=by
 refine f15.bw (by simp) fun n m ok=>?_
 unfold c15
 simp only[C.zz]
 have e1:(decide (n≤n)&&decide (n≠n+1+1))=true:=by simp;omega
 have e2:(decide (n≤n+1)&&decide (n+1≠n+1+1))=true:=by simp
 have e3:(decide (n≤n+1+1)&&decide (n+1+1≠n+1+1))=false:=by simp
 have e4:(decide (n≤n+1+1+1)&&decide (n+1+1+1≠n+1+1))=true:=by simp;omega
 have f1:(n=n+1)=False:=eq_false (by omega)
 have f2:(n=n+1+1)=False:=eq_false (by omega)
 have f3:(n=n+1+1+1)=False:=eq_false (by omega)
 have f4:(n+1=n+1+1)=False:=eq_false (by omega)
 have f5:(n+1=n+1+1+1)=False:=eq_false (by omega)
 have f6:(n+1+1=n+1+1+1)=False:=eq_false (by omega)
 have dx:(decide (n≤x)&&decide (x≠n+1+1))=false:=by
  obtain ⟨_,_,_,_,_,hx,_⟩:=hF.go
  have:=ok.lt (by simp) hx
  simp;omega
 have ok0:Ok [F,FS] (n+1+1) (ks [F,FS]) m:=ok.grow (by omega) (Nat.le_refl _)
 have ok1:=(ok0.more (.cells [.str b])).grow (n':=n+1+1+1+1) (m':=m) (by omega) (Nat.le_refl _)
 have on0:On [F,FS] n m [ob (n+1+1) (.cells [.str b]),F,FS] (n+1+1+1+1) (ks [F,FS]) m:=by
  refine ⟨by omega,Nat.le_refl _,ok1,fun j=>?_,fun t ht=> .inl (by simpa [ks,ob] using ht)⟩
  by_cases e:j=n+1+1
  ·exact .inl (by omega)
  ·rw[br _ _ e]
   cases h:lay [F,FS] j with
   |none=>exact .inr (.inr rfl)
   |some o=>exact .inr (.inl rfl)
 refine Wp.aA xA1 (by trivial) ?_
 refine Wp.frz (fun j=>decide (n≤j)&&decide (j≠n+1+1)) [(4,.ref [.ptr x 0]),(5,.ref [.str a]),(6,.ptr (n+1+1) 0),(7,.ref [.int .i64 most])] ⟨lay [ob (n+1+1) (.cells [.str b]),F,FS],n+1+1+1+1,ks [F,FS],m⟩ ?_ ?_ (fun t ht=>ht) (Nat.le_refl _) (Nat.le_refl _) ?_
 ·simp only[aC,go_sem,reduceIte,Nat.reduceEqDiff,unT,eP,bx,e1,e2,e3,e4,f1,f2,f3,f4,f5,f6,dx,if_false,if_true,List.drop_zero,Bool.false_eq_true]
  and_intros<;>first|exact ab.refl _|trivial
 ·intro j o hj
  have hj:lay [ob (n+1+1) (.cells [.str b]),F,FS] j=some o:=hj
  by_cases e:j=n+1+1
  ·subst e
   rw[aH] at hj
   cases hj
   refine ⟨.cells [.str b],?_,bW.refl _⟩
   simp only[H.drop,e3,Bool.false_eq_true,if_false,upd,f6,if_true]
  ·rw[br _ _ e] at hj
   have hjn:j<n:=by
    rcases Nat.lt_or_ge j n with h|h
    ·exact h
    ·rw[ok.fA h] at hj;cases hj
   refine ⟨o,?_,bW.refl _⟩
   simp only[H.drop,upd]
   rw[if_neg (by simp;omega),if_neg (by omega),if_neg (by omega),if_neg (by omega),if_neg (by omega)];exact hj
 refine dp ?_
 have gF:=hF
 cases he:Y.ended with
 |true=>
  have hd:=B4 hF (l:=[ob (n+1+1) (.cells [.str b]),F,FS]) (by simp) he (.clo (.func 49) [] [.ref [.ptr x 0],.ref [.str a],.ptr (n+1+1) 0,.ref [.int .i64 most]])
  refine aa.eZ xA2 xA3 (hd) (ok1) fun r1 G1 n1 T1 m1 ids1 hq1 on1=>?_
  obtain ⟨rfl,rfl⟩:=hq1
  refine aa.evR xA1 ?_
  refine dp ?_
  refine Wp.ret ⟨trivial,_,rfl,_,_,(on0.step on1).mS (ab.tup (af.cons ab.cap (af.refl _))) ⟨by rw[cq,if_pos he];rfl,F,rfl,by rw[cq,if_pos he];exact hF⟩⟩
 |false=>
  have hd:=Ay hF (l:=[ob (n+1+1) (.cells [.str b]),F,FS]) (by simp) he (g:=49) Tryz.func49 (of_decide_eq_true (by kernel_rfl)) (of_decide_eq_true (by kernel_rfl)) [.ref [.ptr x 0],.ref [.str a],.ptr (n+1+1) 0,.ref [.int .i64 most]]
   (Q:=fun v e L=>v= .sl 2 (prs (fR S Y a b most).2.1) .any∧e=(fR S Y a b most).2.2∧∃F' b',L=[ob (n+1+1) (.cells [.str b']),F',FS]∧TxF x s (fR S Y a b most).1 F') ((AB hF hS hr sm hSk hrC hl hCk a b most).mono fun r L ⟨h1,h2⟩=>⟨_,_,h1,rfl,rfl,h2⟩)
  refine aa.eZ xA2 xA3 (hd) (ok1) fun r1 G1 n1 T1 m1 ids1 hq1 on1=>?_
  obtain ⟨v,e,rfl,rfl,rfl,F',b',rfl,hF'⟩:=hq1
  have hg:cq S Y a b most=((fR S Y a b most).1,if (fR S Y a b most).2.2=0 then (fR S Y a b most).2.1 else [],(fR S Y a b most).2.2):=by rw[cq,if_neg (by simp[he])]
  refine aa.evR xA1 ?_
  refine dp ?_
  refine Wp.ret ⟨trivial,_,rfl,.tup [.sl 2 (prs (cq S Y a b most).2.1) .any,.int .i64 (cq S Y a b most).2.2],_,(on0.step on1).mS ?_ ⟨rfl,F',rfl,by rw[hg];exact hF'⟩⟩
  rw[hg]
  simp only
  refine ab.tup (af.cons ?_ (af.refl _))
  split
  ·exact ab.refl _
  ·exact ab.cap
theorem qQ {x s:Nat} {Y:Tx} {F:Fr} (hF:TxF x s Y F) (hk:Y.rk.length≤1000000) (hs:Y.rs.length≤1000000):aL Tryz.prog 22 [.ptr x 0] [F] fun r l=>r=cP Y.rk Y.rs∧l=[F]:=by
 obtain ⟨cm,M,K,hM,hxc,hx,hcm,hK⟩:=hF.go
 refine f22.qw (by simp) fun n m ok=>?_
 unfold c22
 simp only[C.zz]
 have fx:=ok.at0 hx
 obtain ⟨x1,x2,x3,x4⟩:=cS (ok.lt (by simp) hx)
 have c1:aB Tryz.prog 61 [.sl 1 (strs Y.rk) .any] (.sl 1 (strs Y.rk) .any):=jW (sz:=1) (bytes:=16) f61 _ (eo _) (by rw[an];omega) (by rw[an];omega)
 have c2:aB Tryz.prog 62 [.sl 2 (sps Y.rs) .any] (.sl 2 (sps Y.rs) .any):=jW (sz:=2) (bytes:=32) f62 _ (cX _) (by rw[ay];omega) (by rw[ay];omega)
 refine Wp.aA xA1 (by trivial) ?_
 rw[bm]
 have okx:=ok
 have ok:=ok.more (.cells [.sl 1 [] (.exact 0),.sl 2 [] (.exact 0)])
 have fx:=ok.sub (F:=F) (by simp) _ _ hx
 have fn:=aH n (.cells [.sl 1 [] (.exact 0),.sl 2 [] (.exact 0)]) [F]
 refine xL2 (cj2 fx fn) (iX hF) c1 c2 ?_
 intro ids
 rw[bC]
 refine Wp.ret ⟨trivial,cP Y.rk Y.rs,?_,?_,fun j hj=>br _ _ (by omega),fun t h=>h⟩
 ·simp only[bP,rvs,rv,go_sem,reduceIte,Nat.reduceEqDiff,aH,cP];rfl
 ·simp only[cP,unT,eP];exact ab.refl _
theorem yX {x s:Nat} {Y:Tx} {F:Fr} {S:Spc} {FS:Fr} (hF:TxF x s Y F) (hS:cQ s S FS) (hr:bk S.L) (sm:lX S) (k:Bs) (hk:k.length≤4611686018427387904):
  aL Tryz.prog 57 [.str k,.ref [.ptr x 0]] [F,FS] fun r l=>r= .bool (eE S k (k++[0]) Y.t)∧l=[F,FS]:=by
 obtain ⟨cm,M,K,hM,hxc,hx,hcm,hK⟩:=hF.go
 refine f57.bw (by simp) fun n m ok=>?_
 unfold c57
 simp only[C.zz]
 have fx:=ok.sub (F:=F) (by simp) _ _ hx
 have rm:k.length+1<9223372036854775808:=by omega
 refine rn0 (cj4 fx rm @List.length_cons.{0} @List.length_nil.{0}) ?_
 refine aa.uM [_] [] (by simp only[go_sem]) xA4 (uQ hS hr sm k (k++[0]) Y.t) hS.k ok fun n2 m2 ids2 hn2 hm2 ok2=>?_
 have on2:On [F,FS] n m [F,FS] n2 _ m2:=⟨hn2,hm2,ok2,.refl,.refl⟩
 refine aa.evR xA1 ?_
 refine aa.nil ⟨by simp[aw,aq,apart,aG],?_⟩
 exact Wp.ret ⟨trivial,_,rfl,_,_,on2.ends (ab.refl _) ⟨rfl,rfl⟩⟩
theorem yY {G:List Fr} {K:AV} (l:List Bs) (hl:l.length≤4611686018427387904) (hK:(K= .sl 1 [] (.exact 0)∧l=[])∨∃k F,K= .tsl 1 k 0 l.length none∧F∈G∧F.o k=some (.cells (strs l))) (p:Bs→Bool) {g:FuncId} {fn:Func} (hf:Tryz.prog.funcs[g]? =some fn) (hb:fn.body.isSome=true) (hn:fn.name≠ "runtime.NumGoroutine") (caps:List AV)
  (hp:∀c∈l,aL Tryz.prog g (.str c::caps) G fun r L=>r= .bool (p c)∧L=G):
  aL Tryz.prog 102 [K,.clo (.func g) [] caps] G fun r L=>r= .int .i64 (ix p l)∧L=G:=by
 refine f102.bw (by simp) fun n m ok=>?_
 unfold Al
 simp only[C.zz]
 rcases hK with ⟨rfl,rfl⟩|⟨k,F,rfl,hFG,hk⟩
 ·have d0:decide ((0:Int)<((0:Nat):Int))=false:=rfl
  refine rn0 @List.length_nil.{0} ?_
  refine Wp.mN (WpL.next ?_)
  refine rn0 d0 ?_
  exact Wp.ret ⟨trivial,_,rfl,_,_,(On.refl ok).ends (ab.refl _) ⟨by rw[ka (fun i hi=>by simp at hi)];rfl,rfl⟩⟩
 refine Wp.aA xA1 (by trivial) ?_
 refine Wp.seq ?_
 refine Wp.aA xA1 (by trivial) ?_
 refine Wp.block ?_
 refine Wp.fY (β:=Nat) [0,1,7] xA7 (fun j=>[(8,.int .i64 (j:Nat))]) (fun j L=>j≤l.length∧(∀i (hi:i<l.length),i<j→p l[i]=false)∧L=G) (fun j=>l.length - j) 0 ⟨Nat.zero_le _,fun i hi h=>absurd h (by omega),rfl⟩ ok xA9 ?_
 rintro j L n1 T1 m1 on ⟨hj,hs,rfl⟩
 by_cases hjl:j<l.length
 ·obtain ⟨g1,h2,h3,e1⟩:=ixF (j:=j) (n:=l.length) (by omega) (by omega)
  have hq:=hp _ (List.getElem_mem hjl)
  have fk:=on.ok.sub hFG _ _ hk
  have gj:(strs l)[0+j*1]? =some (.str l[j]):=by simp[strs,hjl]
  have gj':(strs l)[j]? =some (.str l[j]):=by simp[strs,hjl]
  refine rn0 (gh g1 h2 h3 @and_self @Int.toNat_natCast fk gj gj' @Nat.zero_add @Nat.mul_one) ?_
  refine aa.nu (by simp only[go_sem]) (by simp only[go_sem,reduceIte,Nat.reduceEqDiff];exact rfl) hf hb hn xA4 hq on.ok fun r G' n2 T2 m2 ids hqq on2=>?_
  obtain ⟨rfl,rfl⟩:=hqq
  refine aa.evR xA1 ?_
  refine aa.nil ⟨by trivial,?_⟩
  cases hd:p l[j] with
  |true=>
   refine dp ?_
   refine Wp.ret ⟨trivial,_,rfl,_,_,((on.step on2).ends (ab.refl _) ⟨?_,rfl⟩)⟩
   rw[jE hjl hd hs];rfl
  |false=>
   refine rn0 e1 ?_
   refine ⟨j+1,_,n2,_,m2,on2,⟨by omega,fun i hi h=>?_,rfl⟩,by omega,?_⟩
   ·by_cases he:i=j
    ·subst he;exact hd
    ·exact hs i hi (by omega)
   ·exact xSu
 ·obtain rfl:j=l.length:=by omega
  have g1:=ixE (l.length)
  refine rn0 g1 ?_
  refine Wp.ret ⟨trivial,_,rfl,_,_,(on.ends (ab.refl _) ⟨?_,rfl⟩)⟩
  rw[ka fun i hi=>hs i hi hi];rfl
theorem sH {G:List Fr} {K:AV} (l:List Bs) (hl:l.length≤4611686018427387904) (hK:(K= .sl 1 [] (.exact 0)∧l=[])∨∃k F,K= .tsl 1 k 0 l.length none∧F∈G∧F.o k=some (.cells (strs l))) (p:Bs→Bool) {g:FuncId} {fn:Func} (hf:Tryz.prog.funcs[g]? =some fn) (hb:fn.body.isSome=true) (hn:fn.name≠ "runtime.NumGoroutine") (caps:List AV)
  (hp:∀c∈l,aL Tryz.prog g (.str c::caps) G fun r L=>r= .bool (p c)∧L=G):
  aL Tryz.prog 59 [K,.clo (.func g) [] caps] G fun r L=>r= .bool (l.any p)∧L=G:=by
 refine f59.bw (by simp) fun n m ok=>?_
 unfold c59
 simp only[C.zz]
 refine rn0 @dM ?_
 refine aa.eZ xA2 xA3 (yY l hl hK p hf hb hn caps hp) (ok) fun r1 G1 n1 T1 m1 ids1 hq1 on1=>?_
 obtain ⟨rfl,rfl⟩:=hq1
 refine aa.evR (by simp only[go_sem,reduceIte,Nat.reduceEqDiff,Nat.reduceAdd,bx,dM];exact rfl) ?_
 refine rn0 @dM ?_
 exact Wp.ret ⟨trivial,_,rfl,_,_,on1.ends (ab.refl _) ⟨rfl,rfl⟩⟩
def jd (S:Spc) (Y:Tx):Bool:=((ah Y.C).any fun k=>eE S k (k++[0]) Y.t)||jc Y.rk Y.rs (fun a b=>eE S a b Y.t)
set_option maxHeartbeats 2000000 in
theorem sI {x s:Nat} {Y:Tx} {F:Fr} {S:Spc} {FS:Fr} (hF:TxF x s Y F) (hS:cQ s S FS) (hr:bk S.L) (sm:lX S) (hl:Y.C.length≤64) (hCk:∀c∈Y.C,c.k.length≤1000000) (hRk:∀q∈Y.rk,q.length≤1000000):
  aL Tryz.prog 19 [.ptr x 0] [F,FS] fun r L=>r= .bool (jd S Y)∧L=[F,FS]:=by
 obtain ⟨cm,M,K,hM,hxc,hx,hcm,hK⟩:=hF.go
 refine f19.bw (by simp) fun n m ok=>?_
 have hkl:=bq Y.C
 have e1:decide (n≤n)=true:=decide_eq_true (by omega)
 have hxn:=ok.lt (F:=F) (by simp) hx
 have dx:=decide_eq_false (show ¬n≤x by omega)
 have ok1:Ok [F,FS] (n+1) (ks [F,FS]) m:=ok.grow (by omega) (Nat.le_refl _)
 have on0:On [F,FS] n m [F,FS] (n+1) (ks [F,FS]) m:=⟨by omega,Nat.le_refl _,ok1,.refl,.refl⟩
 have hkC:∀q∈ah Y.C,q.length≤1000000:=fun q hq=>by
  obtain ⟨c,hc,rfl⟩:=List.mem_map.1 hq
  exact hCk c hc
 have hcK:=sH (G:=[F,FS]) (K:=K) (ah Y.C) (by omega) (by
  rcases hK with h|⟨k,h1,h2,h3,h4⟩
  ·exact .inl h
  ·exact .inr ⟨k,F,h1,by simp,h2⟩) (fun k=>eE S k (k++[0]) Y.t) Tryz.func57 (of_decide_eq_true (by kernel_rfl)) (of_decide_eq_true (by kernel_rfl)) [.ref [.ptr x 0]] (fun c hc=>yX hF hS hr sm c (by have:=hkC c hc;omega))
 have hst:=AQ (x:= .ptr s 0) (F:=FS) (t:=Y.t) (w:=fun a b=>eE S a b Y.t) (.inr ⟨s,rfl,by obtain ⟨_,_,_,_,_,h,_⟩:=hS.go;rw[h];rfl⟩) hS.k (fun a b=>uQ hS hr sm a b Y.t) Y.rk Y.rs (fun q hq=>by have:=hRk q hq;omega)
 unfold jN Reads.cP at hst
 unfold c19
 simp only[C.zz]
 refine Wp.aA xA1 (by trivial) ?_
 refine Wp.frz (fun j=>decide (n≤j)) [(1,.ref [.ptr x 0])] ⟨lay [F,FS],n+1,ks [F,FS],m⟩ ?_ (ny ok fun j hj=>by simp only[upd];rw[if_neg (by omega)]) (fun t ht=>ht) (Nat.le_refl _) (Nat.le_refl _) ?_
 ·simp only[aC,go_sem,reduceIte,Nat.reduceEqDiff,unT,eP,bx,e1,dx,if_false,if_true,List.drop_zero]
  and_intros<;>first|exact ab.refl _|trivial
 have okx:=ok
 have ok:=ok1
 have fx:=ok.sub (F:=F) (by simp) _ _ hx
 refine xL0 fx (iX hF) ?_
 intro ids
 refine aa.eZ xA2 xA3 (hcK) (ok1) fun r1 G1 n1 T1 m1 ids1 hq1 on1=>?_
 obtain ⟨rfl,rfl⟩:=hq1
 have fx1:=on1.ok.sub (F:=F) (by simp) _ _ hx
 cases ha:(ah Y.C).any fun k=>eE S k (k++[0]) Y.t with
 |true=>
  refine aa.evR (by simp only[go_sem,reduceIte,Nat.reduceEqDiff,Nat.reduceAdd,bx,ha];exact rfl) ?_
  refine aa.nil ⟨by simp[aw,aq,apart,aG],?_⟩
  exact Wp.ret ⟨trivial,_,rfl,_,_,(on0.step on1).ends (ab.refl _) ⟨by rw[jd,ha];rfl,rfl⟩⟩
 |false=>
  refine aa.evR (by simp only[go_sem,reduceIte,Nat.reduceEqDiff,Nat.reduceAdd,bx,ha,fx1,ax,if_true,if_false,Nat.reduceMul,Nat.reduceLeDiff];exact rfl) ?_
  refine aa.uM [_] [] (by simp only[go_sem,bx,reduceIte,Nat.reduceEqDiff]) xA4 hst hS.k on1.ok fun n2 m2 ids2 hn2 hm2 ok2=>?_
  have on2:On [F,FS] n1 m1 [F,FS] n2 _ m2:=⟨hn2,hm2,ok2,.refl,.refl⟩
  refine aa.evR xA1 ?_
  refine aa.nil ⟨by simp[aw,aq,apart,aG],?_⟩
  refine Wp.ret ⟨trivial,_,rfl,_,_,((on0.step on1).step on2).ends (ab.refl _) ⟨by rw[jd,ha,Bool.false_or];rfl,rfl⟩⟩
theorem yZ {x s:Nat} {Y:Tx} {F:Fr} (hF:TxF x s Y F) (hr:Space.bE (ah Y.C)) (hl:Y.C.length≤64) (k:Bs):
  aL Tryz.prog 17 [.ptr x 0,.str k] [F] fun r L=>r= .int .i64 (ew Y ⟨k,[],true⟩).2∧∃F',L=[F']∧TxF x s (ew Y ⟨k,[],true⟩).1 F':=by
 refine f17.bw (by simp) fun n m ok=>?_
 unfold c17
 simp only[C.zz]
 have hc:=rW hF hr hl ⟨k,[],true⟩
 simp only[aP] at hc
 refine dp ?_
 refine aa.eZ xA2 xA3 (hc) (ok) fun r1 G1 n1 T1 m1 ids1 hq1 on1=>?_
 obtain ⟨rfl,F',rfl,hF'⟩:=hq1
 refine aa.evR xA1 ?_
 refine dp ?_
 exact Wp.ret ⟨trivial,_,rfl,_,_,on1.ends (ab.refl _) ⟨rfl,F',rfl,hF'⟩⟩
theorem Dj {x s:Nat} {Y:Tx} {F:Fr} (hF:TxF x s Y F):
  aL Tryz.prog 38 [.ptr x 0] [F] fun r L=>r= .int .i64 (ir Y)∧∃F',L=[F']∧TxF x s {Y with ended:=true} F':=by
 obtain ⟨cm,M,K,hM,hxc,hx,hcm,hK⟩:=hF.go
 refine f38.bw (by simp) fun n m ok=>?_
 unfold c38
 simp only[C.zz]
 have fx:=ok.at0 hx
 have hx0:(F.o x).isSome=true:=by rw[hx];rfl
 have hop:=kQ hF
 cases he:Y.ended with
 |true=>
  rw[ir,he] at hop ⊢
  have d0:decide ((17:Int)=0)=false:=rfl
  refine xL0 d0 hop ?_
  intro ids
  refine Wp.ret ⟨trivial,_,rfl,_,_,(On.refl ok).ends (ab.refl _) ⟨rfl,F,rfl,?_⟩⟩
  rw[show ({Y with ended:=true}:Tx)=Y by rw[←he]];exact hF
 |false=>
  rw[ir,he] at hop ⊢
  have d0:decide ((0:Int)=0)=true:=rfl
  refine xL0 (cj3 d0 fx @Bool.false_eq_true) hop ?_
  intro ids
  have e1:=oB (A:=[]) (B:=[]) (.cells [.ptr s 0,.int .i64 Y.t,.mp cm,K,.sl 1 (strs Y.rk) .any,.sl 2 (sps Y.rs) .any,.bool true]) ok hx0
  have on1:=On.Df (A:=[]) (B:=[]) (.cells [.ptr s 0,.int .i64 Y.t,.mp cm,K,.sl 1 (strs Y.rk) .any,.sl 2 (sps Y.rs) .any,.bool true]) ok hx0
  simp only[List.nil_append] at e1 on1
  rw[e1]
  exact Wp.ret ⟨trivial,_,rfl,_,_,on1.ends (ab.refl _) ⟨rfl,_,rfl,TxF.read hM hxc hcm hK hF.k hF.fin {Y with ended:=true} rfl⟩⟩
theorem AU:∀{C:List Ch},Space.bE (ah C)→∀{i:Nat} (hi:i<C.length),cr C ((ah C).getD i [])=C[i]:=by
 intro C hr i hi
 rw[iZ hi,cr,l8 hr (List.getElem_mem hi)]
 rfl
set_option maxHeartbeats 1000000 in
theorem wU {x s:Nat} {Y:Tx} {F:Fr} (hF:TxF x s Y F) (hr:Space.bE (ah Y.C)) (hl:Y.C.length≤64):aL Tryz.prog 21 [.ptr x 0] [F] (fun r l=>r= .sl 3 (chs Y.C) .any∧l=[F]):=by
 obtain ⟨cm,M,K,hM,hxc,hx,hcm,hK⟩:=hF.go
 refine f21.xO (by simp) fun n m ok=>?_
 unfold c21
 simp only[C.zz]
 have ksF:ks [F]=[]:=by simp[ks,hF.k]
 rw[ksF] at ok ⊢
 have fx:=ok.at0 hx
 have fc:=ok.at0 hcm
 have hkl:=bq Y.C
 rcases hK with ⟨rfl,h2⟩|⟨k,rfl,h2,h3,h4⟩
 ·have g1:decide ((0:Int)<((0:Nat):Int))=false:=rfl
  have hL:Y.C=[]:=by simpa [ah] using h2
  refine xL0 fx (iX hF) ?_
  intro ids
  refine Wp.mN (WpL.next ?_)
  refine rn0 g1 ?_
  refine Wp.ret ⟨trivial,_,rfl,?_,fun j hj=>rfl,fun t ht=>ht⟩
  rw[hL];exact ab.cap
 ·have fk:=ok.at0 h2
  refine xL0 fx (iX hF) ?_
  intro ids
  refine Wp.le (aU.tok _ _) ?_
  refine Wp.fH (β:=Nat) [0,12,13] xA7 (fun j tk=>[(14,.int .i64 (j:Nat)),(3,.sl 3 (chs (Y.C.take j)) (.own tk))]) (fun j=>j≤Y.C.length) (fun j=>Y.C.length - j) 0 m (Nat.zero_le _) rfl ?_ ?_
  ·simp only[aC,go_sem,reduceIte,Nat.reduceEqDiff]
   exact ⟨ab.refl _,ab.eN rfl,trivial⟩
  intro j tk m1 hj
  by_cases hj2:j<Y.C.length
  ·obtain ⟨g1,h2,h3,e1⟩:=ixF (j:=j) (n:=(ah Y.C).length) (by omega) (by omega)
   have hget:(strs (ah Y.C))[j]? =some (.str ((ah Y.C).getD j [])):=by
    have:j<(ah Y.C).length:=by omega
    simp[strs,this]
   have hkj:=iZ hj2
   have hstep:chs (Y.C.take (j+1))=chs (Y.C.take j)++[aP Y.C[j]]:=by
    rw[List.take_succ_eq_append_getElem hj2,chs,List.map_append];rfl
   have hlk:=rT false ((ah Y.C).getD j []) M
   have hog:cr M ((ah Y.C).getD j [])=Y.C[j]:=by rw[show cr M ((ah Y.C).getD j [])=cr Y.C ((ah Y.C).getD j []) by rw[cr,cr,hM],AU hr hj2]
   rw[hog] at hlk
   rw[hkj] at hlk hget
   generalize Y.C[j]=c at*
   unfold pJ at hlk
   simp only[cW,Bool.false_eq_true,if_false,reduceIte] at hlk
   have hm:(chs (Y.C.take j)).length=j:=by simp[chs];omega
   have rm1:(j+1)*40≤140737488355328:=by omega
   have rm2:j+1<4611686018427387904:=by omega
   have sh:shaped (aP c)=true:=rfl
   unfold aP at hlk sh hstep
   refine rn0 (bN g1 h2 h3 fk hget fx fc @cH hlk @Nat.zero_add @Nat.mul_one (cj7 hm rm1 rm2 @List.mem_singleton.{0} @List.length_cons.{0} @List.length_nil.{0} e1)) ?_
   refine ⟨j+1,m1,m1+1,by omega,by omega,?_⟩
   rw[hstep]
   exact xSu
  ·have hje:j=Y.C.length:=by omega
   subst hje
   rw[hkl]
   have g1:=ixE (Y.C.length)
   refine rn0 g1 ?_
   refine Wp.ret ⟨trivial,_,rfl,?_,fun j hj=>rfl,fun t ht=>by simp at ht⟩
   rw[List.take_length];exact ab.cap
end Go.Proofs.YtpehfflehebmbaaGreat.Txn
end
section
set_option maxRecDepth 10000
namespace Go.Av
theorem Ok.sJ {A B:List Fr} {F:Fr} {n m:Nat} {T:List Nat} (ok:Ok (A++F::B) n T m):Ok (A++B) n T m where
 bd G hG j hj:=ok.bd G (by rcases List.mem_append.1 hG with h|h<;>simp[h]) j hj
 dj:=ok.dj.sublist (List.Sublist.append (List.Sublist.refl _) (List.sublist_cons_self _ _))
 tk t ht:=ok.tk t (by
  simp only[ks,List.flatMap_append,List.flatMap_cons,List.mem_append] at ht ⊢
  rcases ht with h|h
  ·exact .inl h
  ·exact .inr (.inr h))
 td:=ok.td.sublist (List.Sublist.append (List.Sublist.refl _) (List.sublist_cons_self _ _))
 tb:=ok.tb
theorem lJ {A B:List Fr} {F:Fr} {n m:Nat} {T:List Nat} (ok:Ok (A++F::B) n T m) (j:Nat):lay (A++B) j=lay (A++F::B) j∨((F.o j).isSome=true∧lay (A++B) j=none):=by
 cases e:F.o j with
 |none=>left;simp only[bK,cM,e,Option.none_or]
 |some o=>
  right
  refine ⟨rfl,cy.2 fun G hG=>?_⟩
  have hp:=List.pairwise_append.1 ok.dj
  rcases List.mem_append.1 hG with h|h
  ·rcases hp.2.2 G h F (by simp) j with h1|h1
   ·exact h1
   ·rw[e] at h1;cases h1
  ·rcases (List.pairwise_cons.1 hp.2.1).1 G h j with h1|h1
   ·rw[e] at h1;cases h1
   ·exact h1
theorem lK {A B:List Fr} {F:Fr} {n m:Nat} {T:List Nat} (ok:Ok (A++F::B) n T m):OLe (lay (A++F::B)) (lay (A++B)):=fun j o hj=>by
 rcases lJ ok j with h|⟨h,h2⟩
 ·exact ⟨o,by rw[←h];exact hj,bW.refl _⟩
 ·rw[h2] at hj;cases hj
theorem On.sJ {A B:List Fr} {F:Fr} {l0:List Fr} {n0 m0 n m:Nat} {T:List Nat} (a:On l0 n0 m0 (A++F::B) n T m):On l0 n0 m0 (A++B) n T m:=by
 refine a.step ⟨Nat.le_refl _,Nat.le_refl _,a.ok.sJ,fun j=>?_,fun t ht=> .inl ?_⟩
 ·rcases lJ a.ok j with h|⟨h,h2⟩
  ·cases e:lay (A++F::B) j with
   |none=>right;right;rw[h,e]
   |some o=>right;left;rfl
  ·right;right;exact h2
 ·simp only[ks,List.flatMap_append,List.flatMap_cons,List.mem_append] at ht ⊢
  rcases ht with h|h
  ·exact .inl h
  ·exact .inr (.inr h)
theorem Ok.y6 {A B:List Fr} {i:Nat} {o:Obj} {n m:Nat} {T:List Nat} (ok:Ok (A++ob i o::B) n T m):(fun j=>if j=i then none else lay (A++ob i o::B) j)=lay (A++B):=by
 funext j
 by_cases e:j=i
 ·rw[if_pos e]
  rcases lJ ok j with h|⟨h,h2⟩
  ·subst e
   refine (cy.2 fun G hG=>?_).symm
   have hp:=List.pairwise_append.1 ok.dj
   rcases List.mem_append.1 hG with h|h
   ·rcases hp.2.2 G h (ob j o) (by simp) j with h1|h1
    ·exact h1
    ·simp[aY] at h1
   ·rcases (List.pairwise_cons.1 hp.2.1).1 G h j with h1|h1
    ·simp[aY] at h1
    ·exact h1
  ·exact h2.symm
 ·rw[if_neg e]
  rcases lJ ok j with h|⟨h,h2⟩
  ·exact h.symm
  ·rw[aY,if_neg e] at h;cases h
theorem On.jk {l0 L L':List Fr} {n0 m0 n m:Nat} {T:List Nat} {q r:AV} {QQ:AV→List Fr→Prop} (b:On l0 n0 m0 L' n T m) (hle:OLe (lay L) (lay L')) (hs:ab q r) (hq:QQ r L'):Ends l0 n0 m0 QQ q ⟨lay L,n,T,m⟩ r L':=
 ⟨hs,hle,b.ok.tk,b.ok.shrink,b.wi,b.ki,hq⟩
theorem On.only {L:List Fr} {n0 m0 n m:Nat} {T:List Nat} {F:Fr} (ok0:Ok [F] n0 (ks [F]) m0) (hk:F.k=[]) (a:Ok L n T m) (h1:n0≤n) (h2:m0≤m):On [F] n0 m0 [F] n T m:=
 ⟨h1,h2,⟨fun G hG j hj=>ok0.bd G hG j (Nat.le_trans h1 hj),by simp,fun t ht=>by simp[ks,hk] at ht,by simp,a.tb⟩,.refl,.refl⟩
theorem AW {L:List Fr} {F:Fr} {n m:Nat} {T:List Nat} (ok:Ok L n T m) (h:F∈L):OLe (lay L) (lay [F]):=fun j o hj=>⟨o,ok.sub h j o (by simpa [cM,lay,ag] using hj),bW.refl _⟩
end Go.Av
namespace Go.Proofs.YtpehfflehebmbaaGreat.Txn
open Go Go.Av Go.Proofs Go.Proofs.YtpehfflehebmbaaGreat.C Go.Proofs.YtpehfflehebmbaaGreat.Batch Go.Proofs.YtpehfflehebmbaaGreat.Space Go.Proofs.YtpehfflehebmbaaGreat.Reads
def rOk (l:List Ch) (i:Nat):Prop:=cE (l.getD i default)=true∧¬((l.getD i default).d=true∧(l.getD i default).v≠[])∧i<64∧(0<i→Op.bytesLess (l.getD (i - 1) default).k (l.getD i default).k=true)
instance (l:List Ch) (i:Nat):Decidable (rOk l i):=by unfold rOk;infer_instance
def sK (l:List Ch):Bool:=(List.range l.length).all fun i=>decide (rOk l i)
theorem iA {l:List Ch}:sK l=true↔∀i,i<l.length→rOk l i:=by simp[sK]
theorem sL:∀{l:List Ch},(∀i,i+1<l.length→Op.bytesLess (l.getD i default).k (l.getD (i+1) default).k=true)→Space.bE (ah l)
 |[],_=>List.Pairwise.nil
 |[x],_=>by simp[ah,Space.bE]
 |x::y::l,h=>by
  have ih:=sL (l:=y::l) fun i hi=>by
   have:=h (i+1) (by simp at hi ⊢;omega)
   simpa using this
  have h0:Op.bytesLess x.k y.k=true:=by
   have:=h 0 (by simp)
   simpa using this
  refine List.pairwise_cons.2 ⟨fun q hq=>?_,ih⟩
  rcases List.mem_cons.1 hq with rfl|hq
  ·exact h0
  ·exact bp h0 ((List.pairwise_cons.1 ih).1 q hq)
theorem sM {l:List Ch} {i:Nat} (hi:i≤l.length) (h:∀j,j<i→rOk l j):Space.bE (ah (l.take i)):=by
 refine sL fun j hj=>?_
 rw[List.length_take,Nat.min_eq_left hi] at hj
 have:=(h (j+1) hj).2.2.2 (by omega)
 rw[Nat.add_sub_cancel] at this
 simpa [List.getD,List.getElem?_take,hj,show j<i by omega] using this
theorem sN:∀{M:List Ch} {c:Ch},(∀x∈M,x.k≠c.k)→jn M c=M++[c]
 |[],_,_=>rfl
 |x::M,c,h=>by
  rw[jn,if_neg (h x (by simp)),sN fun y hy=>h y (by simp[hy])];rfl
theorem wV {l:List Ch} {i:Nat} (hi:i<l.length) (h:∀j,j<i+1→rOk l j):jn (l.take i) (l.getD i default)=l.take (i+1):=by
 have hr:=sM (i:=i+1) hi h
 have e:l.take (i+1)=l.take i++[l.getD i default]:=by rw[List.take_succ_eq_append_getElem hi,Av.au hi]
 rw[e]
 refine sN fun x hx ex=>?_
 rw[e,ah,List.map_append] at hr
 have:=(List.pairwise_append.1 hr).2.2 x.k (List.mem_map.2 ⟨x,hx,rfl⟩) (l.getD i default).k (by simp)
 rw[ex,aW] at this
 cases this
def lL (Y:Tx) (l:List Ch):Tx × Int:=if sK l then ({Y with C:=l},0) else (Y,2)
def ko (i k:Nat):AV:=if i=0 then .sl 1 [] (.exact 0) else .tsl 1 k 0 i none
def jo (l:List Ch) (mp i k:Nat) (F:Fr):List Fr:=if i=0 then [ob mp (.map (bQ (l.take i))),F] else [ob k (.cells (strs (ah (l.take i)))),ob mp (.map (bQ (l.take i))),F]
set_option maxHeartbeats 4000000 in
theorem uf {x s:Nat} {Y:Tx} {F:Fr} (hF:TxF x s Y F) (l:List Ch) (hll:l.length≤4611686018427387904):
  aL Tryz.prog 85 [.ref [.sl 3 (chs l) .any],.ref [.ptr x 0]] [F] fun r L=>∃v e,r= .tup [v,.int .i64 e]∧e=(lL Y l).2∧∃F',L=[F']∧TxF x s (lL Y l).1 F':=by
 obtain ⟨cm,M,K,hM,hxc,hx,hcm,hK⟩:=hF.go
 refine f85.bw (by simp) fun n m ok=>?_
 unfold c85
 simp only[C.zz]
 have hxn:=ok.lt (by simp) hx
 have hx0:(F.o x).isSome=true:=by rw[hx];rfl
 refine rn0 @ao ?_
 rw[bm]
 have on0:On [F] n m [ob n (.map (bQ (l.take 0))),F] (n+1) (ks [F]) m:=(On.refl (ok.more _)).grown
 refine Wp.fY (β:=Nat × Nat) [0,1,4,9,10] xA7 (fun b=>[(5,ko b.1 b.2),(11,.int .i64 (b.1:Nat))]) (fun b L=>b.1≤l.length∧n≤b.2∧(0<b.1→n<b.2)∧(∀j,j<b.1→rOk l j)∧L=jo l n b.1 b.2 F) (fun b=>l.length - b.1) (0,n) ⟨Nat.zero_le _,Nat.le_refl _,fun h=>absurd h (by simp),fun j h=>absurd h (by simp),rfl⟩ on0.ok (by simp only[aC,go_sem,reduceIte,Nat.reduceEqDiff,ko];exact ⟨ab.refl _,ab.refl _,trivial⟩) ?_
 rintro ⟨i,k⟩ L n1 T1 m1 on ⟨hi,hk,hk2,hs,rfl⟩
 simp only at hi hk hk2 hs on ⊢
 have hgn:=on.gn
 have hgm:=on.gm
 have hFm:F∈jo l n i k F:=by unfold jo;split<;>simp
 by_cases hi2:i<l.length
 ·obtain ⟨g1,h2,h3,e1⟩:=ixF (j:=i) (n:=l.length) (by omega) (by omega)
  have hat:(chs l).getD i .any=aP (l.getD i default):=bZ l i .any hi2
  have hrok:rOk l i↔(cE (l.getD i default)=true∧¬((l.getD i default).d=true∧(l.getD i default).v≠[])∧i<64∧(0<i→Op.bytesLess (l.getD (i - 1) default).k (l.getD i default).k=true)):=Iff.rfl
  have hot:rOk l i→jn (l.take i) (l.getD i default)=l.take (i+1):=fun h=>wV hi2 fun j hj=>by
   rcases Nat.lt_or_ge j i with h1|h1
   ·exact hs j h1
   ·rw[show j=i by omega];exact h
  have htk:l.take (i+1)=l.take i++[l.getD i default]:=by rw[List.take_succ_eq_append_getElem hi2,Av.au hi2]
  have bad:¬rOk l i→∀(c:List AV) (q:AV),ab q (.tup [.bool false,.int .i64 2])→∃r l',Av.Ends [F] n m (fun r L=>∃v e,r= .tup [v,.int .i64 e]∧e=(lL Y l).2∧∃F',L=[F']∧TxF x s (lL Y l).1 F') q ⟨lay (ob n1 (.cells c)::jo l n i k F),n1+1,T1,m1⟩ r l':=fun hb c q hq=>by
   have e2:lL Y l=(Y,2):=by
    rw[lL,if_neg]
    intro h
    exact hb (iA.1 h i hi2)
   have okb:=on.ok.more (.cells c)
   exact ⟨_,[F],On.jk (On.only ok hF.k okb (by omega) hgm) (AW okb (List.mem_cons_of_mem _ hFm)) hq ⟨_,_,rfl,by rw[e2],F,rfl,by rw[e2];exact hF⟩⟩
  generalize hc:l.getD i default=c at*
  have okb:=on.ok.more (.cells [.str c.k,.str c.v,.bool c.d])
  have f7:=aH n1 (.cells [.str c.k,.str c.v,.bool c.d]) (jo l n i k F)
  refine Wp.aA (by simp only[go_sem,reduceIte,Nat.reduceEqDiff,Nat.reduceAdd,bx,g1];exact rfl) (by trivial) ?_
  refine Wp.seq ?_
  refine Wp.cond_true xA2 ?_
  refine Wp.skip ?_
  refine Wp.seq ?_
  refine Wp.block ?_
  refine Wp.aA (by simp only[go_sem,reduceIte,Nat.reduceEqDiff,Nat.reduceAdd,bx,h2,h3,hat,ao,aP,and_self,if_true,Int.toNat_natCast];exact rfl) (by trivial) ?_
  rw[bm,bC]
  refine Wp.seq ?_
  by_cases a1:(120:Int)<(c.k.length:Int)
  ·have d1:=decide_eq_true a1
   refine Wp.seq (Wp.reg ?_)
   refine aa.part 10 (by simp only[go_sem,reduceIte,Nat.reduceEqDiff,Nat.reduceAdd,bx,f7,d1];exact rfl) ?_
   simp only[List.drop_succ_cons,List.drop_zero,List.drop_nil]
   refine aa.part 10 (by simp only[go_sem,reduceIte,Nat.reduceEqDiff,Nat.reduceAdd,bx,f7,d1];exact rfl) ?_
   simp only[List.drop_succ_cons,List.drop_zero,List.drop_nil]
   refine aa.part 10 (by simp only[go_sem,reduceIte,Nat.reduceEqDiff,Nat.reduceAdd,bx,f7,d1];exact rfl) ?_
   simp only[List.drop_succ_cons,List.drop_zero,List.drop_nil]
   refine aa.part 10 (by simp only[go_sem,reduceIte,Nat.reduceEqDiff,Nat.reduceAdd,bx,f7,d1];exact rfl) ?_
   simp only[List.drop_succ_cons,List.drop_zero,List.drop_nil]
   refine aa.nil ⟨by simp[aw,aq,apart,aG],?_⟩
   refine Wp.cond_true xA2 ?_
   refine dp ?_
   refine Wp.ret ⟨trivial,_,rfl,bad (fun h=>?_) _ _ (ab.refl _)⟩
   have:=(hrok.1 h).1
   simp[cE] at this;omega
  have d1:=decide_eq_false a1
  by_cases a2:(199:Int)<(c.v.length:Int)
  ·have d2:=decide_eq_true a2
   refine Wp.seq (Wp.reg ?_)
   refine aa.part 10 (by simp only[go_sem,reduceIte,Nat.reduceEqDiff,Nat.reduceAdd,bx,f7,d1,d2];exact rfl) ?_
   simp only[List.drop_succ_cons,List.drop_zero,List.drop_nil]
   refine aa.part 10 (by simp only[go_sem,reduceIte,Nat.reduceEqDiff,Nat.reduceAdd,bx,f7,d1,d2];exact rfl) ?_
   simp only[List.drop_succ_cons,List.drop_zero,List.drop_nil]
   refine aa.part 10 (by simp only[go_sem,reduceIte,Nat.reduceEqDiff,Nat.reduceAdd,bx,f7,d1,d2];exact rfl) ?_
   simp only[List.drop_succ_cons,List.drop_zero,List.drop_nil]
   refine aa.part 10 (by simp only[go_sem,reduceIte,Nat.reduceEqDiff,Nat.reduceAdd,bx,f7,d1,d2];exact rfl) ?_
   simp only[List.drop_succ_cons,List.drop_zero,List.drop_nil]
   refine aa.nil ⟨by simp[aw,aq,apart,aG],?_⟩
   refine Wp.cond_true xA2 ?_
   refine dp ?_
   refine Wp.ret ⟨trivial,_,rfl,bad (fun h=>?_) _ _ (ab.refl _)⟩
   have:=(hrok.1 h).1
   simp[cE] at this;omega
  have d2:=decide_eq_false a2
  have hkp:cE c=true:=by simp[cE];omega
  by_cases a3:c.d=true∧c.v≠[]
  ·have d3:=a3.1
   rw[d3] at f7 okb
   have d4:=decide_eq_false a3.2
   refine Wp.seq (Wp.reg ?_)
   refine aa.part 10 (by simp only[go_sem,reduceIte,Nat.reduceEqDiff,Nat.reduceAdd,bx,f7,d1,d2,d3,d4,Bool.not_false];exact rfl) ?_
   simp only[List.drop_succ_cons,List.drop_zero,List.drop_nil]
   refine aa.part 10 (by simp only[go_sem,reduceIte,Nat.reduceEqDiff,Nat.reduceAdd,bx,f7,d1,d2,d3,d4,Bool.not_false];exact rfl) ?_
   simp only[List.drop_succ_cons,List.drop_zero,List.drop_nil]
   refine aa.part 10 (by simp only[go_sem,reduceIte,Nat.reduceEqDiff,Nat.reduceAdd,bx,f7,d1,d2,d3,d4,Bool.not_false];exact rfl) ?_
   simp only[List.drop_succ_cons,List.drop_zero,List.drop_nil]
   refine aa.part 10 (by simp only[go_sem,reduceIte,Nat.reduceEqDiff,Nat.reduceAdd,bx,f7,d1,d2,d3,d4,Bool.not_false];exact rfl) ?_
   simp only[List.drop_succ_cons,List.drop_zero,List.drop_nil]
   refine aa.nil ⟨by simp[aw,aq,apart,aG],?_⟩
   refine Wp.cond_true xA2 ?_
   refine dp ?_
   refine Wp.ret ⟨trivial,_,rfl,bad (fun h=>?_) _ _ (ab.refl _)⟩
   exact absurd a3 (hrok.1 h).2.1
  have hdv:c.d=false∨(c.d=true∧c.v=[]):=by
   cases e:c.d with
   |false=>exact .inl rfl
   |true=>exact .inr ⟨rfl,Classical.not_not.1 fun h=>a3 ⟨e,h⟩⟩
  rcases hdv with d3|⟨d3,d4⟩
  ·rw[d3] at f7 okb
   by_cases a5:(64:Int)≤(i:Int)
   ·have d5:=decide_eq_true a5
    refine Wp.seq (Wp.reg ?_)
    refine aa.part 10 (by simp only[go_sem,reduceIte,Nat.reduceEqDiff,Nat.reduceAdd,bx,f7,d1,d2,d3,Bool.false_eq_true,d5];exact rfl) ?_
    simp only[List.drop_succ_cons,List.drop_zero,List.drop_nil]
    refine aa.part 10 (by simp only[go_sem,reduceIte,Nat.reduceEqDiff,Nat.reduceAdd,bx,f7,d1,d2,d3,Bool.false_eq_true,d5];exact rfl) ?_
    simp only[List.drop_succ_cons,List.drop_zero,List.drop_nil]
    refine aa.part 10 (by simp only[go_sem,reduceIte,Nat.reduceEqDiff,Nat.reduceAdd,bx,f7,d1,d2,d3,Bool.false_eq_true,d5];exact rfl) ?_
    simp only[List.drop_succ_cons,List.drop_zero,List.drop_nil]
    refine aa.part 10 (by simp only[go_sem,reduceIte,Nat.reduceEqDiff,Nat.reduceAdd,bx,f7,d1,d2,d3,Bool.false_eq_true,d5];exact rfl) ?_
    simp only[List.drop_succ_cons,List.drop_zero,List.drop_nil]
    refine aa.nil ⟨by simp[aw,aq,apart,aG],?_⟩
    refine Wp.cond_true xA2 ?_
    refine dp ?_
    refine Wp.ret ⟨trivial,_,rfl,bad (fun h=>?_) _ _ (ab.refl _)⟩
    have:=(hrok.1 h).2.2.1
    omega
   have d5:=decide_eq_false a5
   rcases Nat.eq_zero_or_pos i with rfl|h0
   ·have d6:decide ((0:Int)<((0:Nat):Int))=false:=rfl
    have hrl:jo l n 0 k F=[ob n (.map (bQ [])),F]:=rfl
    have hrv:ko 0 k= .sl 1 [] (.exact 0):=rfl
    rw[hrl] at okb on f7 ⊢
    refine Wp.seq (Wp.reg ?_)
    refine aa.part 10 (by simp only[go_sem,reduceIte,Nat.reduceEqDiff,Nat.reduceAdd,bx,f7,d1,d2,d3,Bool.false_eq_true,d5,d6];exact rfl) ?_
    simp only[List.drop_succ_cons,List.drop_zero,List.drop_nil]
    refine aa.part 10 (by simp only[go_sem,reduceIte,Nat.reduceEqDiff,Nat.reduceAdd,bx,f7,d1,d2,d3,Bool.false_eq_true,d5,d6];exact rfl) ?_
    simp only[List.drop_succ_cons,List.drop_zero,List.drop_nil]
    refine aa.part 10 (by simp only[go_sem,reduceIte,Nat.reduceEqDiff,Nat.reduceAdd,bx,f7,d1,d2,d3,Bool.false_eq_true,d5,d6];exact rfl) ?_
    simp only[List.drop_succ_cons,List.drop_zero,List.drop_nil]
    refine aa.part 10 (by simp only[go_sem,reduceIte,Nat.reduceEqDiff,Nat.reduceAdd,bx,f7,d1,d2,d3,Bool.false_eq_true,d5,d6];exact rfl) ?_
    simp only[List.drop_succ_cons,List.drop_zero,List.drop_nil]
    refine aa.nil ⟨by simp[aw,aq,apart,aG],?_⟩
    refine Wp.cond_false xA2 ?_
    refine Wp.skip ?_
    have hrk:rOk l 0:=hrok.2 ⟨hkp,a3,by omega,fun h=>absurd h (by simp)⟩
    have hot1:jn [] c=l.take 1:=hot hrk
    have htk1:l.take 1=[]++[c]:=htk
    have hput:=iq c []
    simp only[aP,fj] at hput
    rw[hot1,d3] at hput
    have e7:=Ok.bC (A:=[ob n1 (.cells [.str c.k,.str c.v,.bool false])]) (.map (bQ (l.take 1))) okb
    have on7:=On.dq (A:=[ob n1 (.cells [.str c.k,.str c.v,.bool false])]) (o':=(.map (bQ (l.take 1)))) okb
    simp only[List.cons_append,List.nil_append] at e7 on7
    have fm:=okb.sub (F:=ob n (.map (bQ []))) (by simp) n (.map (bQ [])) (by simp[aY])
    refine Wp.aA (by simp only[go_sem,reduceIte,Nat.reduceEqDiff,Nat.reduceAdd,bx,ax,if_true,if_false,Nat.reduceMul,Nat.reduceLeDiff,f7,fm,cH,hput,d3];exact rfl) (by trivial) ?_
    rw[e7]
    have f7b:=aH n1 (.cells [.str c.k,.str c.v,.bool false]) [ob n (.map (bQ (l.take 1))),F]
    have hcell:([AV.str c.k]:List AV).flatMap cellsOf=strs (ah (l.take 1)):=by rw[htk1];simp[ah,strs,cellsOf]
    refine Wp.reg ?_
    refine aa.part 4 (by simp only[go_sem,reduceIte,Nat.reduceEqDiff,Nat.reduceAdd,bx,ax,if_true,if_false,Nat.reduceMul,Nat.reduceLeDiff,f7b,hrv];exact rfl) ?_
    simp only[List.drop_succ_cons,List.drop_zero,List.drop_nil]
    refine aa.opT xA2 (by simp only[gg,go_sem,reduceIte,Nat.reduceEqDiff,Nat.reduceAdd,bx,List.all_cons,List.all_nil,List.length_cons,List.length_nil,Nat.reduceMul,Nat.reduceLeDiff,Nat.reduceLT,Nat.zero_lt_succ,and_self,if_true,decide_true,Bool.and_self,hcell];exact rfl) rfl ?_
    refine aa.part 1 xA1 ?_
    simp only[List.drop_succ_cons,List.drop_zero,List.drop_nil]
    refine aa.nil ⟨by simp[aw,aq,apart,aG],?_⟩
    rw[bm]
    have okC:=on7.ok.more (.cells (strs (ah (l.take 1))))
    have onD:=(on7.grown.step (On.refl okC).grown).sJ (A:=[_])
    simp only[List.cons_append,List.nil_append] at onD
    refine Wp.ld (by simp only[go_sem,reduceIte,Nat.reduceEqDiff,Nat.reduceAdd,bx,e1];exact rfl) (by trivial) ?_
    refine ⟨(1,n1+1),[ob (n1+1) (.cells (strs (ah (l.take 1)))),ob n (.map (bQ (l.take 1))),F],n1+1+1,T1,m1,onD,⟨by simp only;omega,by simp only;omega,fun _=>by simp only;omega,fun j hj=>?_,by simp[jo]⟩,by simp only;omega,?_⟩
    ·rcases Nat.lt_or_ge j 0 with h1|h1
     ·exact hs j h1
     ·rw[show j=0 by simp only at hj;omega];exact hrk
    ·refine aU.of (cR ?_) (lK (A:=[_]) okC) (fun _ h=>h) (Nat.le_refl _) (Nat.le_refl _)
     simp only[ko,Nat.succ_ne_zero,if_false]
     exact xSb
   have d6:decide ((0:Int)<(i:Int))=true:=decide_eq_true (by omega)
   have w1:IntKind.i64.wrap ((i:Int) - 1)=((i - 1:Nat):Int):=by rw[IntWalk.i64_in _ (by omega)];omega
   have w2:(0:Int)≤((i - 1:Nat):Int):=by omega
   have w3:((i - 1:Nat):Int)<(l.length:Int):=by omega
   have hat1:(chs l).getD (i - 1) .any=aP (l.getD (i - 1) default):=bZ l (i - 1) .any (by omega)
   cases hlt:Op.bytesLess (l.getD (i - 1) default).k c.k with
   |false=>
    refine Wp.seq (Wp.reg ?_)
    refine aa.part 10 (by simp only[go_sem,reduceIte,Nat.reduceEqDiff,Nat.reduceAdd,bx,f7,d1,d2,d3,Bool.false_eq_true,d5,d6,w1,w2,w3,hat1,ao,aP,hlt,and_self,if_true,Int.toNat_natCast];exact rfl) ?_
    simp only[List.drop_succ_cons,List.drop_zero,List.drop_nil]
    refine aa.part 10 (by simp only[go_sem,reduceIte,Nat.reduceEqDiff,Nat.reduceAdd,bx,f7,d1,d2,d3,Bool.false_eq_true,d5,d6,w1,w2,w3,hat1,ao,aP,hlt,and_self,if_true,Int.toNat_natCast];exact rfl) ?_
    simp only[List.drop_succ_cons,List.drop_zero,List.drop_nil]
    refine aa.part 10 (by simp only[go_sem,reduceIte,Nat.reduceEqDiff,Nat.reduceAdd,bx,f7,d1,d2,d3,Bool.false_eq_true,d5,d6,w1,w2,w3,hat1,ao,aP,hlt,and_self,if_true,Int.toNat_natCast];exact rfl) ?_
    simp only[List.drop_succ_cons,List.drop_zero,List.drop_nil]
    refine aa.part 10 (by simp only[go_sem,reduceIte,Nat.reduceEqDiff,Nat.reduceAdd,bx,f7,d1,d2,d3,Bool.false_eq_true,d5,d6,w1,w2,w3,hat1,ao,aP,hlt,and_self,if_true,Int.toNat_natCast];exact rfl) ?_
    simp only[List.drop_succ_cons,List.drop_zero,List.drop_nil]
    refine aa.nil ⟨by simp[aw,aq,apart,aG],?_⟩
    refine Wp.cond_true xA2 ?_
    refine dp ?_
    refine Wp.ret ⟨trivial,_,rfl,bad (fun h=>?_) _ _ (ab.refl _)⟩
    have:=(hrok.1 h).2.2.2 h0
    rw[hlt] at this;cases this
   |true=>
    have hrl:jo l n i k F=[ob k (.cells (strs (ah (l.take i)))),ob n (.map (bQ (l.take i))),F]:=by rw[jo,if_neg (by omega)]
    have hrv:ko i k= .tsl 1 k 0 i none:=by rw[ko,if_neg (by omega)]
    rw[hrl] at okb on f7 ⊢
    refine Wp.seq (Wp.reg ?_)
    refine aa.part 10 (by simp only[go_sem,reduceIte,Nat.reduceEqDiff,Nat.reduceAdd,bx,f7,d1,d2,d3,Bool.false_eq_true,d5,d6,w1,w2,w3,hat1,ao,aP,hlt,and_self,if_true,Int.toNat_natCast];exact rfl) ?_
    simp only[List.drop_succ_cons,List.drop_zero,List.drop_nil]
    refine aa.part 10 (by simp only[go_sem,reduceIte,Nat.reduceEqDiff,Nat.reduceAdd,bx,f7,d1,d2,d3,Bool.false_eq_true,d5,d6,w1,w2,w3,hat1,ao,aP,hlt,and_self,if_true,Int.toNat_natCast];exact rfl) ?_
    simp only[List.drop_succ_cons,List.drop_zero,List.drop_nil]
    refine aa.part 10 (by simp only[go_sem,reduceIte,Nat.reduceEqDiff,Nat.reduceAdd,bx,f7,d1,d2,d3,Bool.false_eq_true,d5,d6,w1,w2,w3,hat1,ao,aP,hlt,and_self,if_true,Int.toNat_natCast];exact rfl) ?_
    simp only[List.drop_succ_cons,List.drop_zero,List.drop_nil]
    refine aa.part 10 (by simp only[go_sem,reduceIte,Nat.reduceEqDiff,Nat.reduceAdd,bx,f7,d1,d2,d3,Bool.false_eq_true,d5,d6,w1,w2,w3,hat1,ao,aP,hlt,and_self,if_true,Int.toNat_natCast];exact rfl) ?_
    simp only[List.drop_succ_cons,List.drop_zero,List.drop_nil]
    refine aa.nil ⟨by simp[aw,aq,apart,aG],?_⟩
    refine Wp.cond_false xA2 ?_
    refine Wp.skip ?_
    have hrk:rOk l i:=hrok.2 ⟨hkp,a3,by omega,fun h=>hlt⟩
    have hot1:jn (l.take i) c=l.take (i+1):=hot hrk
    have htk1:l.take (i+1)=l.take i++[c]:=htk
    have hput:=iq c (l.take i)
    simp only[aP,fj] at hput
    rw[hot1,d3] at hput
    have e7:=Ok.bC (A:=[ob n1 (.cells [.str c.k,.str c.v,.bool false]),ob k (.cells (strs (ah (l.take i))))]) (.map (bQ (l.take (i+1)))) okb
    have on7:=On.dq (A:=[ob n1 (.cells [.str c.k,.str c.v,.bool false]),ob k (.cells (strs (ah (l.take i))))]) (o':=(.map (bQ (l.take (i+1))))) okb
    simp only[List.cons_append,List.nil_append] at e7 on7
    have fm:=okb.sub (F:=ob n (.map (bQ (l.take i)))) (by simp) n (.map (bQ (l.take i))) (by simp[aY])
    refine Wp.aA (by simp only[go_sem,reduceIte,Nat.reduceEqDiff,Nat.reduceAdd,bx,ax,if_true,if_false,Nat.reduceMul,Nat.reduceLeDiff,f7,fm,cH,hput,d3];exact rfl) (by trivial) ?_
    rw[e7]
    have f7b:=aH n1 (.cells [.str c.k,.str c.v,.bool false]) [ob k (.cells (strs (ah (l.take i)))),ob n (.map (bQ (l.take (i+1)))),F]
    have fkb:=on7.ok.sub (F:=ob k (.cells (strs (ah (l.take i))))) (by simp) k (.cells (strs (ah (l.take i)))) (by simp[aY])
    have hcl:(strs (ah (l.take i))).length=i:=by rw[an,bq,List.length_take];omega
    have r1:(i+1)*16≤140737488355328:=by omega
    have r2:i+1<4611686018427387904:=by omega
    have hcell:strs (ah (l.take i))++([AV.str c.k]:List AV).flatMap cellsOf=strs (ah (l.take (i+1))):=by rw[htk1];simp[ah,strs,cellsOf]
    have e8:=Ok.y6 (A:=[ob n1 (.cells [.str c.k,.str c.v,.bool false])]) on7.ok
    simp only[List.cons_append,List.nil_append] at e8
    refine Wp.reg ?_
    refine aa.part 4 (by simp only[go_sem,reduceIte,Nat.reduceEqDiff,Nat.reduceAdd,bx,ax,if_true,if_false,Nat.reduceMul,Nat.reduceLeDiff,f7b,hrv];exact rfl) ?_
    simp only[List.drop_succ_cons,List.drop_zero,List.drop_nil]
    refine aa.opK xA2 (by simp only[lj,go_sem,reduceIte,Nat.reduceEqDiff,Nat.reduceAdd,bx,List.all_cons,List.all_nil,List.length_cons,List.length_nil,Nat.mul_one,fkb,hcl,r1,r2,and_self,if_true,decide_true,Bool.and_self,hcell];exact rfl) rfl ?_
    refine aa.part 1 xA1 ?_
    simp only[List.drop_succ_cons,List.drop_zero,List.drop_nil]
    refine aa.nil ⟨by simp[aw,aq,apart,aG],?_⟩
    rw[e8,bm]
    have onB:=on7.grown.sJ (A:=[_])
    have okC:=onB.ok.more (.cells (strs (ah (l.take (i+1)))))
    have onD:=(onB.step (On.refl okC).grown).sJ (A:=[_])
    simp only[List.cons_append,List.nil_append] at onD
    refine Wp.ld (by simp only[go_sem,reduceIte,Nat.reduceEqDiff,Nat.reduceAdd,bx,e1];exact rfl) (by trivial) ?_
    refine ⟨((i+1),n1+1),[ob (n1+1) (.cells (strs (ah (l.take (i+1))))),ob n (.map (bQ (l.take (i+1)))),F],n1+1+1,T1,m1,onD,⟨by simp only;omega,by simp only;omega,fun _=>by simp only;omega,fun j hj=>?_,by simp[jo]⟩,by simp only;omega,?_⟩
    ·rcases Nat.lt_or_ge j i with h1|h1
     ·exact hs j h1
     ·rw[show j=i by simp only at hj;omega];exact hrk
    ·refine aU.of (cR ?_) (lK (A:=[_]) okC) (fun _ h=>h) (Nat.le_refl _) (Nat.le_refl _)
     simp only[ko,Nat.succ_ne_zero,if_false]
     exact xSb
  ·have d4':=decide_eq_true d4
   rw[d3] at f7 okb
   by_cases a5:(64:Int)≤(i:Int)
   ·have d5:=decide_eq_true a5
    refine Wp.seq (Wp.reg ?_)
    refine aa.part 10 (by simp only[go_sem,reduceIte,Nat.reduceEqDiff,Nat.reduceAdd,bx,f7,d1,d2,d3,d4',Bool.not_true,d5];exact rfl) ?_
    simp only[List.drop_succ_cons,List.drop_zero,List.drop_nil]
    refine aa.part 10 (by simp only[go_sem,reduceIte,Nat.reduceEqDiff,Nat.reduceAdd,bx,f7,d1,d2,d3,d4',Bool.not_true,d5];exact rfl) ?_
    simp only[List.drop_succ_cons,List.drop_zero,List.drop_nil]
    refine aa.part 10 (by simp only[go_sem,reduceIte,Nat.reduceEqDiff,Nat.reduceAdd,bx,f7,d1,d2,d3,d4',Bool.not_true,d5];exact rfl) ?_
    simp only[List.drop_succ_cons,List.drop_zero,List.drop_nil]
    refine aa.part 10 (by simp only[go_sem,reduceIte,Nat.reduceEqDiff,Nat.reduceAdd,bx,f7,d1,d2,d3,d4',Bool.not_true,d5];exact rfl) ?_
    simp only[List.drop_succ_cons,List.drop_zero,List.drop_nil]
    refine aa.nil ⟨by simp[aw,aq,apart,aG],?_⟩
    refine Wp.cond_true xA2 ?_
    refine dp ?_
    refine Wp.ret ⟨trivial,_,rfl,bad (fun h=>?_) _ _ (ab.refl _)⟩
    have:=(hrok.1 h).2.2.1
    omega
   have d5:=decide_eq_false a5
   rcases Nat.eq_zero_or_pos i with rfl|h0
   ·have d6:decide ((0:Int)<((0:Nat):Int))=false:=rfl
    have hrl:jo l n 0 k F=[ob n (.map (bQ [])),F]:=rfl
    have hrv:ko 0 k= .sl 1 [] (.exact 0):=rfl
    rw[hrl] at okb on f7 ⊢
    refine Wp.seq (Wp.reg ?_)
    refine aa.part 10 (by simp only[go_sem,reduceIte,Nat.reduceEqDiff,Nat.reduceAdd,bx,f7,d1,d2,d3,d4',Bool.not_true,d5,d6];exact rfl) ?_
    simp only[List.drop_succ_cons,List.drop_zero,List.drop_nil]
    refine aa.part 10 (by simp only[go_sem,reduceIte,Nat.reduceEqDiff,Nat.reduceAdd,bx,f7,d1,d2,d3,d4',Bool.not_true,d5,d6];exact rfl) ?_
    simp only[List.drop_succ_cons,List.drop_zero,List.drop_nil]
    refine aa.part 10 (by simp only[go_sem,reduceIte,Nat.reduceEqDiff,Nat.reduceAdd,bx,f7,d1,d2,d3,d4',Bool.not_true,d5,d6];exact rfl) ?_
    simp only[List.drop_succ_cons,List.drop_zero,List.drop_nil]
    refine aa.part 10 (by simp only[go_sem,reduceIte,Nat.reduceEqDiff,Nat.reduceAdd,bx,f7,d1,d2,d3,d4',Bool.not_true,d5,d6];exact rfl) ?_
    simp only[List.drop_succ_cons,List.drop_zero,List.drop_nil]
    refine aa.nil ⟨by simp[aw,aq,apart,aG],?_⟩
    refine Wp.cond_false xA2 ?_
    refine Wp.skip ?_
    have hrk:rOk l 0:=hrok.2 ⟨hkp,a3,by omega,fun h=>absurd h (by simp)⟩
    have hot1:jn [] c=l.take 1:=hot hrk
    have htk1:l.take 1=[]++[c]:=htk
    have hput:=iq c []
    simp only[aP,fj] at hput
    rw[hot1,d3] at hput
    have e7:=Ok.bC (A:=[ob n1 (.cells [.str c.k,.str c.v,.bool true])]) (.map (bQ (l.take 1))) okb
    have on7:=On.dq (A:=[ob n1 (.cells [.str c.k,.str c.v,.bool true])]) (o':=(.map (bQ (l.take 1)))) okb
    simp only[List.cons_append,List.nil_append] at e7 on7
    have fm:=okb.sub (F:=ob n (.map (bQ []))) (by simp) n (.map (bQ [])) (by simp[aY])
    refine Wp.aA (by simp only[go_sem,reduceIte,Nat.reduceEqDiff,Nat.reduceAdd,bx,ax,if_true,if_false,Nat.reduceMul,Nat.reduceLeDiff,f7,fm,cH,hput,d3];exact rfl) (by trivial) ?_
    rw[e7]
    have f7b:=aH n1 (.cells [.str c.k,.str c.v,.bool true]) [ob n (.map (bQ (l.take 1))),F]
    have hcell:([AV.str c.k]:List AV).flatMap cellsOf=strs (ah (l.take 1)):=by rw[htk1];simp[ah,strs,cellsOf]
    refine Wp.reg ?_
    refine aa.part 4 (by simp only[go_sem,reduceIte,Nat.reduceEqDiff,Nat.reduceAdd,bx,ax,if_true,if_false,Nat.reduceMul,Nat.reduceLeDiff,f7b,hrv];exact rfl) ?_
    simp only[List.drop_succ_cons,List.drop_zero,List.drop_nil]
    refine aa.opT xA2 (by simp only[gg,go_sem,reduceIte,Nat.reduceEqDiff,Nat.reduceAdd,bx,List.all_cons,List.all_nil,List.length_cons,List.length_nil,Nat.reduceMul,Nat.reduceLeDiff,Nat.reduceLT,Nat.zero_lt_succ,and_self,if_true,decide_true,Bool.and_self,hcell];exact rfl) rfl ?_
    refine aa.part 1 xA1 ?_
    simp only[List.drop_succ_cons,List.drop_zero,List.drop_nil]
    refine aa.nil ⟨by simp[aw,aq,apart,aG],?_⟩
    rw[bm]
    have okC:=on7.ok.more (.cells (strs (ah (l.take 1))))
    have onD:=(on7.grown.step (On.refl okC).grown).sJ (A:=[_])
    simp only[List.cons_append,List.nil_append] at onD
    refine Wp.ld (by simp only[go_sem,reduceIte,Nat.reduceEqDiff,Nat.reduceAdd,bx,e1];exact rfl) (by trivial) ?_
    refine ⟨(1,n1+1),[ob (n1+1) (.cells (strs (ah (l.take 1)))),ob n (.map (bQ (l.take 1))),F],n1+1+1,T1,m1,onD,⟨by simp only;omega,by simp only;omega,fun _=>by simp only;omega,fun j hj=>?_,by simp[jo]⟩,by simp only;omega,?_⟩
    ·rcases Nat.lt_or_ge j 0 with h1|h1
     ·exact hs j h1
     ·rw[show j=0 by simp only at hj;omega];exact hrk
    ·refine aU.of (cR ?_) (lK (A:=[_]) okC) (fun _ h=>h) (Nat.le_refl _) (Nat.le_refl _)
     simp only[ko,Nat.succ_ne_zero,if_false]
     exact xSb
   have d6:decide ((0:Int)<(i:Int))=true:=decide_eq_true (by omega)
   have w1:IntKind.i64.wrap ((i:Int) - 1)=((i - 1:Nat):Int):=by rw[IntWalk.i64_in _ (by omega)];omega
   have w2:(0:Int)≤((i - 1:Nat):Int):=by omega
   have w3:((i - 1:Nat):Int)<(l.length:Int):=by omega
   have hat1:(chs l).getD (i - 1) .any=aP (l.getD (i - 1) default):=bZ l (i - 1) .any (by omega)
   cases hlt:Op.bytesLess (l.getD (i - 1) default).k c.k with
   |false=>
    refine Wp.seq (Wp.reg ?_)
    refine aa.part 10 (by simp only[go_sem,reduceIte,Nat.reduceEqDiff,Nat.reduceAdd,bx,f7,d1,d2,d3,d4',Bool.not_true,d5,d6,w1,w2,w3,hat1,ao,aP,hlt,and_self,if_true,Int.toNat_natCast];exact rfl) ?_
    simp only[List.drop_succ_cons,List.drop_zero,List.drop_nil]
    refine aa.part 10 (by simp only[go_sem,reduceIte,Nat.reduceEqDiff,Nat.reduceAdd,bx,f7,d1,d2,d3,d4',Bool.not_true,d5,d6,w1,w2,w3,hat1,ao,aP,hlt,and_self,if_true,Int.toNat_natCast];exact rfl) ?_
    simp only[List.drop_succ_cons,List.drop_zero,List.drop_nil]
    refine aa.part 10 (by simp only[go_sem,reduceIte,Nat.reduceEqDiff,Nat.reduceAdd,bx,f7,d1,d2,d3,d4',Bool.not_true,d5,d6,w1,w2,w3,hat1,ao,aP,hlt,and_self,if_true,Int.toNat_natCast];exact rfl) ?_
    simp only[List.drop_succ_cons,List.drop_zero,List.drop_nil]
    refine aa.part 10 (by simp only[go_sem,reduceIte,Nat.reduceEqDiff,Nat.reduceAdd,bx,f7,d1,d2,d3,d4',Bool.not_true,d5,d6,w1,w2,w3,hat1,ao,aP,hlt,and_self,if_true,Int.toNat_natCast];exact rfl) ?_
    simp only[List.drop_succ_cons,List.drop_zero,List.drop_nil]
    refine aa.nil ⟨by simp[aw,aq,apart,aG],?_⟩
    refine Wp.cond_true xA2 ?_
    refine dp ?_
    refine Wp.ret ⟨trivial,_,rfl,bad (fun h=>?_) _ _ (ab.refl _)⟩
    have:=(hrok.1 h).2.2.2 h0
    rw[hlt] at this;cases this
   |true=>
    have hrl:jo l n i k F=[ob k (.cells (strs (ah (l.take i)))),ob n (.map (bQ (l.take i))),F]:=by rw[jo,if_neg (by omega)]
    have hrv:ko i k= .tsl 1 k 0 i none:=by rw[ko,if_neg (by omega)]
    rw[hrl] at okb on f7 ⊢
    refine Wp.seq (Wp.reg ?_)
    refine aa.part 10 (by simp only[go_sem,reduceIte,Nat.reduceEqDiff,Nat.reduceAdd,bx,f7,d1,d2,d3,d4',Bool.not_true,d5,d6,w1,w2,w3,hat1,ao,aP,hlt,and_self,if_true,Int.toNat_natCast];exact rfl) ?_
    simp only[List.drop_succ_cons,List.drop_zero,List.drop_nil]
    refine aa.part 10 (by simp only[go_sem,reduceIte,Nat.reduceEqDiff,Nat.reduceAdd,bx,f7,d1,d2,d3,d4',Bool.not_true,d5,d6,w1,w2,w3,hat1,ao,aP,hlt,and_self,if_true,Int.toNat_natCast];exact rfl) ?_
    simp only[List.drop_succ_cons,List.drop_zero,List.drop_nil]
    refine aa.part 10 (by simp only[go_sem,reduceIte,Nat.reduceEqDiff,Nat.reduceAdd,bx,f7,d1,d2,d3,d4',Bool.not_true,d5,d6,w1,w2,w3,hat1,ao,aP,hlt,and_self,if_true,Int.toNat_natCast];exact rfl) ?_
    simp only[List.drop_succ_cons,List.drop_zero,List.drop_nil]
    refine aa.part 10 (by simp only[go_sem,reduceIte,Nat.reduceEqDiff,Nat.reduceAdd,bx,f7,d1,d2,d3,d4',Bool.not_true,d5,d6,w1,w2,w3,hat1,ao,aP,hlt,and_self,if_true,Int.toNat_natCast];exact rfl) ?_
    simp only[List.drop_succ_cons,List.drop_zero,List.drop_nil]
    refine aa.nil ⟨by simp[aw,aq,apart,aG],?_⟩
    refine Wp.cond_false xA2 ?_
    refine Wp.skip ?_
    have hrk:rOk l i:=hrok.2 ⟨hkp,a3,by omega,fun h=>hlt⟩
    have hot1:jn (l.take i) c=l.take (i+1):=hot hrk
    have htk1:l.take (i+1)=l.take i++[c]:=htk
    have hput:=iq c (l.take i)
    simp only[aP,fj] at hput
    rw[hot1,d3] at hput
    have e7:=Ok.bC (A:=[ob n1 (.cells [.str c.k,.str c.v,.bool true]),ob k (.cells (strs (ah (l.take i))))]) (.map (bQ (l.take (i+1)))) okb
    have on7:=On.dq (A:=[ob n1 (.cells [.str c.k,.str c.v,.bool true]),ob k (.cells (strs (ah (l.take i))))]) (o':=(.map (bQ (l.take (i+1))))) okb
    simp only[List.cons_append,List.nil_append] at e7 on7
    have fm:=okb.sub (F:=ob n (.map (bQ (l.take i)))) (by simp) n (.map (bQ (l.take i))) (by simp[aY])
    refine Wp.aA (by simp only[go_sem,reduceIte,Nat.reduceEqDiff,Nat.reduceAdd,bx,ax,if_true,if_false,Nat.reduceMul,Nat.reduceLeDiff,f7,fm,cH,hput,d3];exact rfl) (by trivial) ?_
    rw[e7]
    have f7b:=aH n1 (.cells [.str c.k,.str c.v,.bool true]) [ob k (.cells (strs (ah (l.take i)))),ob n (.map (bQ (l.take (i+1)))),F]
    have fkb:=on7.ok.sub (F:=ob k (.cells (strs (ah (l.take i))))) (by simp) k (.cells (strs (ah (l.take i)))) (by simp[aY])
    have hcl:(strs (ah (l.take i))).length=i:=by rw[an,bq,List.length_take];omega
    have r1:(i+1)*16≤140737488355328:=by omega
    have r2:i+1<4611686018427387904:=by omega
    have hcell:strs (ah (l.take i))++([AV.str c.k]:List AV).flatMap cellsOf=strs (ah (l.take (i+1))):=by rw[htk1];simp[ah,strs,cellsOf]
    have e8:=Ok.y6 (A:=[ob n1 (.cells [.str c.k,.str c.v,.bool true])]) on7.ok
    simp only[List.cons_append,List.nil_append] at e8
    refine Wp.reg ?_
    refine aa.part 4 (by simp only[go_sem,reduceIte,Nat.reduceEqDiff,Nat.reduceAdd,bx,ax,if_true,if_false,Nat.reduceMul,Nat.reduceLeDiff,f7b,hrv];exact rfl) ?_
    simp only[List.drop_succ_cons,List.drop_zero,List.drop_nil]
    refine aa.opK xA2 (by simp only[lj,go_sem,reduceIte,Nat.reduceEqDiff,Nat.reduceAdd,bx,List.all_cons,List.all_nil,List.length_cons,List.length_nil,Nat.mul_one,fkb,hcl,r1,r2,and_self,if_true,decide_true,Bool.and_self,hcell];exact rfl) rfl ?_
    refine aa.part 1 xA1 ?_
    simp only[List.drop_succ_cons,List.drop_zero,List.drop_nil]
    refine aa.nil ⟨by simp[aw,aq,apart,aG],?_⟩
    rw[e8,bm]
    have onB:=on7.grown.sJ (A:=[_])
    have okC:=onB.ok.more (.cells (strs (ah (l.take (i+1)))))
    have onD:=(onB.step (On.refl okC).grown).sJ (A:=[_])
    simp only[List.cons_append,List.nil_append] at onD
    refine Wp.ld (by simp only[go_sem,reduceIte,Nat.reduceEqDiff,Nat.reduceAdd,bx,e1];exact rfl) (by trivial) ?_
    refine ⟨((i+1),n1+1),[ob (n1+1) (.cells (strs (ah (l.take (i+1))))),ob n (.map (bQ (l.take (i+1)))),F],n1+1+1,T1,m1,onD,⟨by simp only;omega,by simp only;omega,fun _=>by simp only;omega,fun j hj=>?_,by simp[jo]⟩,by simp only;omega,?_⟩
    ·rcases Nat.lt_or_ge j i with h1|h1
     ·exact hs j h1
     ·rw[show j=i by simp only at hj;omega];exact hrk
    ·refine aU.of (cR ?_) (lK (A:=[_]) okC) (fun _ h=>h) (Nat.le_refl _) (Nat.le_refl _)
     simp only[ko,Nat.succ_ne_zero,if_false]
     exact xSb
 ·obtain rfl:i=l.length:=by omega
  have hres:sK l=true:=iA.2 hs
  have e2:lL Y l=({Y with C:=l},0):=by rw[lL,if_pos hres]
  have fx:=on.ok.sub hFm _ _ hx
  have fm:=on.ok.sub (F:=ob n (.map (bQ (l.take l.length)))) (by unfold jo;split<;>simp) n (.map (bQ (l.take l.length))) (by simp[aY])
  rw[List.take_length] at fm
  have hnx:(n=x)=False:=eq_false (by omega)
  have hkl:=bq l
  rcases Nat.eq_zero_or_pos l.length with h0|h0
  ·have hrv:ko l.length k= .sl 1 [] (.exact 0):=by rw[ko,if_pos h0]
   have g1:=ixE (l.length)
   rw[hrv]
   refine rn0 g1 ?_
   refine Wp.reg ?_
   refine aa.part 10 (by simp only[go_sem,reduceIte,Nat.reduceEqDiff,Nat.reduceAdd,bx,ax,if_true,if_false,Nat.reduceMul,Nat.reduceLeDiff,fx];exact rfl) ?_
   simp only[List.drop_succ_cons,List.drop_zero,List.drop_nil]
   refine aa.nil ⟨by simp[aw,aq,apart,aG],?_⟩
   refine dp ?_
   refine Wp.ret ⟨trivial,_,rfl,gq (Y':={Y with C:=l}) (M':=l) (K:= .sl 1 [] (.exact 0)) (.inl hx0) (.inr (Nat.le_refl _)) (by simp only;omega) (by simp only;omega) (by omega) ok (by simp only;omega) (by simp only;omega) ?_ (ab.refl _) (ab.refl _) ?_ (fun q=>rfl) ?_ (fun j o hj=>by cases hj) (fun t ht=>by simp[ks] at ht) (ab.refl _) (fun F' h=>⟨_,_,rfl,by rw[e2],F',rfl,by rw[e2];exact h⟩)⟩
   ·simp only[go_sem,reduceIte]
   ·simp only[go_sem,hnx,if_false];exact fm
   ·exact .inl ⟨rfl,by rw[List.length_eq_zero_iff.1 h0];rfl⟩
  ·have hrv:ko l.length k= .tsl 1 k 0 l.length none:=by rw[ko,if_neg (by omega)]
   have fk:=on.ok.sub (F:=ob k (.cells (strs (ah (l.take l.length))))) (by unfold jo;rw[if_neg (by omega)];simp) k (.cells (strs (ah (l.take l.length)))) (by simp[aY])
   have hkn:=on.ok.lt (F:=ob k (.cells (strs (ah (l.take l.length))))) (by unfold jo;rw[if_neg (by omega)];simp) (j:=k) (o:= .cells (strs (ah (l.take l.length)))) (by simp[aY])
   rw[List.take_length] at fk
   have hkx:(k=x)=False:=eq_false (by omega)
   have g1:=ixE (l.length)
   rw[hrv]
   refine rn0 g1 ?_
   refine Wp.reg ?_
   refine aa.part 10 (by simp only[go_sem,reduceIte,Nat.reduceEqDiff,Nat.reduceAdd,bx,ax,if_true,if_false,Nat.reduceMul,Nat.reduceLeDiff,fx];exact rfl) ?_
   simp only[List.drop_succ_cons,List.drop_zero,List.drop_nil]
   refine aa.nil ⟨by simp[aw,aq,apart,aG],?_⟩
   refine dp ?_
   refine Wp.ret ⟨trivial,_,rfl,gq (Y':={Y with C:=l}) (M':=l) (K:= .tsl 1 k 0 l.length none) (.inl hx0) (.inr (Nat.le_refl _)) (by simp only;omega) (by simp only;omega) (by omega) ok (by simp only;omega) (by simp only;omega) ?_ (ab.refl _) (ab.refl _) ?_ (fun q=>rfl) ?_ (fun j o hj=>by cases hj) (fun t ht=>by simp[ks] at ht) (ab.refl _) (fun F' h=>⟨_,_,rfl,by rw[e2],F',rfl,by rw[e2];exact h⟩)⟩
   ·simp only[go_sem,reduceIte]
   ·simp only[go_sem,hnx,if_false];exact fm
   ·refine .inr ⟨k,by simp only[hkl],?_,by omega,by have:=hk2 h0;omega,by simp only;omega,.inr hk⟩
    simp only[go_sem,hkx,if_false];exact fk
end Go.Proofs.YtpehfflehebmbaaGreat.Txn
end
section
set_option maxRecDepth 10000
namespace Go.Proofs.YtpehfflehebmbaaGreat.Txn
open Go Go.Av Go.Proofs Go.Proofs.YtpehfflehebmbaaGreat.C Go.Proofs.YtpehfflehebmbaaGreat.Batch Go.Proofs.YtpehfflehebmbaaGreat.Space Go.Proofs.YtpehfflehebmbaaGreat.Reads
def fS (Y:Tx):AV:= .agg [.int .i64 Y.t,.sl 3 (chs Y.C) .any,.sl 1 (strs Y.rk) .any,.sl 2 (sps Y.rs) .any,.bool Y.ended]
theorem dN (Y:Tx):av (fS Y)=true:=by simp[fS,av,al,aK,ik,eo,cX]
theorem vc:∀{C:List Ch} {q:Bs} {j:Nat} (hj:j<C.length),(∀i,i<j→¬(C.getD i default).k=q)→(C.getD j default).k=q→bU C q=some (C.getD j default)
 |[],_,_,hj,_,_=>by simp at hj
 |c::C,q,0,hj,_,h=>by
  simp only[List.getD_cons_zero] at h ⊢
  rw[bU,if_pos h]
 |c::C,q,j+1,hj,h,h2=>by
  have h0:=h 0 (by omega)
  simp only[List.getD_cons_zero,List.getD_cons_succ] at h0 h2 ⊢
  rw[bU,if_neg h0]
  exact vc (by simpa using hj) (fun i hi=>by simpa using h (i+1) (by omega)) h2
theorem vd:∀{C:List Ch} {q:Bs},(∀i,i<C.length→¬(C.getD i default).k=q)→bU C q=none
 |[],_,_=>rfl
 |c::C,q,h=>by
  have h0:=h 0 (by simp)
  simp only[List.getD_cons_zero] at h0
  rw[bU,if_neg h0]
  exact vd fun i hi=>by simpa using h (i+1) (by simpa using hi)
set_option maxHeartbeats 1000000 in
theorem Ci (Y:Tx) (hl:Y.C.length≤1000000) (q:Bs):aB Tryz.prog 68 [fS Y,.str q] (.tup [aP (cr Y.C q),.bool (bU Y.C q).isSome]):=by
 refine f68.aJ (by simp) (by simp[al,av,dN]) (by simp[av,al,aP]) ?_
 unfold c68
 simp only[C.zz]
 unfold fS
 refine o5 ?_
 refine Wp.dW [1,2,4,5] xA6 (fun j:Nat=>[(6,.int .i64 j)]) (fun j=>j≤Y.C.length∧∀i,i<j→¬(Y.C.getD i default).k=q) (fun j=>Y.C.length - j) 0 ⟨Nat.zero_le _,fun i h=>absurd h (by omega)⟩ ?_ ?_
 ·exact xSb
 ·rintro j ⟨hj,hr⟩
  by_cases hc:j<Y.C.length
  ·obtain ⟨g1,h2,h3,e1⟩:=ixF (j:=j) (n:=Y.C.length) (by omega) (by omega)
   by_cases hk:(Y.C.getD j default).k=q
   ·have d2:decide ((Y.C.getD j default).k=q)=true:=decide_eq_true hk
    have hf:=vc hc hr hk
    refine an0 (cj8 @ao g1 d2 h2 h3 @Int.toNat_natCast (fun d=>bZ _ _ d hc) @aP.eq_1) ?_
    refine Wp.ret ⟨trivial,_,by simp only[bP,rvs,rv,go_sem,bx,ax,reduceIte,Nat.reduceEqDiff,if_true,if_false,Nat.reduceLeDiff];exact rfl,?_⟩
    exact ab.of_eq (by simp only[cr,hf];rfl)
   ·have d2:decide ((Y.C.getD j default).k=q)=false:=decide_eq_false hk
    refine an0 (cj9 @ao g1 d2 h2 h3 e1 @Int.toNat_natCast (fun d=>bZ _ _ d hc) @aP.eq_1) ?_
    refine ⟨j+1,⟨by omega,fun i hi=>?_⟩,by omega,?_⟩
    ·by_cases he:i=j
     ·subst he;exact hk
     ·exact hr i (by omega)
    ·exact xSu
  ·obtain rfl:j=Y.C.length:=by omega
   have g1:=ixE (Y.C.length)
   have hf:=vd hr
   refine an0 (cj2 @ao g1) ?_
   refine Wp.ret ⟨trivial,_,by simp only[bP,rvs,rv,go_sem,bx,ax,reduceIte,Nat.reduceEqDiff,if_true,if_false,Nat.reduceLeDiff];exact rfl,?_⟩
   exact ab.of_eq (by simp only[cr,hf];rfl)
theorem iB (l:List Ch) (c:Ch):chs l++[.agg [.str c.k,.str c.v,.bool c.d]]=chs (l++[c]):=by simp[chs,aP]
theorem nA {n:Nat} (h:n≤2000000):(n+1)*40≤140737488355328∧n+1<4611686018427387904∧(n+1+1)*40≤140737488355328∧n+1+1<4611686018427387904:=by omega
theorem AX {l:List Ch} {j:Nat} (h:j<l.length):l.drop j=l.getD j default::l.drop (j+1):=Batch.qy h
theorem wW {c:Ch} (hd:c.d=true→c.v=[]):kept c=cE c:=by
 unfold kept cE
 cases e:c.d with
 |false=>simp
 |true=>simp[hd e]
theorem AY {Y:Tx} (hr:Space.bE (ah Y.C)) (hl:Y.C.length≤64) (c:Ch):fF Y.C c=if cE c=false then (Y.C,2) else if 64<(mi c false Y.C).length then (Y.C,9) else (mi c false Y.C,0):=by
 rw[u4 hr,fF]
 split
 ·rfl
 ·have:=rV Y.C c
  cases ht:thK (ah Y.C) c.k with
  |true=>
   rw[ht] at this
   simp only[if_true] at this
   rw[if_neg (by simp),if_neg (by omega)]
  |false=>
   rw[ht] at this
   simp only[Bool.false_eq_true,if_false] at this
   by_cases h:64≤Y.C.length
   ·rw[if_pos ⟨rfl,h⟩,if_pos (by omega)]
   ·rw[if_neg (by simp[h]),if_neg (by omega)]
set_option maxHeartbeats 2000000 in
theorem mj (Y:Tx) (hr:Space.bE (ah Y.C)) (hl:Y.C.length≤64) (lk:∀x∈Y.C,Ls x.k) (c:Ch) (hck:Ls c.k) (hd:c.d=true→c.v=[]):
  aB Tryz.prog 32 [fS Y,aP c] (.tup [fS (ew Y c).1,.int .i64 (ew Y c).2]):=by
 refine f32.aJ (by simp) (by simp[al,av,dN,aP]) (by simp[av,al,dN]) ?_
 unfold c32
 simp only[C.zz]
 have hkp:=lp c
 rw[wW hd] at hkp
 have hcg:=AY hr hl c
 have hct:ew Y c=if Y.ended then (Y,17) else ({Y with C:=(fF Y.C c).1},(fF Y.C c).2):=rfl
 obtain ⟨t,C,rk,rs,ended⟩:=Y
 simp only at hr hl lk hcg hct
 rw[hct]
 unfold fS
 unfold aP at hkp ⊢
 cases ended with
 |true=>
  refine o5 ?_
  refine Wp.ret ⟨trivial,_,by simp only[bP,rvs,rv,go_sem,bx,ax,reduceIte,Nat.reduceEqDiff,if_true,if_false,Nat.reduceLeDiff];exact rfl,?_⟩
  exact ab.refl _
 |false=>
  cases hk:cE c with
  |false=>
   rw[hk] at hkp
   rw[hk,if_pos rfl] at hcg
   simp only[hcg]
   refine qv hkp ?_
   refine Wp.ret ⟨trivial,_,by simp only[bP,rvs,rv,go_sem,bx,ax,reduceIte,Nat.reduceEqDiff,if_true,if_false,Nat.reduceLeDiff];exact rfl,?_⟩
   exact ab.refl _
  |true=>
   rw[hk] at hkp
   rw[hk,if_neg (by simp)] at hcg
   simp only[hcg]
   refine qv hkp ?_
   refine Wp.le (aU.tok _ _) ?_
   refine Wp.fH [2,3,4,5] xA7 (fun (j:Nat × List Ch × Bool) tk=>[(6,.sl 3 (chs j.2.1) (.own tk)),(7,.bool j.2.2),(8,.int .i64 j.1)]) (fun j=>j.1≤C.length∧j.2.1++mi c j.2.2 (C.drop j.1)=mi c false C∧j.2.1.length≤2*j.1) (fun j=>C.length - j.1) (0,[],false) _ ⟨Nat.zero_le _,by simp,Nat.le_refl _⟩ rfl ?_ ?_
   ·simp only[aC,go_sem,reduceIte,Nat.reduceEqDiff,Nat.reduceAdd,bx];and_intros<;>first|exact trivial|exact ab.refl _|exact ab.any _|exact ab.eN rfl|(refine ab.int ?_;omega)
   ·rintro ⟨j,o,b⟩ tk m ⟨hj,ho,hol⟩
    simp only at hj ho hol
    obtain ⟨g0,g0',g1',g1''⟩:=nA (show o.length≤2000000 by omega)
    by_cases hc:j<C.length
    ·obtain ⟨g1,h2,h3,e1⟩:=ixF (j:=j) (n:=C.length) (by omega) (by omega)
     rw[AX hc,mi] at ho
     have hls:Ls (C.getD j default).k:=lk _ (by rw[Av.au hc];exact List.getElem_mem hc)
     have hbel:=cN (C.getD j default).k c.k hls hck
     by_cases hkk:(C.getD j default).k=c.k
     ·have q4:decide ((C.getD j default).k=c.k)=true:=decide_eq_true hkk
      rw[if_pos hkk,List.nil_append] at ho
      cases b with
      |true=>
       simp only[Bool.true_eq_false,false_and,if_false,List.nil_append,Bool.true_or] at ho
       refine an0 (cj9 @ao g1 h2 h3 q4 e1 @Int.toNat_natCast (fun d=>bZ _ _ d hc) @aP.eq_1) ?_
       refine ⟨(j+1,o,true),tk,m,⟨by simp only;omega,ho,by simp only;omega⟩,by simp only;omega,?_⟩
       exact xSu
      |false=>
       cases hb:Op.bytesLess (C.getD j default).k c.k with
       |true=>
        rw[hb] at hbel ho
        simp only[Bool.true_eq_false,and_false,if_false,List.nil_append,Bool.not_true,Bool.or_self] at ho
        refine an1 (cj9 @ao g1 h2 h3 q4 e1 @Int.toNat_natCast (fun d=>bZ _ _ d hc) @aP.eq_1) hbel ?_
        refine ⟨(j+1,o,false),tk,m,⟨by simp only;omega,ho,by simp only;omega⟩,by simp only;omega,?_⟩
        exact xSu
       |false=>
        rw[hb] at hbel ho
        simp only[true_and,and_self,if_true,Bool.not_false,Bool.or_true] at ho
        refine an1 (bN @ao g1 h2 h3 q4 e1 @Int.toNat_natCast (fun d=>bZ _ _ d hc) @aP.eq_1 @List.length_cons.{0} @List.length_nil.{0} (cj3 @Nat.zero_add g0 g0')) hbel ?_
        refine ⟨(j+1,o++[c],true),m,m+1,⟨by simp only;omega,by rw[←ho];simp,by simp;omega⟩,by simp only;omega,?_⟩
        refine aU.tm (by simp only[aC,go_sem,reduceIte,Nat.reduceEqDiff,Nat.reduceAdd,bx];and_intros<;>first|exact trivial|exact ab.refl _|exact ab.any _|exact ab.of_eq (by rw[←iB])|(refine ab.int ?_;omega))
     ·have q4:decide ((C.getD j default).k=c.k)=false:=decide_eq_false hkk
      rw[if_neg hkk] at ho
      cases b with
      |true=>
       simp only[Bool.true_eq_false,false_and,if_false,List.nil_append,Bool.true_or] at ho
       refine an0 (bN @ao g1 h2 h3 q4 e1 @Int.toNat_natCast (fun d=>bZ _ _ d hc) @aP.eq_1 @List.length_cons.{0} @List.length_nil.{0} (cj3 @Nat.zero_add g0 g0')) ?_
       refine ⟨(j+1,o++[C.getD j default],true),m,m+1,⟨by simp only;omega,by rw[←ho];simp,by simp;omega⟩,by simp only;omega,?_⟩
       refine aU.tm (by simp only[aC,go_sem,reduceIte,Nat.reduceEqDiff,Nat.reduceAdd,bx];and_intros<;>first|exact trivial|exact ab.refl _|exact ab.any _|exact ab.of_eq (by rw[←iB])|(refine ab.int ?_;omega))
      |false=>
       cases hb:Op.bytesLess (C.getD j default).k c.k with
       |true=>
        rw[hb] at hbel ho
        simp only[Bool.true_eq_false,and_false,if_false,List.nil_append,Bool.not_true,Bool.or_self] at ho
        refine an1 (bN @ao g1 h2 h3 q4 e1 @Int.toNat_natCast (fun d=>bZ _ _ d hc) @aP.eq_1 @List.length_cons.{0} @List.length_nil.{0} (cj3 @Nat.zero_add g0 g0')) hbel ?_
        refine ⟨(j+1,o++[C.getD j default],false),m,m+1,⟨by simp only;omega,by rw[←ho];simp,by simp;omega⟩,by simp only;omega,?_⟩
        refine aU.tm (by simp only[aC,go_sem,reduceIte,Nat.reduceEqDiff,Nat.reduceAdd,bx];and_intros<;>first|exact trivial|exact ab.refl _|exact ab.any _|exact ab.of_eq (by rw[←iB])|(refine ab.int ?_;omega))
       |false=>
        rw[hb] at hbel ho
        simp only[true_and,and_self,if_true,Bool.not_false,Bool.or_true] at ho
        refine an1 (bN @ao g1 h2 h3 q4 e1 @Int.toNat_natCast (fun d=>bZ _ _ d hc) @aP.eq_1 @List.length_cons.{0} @List.length_nil.{0} (cj5 @Nat.zero_add g0 g0' g1' g1'')) hbel ?_
        refine ⟨(j+1,o++[c]++[C.getD j default],true),m+1,m+2,⟨by simp only;omega,by rw[←ho];simp,by simp;omega⟩,by simp only;omega,?_⟩
        refine aU.tm (by simp only[aC,go_sem,reduceIte,Nat.reduceEqDiff,Nat.reduceAdd,bx];and_intros<;>first|exact trivial|exact ab.refl _|exact ab.any _|exact ab.of_eq (by rw[←iB,←iB])|(refine ab.int ?_;omega))
    ·obtain rfl:j=C.length:=by omega
     have g1:=ixE (C.length)
     rw[List.drop_length,mi] at ho
     cases b with
     |true=>
      simp only[if_true,List.append_nil] at ho
      rw[←ho]
      by_cases hf:64<o.length
      ·have d9:decide ((64:Int)<(o.length:Int))=true:=decide_eq_true (by omega)
       simp only[if_pos hf]
       refine an0 (cj3 @ao g1 d9) ?_
       refine Wp.ret ⟨trivial,_,by simp only[bP,rvs,rv,go_sem,bx,ax,reduceIte,Nat.reduceEqDiff,if_true,if_false,Nat.reduceLeDiff];exact rfl,?_⟩
       exact ab.refl _
      ·have d9:decide ((64:Int)<(o.length:Int))=false:=decide_eq_false (by omega)
       simp only[if_neg hf]
       refine an0 (cj3 @ao g1 d9) ?_
       refine Wp.ret ⟨trivial,_,by simp only[bP,rvs,rv,go_sem,bx,ax,reduceIte,Nat.reduceEqDiff,if_true,if_false,Nat.reduceLeDiff];exact rfl,?_⟩
       exact ab.tup (af.cons (ab.agg (af.cons (ab.refl _) (af.cons ab.own (af.refl _)))) (af.refl _))
     |false=>
      simp only[Bool.false_eq_true,if_false] at ho
      rw[←ho]
      by_cases hf:64<(o++[c]).length
      ·have d9:decide ((64:Int)<((o.length+1:Nat):Int))=true:=decide_eq_true (by simp at hf;omega)
       simp only[if_pos hf]
       refine an0 (cj9 @ao g1 d9 @List.length_append.{0} @List.length_cons.{0} @List.length_nil.{0} @Nat.zero_add g0 g0') ?_
       refine Wp.ret ⟨trivial,_,by simp only[bP,rvs,rv,go_sem,bx,ax,reduceIte,Nat.reduceEqDiff,if_true,if_false,Nat.reduceLeDiff];exact rfl,?_⟩
       exact ab.refl _
      ·have d9:decide ((64:Int)<((o.length+1:Nat):Int))=false:=decide_eq_false (by simp at hf;omega)
       simp only[if_neg hf]
       refine an0 (cj9 @ao g1 d9 @List.length_append.{0} @List.length_cons.{0} @List.length_nil.{0} @Nat.zero_add g0 g0') ?_
       refine Wp.ret ⟨trivial,_,by simp only[bP,rvs,rv,go_sem,bx,ax,reduceIte,Nat.reduceEqDiff,if_true,if_false,Nat.reduceLeDiff];exact rfl,?_⟩
       rw[iB]
       exact ab.tup (af.cons (ab.agg (af.cons (ab.refl _) (af.cons ab.own (af.refl _)))) (af.refl _))
def gO (Y:Tx) (l:List Ch):Tx × Int:=if Y.ended then (Y,17) else lL Y l
theorem mo {x s:Nat} {Y:Tx} {F:Fr} (hF:TxF x s Y F) (l:List Ch) (hll:l.length≤4611686018427387904):
  aL Tryz.prog 40 [.ptr x 0,.sl 3 (chs l) .any] [F] fun r L=>r= .int .i64 (gO Y l).2∧∃F',L=[F']∧TxF x s (gO Y l).1 F':=by
 refine f40.bw (by simp) fun n m ok=>?_
 unfold c40
 simp only[C.zz]
 have e1:decide (n≤n)=true:=decide_eq_true (by omega)
 have e2:decide (n≤n+1)=true:=decide_eq_true (by omega)
 have f1:(n=n+1)=False:=eq_false (by omega)
 have f2:(n+1=n)=False:=eq_false (by omega)
 have ok1:Ok [F] (n+1+1) (ks [F]) m:=ok.grow (by omega) (Nat.le_refl _)
 have on0:On [F] n m [F] (n+1+1) (ks [F]) m:=⟨by omega,Nat.le_refl _,ok1,.refl,.refl⟩
 have dx:=decide_eq_false (show ¬n≤x from by have:=hF.go;obtain ⟨_,_,_,_,_,hx,_⟩:=this;have:=ok.lt (by simp) hx;omega)
 refine Wp.aA xA1 (by trivial) ?_
 refine Wp.frz (fun j=>decide (n≤j)) [(2,.ref [.ptr x 0]),(3,.ref [.sl 3 (chs l) .any])] ⟨lay [F],n+1+1,ks [F],m⟩ ?_ (ny ok fun j hj=>by simp only[upd];rw[if_neg (by omega),if_neg (by omega)]) (fun t ht=>ht) (Nat.le_refl _) (Nat.le_refl _) ?_
 ·simp only[aC,go_sem,reduceIte,Nat.reduceEqDiff,unT,eP,bx,e1,e2,f1,f2,dx,if_false,if_true,List.drop_zero]
  and_intros<;>first|exact ab.refl _|trivial
 refine dp ?_
 cases he:Y.ended with
 |true=>
  have hd:=ye hF (l:=[F]) (by simp) he (.clo (.func 85) [] [.ref [.sl 3 (chs l) .any],.ref [.ptr x 0]])
  refine aa.eZ xA2 xA3 (hd) (ok1) fun r1 G1 n1 T1 m1 ids1 hq1 on1=>?_
  obtain ⟨rfl,rfl⟩:=hq1
  refine aa.evR xA1 ?_
  refine dp ?_
  refine Wp.ret ⟨trivial,_,rfl,_,_,(on0.step on1).ends (ab.refl _) ⟨by rw[gO,he];rfl,F,rfl,by rw[gO,he];exact hF⟩⟩
 |false=>
  have hd:=uS hF (l:=[F]) (by simp) he (g:=85) Tryz.func85 (of_decide_eq_true (by kernel_rfl)) (of_decide_eq_true (by kernel_rfl)) [.ref [.sl 3 (chs l) .any],.ref [.ptr x 0]] (Q:=fun v e L=>e=(lL Y l).2∧∃F',L=[F']∧TxF x s (lL Y l).1 F') (uf hF l hll)
  refine aa.eZ xA2 xA3 (hd) (ok1) fun r1 G1 n1 T1 m1 ids1 hq1 on1=>?_
  obtain ⟨v,e,rfl,rfl,F',rfl,hF'⟩:=hq1
  refine aa.evR xA1 ?_
  refine dp ?_
  refine Wp.ret ⟨trivial,_,rfl,_,_,(on0.step on1).ends (ab.refl _) ⟨by rw[gO,he];rfl,F',rfl,by rw[gO,if_neg (by simp[he])];exact hF'⟩⟩
theorem ve {S:Spc} {q:Bs} {t:Int} (h:t≤S.last):(dS S q t).2=12↔t<S.mark:=by
 unfold dS cB
 by_cases h1:t<S.mark
 ·simp[h1]
 ·rw[if_neg h1,if_neg (show ¬S.last<t by omega),if_pos rfl]
  split<;>simp[h1]
theorem y7 {S:Spc} {q:Bs} {t:Int} (h:¬(dS S q t).2=0):(dS S q t).1=[]:=by
 unfold dS at h ⊢
 split
 ·rename_i h1
  rw[if_pos h1] at h
  split
  ·rename_i h2;rw[if_pos h2] at h;exact absurd rfl h
  ·rfl
 ·rfl
set_option maxHeartbeats 2000000 in
theorem y8 (S:Spc) (Y:Tx) (hS:lX S) (hl:Y.C.length≤1000000) (lk:LsK Y.rk) (ll:LsS Y.rs) (ht:Y.t≤S.last) (q:Bs) (hq:Ls q):
  aB Tryz.prog 33 [fS Y,du S,.str q] (.tup [fS (dT S Y q).1,.str (dT S Y q).2.1,.int .i64 (dT S Y q).2.2]):=by
 refine f33.aJ (by simp) (by simp[al,av,dN,dd]) (by simp[av,al,dN]) ?_
 unfold c33
 simp only[C.zz]
 have hown:=Ci Y hl q
 have hky:=Cf Y.rk Y.rs lk ll q hq
 have hgt:=yJ S hS q Y.t
 have h12:=ve (q:=q) ht
 have hval:=y7 (S:=S) (q:=q) (t:=Y.t)
 have hgy:dT S Y q=if Y.ended then (Y,[],17) else ((fh S Y q).1,if (fh S Y q).2.2=0 then (fh S Y q).2.1 else [],(fh S Y q).2.2):=rfl
 obtain ⟨t,C,rk,rs,ended⟩:=Y
 simp only at hl lk ll ht hown hky hgt h12 hval
 unfold Reads.bQ Reads.cP at hky
 rw[hgy]
 unfold fS at hown ⊢
 unfold du at hgt ⊢
 unfold aP at hown
 cases ended with
 |true=>
  refine o5 ?_
  refine Wp.ret ⟨trivial,_,by simp only[bP,rvs,rv,go_sem,bx,ax,reduceIte,Nat.reduceEqDiff,if_true,if_false,Nat.reduceLeDiff];exact rfl,?_⟩
  exact ab.refl _
 |false=>
  rw[fh]
  simp only
  cases hg:bU C q with
  |some c=>
   rw[hg,show cr C q=c by rw[cr,hg];rfl] at hown
   cases hd:c.d with
   |true=>
    rw[hd] at hown
    refine an1 @Option.isSome_some.{0} hown ?_
    refine Wp.ret ⟨trivial,_,by simp only[bP,rvs,rv,go_sem,bx,ax,reduceIte,Nat.reduceEqDiff,if_true,if_false,Nat.reduceLeDiff];exact rfl,?_⟩
    simp[hd]
    exact ab.refl _
   |false=>
    rw[hd] at hown
    refine an1 @Option.isSome_some.{0} hown ?_
    refine Wp.ret ⟨trivial,_,by simp only[bP,rvs,rv,go_sem,bx,ax,reduceIte,Nat.reduceEqDiff,if_true,if_false,Nat.reduceLeDiff];exact rfl,?_⟩
    simp[hd]
    exact ab.refl _
  |none=>
   rw[hg,show cr C q=⟨[],[],false⟩ by rw[cr,hg];rfl] at hown
   generalize hgb:dS S q t=gb at*
   generalize hkb:dF rk rs q=kb at*
   by_cases hm:t<S.mark
   ·have d1:=decide_eq_true hm
    have e12:=h12.2 hm
    refine an1 (cj2 @Option.isSome_none.{0} d1) hown ?_
    refine Wp.ret ⟨trivial,_,by simp only[bP,rvs,rv,go_sem,bx,ax,reduceIte,Nat.reduceEqDiff,if_true,if_false,Nat.reduceLeDiff];exact rfl,?_⟩
    simp[e12]
    exact ab.refl _
   ·have d1:=decide_eq_false hm
    have e12:¬gb.2=12:=fun h=>hm (h12.1 h)
    by_cases h0:kb.2.2=0
    ·have d2:=decide_eq_true h0
     refine an3 (cj3 @Option.isSome_none.{0} d1 d2) hown hky hgt ?_
     refine Wp.ret ⟨trivial,_,by simp only[bP,rvs,rv,go_sem,bx,ax,reduceIte,Nat.reduceEqDiff,if_true,if_false,Nat.reduceLeDiff];exact rfl,?_⟩
     simp only[e12,h0,if_true,if_false,Bool.false_eq_true]
     by_cases hz:gb.2=0
     ·rw[if_pos hz];exact ab.refl _
     ·rw[if_neg hz,hval hz];exact ab.refl _
    ·have d2:=decide_eq_false h0
     refine an2 (cj3 @Option.isSome_none.{0} d1 d2) hown hky ?_
     refine Wp.ret ⟨trivial,_,by simp only[bP,rvs,rv,go_sem,bx,ax,reduceIte,Nat.reduceEqDiff,if_true,if_false,Nat.reduceLeDiff];exact rfl,?_⟩
     simp only[e12,h0,if_true,if_false,Bool.false_eq_true]
     exact ab.refl _
end Go.Proofs.YtpehfflehebmbaaGreat.Txn
end
section
set_option maxRecDepth 100000
namespace Go.Proofs.YtpehfflehebmbaaGreat.Space
open Go Go.Av Go.Proofs Go.Proofs.YtpehfflehebmbaaGreat.C Go.Proofs.YtpehfflehebmbaaGreat.Batch
theorem laid:laidOutB Tryz.prog=true:=by kernel_rfl
theorem BE:mapsRowed Tryz.prog=true:=by kernel_rfl
theorem full:∀t e,t<Tryz.prog.types.size→Tryz.prog.underlying t=some (.slice e)→0<Tryz.prog.cellsOf e:=slices_full_of Tryz.prog (by kernel_rfl)
theorem own:ownKnob Tryz.prog.godebug=none:=by kernel_rfl
theorem Di {H:Type}:mX (H:=H) Rows.uptoBulk Rows.uptoBulkAll:=
 ⟨fun l=>by simp[Rows.uptoBulk],fun k n=>by simp[Rows.uptoBulk],fun b=>by simp[Rows.uptoBulk],by simp[Rows.uptoBulk],fun a b=>by simp[Rows.uptoBulk],fun a=>by simp[Rows.uptoBulk],by simp[Rows.uptoBulkAll],fun d l=>by simp[Rows.uptoBulkAll]⟩
theorem oQ {α:Type} {t:TypeId} {k:Nat} {enc:α→AV} {Q:α→Prop} (h1:∀cs,Fits Tryz.prog k t cs→∃x,dI Tryz.prog t cs=enc x∧Q x):∀{ys:List AV},(∀y∈ys,∃cs,Fits Tryz.prog k t cs∧y=dI Tryz.prog t cs)→∃l:List α,ys=l.map enc∧∀x∈l,Q x
 |[],_=>⟨[],rfl,by simp⟩
 |y::ys,h=>by
  obtain ⟨l,rfl,hl⟩:=oQ h1 (ys:=ys) (fun z hz=>h z (by simp[hz]))
  obtain ⟨cs,g1,g2⟩:=h y (by simp)
  obtain ⟨x,e,q⟩:=h1 cs g1
  refine ⟨x::l,by simp[g2,e],fun z hz=>?_⟩
  rcases List.mem_cons.1 hz with rfl|hz
  ·exact q
  ·exact hl z hz
theorem vf {n b:Nat} (hb:8≤b) (h:n*b≤reachBytes):n≤35184372088832:=by
 have:n*8≤n*b:=Nat.mul_le_mul_left n hb
 have e:reachBytes=140737488351232:=rfl
 omega
def Cj (c:Ch):Prop:=c.k.length≤reachBytes∧c.v.length≤reachBytes
theorem sO {k:Nat} {cs:List AV} (h:Fits Tryz.prog (k+2) 65 cs):∃p:Ch,dI Tryz.prog 65 cs=aP p∧Cj p:=by
 have hw:∀cs,dI Tryz.prog 65 cs= .agg cs:=fun cs=>by
  unfold dI;rw[if_pos (by kernel_rfl)]
 rw[hw]
 unfold Fits at h
 rw[Tryz.underlying65] at h
 obtain ⟨xss,rfl,h⟩:=h
 cases h with|cons h0 h=>cases h with|cons h1 h=>cases h with|cons h2 h=>
 cases h
 unfold Fits at h0 h1 h2
 simp only at h0 h1 h2
 rw[Tryz.underlying9] at h0 h1
 rw[Tryz.underlying4] at h2
 obtain ⟨n,rfl,hn⟩:=h0
 obtain ⟨v,rfl,hv⟩:=h1
 obtain ⟨d,rfl⟩:=h2
 exact ⟨⟨n,v,d⟩,rfl,hn,hv⟩
theorem qR {k:Nat} {cs:List AV} (h:Fits Tryz.prog (k+3) 27 cs):∃l:List Ch,dI Tryz.prog 27 cs= .sl 3 (chs l) .any∧cs=[.sl 3 (chs l) .any]∧l.length≤35184372088832∧∀c∈l,Cj c:=by
 unfold Fits at h
 rw[Tryz.underlying27] at h
 obtain ⟨xs,rfl,hlx,hx⟩:=h
 obtain ⟨l,rfl,hl⟩:=oQ (fun cs h=>sO h) hx
 have c1:Tryz.prog.cellsOf 65=3:=by kernel_rfl
 have c2:Tryz.prog.bytesOf 65=40:=by kernel_rfl
 rw[List.length_map,c2] at hlx
 refine ⟨l,?_,by rw[c1];rfl,vf (by decide) hlx,hl⟩
 unfold dI;rw[if_neg (by rw[show bT Tryz.prog 27=false by kernel_rfl];simp),c1];rfl
structure Act where
 k:Int
 t:Int
 l:List Ch
instance:Inhabited Act:=⟨⟨0,0,[]⟩⟩
def dc (a:Act):AV:= .agg [.int .i64 a.k,.int .i64 a.t,.sl 3 (chs a.l) .any]
end Go.Proofs.YtpehfflehebmbaaGreat.Space
end
section
set_option maxRecDepth 10000
namespace Go.Proofs.YtpehfflehebmbaaGreat.Space
open Go Go.Av Go.Proofs Go.Proofs.YtpehfflehebmbaaGreat.C Go.Proofs.YtpehfflehebmbaaGreat.Batch
def Dv (l:List Act):Nat:=(l.map fun a=>1+a.l.length).sum
structure Few (l:List Act):Prop where
 n:Dv l≤200
 t:∀a∈l,-100≤a.t∧a.t≤1099511627776
 c:∀a∈l,∀c∈a.l,c.k.length≤1000∧c.v.length≤1000
theorem Ok.tok {l:List Fr} {n m:Nat} {T:List Nat} (ok:Ok l n T m):Ok l n (m::T) (m+1):=
 ⟨ok.bd,ok.dj,fun t ht=>List.mem_cons_of_mem _ (ok.tk t ht),ok.td,fun t ht=>by
  rcases List.mem_cons.1 ht with rfl|h
  ·omega
  ·have:=ok.tb t h;omega⟩
def S0:Spc:=⟨[],0,0⟩
theorem Few.ls {l:List Act} (h:Few l) {a:Act} (ha:a∈l):∀c∈a.l,Ls c.k:=fun c hc=>by
 have:=(h.c a ha c hc).1
 unfold Ls;omega
theorem sP (x:Ver) (v:List Ver) (t:Int):plc (x::v) t=if x.t≤t then 0 else plc v t+1:=by
 simp only[plc,List.findIdx_cons]
 by_cases h:x.t≤t<;>simp[h]
theorem y9 (t:Int):atB [] t=([],false):=by simp[atB,plc]
theorem za {v:List Ver} {m t:Int} (h:m≤t):plc v t≤plc v m:=by
 induction v with
 |nil=>simp[plc]
 |cons x v ih=>
  rw[sP,sP]
  by_cases h1:x.t≤t
  ·rw[if_pos h1];omega
  ·rw[if_neg h1,if_neg (by omega)];omega
theorem fT {S:Spc} {t:Int}:cB S t=0↔S.mark≤t∧t≤S.last:=by
 unfold cB
 constructor
 ·intro h
  split at h
  ·omega
  ·split at h<;>omega
 ·intro h
  rw[if_neg (by omega),if_neg (by omega)]
end Go.Proofs.YtpehfflehebmbaaGreat.Space
end
section
set_option maxRecDepth 10000
namespace Go.Proofs.YtpehfflehebmbaaGreat.Batch
open Go Go.Av Go.Proofs Go.Proofs.YtpehfflehebmbaaGreat.C
theorem Dk {l:List Pr} (h:∀p∈l,Ls p.k) (j:Nat):Ls (l.getD j default).k:=by
 by_cases hj:j<l.length
 ·rw[List.getD_eq_getElem?_getD,List.getElem?_eq_getElem hj];exact h _ (List.getElem_mem hj)
 ·rw[List.getD_eq_getElem?_getD,List.getElem?_eq_none (by omega)];exact Nat.zero_le _
theorem gN (l:List Pr) (c:Pr):prs l++[.agg [.str c.k,.str c.v]]=prs (l++[c]):=by simp[prs,bR]
theorem vg {α:Type} [Inhabited α] {l:List α} {i:Nat} (h:i<l.length):l.getD i default=l[i]:=by
 rw[List.getD_eq_getElem?_getD,List.getElem?_eq_getElem h];rfl
def mY (k:Bs) (p:Pr):Bool:=decide (p.k=k)
def Ck (l:List Pr) (k:Bs):Bs:=match l.find? (mY k) with|some p=>p.v|none=>[]
def o9 (l:List Pr) (k:Bs):Nat:=match l.find? (mY k) with|some _=>0|none=>7
theorem AZ {l:List Pr} {k:Bs} {j:Nat} (hj:j<l.length) (h:∀i,i<j→¬(l.getD i default).k=k) (hk:(l.getD j default).k=k):l.find? (mY k)=some (l.getD j default):=by
 rw[vg hj] at hk ⊢
 rw[List.find?_eq_some_iff_getElem]
 refine ⟨by simp[mY,hk],j,hj,rfl,fun i hi=>?_⟩
 have:=h i hi
 rw[vg (by omega)] at this
 simp[mY,this]
theorem Ba {l:List Pr} {k:Bs} (h:∀i,i<l.length→¬(l.getD i default).k=k):l.find? (mY k)=none:=by
 rw[List.find?_eq_none]
 intro x hx
 obtain ⟨i,hi,rfl⟩:=List.getElem_of_mem hx
 have:=h i hi
 rw[vg hi] at this
 simp[mY,this]
theorem Dl (l:List Pr) (hl:l.length≤4611686018427387904) (k:Bs):aB Tryz.prog 137 [.sl 2 (prs l) .any,.str k] (.tup [.str (Ck l k),.int .i64 (o9 l k)]):=by
 refine f137.aJ (by simp) (by simp[al,av,aK,dX]) (by simp[av,al]) ?_
 unfold CX
 simp only[C.zz]
 refine o5 ?_
 refine Wp.dW [0,1] xA6 (fun j:Nat=>[(6,.int .i64 j)]) (fun j=>j≤l.length∧∀i,i<j→¬(l.getD i default).k=k) (fun j=>l.length - j) 0 ⟨Nat.zero_le _,fun i h=>absurd h (by omega)⟩ ?_ ?_
 ·exact xSb
 ·rintro j ⟨hj,hr⟩
  by_cases hc:j<l.length
  ·have d1:decide ((j:Int)<(l.length:Int))=true:=decide_eq_true (by omega)
   have h2:(0:Int)≤(j:Int):=by omega
   have h3:(j:Int)<(l.length:Int):=by omega
   have e1:IntKind.i64.wrap ((j:Int)+1)=((j+1:Nat):Int):=by rw[IntWalk.i64_in _ (by omega)];omega
   by_cases hk:(l.getD j default).k=k
   ·have d2:decide ((l.getD j default).k=k)=true:=decide_eq_true hk
    have hf:=AZ hc hr hk
    refine an0 (cj8 @aO d1 d2 h2 h3 @Int.toNat_natCast (fun d=>cg _ _ d hc) @bR.eq_1) ?_
    refine aM ?_
    exact ab.of_eq (by simp only[Ck,o9,hf];rfl)
   ·have d2:decide ((l.getD j default).k=k)=false:=decide_eq_false hk
    refine an0 (cj9 @aO d1 d2 h2 h3 e1 @Int.toNat_natCast (fun d=>cg _ _ d hc) @bR.eq_1) ?_
    refine ⟨j+1,⟨by omega,fun i hi=>?_⟩,by omega,?_⟩
    ·by_cases he:i=j
     ·subst he;exact hk
     ·exact hr i (by omega)
    ·exact xSu
  ·obtain rfl:j=l.length:=by omega
   have d1:decide ((l.length:Int)<(l.length:Int))=false:=decide_eq_false (by omega)
   have hf:=Ba hr
   refine an0 (cj2 @aO d1) ?_
   refine aM ?_
   exact ab.of_eq (by simp only[Ck,o9,hf];rfl)
def rest (k:Bs) (l:List Pr):List Pr:=l.filter fun p=> !mY k p
theorem wX (k:Bs) (p:Pr) (l:List Pr):rest k (p::l)=(if p.k=k then [] else [p])++rest k l:=by
 simp only[rest,List.filter_cons,mY]
 by_cases h:p.k=k<;>simp[h]
def jO (l:List Pr) (k:Bs):List Pr:=if o9 l k=0 then rest k l else l
def zb (l:List Pr) (k:Bs):Nat:=o9 l k
theorem ug (l:List Pr) (k:Bs):o9 l k=0∨o9 l k=7:=by
 unfold o9;split<;>simp
set_option maxHeartbeats 2000000 in
theorem Bb (l:List Pr) (hl:l.length≤1000000) (k:Bs):aB Tryz.prog 117 [.sl 2 (prs l) .any,.str k] (.tup [.sl 2 (prs (jO l k)) .any,.int .i64 (zb l k)]):=by
 refine f117.aJ (by simp) (by simp[al,av,aK,dX]) (by simp[av,al,aK,dX]) ?_
 unfold CH
 simp only[C.zz]
 have hg:=Dl l (by omega) k
 rcases ug l k with h0|h7
 ·have hd:jO l k=rest k l:=by rw[jO,if_pos h0]
  have he:zb l k=0:=h0
  rw[hd,he]
  rw[h0] at hg
  have z:decide (((0:Nat):Int)=0)=true:=by decide
  refine an1 z hg ?_
  refine Wp.le (aU.tok _ _) ?_
  refine Wp.fH [0,1] xA7 (fun (j:Nat × List Pr) tk=>[(8,.sl 2 (prs j.2) (.own tk)),(9,.int .i64 j.1)]) (fun j=>j.1≤l.length∧j.2++rest k (l.drop j.1)=rest k l∧j.2.length≤j.1) (fun j=>l.length - j.1) (0,[]) _ ⟨Nat.zero_le _,by simp,Nat.le_refl _⟩ rfl ?_ ?_
  ·simp only[aC,go_sem,reduceIte,Nat.reduceEqDiff,Nat.reduceAdd,bx];and_intros<;>first|exact trivial|exact ab.refl _|exact ab.any _|exact ab.eN rfl|(refine ab.int ?_;omega)
  ·rintro ⟨j,o⟩ tk m ⟨hj,ho,hol⟩
   simp only at hj ho hol
   by_cases hc:j<l.length
   ·have d1:decide ((j:Int)<(l.length:Int))=true:=decide_eq_true (by omega)
    have h2:(0:Int)≤(j:Int):=by omega
    have h3:(j:Int)<(l.length:Int):=by omega
    have e1:IntKind.i64.wrap ((j:Int)+1)=((j+1:Nat):Int):=by rw[IntWalk.i64_in _ (by omega)];omega
    rw[qy hc,wX] at ho
    have g0:(o.length+1)*32≤140737488355328:=by omega
    have g0':o.length+1<4611686018427387904:=by omega
    by_cases hk:(l.getD j default).k=k
    ·have d2:decide ((l.getD j default).k=k)=true:=decide_eq_true hk
     rw[if_pos hk,List.nil_append] at ho
     refine an0 (cj9 @aO d1 d2 h2 h3 e1 @Int.toNat_natCast (fun d=>cg _ _ d hc) @bR.eq_1) ?_
     refine ⟨(j+1,o),tk,m,⟨by simp only;omega,ho,by simp only;omega⟩,by simp only;omega,?_⟩
     exact xSu
    ·have d2:decide ((l.getD j default).k=k)=false:=decide_eq_false hk
     rw[if_neg hk] at ho
     refine an0 (bN @aO d1 d2 h2 h3 e1 @Int.toNat_natCast (fun d=>cg _ _ d hc) @bR.eq_1 @List.length_cons.{0} @List.length_nil.{0} (cj3 @Nat.zero_add g0 g0')) ?_
     refine ⟨(j+1,o++[l.getD j default]),m,m+1,⟨by simp only;omega,by rw[←ho];simp,by simp;omega⟩,by simp only;omega,?_⟩
     refine aU.tm (by simp only[aC,go_sem,reduceIte,Nat.reduceEqDiff,Nat.reduceAdd,bx];and_intros<;>first|exact trivial|exact ab.refl _|exact ab.any _|exact ab.of_eq (by rw[←gN])|(refine ab.int ?_;omega))
   ·obtain rfl:j=l.length:=by omega
    have d1:decide ((l.length:Int)<(l.length:Int))=false:=decide_eq_false (by omega)
    rw[List.drop_length] at ho
    have ho':o=rest k l:=by rw[←ho];simp[rest]
    refine an0 (cj2 @aO d1) ?_
    refine aM ?_
    rw[ho']
    exact ab.tup (af.cons ab.own (af.refl _))
 ·have hd:jO l k=l:=by rw[jO,if_neg (by omega)]
  have he:zb l k=7:=h7
  rw[hd,he]
  rw[h7] at hg
  have z:decide (((7:Nat):Int)=0)=false:=by decide
  refine an1 z hg ?_
  refine aM ?_
  exact ab.refl _
def shut (k v:Bs):Bool:=decide (128<k.length)||decide (200<v.length)
def gZ (k v:Bs):Bool→List Pr→List Pr
 |laid,[]=>if laid then [] else [⟨k,v⟩]
 |laid,p::l=>(if laid=false∧Op.bytesLess p.k k=false then [⟨k,v⟩] else [])++((if p.k=k then [] else [p])++gZ k v (laid|| !Op.bytesLess p.k k) l)
def hP (l:List Pr) (k v:Bs):List Pr:=if shut k v then l else gZ k v false l
def vi (k v:Bs):Nat:=if shut k v then 2 else 0
theorem mq (k v:Bs):∀(l:List Pr) (b:Bool),(gZ k v b l).length≤l.length+(if b then 0 else 1)
 |[],b=>by cases b<;>simp[gZ]
 |p::l,b=>by
  have h1:=mq k v l true
  have h2:=mq k v l false
  simp only[if_true,if_false,Bool.false_eq_true,Nat.add_zero] at h1 h2
  rw[gZ]
  cases b<;>cases Op.bytesLess p.k k<;>by_cases hk:p.k=k<;>simp[hk] <;>omega
theorem zd (l:List Pr) (k v:Bs):(hP l k v).length≤l.length+1:=by
 unfold hP;split
 ·omega
 ·exact mq k v l false
theorem BG {n:Nat} (h:n≤2000000):(n+1)*32≤140737488355328∧n+1<4611686018427387904∧(n+1+1)*32≤140737488355328∧n+1+1<4611686018427387904:=by omega
set_option maxHeartbeats 1000000 in
theorem Cl (l:List Pr) (hl:l.length≤1000000) (lk:∀p∈l,Ls p.k) (k v:Bs) (hkk:Ls k):aB Tryz.prog 118 [.sl 2 (prs l) .any,.str k,.str v] (.tup [.sl 2 (prs (hP l k v)) .any,.int .i64 (vi k v)]):=by
 refine f118.aJ (by simp) (by simp[al,av,aK,dX]) (by simp[av,al,aK,dX]) ?_
 unfold CI
 simp only[C.zz]
 by_cases h1:128<k.length
 ·have d1:decide ((128:Int)<(k.length:Int))=true:=decide_eq_true (by omega)
  have hs:shut k v=true:=by simp[shut,h1]
  refine an0 d1 ?_
  refine aM ?_
  rw[hP,if_pos hs,vi,if_pos hs]
  exact ab.refl _
 ·have d1:decide ((128:Int)<(k.length:Int))=false:=decide_eq_false (by omega)
  by_cases h2:200<v.length
  ·have d2:decide ((200:Int)<(v.length:Int))=true:=decide_eq_true (by omega)
   have hs:shut k v=true:=by simp[shut,h2]
   refine an0 (cj2 d1 d2) ?_
   refine aM ?_
   rw[hP,if_pos hs,vi,if_pos hs]
   exact ab.refl _
  ·have d2:decide ((200:Int)<(v.length:Int))=false:=decide_eq_false (by omega)
   have hs:¬shut k v=true:=by simp[shut];omega
   rw[hP,if_neg hs,vi,if_neg hs]
   refine an0 (cj2 d1 d2) ?_
   refine Wp.le (aU.tok _ _) ?_
   refine Wp.fH [0,1,2] xA7 (fun (j:Nat × List Pr × Bool) tk=>[(8,.sl 2 (prs j.2.1) (.own tk)),(9,.bool j.2.2),(10,.int .i64 j.1)]) (fun j=>j.1≤l.length∧j.2.1++gZ k v j.2.2 (l.drop j.1)=gZ k v false l∧j.2.1.length≤2*j.1) (fun j=>l.length - j.1) (0,[],false) _ ⟨Nat.zero_le _,by simp,Nat.le_refl _⟩ rfl ?_ ?_
   ·simp only[aC,go_sem,reduceIte,Nat.reduceEqDiff,Nat.reduceAdd,bx];and_intros<;>first|exact trivial|exact ab.refl _|exact ab.any _|exact ab.eN rfl|(refine ab.int ?_;omega)
   ·rintro ⟨j,o,b⟩ tk m ⟨hj,ho,hol⟩
    simp only at hj ho hol
    obtain ⟨g0,g0',g1,g1'⟩:=BG (show o.length≤2000000 by omega)
    by_cases hc:j<l.length
    ·have q1:decide ((j:Int)<(l.length:Int))=true:=decide_eq_true (by omega)
     have q2:(0:Int)≤(j:Int):=by omega
     have q3:(j:Int)<(l.length:Int):=by omega
     have e1:IntKind.i64.wrap ((j:Int)+1)=((j+1:Nat):Int):=by rw[IntWalk.i64_in _ (by omega)];omega
     rw[qy hc,gZ] at ho
     have hls:=Dk lk j
     have hbel:=cN (l.getD j default).k k hls hkk
     by_cases hk:(l.getD j default).k=k
     ·have q4:decide ((l.getD j default).k=k)=true:=decide_eq_true hk
      rw[if_pos hk,List.nil_append] at ho
      cases b with
      |true=>
       simp only[Bool.true_eq_false,false_and,if_false,List.nil_append,Bool.true_or] at ho
       refine an0 (cj9 @aO q1 q2 q3 q4 e1 @Int.toNat_natCast (fun d=>cg _ _ d hc) @bR.eq_1) ?_
       refine ⟨(j+1,o,true),tk,m,⟨by simp only;omega,ho,by simp only;omega⟩,by simp only;omega,?_⟩
       exact xSu
      |false=>
       cases hb:Op.bytesLess (l.getD j default).k k with
       |true=>
        rw[hb] at hbel ho
        simp only[Bool.true_eq_false,and_false,if_false,List.nil_append,Bool.not_true,Bool.or_self] at ho
        refine an1 (cj9 @aO q1 q2 q3 q4 e1 @Int.toNat_natCast (fun d=>cg _ _ d hc) @bR.eq_1) hbel ?_
        refine ⟨(j+1,o,false),tk,m,⟨by simp only;omega,ho,by simp only;omega⟩,by simp only;omega,?_⟩
        exact xSu
       |false=>
        rw[hb] at hbel ho
        simp only[true_and,and_self,if_true,Bool.not_false,Bool.or_true] at ho
        refine an1 (bN @aO q1 q2 q3 q4 e1 @Int.toNat_natCast (fun d=>cg _ _ d hc) @bR.eq_1 @List.length_cons.{0} @List.length_nil.{0} (cj3 @Nat.zero_add g0 g0')) hbel ?_
        refine ⟨(j+1,o++[⟨k,v⟩],true),m,m+1,⟨by simp only;omega,by rw[←ho];simp,by simp;omega⟩,by simp only;omega,?_⟩
        refine aU.tm (by simp only[aC,go_sem,reduceIte,Nat.reduceEqDiff,Nat.reduceAdd,bx];and_intros<;>first|exact trivial|exact ab.refl _|exact ab.any _|exact ab.of_eq (by rw[←gN])|(refine ab.int ?_;omega))
     ·have q4:decide ((l.getD j default).k=k)=false:=decide_eq_false hk
      rw[if_neg hk] at ho
      cases b with
      |true=>
       simp only[Bool.true_eq_false,false_and,if_false,List.nil_append,Bool.true_or] at ho
       refine an0 (bN @aO q1 q2 q3 q4 e1 @Int.toNat_natCast (fun d=>cg _ _ d hc) @bR.eq_1 @List.length_cons.{0} @List.length_nil.{0} (cj3 @Nat.zero_add g0 g0')) ?_
       refine ⟨(j+1,o++[l.getD j default],true),m,m+1,⟨by simp only;omega,by rw[←ho];simp,by simp;omega⟩,by simp only;omega,?_⟩
       refine aU.tm (by simp only[aC,go_sem,reduceIte,Nat.reduceEqDiff,Nat.reduceAdd,bx];and_intros<;>first|exact trivial|exact ab.refl _|exact ab.any _|exact ab.of_eq (by rw[←gN])|(refine ab.int ?_;omega))
      |false=>
       cases hb:Op.bytesLess (l.getD j default).k k with
       |true=>
        rw[hb] at hbel ho
        simp only[Bool.true_eq_false,and_false,if_false,List.nil_append,Bool.not_true,Bool.or_self] at ho
        refine an1 (bN @aO q1 q2 q3 q4 e1 @Int.toNat_natCast (fun d=>cg _ _ d hc) @bR.eq_1 @List.length_cons.{0} @List.length_nil.{0} (cj3 @Nat.zero_add g0 g0')) hbel ?_
        refine ⟨(j+1,o++[l.getD j default],false),m,m+1,⟨by simp only;omega,by rw[←ho];simp,by simp;omega⟩,by simp only;omega,?_⟩
        refine aU.tm (by simp only[aC,go_sem,reduceIte,Nat.reduceEqDiff,Nat.reduceAdd,bx];and_intros<;>first|exact trivial|exact ab.refl _|exact ab.any _|exact ab.of_eq (by rw[←gN])|(refine ab.int ?_;omega))
       |false=>
        rw[hb] at hbel ho
        simp only[true_and,and_self,if_true,Bool.not_false,Bool.or_true] at ho
        refine an1 (bN @aO q1 q2 q3 q4 e1 @Int.toNat_natCast (fun d=>cg _ _ d hc) @bR.eq_1 @List.length_cons.{0} @List.length_nil.{0} (cj5 @Nat.zero_add g0 g0' g1 g1')) hbel ?_
        refine ⟨(j+1,o++[⟨k,v⟩]++[l.getD j default],true),m+1,m+2,⟨by simp only;omega,by rw[←ho];simp,by simp;omega⟩,by simp only;omega,?_⟩
        refine aU.tm (by simp only[aC,go_sem,reduceIte,Nat.reduceEqDiff,Nat.reduceAdd,bx];and_intros<;>first|exact trivial|exact ab.refl _|exact ab.any _|exact ab.of_eq (by rw[←gN,←gN])|(refine ab.int ?_;omega))
    ·obtain rfl:j=l.length:=by omega
     have q1:decide ((l.length:Int)<(l.length:Int))=false:=decide_eq_false (by omega)
     rw[List.drop_length,gZ] at ho
     cases b with
     |true=>
      simp only[if_true,List.append_nil] at ho
      refine an0 (cj2 @aO q1) ?_
      refine aM ?_
      rw[←ho]
      exact ab.tup (af.cons ab.own (af.refl _))
     |false=>
      simp only[Bool.false_eq_true,if_false] at ho
      refine an0 (cj7 @aO q1 @List.length_cons.{0} @List.length_nil.{0} @Nat.zero_add g0 g0') ?_
      refine aM ?_
      rw[←ho,←gN]
      exact ab.tup (af.cons ab.own (af.refl _))
def oT (l:List Pr) (c:Ch):List Pr:=if c.d then jO l c.k else hP l c.k c.v
theorem bt {α:Type} [Inhabited α] {l:List α} {i:Nat} (h:i<l.length):l.take (i+1)=l.take i++[l.getD i default]:=by
 rw[List.take_succ_eq_append_getElem h,vg h]
theorem p9 (k v:Bs):∀(l:List Pr) (b:Bool) (x:Pr),x∈gZ k v b l→x=⟨k,v⟩∨x∈l
 |[],b,x,h=>by cases b<;>simp[gZ] at h;exact .inl h
 |p::l,b,x,h=>by
  rw[gZ,List.mem_append,List.mem_append] at h
  rcases h with h|h|h
  ·split at h
   ·left;simpa using h
   ·simp at h
  ·split at h
   ·simp at h
   ·right;simp at h;simp[h]
  ·rcases p9 k v l _ x h with h|h
   ·exact .inl h
   ·right;simp[h]
theorem ze {l:List Pr} {k v:Bs} {x:Pr} (h:x∈hP l k v):x=⟨k,v⟩∧shut k v=false∨x∈l:=by
 unfold hP at h
 split at h
 ·exact .inr h
 ·rename_i hs
  rcases p9 k v l false x h with h|h
  ·exact .inl ⟨h,by simpa using hs⟩
  ·exact .inr h
theorem Bc {l:List Pr} {c:Ch} (h:∀p∈l,Ls p.k) (hc:Ls c.k):∀p∈oT l c,Ls p.k:=by
 intro p hp
 unfold oT at hp
 split at hp
 ·unfold jO at hp
  split at hp
  ·exact h p (List.mem_filter.1 hp).1
  ·exact h p hp
 ·rcases ze hp with ⟨rfl,-⟩|hp
  ·exact hc
  ·exact h p hp
theorem zh (l:List Pr) (c:Ch):(oT l c).length≤l.length+1:=by
 unfold oT
 split
 ·unfold jO
  split
  ·exact Nat.le_trans (List.length_filter_le _ _) (by omega)
  ·omega
 ·exact zd _ _ _
end Go.Proofs.YtpehfflehebmbaaGreat.Batch
end
section
set_option maxRecDepth 10000
namespace Go.Proofs.YtpehfflehebmbaaGreat.Txn
open Go Go.Av Go.Proofs Go.Proofs.YtpehfflehebmbaaGreat.C Go.Proofs.YtpehfflehebmbaaGreat.Batch Go.Proofs.YtpehfflehebmbaaGreat.Space Go.Proofs.YtpehfflehebmbaaGreat.Reads
theorem fT {c:Ch}:kept c=true↔cE c=true∧¬(c.d=true∧c.v≠[]):=by
 unfold kept cE
 cases c.d<;>simp
theorem vj {l:List Ch} {i:Nat} (hi:i<l.length) (h:¬rOk l i):sK l=false:=by
 cases e:sK l with
 |false=>rfl
 |true=>exact absurd (iA.1 e i hi) h
set_option maxHeartbeats 2000000 in
theorem kR (Y:Tx) (l:List Ch) (hl:l.length≤1000000) (lk:∀c∈l,Ls c.k):
  aB Tryz.prog 39 [fS Y,.sl 3 (chs l) .any] (.tup [fS (gO Y l).1,.int .i64 (gO Y l).2]):=by
 refine f39.aJ (by simp) (by simp[al,av,aK,dN,ik]) (by simp[av,al,dN]) ?_
 unfold c39
 simp only[C.zz]
 have hry:gO Y l=if Y.ended then (Y,17) else if sK l then ({Y with C:=l},0) else (Y,2):=rfl
 obtain ⟨t,C,rk,rs,ended⟩:=Y
 rw[hry]
 unfold fS
 cases ended with
 |true=>
  refine o5 ?_
  refine Wp.ret ⟨trivial,_,by simp only[bP,rvs,rv,go_sem,bx,ax,reduceIte,Nat.reduceEqDiff,if_true,if_false,Nat.reduceLeDiff];exact rfl,?_⟩
  exact ab.refl _
 |false=>
  simp only[Bool.false_eq_true,if_false]
  by_cases h64:64<l.length
  ·have d1:decide ((64:Int)<(l.length:Int))=true:=decide_eq_true (by omega)
   have hno:=vj (l:=l) (i:=64) h64 (fun h=>by have:=h.2.2.1;omega)
   rw[hno]
   refine an0 (cj2 @ao d1) ?_
   refine Wp.ret ⟨trivial,_,by simp only[bP,rvs,rv,go_sem,bx,ax,reduceIte,Nat.reduceEqDiff,if_true,if_false,Nat.reduceLeDiff];exact rfl,?_⟩
   exact ab.refl _
  ·have d1:decide ((64:Int)<(l.length:Int))=false:=decide_eq_false (by omega)
   refine an0 (cj2 @ao d1) ?_
   refine Wp.dW [1,2,4,5] xA6 (fun j:Nat=>[(6,.int .i64 j)]) (fun j=>j≤l.length∧∀i,i<j→rOk l i) (fun j=>l.length - j) 0 ⟨Nat.zero_le _,fun i h=>absurd h (by omega)⟩ ?_ ?_
   ·exact xSb
   ·rintro j ⟨hj,hs⟩
    by_cases hc:j<l.length
    ·obtain ⟨g1,h2,h3,e1⟩:=ixF (j:=j) (n:=l.length) (by omega) (by omega)
     have hat:=bZ l j .any hc
     have hkp:=lp (l.getD j default)
     have bad:¬rOk l j→sK l=false:=vj hc
     have hrk:rOk l j↔(kept (l.getD j default)=true∧j<64∧(0<j→Op.bytesLess (l.getD (j - 1) default).k (l.getD j default).k=true)):=by
      rw[fT,and_assoc];exact Iff.rfl
     have hbl:=fun h:j - 1<l.length=>cN (l.getD (j - 1) default).k (l.getD j default).k (lk _ (by rw[Av.au h];exact List.getElem_mem h)) (lk _ (by rw[Av.au hc];exact List.getElem_mem hc))
     unfold aP at hkp
     cases hk:kept (l.getD j default) with
     |false=>
      rw[hk] at hkp
      rw[bad (fun h=>by have:=(hrk.1 h).1;rw[hk] at this;cases this)]
      refine an1 (cj7 @ao g1 h2 h3 @Int.toNat_natCast hat @aP.eq_1) hkp ?_
      refine Wp.ret ⟨trivial,_,by simp only[bP,rvs,rv,go_sem,bx,ax,reduceIte,Nat.reduceEqDiff,if_true,if_false,Nat.reduceLeDiff];exact rfl,?_⟩
      exact ab.refl _
     |true=>
      rw[hk] at hkp
      have nxt:rOk l j→∀i,i<j+1→rOk l i:=fun h i hi=>by
       by_cases he:i=j
       ·subst he;exact h
       ·exact hs i (by omega)
      rcases Nat.eq_zero_or_pos j with rfl|h0
      ·have d6:decide ((0:Int)<((0:Nat):Int))=false:=rfl
       have hok:rOk l 0:=hrk.2 ⟨hk,by omega,fun h=>absurd h (by omega)⟩
       refine an1 (cj9 @ao g1 h2 h3 e1 @Int.toNat_natCast hat @aP.eq_1 d6) hkp ?_
       refine ⟨0+1,⟨by omega,nxt hok⟩,by omega,?_⟩
       exact xSu
      ·have d6:decide ((0:Int)<(j:Int))=true:=decide_eq_true (by omega)
       have w1:IntKind.i64.wrap ((j:Int) - 1)=((j - 1:Nat):Int):=by rw[IntWalk.i64_in _ (by omega)];omega
       have w2:(0:Int)≤((j - 1:Nat):Int):=by omega
       have w3:((j - 1:Nat):Int)<(l.length:Int):=by omega
       have hat1:(chs l).getD (j - 1) .any=aP (l.getD (j - 1) default):=bZ l (j - 1) .any (by omega)
       have hb:=hbl (by omega)
       cases hlt:Op.bytesLess (l.getD (j - 1) default).k (l.getD j default).k with
       |false=>
        rw[hlt] at hb
        rw[bad (fun h=>by have:=(hrk.1 h).2.2 h0;rw[hlt] at this;cases this)]
        refine an2 (bN @ao g1 h2 h3 w1 w2 w3 hat1 @Int.toNat_natCast hat @aP.eq_1 d6) hkp hb ?_
        refine Wp.ret ⟨trivial,_,by simp only[bP,rvs,rv,go_sem,bx,ax,reduceIte,Nat.reduceEqDiff,if_true,if_false,Nat.reduceLeDiff];exact rfl,?_⟩
        exact ab.refl _
       |true=>
        rw[hlt] at hb
        have hok:rOk l j:=hrk.2 ⟨hk,by omega,fun h=>hlt⟩
        refine an2 (bN @ao g1 h2 h3 e1 w1 w2 w3 hat1 @Int.toNat_natCast hat (cj2 @aP.eq_1 d6)) hkp hb ?_
        refine ⟨j+1,⟨by omega,nxt hok⟩,by omega,?_⟩
        exact xSu
    ·obtain rfl:j=l.length:=by omega
     have g1:=ixE (l.length)
     rw[iA.2 hs]
     refine an0 (cj2 @ao g1) ?_
     refine Wp.ret ⟨trivial,_,by simp only[bP,rvs,rv,go_sem,bx,ax,reduceIte,Nat.reduceEqDiff,if_true,if_false,Nat.reduceLeDiff];exact rfl,?_⟩
     exact ab.refl _
theorem Bd {l:List Pr} {k:Bs} (h:¬o9 l k=0):∀p∈l,p.k≠k:=by
 intro p hp e
 unfold o9 at h
 cases hf:l.find? (mY k) with
 |some x=>rw[hf] at h;exact h rfl
 |none=>
  rw[List.find?_eq_none] at hf
  have:=hf p hp
  simp[mY,e] at this
theorem drop_eq (l:List Pr) (k:Bs):Batch.jO l k=wA l k:=by
 unfold Batch.jO rest wA
 split
 ·refine List.filter_congr fun p _=>?_
  simp[mY]
 ·rename_i h
  symm
  rw[List.filter_eq_self]
  intro p hp
  simpa using Bd h p hp
theorem sQ (k v:Bs):∀(l:List Pr) (b:Bool),gZ k v b l=pGo k v b l
 |[],b=>rfl
 |p::l,b=>by rw[gZ,pGo,sQ k v l]
theorem put_eq {l:List Pr} {k v:Bs} (h:shut k v=false):Batch.hP l k v=Txn.hP l k v:=by
 rw[Batch.hP,if_neg (by rw[h];simp),sQ,yO]
theorem wY {c:Ch} (h:cE c=true):shut c.k c.v=false:=by
 simp only[cE,Bool.and_eq_true,decide_eq_true_eq] at h
 simp only[shut,Bool.or_eq_false_iff,decide_eq_false_iff_not]
 omega
theorem Be {l:List Pr} {c:Ch} (h:cE c=true):oT l c=qH l c:=by
 unfold oT qH
 rw[drop_eq,put_eq (wY h)]
theorem mr {C:List Ch} (hk:∀c∈C,cE c=true) (l:List Pr) {j:Nat} (h:j<C.length):dw (C.take (j+1)) l=oT (dw (C.take j) l) (C.getD j default):=by
 rw[Av.bt default h,dw,List.foldl_append,Be (hk _ (by rw[Av.au h];exact List.getElem_mem h))]
 rfl
theorem lM {C:List Ch} (hk:∀c∈C,cE c=true) (l:List Pr):∀j,j≤C.length→(dw (C.take j) l).length≤l.length+j
 |0,_=>by simp[dw]
 |j+1,h=>by
  rw[mr hk l h]
  have:=lM hk l j (by omega)
  have:=zh (dw (C.take j) l) (C.getD j default)
  omega
theorem qS {C:List Ch} (hk:∀c∈C,cE c=true) {l:List Pr} (hl:∀p∈l,Ls p.k):∀j,j≤C.length→∀p∈dw (C.take j) l,Ls p.k
 |0,_=>by simpa [dw] using hl
 |j+1,h=>by
  rw[mr hk l h]
  refine Bc (qS hk hl j (by omega)) ?_
  have hm:C.getD j default∈C:=by rw[Av.au h];exact List.getElem_mem h
  have:=hk _ hm
  simp only[cE,Bool.and_eq_true,decide_eq_true_eq] at this
  unfold Ls;omega
theorem vk {S:Spc} (h:∀p∈S.L,Ls p.1) (a b:Bs) (t:Int):∀p∈cT S a b t,Ls p.k:=by
 intro p hp
 obtain ⟨k,hk,e⟩:=List.mem_filterMap.1 hp
 rw[kg e]
 have hk2:k∈ae S.L:=List.mem_of_mem_drop ((List.takeWhile_sublist _).subset hk)
 obtain ⟨x,hx,rfl⟩:=List.mem_map.1 hk2
 exact h x hx
set_option maxHeartbeats 2000000 in
theorem Bf (S:Spc) (Y:Tx) (hr:bk S.L) (hS:Small S) (lks:∀p∈S.L,Ls p.1) (hl:Y.C.length≤64) (hk:∀c∈Y.C,cE c=true) (t:Int) (ht:cB S t=0):
  aB Tryz.prog 75 [fS Y,du S,.int .i64 t] (.sl 2 (prs (dw Y.C (cT S [] [] t))) .any):=by
 refine f75.aJ (by simp) (by simp[al,av,aK,dN,dd]) (by simp[av,aK,dX]) ?_
 unfold c75
 simp only[C.zz]
 have hsc:=AJ S hr hS lks [] [] oR oR t (-1)
 rw[cn,if_pos ht,show eu (-1) (cT S [] [] t)=cT S [] [] t from rfl] at hsc
 have hal:=vk lks [] [] t
 have hall:(cT S [] [] t).length≤500000:=by
  have h1:(cT S [] [] t).length≤S.L.length:=by
   unfold cT
   refine Nat.le_trans (List.length_filterMap_le _ _) ?_
   have h2:=((List.takeWhile_sublist (fb ([]:Space.Bs))).trans (List.drop_sublist (plK (ae S.L) []) (ae S.L))).length_le
   unfold ca
   simpa [ae] using h2
  have:=hS.1;omega
 obtain ⟨ty,C,rk,rs,ended⟩:=Y
 simp only at hl hk ⊢
 have hsn:=fun j (h:j<C.length)=>mr hk (cT S [] [] t) h
 have hln:=lM hk (cT S [] [] t)
 have hls:=qS hk hal
 unfold fS
 unfold du at hsc ⊢
 generalize cT S [] [] t=l0 at*
 refine qv hsc ?_
 refine Wp.dW [3] xA6 (fun j:Nat=>[(7,.sl 2 (prs (dw (C.take j) l0)) .any),(9,.int .i64 j)]) (fun j=>j≤C.length) (fun j=>C.length - j) 0 (Nat.zero_le _) ?_ ?_
 ·exact xSb
 ·intro j hj
  by_cases hc:j<C.length
  ·obtain ⟨g1,h2,h3,e1⟩:=ixF (j:=j) (n:=C.length) (by omega) (by omega)
   have hat:=bZ C j .any hc
   have hsn:=hsn j hc
   have hln:=hln j hj
   have hls:=hls j hj
   have hkj:cE (C.getD j default)=true:=hk _ (by rw[Av.au hc];exact List.getElem_mem hc)
   have hlk:Ls (C.getD j default).k:=by
    simp only[cE,Bool.and_eq_true,decide_eq_true_eq] at hkj
    unfold Ls;omega
   generalize dw (C.take j) l0=l at*
   generalize C.getD j default=c at*
   cases hd:c.d with
   |true=>
    have hdp:=Bb l (by omega) c.k
    have hst:oT l c=Batch.jO l c.k:=by rw[oT,hd];rfl
    refine an1 (cj9 @ao g1 h2 h3 e1 @Int.toNat_natCast hat @aP.eq_1 hd) hdp ?_
    refine ⟨j+1,by omega,by omega,?_⟩
    rw[hsn,hst]
    exact xSu
   |false=>
    have hpp:=Cl l (by omega) hls c.k c.v hlk
    have hst:oT l c=Batch.hP l c.k c.v:=by rw[oT,hd];rfl
    refine an1 (cj9 @ao g1 h2 h3 e1 @Int.toNat_natCast hat @aP.eq_1 hd) hpp ?_
    refine ⟨j+1,by omega,by omega,?_⟩
    rw[hsn,hst]
    exact xSu
  ·obtain rfl:j=C.length:=by omega
   have g1:=ixE (C.length)
   refine an0 (cj2 @ao g1) ?_
   refine aM ?_
   rw[List.take_length];exact ab.refl _
theorem zi (a b:Bs) (most:Int) {l:List Pr} {j:Nat} (h:j<l.length):dH (l.take (j+1)) a b most=if inR a b (l.getD j default).k=true∧(most<0∨((dH (l.take j) a b most).length:Int)<most) then dH (l.take j) a b most++[l.getD j default] else dH (l.take j) a b most:=by
 unfold dH
 rw[Av.bt default h,List.filter_append]
 cases hb:inR a b (l.getD j default).k with
 |true=>
  rw[List.filter_cons,hb]
  simp only[if_true,List.filter_nil,true_and]
  exact pU most _ _
 |false=>
  rw[List.filter_cons,hb]
  simp
theorem mu (a b:Bs) (most:Int) (l:List Pr):(dH l a b most).length≤l.length:=Nat.le_trans (sx _ _) (List.length_filter_le _ _)
set_option maxHeartbeats 4000000 in
theorem zj (l:List Pr) (hl:l.length≤1000000) (lk:∀p∈l,Ls p.k) (a b:Bs) (la:Ls a) (lb:Ls b) (most:Int):
  aB Tryz.prog 74 [.sl 2 (prs l) .any,.str a,.str b,.int .i64 most] (.sl 2 (prs (dH l a b most)) .any):=by
 refine f74.aJ (by simp) (by simp[al,av,aK,dX]) (by simp[av,aK,dX]) ?_
 unfold c74
 simp only[C.zz]
 refine o5 ?_
 refine Wp.le (aU.tok _ _) ?_
 refine Wp.fH [0,1,2,3] xA7 (fun (j:Nat) tk=>[(9,.sl 2 (prs (dH (l.take j) a b most)) (.own tk)),(10,.int .i64 (j:Nat))]) (fun j=>j≤l.length) (fun j=>l.length - j) 0 _ (Nat.zero_le _) rfl ?_ ?_
 ·have e0:dH [] a b most=[]:=by simp[dH,eu]
  have e1:prs (dH [] a b most)=[]:=by rw[e0];rfl
  simp only[aC,go_sem,reduceIte,Nat.reduceEqDiff,Nat.reduceAdd,bx,List.take_zero,e1];and_intros<;>first|exact trivial|exact ab.refl _|exact ab.any _|exact ab.eN rfl|(refine ab.int ?_;omega)
 intro j tk m hj
 by_cases hc:j<l.length
 ·obtain ⟨g1,h2,h3,e1⟩:=ixF (j:=j) (n:=l.length) (by omega) (by omega)
  have hat:=cg l j .any hc
  have hsn:=zi a b most hc
  have hlen:=mu a b most (l.take j)
  rw[List.length_take] at hlen
  have hlk:Ls (l.getD j default).k:=lk _ (by rw[Av.au hc];exact List.getElem_mem hc)
  have hb1:=cN (l.getD j default).k a hlk la
  have hb2:=cN (l.getD j default).k b hlk lb
  obtain ⟨g0,g0',-,-⟩:=BG (show (dH (l.take j) a b most).length≤2000000 by omega)
  generalize hnx:dH (l.take (j+1)) a b most=nx at*
  generalize dH (l.take j) a b most=o at*
  generalize l.getD j default=p at*
  have hps:=pW o p.k p.v
  have stay:¬(inR a b p.k=true∧(most<0∨(o.length:Int)<most))→nx=o:=fun h=>by rw[hsn,if_neg h]
  have more:inR a b p.k=true∧(most<0∨(o.length:Int)<most)→nx=o++[p]:=fun h=>by rw[hsn,if_pos h]
  cases q1:Op.bytesLess p.k a with
  |true=>
   rw[q1] at hb1
   have hk2:=stay (fun h=>by have:=h.1;rw[inR,q1] at this;simp at this)
   have zg:=(gh @aO g1 h2 h3 e1 @Int.toNat_natCast hat @bR.eq_1 @Bool.not_true @List.length_map.{0,0})
   repeat' (first
    |(refine aa.nil ⟨?_,?_⟩;(· first|trivial|simp[aw,aq,apart,aG]))
    |refine xG1 @zg ?_
    |(refine xG2 @zg ?_;try simp only[List.drop_succ_cons,List.drop_zero,List.drop_nil])
    |refine xGp @zg hb1 ?_
    |(refine xG3 @zg ?_ ?_<;>intro hc)
    |(refine xG4 @zg ?_ ?_<;>intro hc)
    |(refine xG5 @zg ?_ ?_<;>intro hc)
    |refine Wp.eJ ?_
    |refine Wp.mW ?_
    |refine xG6 @zg ?_
    |refine xG7 @zg ?_
    |(refine xG8 @zg ?_ ?_<;>intro hc)
    |(refine xG9 @zg ?_ ?_<;>intro hc)
    |(refine xGa @zg ?_ ?_<;>intro hc)
    |refine Wp.skip ?_
    |refine Wp.label ?_
    |refine Wp.block ?_
    |refine Wp.exit ?_
    |refine Wp.seq ?_)
   refine ⟨j+1,tk,m,by omega,by omega,?_⟩
   rw[hnx,hk2]
   exact xSu
  |false=>
   rw[q1] at hb1
   by_cases q2:b=[]
   ·have d2:=decide_eq_true q2
    have hin:inR a b p.k=true:=by rw[inR,q1,q2];rfl
    by_cases m1:most<0
    ·have d1:=decide_eq_true m1
     have hk2:=more ⟨hin,.inl m1⟩
     have zg:=(bN @aO g1 h2 h3 e1 @Int.toNat_natCast hat @bR.eq_1 @Bool.not_false d2 d1 (cj6 g0 g0' @List.length_cons.{0} @List.length_nil.{0} @Nat.zero_add @List.length_map.{0,0}))
     repeat' (first
      |(refine aa.nil ⟨?_,?_⟩;(· first|trivial|simp[aw,aq,apart,aG]))
      |refine xG1 @zg ?_
      |(refine xG2 @zg ?_;try simp only[List.drop_succ_cons,List.drop_zero,List.drop_nil])
      |refine xGp @zg hb1 ?_
      |(refine xG3 @zg ?_ ?_<;>intro hc)
      |(refine xG4 @zg ?_ ?_<;>intro hc)
      |(refine xG5 @zg ?_ ?_<;>intro hc)
      |refine Wp.eJ ?_
      |refine Wp.mW ?_
      |refine xG6 @zg ?_
      |refine xG7 @zg ?_
      |(refine xG8 @zg ?_ ?_<;>intro hc)
      |(refine xG9 @zg ?_ ?_<;>intro hc)
      |(refine xGa @zg ?_ ?_<;>intro hc)
      |refine Wp.skip ?_
      |refine Wp.label ?_
      |refine Wp.block ?_
      |refine Wp.exit ?_
      |refine Wp.seq ?_)
     refine ⟨j+1,m,m+1,by omega,by omega,?_⟩
     rw[hnx,hk2]
     refine aU.tm (by simp only[aC,go_sem,reduceIte,Nat.reduceEqDiff,Nat.reduceAdd,bx];and_intros<;>first|exact trivial|exact ab.refl _|exact ab.any _|exact ab.of_eq (by rw[←hps])|(refine ab.int ?_;omega))
    ·have d1:=decide_eq_false m1
     by_cases m2:(o.length:Int)<most
     ·have d3:=decide_eq_true m2
      have hk2:=more ⟨hin,.inr m2⟩
      have zg:=(bN @aO g1 h2 h3 e1 @Int.toNat_natCast hat @bR.eq_1 @Bool.not_false d2 d1 (cj7 d3 g0 g0' @List.length_cons.{0} @List.length_nil.{0} @Nat.zero_add @List.length_map.{0,0}))
      repeat' (first
       |(refine aa.nil ⟨?_,?_⟩;(· first|trivial|simp[aw,aq,apart,aG]))
       |refine xG1 @zg ?_
       |(refine xG2 @zg ?_;try simp only[List.drop_succ_cons,List.drop_zero,List.drop_nil])
       |refine xGp @zg hb1 ?_
       |(refine xG3 @zg ?_ ?_<;>intro hc)
       |(refine xG4 @zg ?_ ?_<;>intro hc)
       |(refine xG5 @zg ?_ ?_<;>intro hc)
       |refine Wp.eJ ?_
       |refine Wp.mW ?_
       |refine xG6 @zg ?_
       |refine xG7 @zg ?_
       |(refine xG8 @zg ?_ ?_<;>intro hc)
       |(refine xG9 @zg ?_ ?_<;>intro hc)
       |(refine xGa @zg ?_ ?_<;>intro hc)
       |refine Wp.skip ?_
       |refine Wp.label ?_
       |refine Wp.block ?_
       |refine Wp.exit ?_
       |refine Wp.seq ?_)
      refine ⟨j+1,m,m+1,by omega,by omega,?_⟩
      rw[hnx,hk2]
      refine aU.tm (by simp only[aC,go_sem,reduceIte,Nat.reduceEqDiff,Nat.reduceAdd,bx];and_intros<;>first|exact trivial|exact ab.refl _|exact ab.any _|exact ab.of_eq (by rw[←hps])|(refine ab.int ?_;omega))
     ·have d3:=decide_eq_false m2
      have hk2:=stay (fun h=>h.2.elim m1 m2)
      have zg:=(bN @aO g1 h2 h3 e1 @Int.toNat_natCast hat @bR.eq_1 @Bool.not_false d2 d1 (cj7 d3 g0 g0' @List.length_cons.{0} @List.length_nil.{0} @Nat.zero_add @List.length_map.{0,0}))
      repeat' (first
       |(refine aa.nil ⟨?_,?_⟩;(· first|trivial|simp[aw,aq,apart,aG]))
       |refine xG1 @zg ?_
       |(refine xG2 @zg ?_;try simp only[List.drop_succ_cons,List.drop_zero,List.drop_nil])
       |refine xGp @zg hb1 ?_
       |(refine xG3 @zg ?_ ?_<;>intro hc)
       |(refine xG4 @zg ?_ ?_<;>intro hc)
       |(refine xG5 @zg ?_ ?_<;>intro hc)
       |refine Wp.eJ ?_
       |refine Wp.mW ?_
       |refine xG6 @zg ?_
       |refine xG7 @zg ?_
       |(refine xG8 @zg ?_ ?_<;>intro hc)
       |(refine xG9 @zg ?_ ?_<;>intro hc)
       |(refine xGa @zg ?_ ?_<;>intro hc)
       |refine Wp.skip ?_
       |refine Wp.label ?_
       |refine Wp.block ?_
       |refine Wp.exit ?_
       |refine Wp.seq ?_)
      refine ⟨j+1,tk,m,by omega,by omega,?_⟩
      rw[hnx,hk2]
      exact xSu
   ·have d2:=decide_eq_false q2
    cases q3:Op.bytesLess p.k b with
    |false=>
     rw[q3] at hb2
     have hk2:=stay (fun h=>by have:=h.1;rw[inR,q1,d2,q3] at this;simp at this)
     have zg:=(nZ @aO g1 h2 h3 e1 @Int.toNat_natCast hat @bR.eq_1 @Bool.not_false d2 @List.length_map.{0,0})
     repeat' (first
      |(refine aa.nil ⟨?_,?_⟩;(· first|trivial|simp[aw,aq,apart,aG]))
      |refine xG1 @zg ?_
      |(refine xG2 @zg ?_;try simp only[List.drop_succ_cons,List.drop_zero,List.drop_nil])
      |refine xGp @zg hb1 ?_
      |refine xGp @zg hb2 ?_
      |(refine xG3 @zg ?_ ?_<;>intro hc)
      |(refine xG4 @zg ?_ ?_<;>intro hc)
      |(refine xG5 @zg ?_ ?_<;>intro hc)
      |refine Wp.eJ ?_
      |refine Wp.mW ?_
      |refine xG6 @zg ?_
      |refine xG7 @zg ?_
      |(refine xG8 @zg ?_ ?_<;>intro hc)
      |(refine xG9 @zg ?_ ?_<;>intro hc)
      |(refine xGa @zg ?_ ?_<;>intro hc)
      |refine Wp.skip ?_
      |refine Wp.label ?_
      |refine Wp.block ?_
      |refine Wp.exit ?_
      |refine Wp.seq ?_)
     refine ⟨j+1,tk,m,by omega,by omega,?_⟩
     rw[hnx,hk2]
     exact xSu
    |true=>
     rw[q3] at hb2
     have hin:inR a b p.k=true:=by rw[inR,q1,q3];simp
     by_cases m1:most<0
     ·have d1:=decide_eq_true m1
      have hk2:=more ⟨hin,.inl m1⟩
      have zg:=(bN @aO g1 h2 h3 e1 @Int.toNat_natCast hat @bR.eq_1 @Bool.not_false d2 d1 (cj6 g0 g0' @List.length_cons.{0} @List.length_nil.{0} @Nat.zero_add @List.length_map.{0,0}))
      repeat' (first
       |(refine aa.nil ⟨?_,?_⟩;(· first|trivial|simp[aw,aq,apart,aG]))
       |refine xG1 @zg ?_
       |(refine xG2 @zg ?_;try simp only[List.drop_succ_cons,List.drop_zero,List.drop_nil])
       |refine xGp @zg hb1 ?_
       |refine xGp @zg hb2 ?_
       |(refine xG3 @zg ?_ ?_<;>intro hc)
       |(refine xG4 @zg ?_ ?_<;>intro hc)
       |(refine xG5 @zg ?_ ?_<;>intro hc)
       |refine Wp.eJ ?_
       |refine Wp.mW ?_
       |refine xG6 @zg ?_
       |refine xG7 @zg ?_
       |(refine xG8 @zg ?_ ?_<;>intro hc)
       |(refine xG9 @zg ?_ ?_<;>intro hc)
       |(refine xGa @zg ?_ ?_<;>intro hc)
       |refine Wp.skip ?_
       |refine Wp.label ?_
       |refine Wp.block ?_
       |refine Wp.exit ?_
       |refine Wp.seq ?_)
      refine ⟨j+1,m,m+1,by omega,by omega,?_⟩
      rw[hnx,hk2]
      refine aU.tm (by simp only[aC,go_sem,reduceIte,Nat.reduceEqDiff,Nat.reduceAdd,bx];and_intros<;>first|exact trivial|exact ab.refl _|exact ab.any _|exact ab.of_eq (by rw[←hps])|(refine ab.int ?_;omega))
     ·have d1:=decide_eq_false m1
      by_cases m2:(o.length:Int)<most
      ·have d3:=decide_eq_true m2
       have hk2:=more ⟨hin,.inr m2⟩
       have zg:=(bN @aO g1 h2 h3 e1 @Int.toNat_natCast hat @bR.eq_1 @Bool.not_false d2 d1 (cj7 d3 g0 g0' @List.length_cons.{0} @List.length_nil.{0} @Nat.zero_add @List.length_map.{0,0}))
       repeat' (first
        |(refine aa.nil ⟨?_,?_⟩;(· first|trivial|simp[aw,aq,apart,aG]))
        |refine xG1 @zg ?_
        |(refine xG2 @zg ?_;try simp only[List.drop_succ_cons,List.drop_zero,List.drop_nil])
        |refine xGp @zg hb1 ?_
        |refine xGp @zg hb2 ?_
        |(refine xG3 @zg ?_ ?_<;>intro hc)
        |(refine xG4 @zg ?_ ?_<;>intro hc)
        |(refine xG5 @zg ?_ ?_<;>intro hc)
        |refine Wp.eJ ?_
        |refine Wp.mW ?_
        |refine xG6 @zg ?_
        |refine xG7 @zg ?_
        |(refine xG8 @zg ?_ ?_<;>intro hc)
        |(refine xG9 @zg ?_ ?_<;>intro hc)
        |(refine xGa @zg ?_ ?_<;>intro hc)
        |refine Wp.skip ?_
        |refine Wp.label ?_
        |refine Wp.block ?_
        |refine Wp.exit ?_
        |refine Wp.seq ?_)
       refine ⟨j+1,m,m+1,by omega,by omega,?_⟩
       rw[hnx,hk2]
       refine aU.tm (by simp only[aC,go_sem,reduceIte,Nat.reduceEqDiff,Nat.reduceAdd,bx];and_intros<;>first|exact trivial|exact ab.refl _|exact ab.any _|exact ab.of_eq (by rw[←hps])|(refine ab.int ?_;omega))
      ·have d3:=decide_eq_false m2
       have hk2:=stay (fun h=>h.2.elim m1 m2)
       have zg:=(bN @aO g1 h2 h3 e1 @Int.toNat_natCast hat @bR.eq_1 @Bool.not_false d2 d1 (cj7 d3 g0 g0' @List.length_cons.{0} @List.length_nil.{0} @Nat.zero_add @List.length_map.{0,0}))
       repeat' (first
        |(refine aa.nil ⟨?_,?_⟩;(· first|trivial|simp[aw,aq,apart,aG]))
        |refine xG1 @zg ?_
        |(refine xG2 @zg ?_;try simp only[List.drop_succ_cons,List.drop_zero,List.drop_nil])
        |refine xGp @zg hb1 ?_
        |refine xGp @zg hb2 ?_
        |(refine xG3 @zg ?_ ?_<;>intro hc)
        |(refine xG4 @zg ?_ ?_<;>intro hc)
        |(refine xG5 @zg ?_ ?_<;>intro hc)
        |refine Wp.eJ ?_
        |refine Wp.mW ?_
        |refine xG6 @zg ?_
        |refine xG7 @zg ?_
        |(refine xG8 @zg ?_ ?_<;>intro hc)
        |(refine xG9 @zg ?_ ?_<;>intro hc)
        |(refine xGa @zg ?_ ?_<;>intro hc)
        |refine Wp.skip ?_
        |refine Wp.label ?_
        |refine Wp.block ?_
        |refine Wp.exit ?_
        |refine Wp.seq ?_)
       refine ⟨j+1,tk,m,by omega,by omega,?_⟩
       rw[hnx,hk2]
       exact xSu
 ·obtain rfl:j=l.length:=by omega
  have g1:=ixE (l.length)
  refine an0 (cj2 @aO g1) ?_
  refine aM ?_
  rw[List.take_length];exact ab.own
def je (Y:Tx) (l:List Pr) (a b:Bs) (most:Int):Tx × List Pr × Int:=
 dQ Y (dH l a b most) a (if ((dH l a b most).length:Int)=most then ((dH l a b most).getD (most.toNat - 1) default).k++[0] else b)
theorem wZ (Y:Tx) (l:List Pr) (a b:Bs):(if (dQ Y l a b).2.2=0 then (dQ Y l a b).2.1 else [])=(dQ Y l a b).2.1:=by
 unfold dQ
 split
 ·simp
 ·rename_i h;simp[h]
theorem w5 (Y:Tx) (l:List Pr) (a b:Bs) {most:Int} (h0:¬most=0):ji Y (l.filter fun p=>inR a b p.k) a b most=je Y l a b most:=by
 unfold je ji dH
 generalize (l.filter fun p=>inR a b p.k)=L
 unfold eu
 by_cases h1:most<0
 ·rw[if_neg (by omega),if_pos h1,if_neg (by omega)]
 ·rw[if_neg h1]
  by_cases h2:most≤(L.length:Int)
  ·rw[if_pos ⟨by omega,h2⟩,if_pos (by rw[List.length_take];omega)]
   have:(L.take most.toNat).getD (most.toNat - 1) default=L.getD (most.toNat - 1) default:=by
    simp[List.getD,List.getElem?_take,show most.toNat - 1<most.toNat by omega]
   rw[this]
  ·rw[if_neg (by omega),List.take_of_length_le (by omega),if_neg (by omega)]
theorem mv {S:Spc} (hr:bk S.L) {Y:Tx} (hC:Space.bE (ah Y.C)) (ht:Y.t≤S.last) (a b:Bs) (most:Int):
  cq S Y a b most=if Y.ended then (Y,[],17) else if Y.t<S.mark then (Y,[],12) else if most=0 then (Y,[],0) else je Y (dw Y.C (cT S [] [] Y.t)) a b most:=by
 unfold cq
 cases Y.ended with
 |true=>rfl
 |false=>
  simp only[Bool.false_eq_true,if_false]
  unfold fR cn cB
  by_cases hm:Y.t<S.mark
  ·simp[hm]
  ·rw[if_neg hm,if_neg (show ¬S.last<Y.t by omega),if_pos rfl,if_neg hm]
   simp only[ne_eq,not_true_eq_false,false_or]
   by_cases h0:most=0
   ·simp[h0]
   ·rw[if_neg h0,if_neg h0]
    have hl:=yC hr hC a b Y.t
    rw[show eu (-1) (cT S a b Y.t)=cT S a b Y.t from rfl,hl,w5 _ _ _ _ h0]
    rw[je,wZ]
set_option maxHeartbeats 4000000 in
theorem w6 (S:Spc) (Y:Tx) (hr:bk S.L) (hS:Small S) (lks:∀p∈S.L,p.1.length≤1000000) (hC:Space.bE (ah Y.C)) (hl:Y.C.length≤64) (hk:∀c∈Y.C,cE c=true) (lk:LsK Y.rk) (ll:LsS Y.rs) (ht:Y.t≤S.last) (a b:Bs) (la:Ls a) (lb:Ls b) (most:Int):
  aB Tryz.prog 34 [fS Y,du S,.str a,.str b,.int .i64 most] (.tup [fS (cq S Y a b most).1,.sl 2 (prs (cq S Y a b most).2.1) .any,.int .i64 (cq S Y a b most).2.2]):=by
 rw[mv hr hC ht]
 refine f34.aJ (by simp) (by simp[al,av,dN,dd]) (by simp[av,al,aK,dN,dX]) ?_
 unfold c34
 simp only[C.zz]
 have hlsS:∀p∈S.L,Ls p.1:=fun p hp=>by have:=lks p hp;unfold Ls;omega
 have hse:=fun h=>Bf S Y hr hS hlsS hl hk Y.t h
 have hal:=vk hlsS [] [] Y.t
 have hlen0:(cT S [] [] Y.t).length≤500000:=by
  have:=r9 (S:=S) (a:=[]) (b:=[]) (t:=Y.t)
  have h1:=hS.1
  by_cases hm:cB S Y.t=0
  ·rw[cn,if_pos hm] at this
   simp only[eu] at this
   have h2:(cT S [] [] Y.t).length≤S.L.length:=this
   omega
  ·have h2:(cT S [] [] Y.t).length≤S.L.length:=by
    unfold cT
    refine Nat.le_trans (List.length_filterMap_le _ _) ?_
    have h2:=((List.takeWhile_sublist (fb ([]:Space.Bs))).trans (List.drop_sublist (plK (ae S.L) []) (ae S.L))).length_le
    unfold ca
    simpa [ae] using h2
   omega
 have hln:=lM hk (cT S [] [] Y.t) Y.C.length (Nat.le_refl _)
 have hls:=qS hk hal Y.C.length (Nat.le_refl _)
 have hkey:∀p∈dw Y.C (cT S [] [] Y.t),p.k.length≤1000000:=by
  intro p hp
  rcases (lB Y.C (iv hr [] [] Y.t) hC p).1 hp with ⟨c,hc,e,-⟩|⟨h1,-⟩
  ·have:=hk c hc
   simp only[cE,Bool.and_eq_true,decide_eq_true_eq] at this
   rw[←e];omega
  ·have h3:=((jL hr).1 h1).1
   obtain ⟨x,hx,e⟩:=List.mem_map.1 h3
   rw[←e];exact lks x hx
 rw[List.take_length] at hln hls
 have hsp:=fun x hx=>AT Y.rk Y.rs lk ll x hx
 have hkb:cB S Y.t=0↔¬Y.t<S.mark:=by
  unfold cB
  by_cases h:Y.t<S.mark
  ·simp[h]
  ·simp[h,show ¬S.last<Y.t by omega]
 obtain ⟨t,C,rk,rs,ended⟩:=Y
 simp only at hC hl hk lk ll ht hse hlen0 hln hls hkey hsp hkb ⊢
 have hs10:=fun most=>zj (dw C (cT S [] [] t)) (by omega) hls a b la lb most
 unfold fS at hse ⊢
 unfold du at hse ⊢
 unfold Reads.bQ Reads.cP at hsp
 cases ended with
 |true=>
  refine o5 ?_
  refine Wp.ret ⟨trivial,_,by simp only[bP,rvs,rv,go_sem,bx,ax,reduceIte,Nat.reduceEqDiff,if_true,if_false,Nat.reduceLeDiff];exact rfl,?_⟩
  exact ab.tup (af.cons (ab.refl _) (af.cons ab.cap (af.refl _)))
 |false=>
  simp only[Bool.false_eq_true,if_false]
  by_cases hm:t<S.mark
  ·have d1:=decide_eq_true hm
   rw[if_pos hm]
   refine an0 d1 ?_
   refine Wp.ret ⟨trivial,_,by simp only[bP,rvs,rv,go_sem,bx,ax,reduceIte,Nat.reduceEqDiff,if_true,if_false,Nat.reduceLeDiff];exact rfl,?_⟩
   exact ab.tup (af.cons (ab.refl _) (af.cons ab.cap (af.refl _)))
  ·have d1:=decide_eq_false hm
   rw[if_neg hm]
   have hse:=hse (hkb.2 hm)
   have hs10:=hs10 most
   by_cases h0:most=0
   ·have d2:=decide_eq_true h0
    rw[if_pos h0]
    refine an2 (cj2 d1 d2) hse hs10 ?_
    refine Wp.ret ⟨trivial,_,by simp only[bP,rvs,rv,go_sem,bx,ax,reduceIte,Nat.reduceEqDiff,if_true,if_false,Nat.reduceLeDiff];exact rfl,?_⟩
    exact ab.tup (af.cons (ab.refl _) (af.cons ab.cap (af.refl _)))
   ·have d2:=decide_eq_false h0
    rw[if_neg h0]
    unfold je dQ
    have hsl:=mu a b most (dw C (cT S [] [] t))
    have hmem:∀p∈dH (dw C (cT S [] [] t)) a b most,p.k.length≤1000000:=by
     intro p hp
     unfold dH eu at hp
     split at hp
     ·exact hkey p (List.mem_filter.1 hp).1
     ·exact hkey p (List.mem_filter.1 (List.mem_of_mem_take hp)).1
    generalize dH (dw C (cT S [] [] t)) a b most=o at*
    by_cases he:(o.length:Int)=most
    ·have d3:=decide_eq_true he
     have hpos:0<o.length:=by omega
     have w1:IntKind.i64.wrap (most - 1)=((o.length - 1:Nat):Int):=by rw[IntWalk.i64_in _ (by omega)];omega
     have w2:(0:Int)≤((o.length - 1:Nat):Int):=by omega
     have w3:((o.length - 1:Nat):Int)<(o.length:Int):=by omega
     have hat:=cg o (o.length - 1) .any (by omega)
     have hq:most.toNat - 1=o.length - 1:=by omega
     have hkl:=hmem (o.getD (o.length - 1) default) (by rw[Av.au (by omega)];exact List.getElem_mem _)
     have hadd:(o.getD (o.length - 1) default).k.length+1<9223372036854775808:=by omega
     have hsp:=hsp ⟨a,(o.getD (o.length - 1) default).k++[0]⟩ ⟨la,by unfold Ls;simp only[List.length_append,List.length_cons,List.length_nil];omega⟩
     simp only[he,if_true,hq]
     generalize hsb:bV rk rs ⟨a,(o.getD (o.length - 1) default).k++[0]⟩=sb at*
     simp only at hsp
     by_cases hz:sb.2.2=0
     ·have d4:=decide_eq_true hz
      simp only[hz,if_true]
      rw[hz] at hsp
      refine an3 (bN d1 d2 d3 @aO w1 w2 w3 @Int.toNat_natCast hat @bR.eq_1 @List.length_cons.{0} (cj5 @List.length_nil.{0} @Nat.zero_add hadd @decide_true @Bool.not_true)) hse hs10 hsp ?_
      refine Wp.ret ⟨trivial,_,by simp only[bP,rvs,rv,go_sem,bx,ax,reduceIte,Nat.reduceEqDiff,if_true,if_false,Nat.reduceLeDiff];exact rfl,?_⟩
      exact ab.refl _
     ·have d4:=decide_eq_false hz
      simp only[hz,if_false]
      refine an3 (bN d1 d2 d3 d4 @aO w1 w2 w3 @Int.toNat_natCast hat @bR.eq_1 (cj4 @List.length_cons.{0} @List.length_nil.{0} @Nat.zero_add hadd)) hse hs10 hsp ?_
      refine Wp.ret ⟨trivial,_,by simp only[bP,rvs,rv,go_sem,bx,ax,reduceIte,Nat.reduceEqDiff,if_true,if_false,Nat.reduceLeDiff];exact rfl,?_⟩
      exact ab.tup (af.cons (ab.refl _) (af.cons ab.cap (af.refl _)))
    ·have d3:=decide_eq_false he
     have hsp:=hsp ⟨a,b⟩ ⟨la,lb⟩
     simp only[he,if_false]
     generalize hsb:bV rk rs ⟨a,b⟩=sb at*
     simp only at hsp
     by_cases hz:sb.2.2=0
     ·simp only[hz,if_true]
      rw[hz] at hsp
      refine an3 (cj6 d1 d2 d3 @aO @decide_true @Bool.not_true) hse hs10 hsp ?_
      refine Wp.ret ⟨trivial,_,by simp only[bP,rvs,rv,go_sem,bx,ax,reduceIte,Nat.reduceEqDiff,if_true,if_false,Nat.reduceLeDiff];exact rfl,?_⟩
      exact ab.refl _
     ·have d4:=decide_eq_false hz
      simp only[hz,if_false]
      refine an3 (cj5 d1 d2 d3 d4 @aO) hse hs10 hsp ?_
      refine Wp.ret ⟨trivial,_,by simp only[bP,rvs,rv,go_sem,bx,ax,reduceIte,Nat.reduceEqDiff,if_true,if_false,Nat.reduceLeDiff];exact rfl,?_⟩
      exact ab.tup (af.cons (ab.refl _) (af.cons ab.cap (af.refl _)))
end Go.Proofs.YtpehfflehebmbaaGreat.Txn
end
section
set_option maxRecDepth 10000
namespace Go.Av
theorem ey {L L':List Fr} {n m:Nat} {T:List Nat} (ok:Ok L n T m) (h:∀G∈L',G∈L):OLe (lay L) (lay L'):=fun j o hj=>by
 have:∃G∈L',G.o j=some o:=by
  clear h ok
  induction L' with
  |nil=>cases hj
  |cons G L' ih=>
   rw[cM] at hj
   cases e:G.o j with
   |some o'=>
    rw[e] at hj
    simp only[Option.some_or,Option.some.injEq] at hj
    exact ⟨G,by simp,by rw[e,hj]⟩
   |none=>
    rw[e] at hj
    simp only[Option.none_or] at hj
    obtain ⟨G',h1,h2⟩:=ih hj
    exact ⟨G',by simp[h1],h2⟩
 obtain ⟨G,h1,h2⟩:=this
 exact ⟨o,ok.sub (h G h1) j o h2,bW.refl _⟩
end Go.Av
namespace Go.Proofs.YtpehfflehebmbaaGreat.Txn
open Go Go.Av Go.Proofs Go.Proofs.YtpehfflehebmbaaGreat.C Go.Proofs.YtpehfflehebmbaaGreat.Batch Go.Proofs.YtpehfflehebmbaaGreat.Space Go.Proofs.YtpehfflehebmbaaGreat.Reads
structure Ac where
 kind:Int
 n:Int
 a:Bs
 b:Bs
 l:List Ch
instance:Inhabited Ac:=⟨⟨0,0,[],[],[]⟩⟩
def dc (c:Ac):AV:= .agg [.int .i64 c.kind,.int .i64 c.n,.str c.a,.str c.b,.sl 3 (chs c.l) .any]
theorem w7 (c:Ac):av (dc c)=true:=by simp[dc,av,al,aK,ik]
def wO (s:Nat) (S:Spc) (xv:AV) (Y:Tx):Av.Obj:= .cells [.ptr s 0,.sl 2 (S.L.map Space.encI) .any,.int .i64 S.last,.int .i64 S.mark,xv,.int .i64 Y.t,.sl 3 (chs Y.C) .any,.sl 1 (strs Y.rk) .any,.sl 2 (sps Y.rs) .any,.bool Y.ended]
theorem jP {c:Ch} (h:cE c=true):c.k.length≤120:=by
 simp only[cE,Bool.and_eq_true,decide_eq_true_eq] at h
 exact h.1
structure Inv (k:Nat) (S:Spc) (Y:Tx):Prop where
 fit:Fit S k
 rt:Rt S
 tl:Y.t≤S.last
 rC:Space.bE (ah Y.C)
 lC:Y.C.length≤64
 kC:∀c∈Y.C,cE c=true
 ck:bb Y.rk Y.rs=true
 sk:∀q∈Y.rk,q.length≤2000
 ls:LsS Y.rs
theorem Inv.lsC {k:Nat} {S:Spc} {Y:Tx} (h:Inv k S Y):∀c∈Y.C,Ls c.k:=fun c hc=>by
 have:=jP (h.kC c hc);unfold Ls;omega
theorem Inv.lk {k:Nat} {S:Spc} {Y:Tx} (h:Inv k S Y):LsK Y.rk:=LsK.of fun q hq=>by
 have:=h.sk q hq;unfold Ls;omega
theorem zo (S:Spc) (a b:Bs) (t:Int):(cT S a b t).length≤S.L.length:=by
 unfold cT
 refine Nat.le_trans (List.length_filterMap_le _ _) ?_
 have h2:=((List.takeWhile_sublist (fb b)).trans (List.drop_sublist (plK (ae S.L) a) (ae S.L))).length_le
 unfold ca
 simpa [ae] using h2
theorem w8 (Y:Tx) (l:List Pr) (a b:Bs):(dQ Y l a b).2.1.length≤l.length:=by
 unfold dQ;split<;>simp
theorem qa {k:Nat} {S:Spc} {Y:Tx} (h:Inv k S Y) (hsm:Small S) (a b:Bs) (most:Int):(cq S Y a b most).2.1.length≤1000000:=by
 rw[mv h.fit.ri h.rC h.tl]
 split
 ·simp
 ·split
  ·simp
  ·split
   ·simp
   ·unfold je
    refine Nat.le_trans (w8 _ _ _ _) ?_
    refine Nat.le_trans (mu _ _ _ _) ?_
    have h1:=lM h.kC (cT S [] [] Y.t) Y.C.length (Nat.le_refl _)
    rw[List.take_length] at h1
    have h2:=zo S [] [] Y.t
    have h3:=h.lC
    have h4:=hsm.1
    omega
end Go.Proofs.YtpehfflehebmbaaGreat.Txn
end
