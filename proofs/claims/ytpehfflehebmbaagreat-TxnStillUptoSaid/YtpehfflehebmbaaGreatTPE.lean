/- Parts of a proof: a layer of abstract values over the model, the functions' walks, plain laws. -/
import Derived.Deep.CondSized
import Derived.IntWalk
import Derived.KernelRfl
import Derived.Laws.Append
import Derived.Laws.AppendOwn
import Derived.Laws.BytesArg
import Derived.Laws.Cover3
import Derived.Laws.Entries
import Derived.Laws.IdiomCopy
import Derived.Laws.IdiomStrings
import Derived.Laws.Pointers
import Derived.Laws.Small
import Derived.Laws.Strings
import Derived.Laws.StructEq
import Derived.MapKept
import Derived.OpenShut
import Derived.Orders
import Derived.OrdersIn
import Derived.ProofKit
import Derived.RangeFuncRecord
import Derived.RangeFuncSeq
import Derived.ReadAgain
import Derived.Scope
import Derived.Shelf.Slices.Cells
import Derived.Shelf.Slices.Delete
import Derived.Shelf.Spec.SlicesInsertGrow
import Derived.SizedLaws
import Derived.Test.YtpehfflehebmbaaGreatRows
import Derived.Test.YtpehfflehebmbaaGreatTPD
set_option linter.unusedSimpArgs false
set_option linter.unusedVariables false
section
set_option maxRecDepth 10000
namespace Go.Proofs.YtpehfflehebmbaaGreat.Space
open Go Go.Av Go.Proofs Go.Proofs.YtpehfflehebmbaaGreat.C Go.Proofs.YtpehfflehebmbaaGreat.Batch
theorem wb {L:List Fr} {n m id:Nat} {T:List Nat} {o o2:Av.Obj} (h:lay L id=some o):H.patch ⟨lay L,n,T,m⟩ (.only (upd ag id (some o)) [] n m) (.only (upd (upd ag id (some o)) n (some o2)) [] (n+1) m)=⟨lay (ob n o2::L),n+1,T,m⟩:=by
 refine H.ext (fun j=>?_) rfl ?_ rfl
 ·simp only[H.patch,H.only,upd,ag,lay,aW]
  by_cases e1:j=n
  ·subst e1;simp
  ·by_cases e2:j=id
   ·subst e2;simp[e1,h]
   ·have:¬(n≤j∧j<n+1):=by omega
    simp[e1,e2,this]
 ·simp[H.patch,H.only]
theorem Ad {G G':aI} {w:World} {v:Value} (h:ah G w (.sl 1 [] (.exact 0)) v):ah G' w (.sl 1 [] (.exact 0)) v:=by
 simp only[ah,cC] at h ⊢
 rcases h with h|⟨B,off,C,vs,q1,q2,q3,q4,q5,q6⟩
 ·exact .inl h
 ·left
  subst q6
  simpa [fO] using ⟨_,q1⟩
theorem BO {K:AV} {o:jn} {s c:Nat} (hK:rH K [] o s c):∃(objs:jn) (ids:List Nat),(∀id p,objs id=some p→o id=some p)∧(∀id,(objs id).isSome→id∈ids)∧iI Tryz.prog 61 [K] objs (.sl 1 [] (.exact 0)):=by
 have hb:=gy (sz:=1) (bytes:=16) f61
 rcases hK with ⟨rfl,h⟩|⟨k,rfl,h1,h2,h3⟩
 ·refine ⟨ag,[],fun id p h=>by simp[ag] at h,fun id h=>by simp[ag] at h,fun n m=>?_⟩
  intro G w vs hv R F
  exact hb n m G w vs ((af.cons ab.cap af.nil) G w vs hv) R F
 ·refine ⟨upd ag k (some (.cells [])),[k],fun id p h=>?_,fun id h=>?_,?_⟩
  ·simp only[upd,ag] at h
   split at h
   ·rename_i e;subst e;cases h;exact h1
   ·cases h
  ·simp only[upd,ag] at h
   split at h
   ·rename_i e;simp[e]
   ·cases h
  ·exact hb.look (fun G G' w v h=>Ad h) none k
theorem rU {G G':aI} {w:World}:∀(l:List Bs) (vs:List Value),aq G w (strs l) vs→aq G' w (strs l) vs
 |[],vs,h=>by simpa [strs,aq] using h
 |s::l,vs,h=>by
  simp only[strs,List.map_cons,aq] at h ⊢
  obtain ⟨v,us,e,h1,h2⟩:=h
  exact ⟨v,us,e,by simpa only[ah] using h1,rU l us h2⟩
theorem rV (l:List Bs) (h0:l≠[]) (hl:l.length≤1000000) (id n m:Nat) (hid:id<n):bn Tryz.prog 61 [.tsl 1 id 0 l.length none] (.only (upd ag id (some (.cells (strs l)))) [] n m) (.tsl 1 n 0 l.length none) (.only (upd (upd ag id (some (.cells (strs l)))) n (some (.cells (strs l)))) [] (n+1) m):=by
 have:=bn.CJ (args:=[]) (fun n m=>Reads.jx l h0 hl n m) (fun G G' w vs h=>rU l vs h) none id n m hid
 rwa [ao] at this
def iR (mark:Int) (S:Spc) (k:Bs):Spc:=iP S k (eP (aY S.L k) mark)
def iq (mark:Int) (S:Spc) (ks:List Bs):Spc:=ks.foldl (iR mark) S
def br (S:Spc) (mark:Int):Spc × Int:=if mark<S.mark∨S.last<mark then (S,2) else ({iq mark S (ae S.L) with mark:=mark},0)
theorem qu (v:List Ver) (m:Int):(eP v m).length≤v.length:=by
 unfold eP
 split
 ·rw[List.length_take];omega
 ·simp
theorem tA {S:Spc} (h:Small S) (hr:bb S.L) (m:Int) (k:Bs):Small (iR m S k)∧bb (iR m S k).L:=by
 refine ⟨⟨?_,fun q=>?_⟩,jT hr _ _⟩
 ·show (dD S.L k (eP (aY S.L k) m)).length≤_
  have hp:=eY (ae S.L) k
  have hk:(ae S.L).length=S.L.length:=by simp[ae]
  have:=h.1
  by_cases ht:thK (ae S.L) k=true
  ·unfold dD
   simp only[ht,if_true]
   have ht2:=ht
   simp only[thK,Bool.and_eq_true,decide_eq_true_eq] at ht2
   have:=ht2.1
   split
   ·simp;omega
   ·simp;omega
  ·have hm:aY S.L k=[]:=by
    refine gh _ _ fun hm=>?_
    have:=mX hr k
    rw[decide_eq_true (show k∈ae S.L from hm)] at this
    exact ht this
   have hv:eP (aY S.L k) m=[]:=by
    have:=qu (aY S.L k) m
    rw[hm] at this ⊢
    exact List.length_eq_zero_iff.1 (by simpa using this)
   rw[hv,dD,if_pos rfl,if_neg ht];exact this
 ·show (aY (dD _ _ _) q).length≤_
  rw[kT hr]
  split
  ·have:=qu (aY S.L k) m
   have:=h.2 k
   omega
  ·exact h.2 q
theorem uH (m:Int):∀(l:List Bs) (S:Spc),Small S→bb S.L→Small (iq m S l)∧bb (iq m S l).L
 |[],S,h,hr=>⟨h,hr⟩
 |k::l,S,h,hr=>by
  obtain ⟨h1,h2⟩:=tA h hr m k
  exact uH m l _ h1 h2
theorem wc (m:Int) (S:Spc) (l:List Bs) {j:Nat} (h:j<l.length):iq m S (l.take (j+1))=iR m (iq m S (l.take j)) (l.getD j []):=by
 rw[bJ [] h,iq,List.foldl_append];rfl
set_option maxHeartbeats 1000000 in
theorem yg {s:Nat} {S:Spc} {F:Fr} (hF:cU s S F) (hr:bb S.L) (hS:Small S) (mark:Int):aT Tryz.prog 37 [.ptr s 0,.int .i64 mark] [F] (fun r L=>r= .int .i64 (br S mark).2∧∃F',L=[F']∧cU s (br S mark).1 F'):=by
 obtain ⟨c,M,K,hM,hsc,hs,hc,hK⟩:=hF.go
 refine f37.bo (by simp) fun n m ok=>?_
 unfold c37
 simp only[C.zz]
 have fs:=ok.at0 hs
 have stop:∀(e:Int),br S mark=(S,e)→∃r l',Av.Ends [F] n m (fun r L=>r= .int .i64 (br S mark).2∧∃F',L=[F']∧cU s (br S mark).1 F') (.int .i64 e) ⟨lay [F],n,ks [F],m⟩ r l':=by
  intro e h
  rw[h]
  exact ⟨_,_,(On.refl ok).ends (ab.refl _) ⟨rfl,F,rfl,hF⟩⟩
 by_cases p1:mark<S.mark
 ·have d1:=decide_eq_true p1
  have hres:br S mark=(S,2):=by rw[br,if_pos (.inl p1)]
  refine xL0 (cj2 fs d1) (fA hF) ?_
  intro ids
  exact Wp.ret ⟨trivial,_,rfl,stop 2 hres⟩
 ·have d1:=decide_eq_false p1
  by_cases p2:S.last<mark
  ·have d2:=decide_eq_true p2
   have hres:br S mark=(S,2):=by rw[br,if_pos (.inr p2)]
   refine xL0 (cj3 fs d1 d2) (fA hF) ?_
   intro ids
   exact Wp.ret ⟨trivial,_,rfl,stop 2 hres⟩
  ·have d2:=decide_eq_false p2
   have hres:br S mark=({iq mark S (ae S.L) with mark:=mark},0):=by rw[br,if_neg (by omega)]
   have hkl:(ae S.L).length=S.L.length:=by simp[ae]
   have hS1:=hS.1
   by_cases hz:ae S.L=[]
   ·rw[hz] at hK
    obtain ⟨objs,idk,ho,hi,hb⟩:=BO hK
    have g1:decide ((0:Int)<((0:Nat):Int))=false:=rfl
    refine xL0 (cj3 fs d1 d2) (fA hF) ?_
    intro ids
    refine aa.ji idk (by simp only[go_sem]) xA4 (fun id o h=>ok.sub (by simp) id o (ho id o h)) hi hb ?_
    refine aa.evR xA1 ?_
    refine aa.nil ⟨by trivial,?_⟩
    refine rn0 g1 ?_
    refine Wp.mB (WpL.next ?_)
    refine rn0 (cj2 g1 fs) ?_
    have hz2:iq mark S (ae S.L)=S:=by rw[hz];rfl
    rw[hz2] at hres
    have on3:=On.put (o:= .cells [K,.mp c,.int .i64 S.last,.int .i64 mark]) ok (by rw[hs];rfl)
    have hF3:=hF.times hs S.last mark
    refine Wp.ret ⟨trivial,.int .i64 0,rfl,.int .i64 (br S mark).2,[⟨upd F.o s (some (.cells [K,.mp c,.int .i64 S.last,.int .i64 mark])),F.k⟩],?_⟩
    rw[qc]
    refine on3.ends (by rw[hres];exact ab.refl _) ⟨rfl,_,rfl,?_⟩
    rw[hres];exact hF3
   ·rcases hK with ⟨rfl,h2⟩|⟨k,rfl,h2,h3,h4⟩
    ·exact absurd h2 hz
    ·refine xL0 (cj3 fs d1 d2) (fA hF) ?_
     intro ids
     have fk:=ok.at0 h2
     have hkn:=ok.lt (by simp) h2
     refine aa.eR (by simp only[go_sem]) xA4 (rV (ae S.L) hz (by omega) k n m hkn) (jK _ _ _ (ids:=[k]) ⟨fun j o h=>?_,fun t h=>by simp[H.only] at h⟩ rfl rfl (fun id h=>?_) (by simp[H.only]) (by simp[H.only])) ?_
     ·simp only[H.only,upd,ag] at h
      split at h
      ·rename_i e;subst e;cases h;exact fk
      ·cases h
     ·simp only[H.only,upd,ag] at h
      split at h
      ·rename_i e;simp[e]
      ·cases h
     rw[wb fk]
     refine aa.evR xA1 ?_
     refine aa.nil ⟨by trivial,?_⟩
     refine Wp.block ?_
     have ok2:=ok.more (.cells (strs (ae S.L)))
     refine Wp.gU (β:=Nat) [0,1,30,31] xA7 (fun i=>[(32,.int .i64 (i:Nat))]) (fun i L=>i≤(ae S.L).length∧∃F',L=[ob n (.cells (strs (ae S.L))),F']∧cU s (iq mark S ((ae S.L).take i)) F') (fun i=>(ae S.L).length - i) 0 ⟨Nat.zero_le _,F,rfl,hF⟩ ok2 xA9 ?_
     rintro i L n1 T1 m1 on ⟨hi,F',rfl,hF'⟩
     obtain ⟨c',M',K',hM',hsc',hs',hc',hK'⟩:=hF'.go
     by_cases hi2:i<(ae S.L).length
     ·obtain ⟨g1,h2,h3,e1⟩:=ixF (j:=i) (n:=(ae S.L).length) (by omega) (by omega)
      have gk:=aK n (.cells (strs (ae S.L))) [F']
      have gs:=on.ok.sub (F:=F') (by simp) _ _ hs'
      have gc:=on.ok.sub (F:=F') (by simp) _ _ hc'
      have hget:(strs (ae S.L))[i]? =some (.str ((ae S.L).getD i [])):=by
       simp[strs,hi2]
      have hdo:=wc mark S (ae S.L) hi2
      obtain ⟨hS',hr'⟩:=uH mark ((ae S.L).take i) S hS hr
      generalize (ae S.L).getD i []=q at*
      generalize iq mark S ((ae S.L).take i)=S' at*
      have hv:=xA (aY S'.L q) (by have:=hS'.2 q;omega) mark
      have hlk:=jt M' q
      rw[hM'.eq] at hlk
      unfold vAV at hlk
      have fit:af [cQ (.sl 3 [] (.exact 0)) false (iY M' q),.int .i64 mark] [.sl 3 ((aY S'.L q).map ba) .any,.int .i64 mark]:=af.cons hlk (af.refl _)
      refine rn1 (fR g1 h2 h3 gk hget gs gc @cz @Nat.zero_add @Nat.mul_one) hv ?_
      refine aa.ur [_] [F'] [] (by simp only[go_sem]) xA4 (Bf hF' hr' hS'.1 q (eP (aY S'.L q) mark)) on.ok fun r G' n' m' ids hq hn' hm' ok3 wi ki=>?_
      obtain ⟨rfl,F2,rfl,hF2⟩:=hq
      refine aa.evR xA1 ?_
      refine aa.nil ⟨by trivial,?_⟩
      refine rn0 e1 ?_
      refine ⟨i+1,[_,F2],n',_,m',⟨hn',hm',ok3,wi,ki⟩,⟨by omega,F2,rfl,?_⟩,by omega,?_⟩
      ·rw[hdo];exact hF2
      ·exact xSu
     ·have hie:i=(ae S.L).length:=by omega
      subst hie
      have g1:=ixE ((ae S.L).length)
      rw[List.take_length] at hF' hs'
      refine rn0 g1 ?_
      refine Wp.le (aU.of (fun i=>ab.refl _) (mC (Ok.alone on.ok)) (fun _ h=>h) (Nat.le_refl _) (Nat.le_refl _)) ?_
      have on2:=On.under on
      have gs:=on2.ok.at0 hs'
      refine rn0 gs ?_
      have on3:=on2.step (On.put (o:= .cells [K',.mp c',.int .i64 (iq mark S (ae S.L)).last,.int .i64 mark]) on2.ok (by rw[hs'];rfl))
      have hF3:=hF'.times hs' (iq mark S (ae S.L)).last mark
      refine Wp.ret ⟨trivial,.int .i64 0,rfl,.int .i64 (br S mark).2,[⟨upd F'.o s (some (.cells [K',.mp c',.int .i64 (iq mark S (ae S.L)).last,.int .i64 mark])),F'.k⟩],?_⟩
      rw[qc]
      refine on3.ends (by rw[hres];exact ab.refl _) ⟨rfl,_,rfl,?_⟩
      rw[hres];exact hF3
instance:Inhabited It:=⟨([],[])⟩
def encI (p:It):AV:= .agg [.str p.1,vAV p.2]
def we (A:List It) (l:List It):List It:=l.foldl (fun A p=>dD A p.1 p.2) A
def yh (x:It) (ahead:Bs) (first:Bool) (last:Int):Bool:=decide ((x.1.length:Int)≤128)&&(first||Op.bytesLess ahead x.1)&&decide (0<x.2.length)&&chB x.2&&decide ((x.2.getD 0 default).t≤last)
def nc (l:List It) (i:Nat):Bs:=if i=0 then [] else (l.getD (i - 1) default).1
def oJ (l:List It) (last:Int) (i:Nat):Bool:=yh (l.getD i default) (nc l i) (decide (i=0)) last
def ldB (l:List It) (last mark:Int):Bool:= !decide (last<0)&& !decide (1152921504606846976<last)&& !decide (mark<0)&& !decide (last<mark)&&(List.range l.length).all (oJ l last)
theorem rW (p:It) (L:List It):ae (p::L)=p.1::ae L:=rfl
theorem jB (k:Bs) (ks:List Bs) (q:Bs):plK (k::ks) q=if Op.bytesLess k q=true then plK ks q+1 else 0:=by
 simp only[plK,List.findIdx_cons]
 cases h:Op.bytesLess k q<;>simp
theorem Ae (q:Bs):thK [] q=false:=by simp[thK]
theorem yi (k:Bs) (ks:List Bs) (q:Bs):thK (k::ks) q=if Op.bytesLess k q=true then thK ks q else decide (k=q):=by
 simp only[thK,jB]
 cases h:Op.bytesLess k q<;>simp
theorem oa (q:Bs) (v:List Ver):dD [] q v=if v=[] then [] else [(q,v)]:=by
 simp[dD,ae,Ae,plK]
theorem jV (p:It) (L:List It) (q:Bs) (v:List Ver):dD (p::L) q v=if Op.bytesLess p.1 q=true then p::dD L q v else if p.1=q then (if v=[] then L else (q,v)::L) else (if v=[] then p::L else (q,v)::p::L):=by
 simp only[dD,rW,yi,jB]
 by_cases h:Op.bytesLess p.1 q=true
 ·simp only[if_pos h,List.take_succ_cons,List.drop_succ_cons,List.cons_append]
  split<;>split<;>rfl
 ·simp only[if_neg h]
  by_cases e:p.1=q
  ·simp[e]
  ·simp[e]
theorem oc (q:Bs) (v:List Ver) (B:List It):∀A:List It,(∀p∈A,Op.bytesLess p.1 q=true)→dD (A++B) q v=A++dD B q v
 |[],_=>rfl
 |p::A,h=>by
  rw[List.cons_append,jV,if_pos (h p (by simp)),oc q v B A (fun x hx=>h x (by simp[hx]))];rfl
theorem ir {p:It} {L:List It}:bb (p::L)↔(∀x∈L,Op.bytesLess p.1 x.1=true)∧bb L:=by
 simp[bb,bL,ae,List.pairwise_cons]
theorem rX {A B:List It}:bb (A++B)↔bb A∧bb B∧∀x∈A,∀y∈B,Op.bytesLess x.1 y.1=true:=by
 unfold bb bL ae
 rw[List.map_append,List.pairwise_append]
 simp
def wGo (q:Bs) (v:List Ver):Bool→List It→List It
 |laid,[]=>if laid then [] else [(q,v)]
 |laid,p::l=>(if laid=false∧Op.bytesLess p.1 q=false then [(q,v)] else [])++((if p.1=q then [] else [p])++wGo q v (laid|| !Op.bytesLess p.1 q) l)
def od (L:List It) (q:Bs) (v:List Ver):List It:=wGo q v (decide (v=[])) L
theorem rY (q:Bs) (v:List Ver):∀L:List It,(∀p∈L,p.1≠q)→wGo q v true L=L
 |[],_=>rfl
 |p::L,h=>by
  rw[wGo,if_neg (h p (by simp))]
  simp only[Bool.true_eq_false,false_and,if_false,List.nil_append,Bool.true_or,List.singleton_append]
  rw[rY q v L (fun x hx=>h x (by simp[hx]))]
theorem lh {a b:Bs} (h:Op.bytesLess a b=true):a≠b:=fun e=>by rw[e,bk] at h;cases h
theorem after {p:It} {L:List It} {q:Bs} (hr:bb (p::L)) (h:Op.bytesLess p.1 q=false):∀x∈L,x.1≠q:=by
 intro x hx e
 have:=(ir.1 hr).1 x hx
 rw[e,h] at this;cases this
theorem rZ {q:Bs} {v:List Ver}:∀L:List It,bb L→od L q v=dD L q v
 |[],_=>by
  rw[oa,od,wGo]
  by_cases h:v=[] <;>simp[h]
 |p::L,hr=>by
  have ih:=rZ (q:=q) (v:=v) L (ir.1 hr).2
  rw[jV,od,wGo]
  by_cases h:Op.bytesLess p.1 q=true
  ·have hn:=lh h
   rw[if_pos h,←ih,od]
   simp[h,hn]
  ·have h':Op.bytesLess p.1 q=false:=by simpa using h
   have ha:=rY q v L (after hr h')
   rw[if_neg h]
   by_cases hv:v=[] <;>by_cases e:p.1=q<;>simp[hv,e,h',ha] <;>(try (rw [e] at h';simp[h']))<;>simp_all
def Full (L:List It):Prop:=∀p∈L,p.2≠[]
theorem r7:∀(l A:List It),bb (A++l)→Full l→we A l=A++l
 |[],A,_,_=>by simp[we]
 |p::l,A,hr,hf=>by
  have h1:=(rX.1 hr).2.2
  have hs:dD A p.1 p.2=A++[p]:=by
   have:=oc p.1 p.2 [] A (fun x hx=>h1 x hx p (by simp))
   rw[List.append_nil,oa,if_neg (hf p (by simp))] at this
   exact this
  have e:we A (p::l)=we (dD A p.1 p.2) l:=rfl
  rw[e,hs,r7 l (A++[p]) (by simpa using hr) (fun x hx=>hf x (by simp[hx]))]
  simp
theorem wg {L:List It} (hr:bb L) (hf:Full L):we [] L=L:=by
 have:=r7 L [] (by simpa using hr) hf
 simpa using this
theorem wh {L:List It} (hf:Full L) (q:Bs) (v:List Ver):Full (dD L q v):=by
 induction L with
 |nil=>rw[oa];split<;>simp_all [Full]
 |cons p L ih=>
  have h1:p.2≠[]:=hf p (by simp)
  have h2:Full L:=fun x hx=>hf x (by simp[hx])
  have h3:=ih h2
  rw[jV]
  intro x hx
  split at hx
  ·rcases List.mem_cons.1 hx with rfl|hx
   ·exact h1
   ·exact h3 x hx
  ·split at hx<;>split at hx
   ·exact h2 x hx
   ·rename_i hv
    rcases List.mem_cons.1 hx with rfl|hx
    ·exact hv
    ·exact h2 x hx
   ·exact hf x hx
   ·rename_i hv
    rcases List.mem_cons.1 hx with rfl|hx
    ·exact hv
    ·exact hf x hx
theorem jC {L:List It} (hr:bb L) {p:It} (hp:p∈L):aY L p.1=p.2:=by
 induction L with
 |nil=>simp at hp
 |cons x L ih=>
  obtain ⟨h1,h2⟩:=ir.1 hr
  rcases List.mem_cons.1 hp with rfl|hp
  ·simp[aY]
  ·rw[aY,if_neg (lh (h1 p hp))];exact ih h2 hp
theorem r8 {A B:List It} {q:Bs} (h:∀x∈A,x.1≠q):aY (A++B) q=aY B q:=by
 rw[fK,if_neg]
 intro hm
 obtain ⟨p,hp,e⟩:=List.mem_map.1 hm
 exact h p hp e
def gJ (mark:Int) (L:List It):List It:=L.filterMap fun p=>if eP p.2 mark=[] then none else some (p.1,eP p.2 mark)
theorem wj {mark:Int} {L:List It} {x:It} (h:x∈gJ mark L):∃p∈L,p.1=x.1:=by
 obtain ⟨p,hp,e⟩:=List.mem_filterMap.1 h
 split at e
 ·cases e
 ·cases e;exact ⟨p,hp,rfl⟩
theorem uI (mark:Int) (a b:Int):∀(B A:List It),bb (A++B)→iq mark ⟨gJ mark A++B,a,b⟩ (ae B)=⟨gJ mark (A++B),a,b⟩
 |[],A,_=>by simp[iq,ae]
 |p::B,A,hr=>by
  have h1:=(rX.1 hr).2.2
  have hlt:∀x∈gJ mark A,Op.bytesLess x.1 p.1=true:=fun x hx=>by
   obtain ⟨y,hy,e⟩:=wj hx
   rw[←e];exact h1 y hy p (by simp)
  have hg:aY (gJ mark A++p::B) p.1=p.2:=by
   rw[r8 (fun x hx=>lh (hlt x hx))];simp[aY]
  have e1:iq mark ⟨gJ mark A++p::B,a,b⟩ (ae (p::B))=iq mark (iR mark ⟨gJ mark A++p::B,a,b⟩ p.1) (ae B):=rfl
  have e2:iR mark ⟨gJ mark A++p::B,a,b⟩ p.1=⟨gJ mark (A++[p])++B,a,b⟩:=by
   simp only[iR,iP,hg,oc _ _ _ _ hlt,jV,bk,Bool.false_eq_true,if_false,if_true]
   by_cases hv:eP p.2 mark=[]
   ·simp[gJ,hv]
   ·simp[gJ,hv]
  rw[e1,e2,uI mark a b B (A++[p]) (by simpa using hr)]
  simp
theorem qv {S:Spc} (hr:bb S.L) (mark:Int):iq mark S (ae S.L)= {S with L:=gJ mark S.L}:=by
 have:=uI mark S.last S.mark S.L [] (by simpa using hr)
 simpa [gJ] using this
theorem pC (mark:Int) (L:List It):Full (gJ mark L):=by
 intro x hx
 obtain ⟨p,hp,e⟩:=List.mem_filterMap.1 hx
 split at e
 ·cases e
 ·cases e;assumption
def inB (k a b:Bs):Bool:= !Op.bytesLess k a&&eU b k
theorem yj {b:Bs}:∀{ks:List Bs} {k:Bs},(∀x∈ks,Op.bytesLess k x=true)→eU b k=false→∀x∈ks,eU b x=false:=by
 intro ks k h hk x hx
 simp only[eU,Bool.or_eq_false_iff,decide_eq_false_iff_not] at hk ⊢
 refine ⟨hk.1,?_⟩
 cases hc:Op.bytesLess x b with
 |false=>rfl
 |true=>rw[bz (h x hx) hc] at hk;cases hk.2
theorem mH {b:Bs}:∀ks:List Bs,bL ks→ks.takeWhile (eU b)=ks.filter (eU b)
 |[],_=>rfl
 |k::ks,hr=>by
  obtain ⟨h1,h2⟩:=List.pairwise_cons.1 hr
  rw[List.takeWhile_cons,List.filter_cons]
  cases hk:eU b k with
  |true=>simp only[if_true];rw[mH ks h2]
  |false=>
   simp only[Bool.false_eq_true,if_false]
   refine (List.filter_eq_nil_iff.2 fun x hx=>?_).symm
   rw[yj h1 hk x hx];exact Bool.false_ne_true
theorem qw {a b:Bs}:∀ks:List Bs,bL ks→bZ ks a b=ks.filter fun k=>inB k a b
 |[],_=>by simp[bZ]
 |k::ks,hr=>by
  obtain ⟨h1,h2⟩:=List.pairwise_cons.1 hr
  by_cases h:Op.bytesLess k a=true
  ·have ih:=qw (a:=a) (b:=b) ks h2
   rw[bZ,jB,if_pos h,List.drop_succ_cons,List.filter_cons,if_neg (by simp[inB,h])]
   exact ih
  ·have h':Op.bytesLess k a=false:=by simpa using h
   rw[bZ,jB,if_neg h,List.drop_zero,mH _ hr]
   refine List.filter_congr fun x hx=>?_
   have:Op.bytesLess x a=false:=by
    rcases List.mem_cons.1 hx with rfl|hx
    ·exact h'
    ·cases hc:Op.bytesLess x a with
     |false=>rfl
     |true=>rw[bz (h1 x hx) hc] at h';cases h'
   simp[inB,this]
theorem oe {α β:Type} {f g:α→Option β}:∀{l:List α},(∀x∈l,f x=g x)→l.filterMap f=l.filterMap g
 |[],_=>rfl
 |x::l,h=>by
  rw[List.filterMap_cons,List.filterMap_cons,h x (by simp),oe (fun y hy=>h y (by simp[hy]))]
theorem Af {α:Type} {a b:Bs} {L:List It} (hr:bb L) (f:List Ver→Bs→Option α):(bZ (ae L) a b).filterMap (fun k=>f (aY L k) k)=(L.filter fun p=>inB p.1 a b).filterMap fun p=>f p.2 p.1:=by
 rw[qw _ hr,ae,List.filter_map,List.filterMap_map]
 refine oe fun p hp=>?_
 have:=jC hr (List.mem_filter.1 hp).1
 simp only[Function.comp,this]
def yk (t:Int) (p:It):Option Pr:=if (atB p.2 t).2=true then some ⟨p.1,(atB p.2 t).1⟩ else none
theorem Ag {S:Spc} (hr:bb S.L) (a b:Bs) (t:Int):cY S a b t=(S.L.filter fun p=>inB p.1 a b).filterMap (yk t):=by
 have:=Af (a:=a) (b:=b) hr (fun v k=>if (atB v t).2=true then some (⟨k,(atB v t).1⟩:Pr) else none)
 exact this
theorem pD {S:Spc} (hr:bb S.L) (a b:Bs) (t:Int):bY S a b t=S.L.any fun p=>inB p.1 a b&&dW p.2 t:=by
 rw[bY,qw _ hr,ae,List.filter_map,List.any_map]
 refine Bool.eq_iff_iff.2 ?_
 simp only[List.any_eq_true,List.mem_filter,Function.comp,Bool.and_eq_true]
 constructor
 ·rintro ⟨p,⟨hp,h1⟩,h2⟩
  rw[jC hr hp] at h2
  exact ⟨p,hp,h1,h2⟩
 ·rintro ⟨p,hp,h1,h2⟩
  rw[←jC hr hp] at h2
  exact ⟨p,⟨hp,h1⟩,h2⟩
def cP (S:Spc):AV:= .agg [.sl 2 (S.L.map encI) .any,.int .i64 S.last,.int .i64 S.mark]
theorem wk (p:It):av (encI p)=true:=by simp[al,av,aG,encI,vAV,bC]
theorem og (l:List It):al (l.map encI)=true:=Av.cS wk l
theorem cA (S:Spc):av (cP S)=true:=by simp[al,av,aG,cP,og]
theorem kQ (S:Spc) (t:Int):aA Tryz.prog 112 [cP S,.int .i64 t] (.int .i64 (cT S t)):=by
 refine f112.aD (by simp) (by simp[al,av,cA]) rfl ?_
 unfold Ck
 simp only[C.zz]
 by_cases h1:t<S.mark
 ·have d1:=decide_eq_true h1
  refine rn0 (cj2 @cP.eq_1 d1) ?_
  refine aJ ?_
  rw[cT,if_pos h1];exact ab.refl _
 ·have d1:=decide_eq_false h1
  by_cases h2:S.last<t
  ·have d2:=decide_eq_true h2
   refine rn0 (cj3 @cP.eq_1 d1 d2) ?_
   refine aJ ?_
   rw[cT,if_neg h1,if_pos h2];exact ab.refl _
  ·have d2:=decide_eq_false h2
   refine rn0 (cj3 @cP.eq_1 d1 d2) ?_
   refine aJ ?_
   rw[cT,if_neg h1,if_neg h2];exact ab.refl _
theorem kR (k a b:Bs) (lk:Ls k) (la:Ls a) (lb:Ls b):aA Tryz.prog 106 [.str k,.str a,.str b] (.bool (inB k a b)):=by
 refine f106.aD (by simp) (by simp[al,av]) rfl ?_
 unfold Bu
 simp only[C.zz]
 have b1:=cI k a lk la
 have b2:=cI k b lk lb
 cases h1:Op.bytesLess k a with
 |true=>
  rw[h1] at b1
  refine rn1 h1 b1 ?_
  refine aJ ?_
  rw[inB,h1];exact ab.refl _
 |false=>
  rw[h1] at b1
  by_cases h2:b=[]
  ·have d2:=decide_eq_true h2
   refine rn1 d2 b1 ?_
   refine aJ ?_
   rw[inB,eU,h1,d2];exact ab.refl _
  ·have d2:=decide_eq_false h2
   refine rn2 d2 b1 b2 ?_
   refine aJ ?_
   rw[inB,eU,h1,d2];exact ab.refl _
theorem tB {L:List It} {q:Bs} {j:Nat} (h:∀i,i<j→(L.getD i default).1≠q) (hj:j<L.length) (he:(L.getD j default).1=q):aY L q=(L.getD j default).2:=by
 induction L generalizing j with
 |nil=>simp at hj
 |cons p L ih=>
  cases j with
  |zero=>simp only[List.getD_cons_zero] at he ⊢;simp[aY,he]
  |succ j=>
   have h0:=h 0 (by omega)
   simp only[List.getD_cons_zero] at h0
   simp only[List.getD_cons_succ] at he ⊢
   rw[aY,if_neg h0]
   exact ih (fun i hi=>by have:=h (i+1) (by omega);simpa using this) (by simpa using hj) he
theorem qx {L:List It} {q:Bs} (h:∀i,i<L.length→(L.getD i default).1≠q):aY L q=[]:=by
 refine gh _ _ fun hm=>?_
 obtain ⟨p,hp,e⟩:=List.mem_map.1 hm
 obtain ⟨i,hi,rfl⟩:=List.mem_iff_getElem.1 hp
 exact h i hi (by rw[ar hi];exact e)
theorem ym (S:Spc) (hl:S.L.length≤1000000) (q:Bs):aA Tryz.prog 79 [cP S,.str q] (.sl 3 ((aY S.L q).map ba) .any):=by
 refine f79.aD (by simp) (by simp[al,av,cA]) (by simp[av,aG,bC]) ?_
 unfold c79
 simp only[C.zz]
 have hil:(S.L.map encI).length=S.L.length:=by simp
 refine rn0 @cP.eq_1 ?_
 refine Wp.cZ [1,2] xA6 (fun j:Nat=>[(5,.int .i64 (j:Nat))]) (fun j=>j≤S.L.length∧∀i,i<j→(S.L.getD i default).1≠q) (fun j=>S.L.length - j) 0 ⟨Nat.zero_le _,fun i h=>absurd h (by omega)⟩ ?_ ?_
 ·exact xSb
 rintro j ⟨hj,hno⟩
 by_cases hj2:j<S.L.length
 ·obtain ⟨g1,h2,h3,e1⟩:=ixF (j:=j) (n:=S.L.length) (by omega) (by omega)
  have hat:=cR encI S.L j .any hj2
  by_cases he:(S.L.getD j default).1=q
  ·have d1:=decide_eq_true he
   have hm:=tB hno hj2 he
   generalize S.L.getD j default=x at*
   refine rn0 (cj8 g1 h2 h3 hat hil @encI.eq_1 @vAV.eq_1 d1) ?_
   refine aJ ?_
   rw[hm];exact ab.refl _
  ·have d1:=decide_eq_false he
   have hno2:∀i,i<j+1→(S.L.getD i default).1≠q:=fun i hi=>by
    by_cases e:i=j
    ·rw[e];exact he
    ·exact hno i (by omega)
   generalize S.L.getD j default=x at*
   refine rn0 (cj9 g1 h2 h3 hat hil @encI.eq_1 @vAV.eq_1 d1 e1) ?_
   refine ⟨j+1,⟨by omega,hno2⟩,by omega,?_⟩
   exact xSu
 ·have hje:j=S.L.length:=by omega
  subst hje
  have g1:=ixE (S.L.length)
  refine rn0 (cj2 g1 hil) ?_
  refine aJ ?_
  rw[qx hno];exact ab.cap
theorem yn (S:Spc) (hS:jY S) (q:Bs) (t:Int):aA Tryz.prog 70 [cP S,.str q,.int .i64 t] (.tup [.str (eE S q t).1,.int .i64 (eE S q t).2]):=by
 refine f70.aD (by simp) (by simp[al,av,cA]) rfl ?_
 unfold c70
 simp only[C.zz]
 have hk:=kQ S t
 have hf:=ym S (by have:=hS.1;omega) q
 have hat:=Bc (aY S.L q) (by have:=hS.2 q;omega) t
 by_cases h1:cT S t=0
 ·have d1:=decide_eq_true h1
  cases ha:(atB (aY S.L q) t).2 with
  |true=>
   rw[ha] at hat
   refine rn3 (cj2 @cP.eq_1 d1) hk hf hat ?_
   refine aJ ?_
   rw[eE,if_pos h1,if_pos ha];exact ab.refl _
  |false=>
   rw[ha] at hat
   refine rn3 (cj2 @cP.eq_1 d1) hk hf hat ?_
   refine aJ ?_
   rw[eE,if_pos h1,if_neg (by simp[ha])];exact ab.refl _
 ·have d1:=decide_eq_false h1
  refine rn1 (cj2 @cP.eq_1 d1) hk ?_
  refine aJ ?_
  rw[eE,if_neg h1];exact ab.refl _
theorem lW (l:List It) (q:Bs) (v:List Ver):l.map encI++[.agg [.str q,.sl 3 (v.map ba) .any]]=(l++[(q,v)]).map encI:=by simp[encI,vAV]
theorem oh (l:List It) (p:It):l.map encI++[.agg [.str p.1,.sl 3 (p.2.map ba) .any]]=(l++[p]).map encI:=by simp[encI,vAV]
theorem Ah {l:List It} {j:Nat} (h:j<l.length):l.drop j=l.getD j default::l.drop (j+1):=by
 rw[List.drop_eq_getElem_cons h,List.getD_eq_getElem?_getD,List.getElem?_eq_getElem h];rfl
theorem ng {n:Nat} (h:n≤2000000):(n+1)*40≤140737488355328∧n+1<4611686018427387904∧(n+1+1)*40≤140737488355328∧n+1+1<4611686018427387904:=by omega
theorem mZ {n:Nat} (h:n≤2000000):(n+1)*32≤140737488355328∧n+1<4611686018427387904∧(n+1+1)*32≤140737488355328∧n+1+1<4611686018427387904:=by omega
theorem lsI {L:List It} (h:∀p∈L,Ls p.1) {j:Nat} (hj:j<L.length):Ls (L.getD j default).1:=by
 rw[ar hj];exact h _ (List.getElem_mem hj)
set_option maxHeartbeats 2000000 in
theorem BP (l:List It) (hl:l.length≤1000000) (lk:∀p∈l,Ls p.1) (q:Bs) (hq:Ls q) (v:List Ver) (hv:v.length≤1000001):aA Tryz.prog 80 [.sl 2 (l.map encI) .any,.str q,.sl 3 (v.map ba) .any] (.sl 2 ((od l q v).map encI) .any):=by
 refine f80.aD (by simp) (by simp[al,av,aG,og,bC]) (by simp[av,aG,og]) ?_
 unfold c80
 simp only[C.zz]
 have z:decide ((v.length:Int)=0)=decide (v=[]):=by cases v<;>simp;omega
 have hil:(l.map encI).length=l.length:=by simp
 refine rn0 (cj2 z @List.length_map.{0,0}) ?_
 refine Wp.le (aU.tok _ _) ?_
 refine Wp.fD [0,1,2] xA7 (fun (j:Nat × List It × Bool) tk=>[(7,.sl 2 (j.2.1.map encI) (.own tk)),(8,.bool j.2.2),(9,.int .i64 (j.1:Nat))]) (fun j=>j.1≤l.length∧j.2.1++wGo q v j.2.2 (l.drop j.1)=od l q v∧j.2.1.length≤2*j.1) (fun j=>l.length - j.1) (0,[],decide (v=[])) _ ⟨Nat.zero_le _,by simp[od],Nat.le_refl _⟩ rfl ?_ ?_
 ·simp only[aC,go_sem,reduceIte,Nat.reduceEqDiff,Nat.reduceAdd,bx];and_intros<;>first|exact trivial|exact ab.refl _|exact ab.any _|exact ab.eL rfl|(refine ab.int ?_;omega)
 rintro ⟨j,o,b⟩ tk m ⟨hj,ho,hol⟩
 simp only at hj ho hol
 obtain ⟨g0,g0',g1',g1''⟩:=ng (show o.length≤2000000 by omega)
 by_cases hc:j<l.length
 ·obtain ⟨g1,h2,h3,e1⟩:=ixF (j:=j) (n:=l.length) (by omega) (by omega)
  have hat:=cR encI l j .any hc
  rw[Ah hc,wGo] at ho
  have hbel:=cI (l.getD j default).1 q (lsI lk hc) hq
  have hsn:=oh o (l.getD j default)
  have hsq:=lW o q v
  have hsn3:=oh (o++[(q,v)]) (l.getD j default)
  rw[←hsq] at hsn3
  by_cases hk:(l.getD j default).1=q
  ·have q4:decide ((l.getD j default).1=q)=true:=decide_eq_true hk
   rw[if_pos hk,List.nil_append] at ho
   cases b with
   |true=>
    simp only[Bool.true_eq_false,false_and,if_false,List.nil_append,Bool.true_or] at ho
    generalize l.getD j default=x at*
    refine rn0 (cj9 hil g1 h2 h3 q4 e1 hat @encI.eq_1 @vAV.eq_1) ?_
    refine ⟨(j+1,o,true),tk,m,⟨by simp only;omega,ho,by simp only;omega⟩,by simp only;omega,?_⟩
    exact xSu
   |false=>
    cases hb:Op.bytesLess (l.getD j default).1 q with
    |true=>rw[hk,bk] at hb;cases hb
    |false=>
     rw[hb] at hbel ho
     simp only[true_and,and_self,if_true,Bool.not_false,Bool.or_true] at ho
     generalize l.getD j default=x at*
     refine rn1 (bD hil g1 h2 h3 q4 e1 hat @encI.eq_1 @vAV.eq_1 @List.length_map.{0,0} g0 g0') hbel ?_
     refine ⟨(j+1,o++[(q,v)],true),m,m+1,⟨by simp only;omega,by rw[←ho];simp,by simp;omega⟩,by simp only;omega,?_⟩
     refine aU.tm (by simp only[aC,go_sem,reduceIte,Nat.reduceEqDiff,Nat.reduceAdd,bx];and_intros<;>first|exact trivial|exact ab.refl _|exact ab.any _|exact ab.of_eq (by rw[←hsq])|(refine ab.int ?_;omega))
  ·have q4:decide ((l.getD j default).1=q)=false:=decide_eq_false hk
   rw[if_neg hk] at ho
   cases b with
   |true=>
    simp only[Bool.true_eq_false,false_and,if_false,List.nil_append,Bool.true_or] at ho
    generalize l.getD j default=x at*
    refine rn0 (bD hil g1 h2 h3 q4 e1 hat @encI.eq_1 @vAV.eq_1 @List.length_map.{0,0} g0 g0') ?_
    refine ⟨(j+1,o++[x],true),m,m+1,⟨by simp only;omega,by rw[←ho];simp,by simp;omega⟩,by simp only;omega,?_⟩
    refine aU.tm (by simp only[aC,go_sem,reduceIte,Nat.reduceEqDiff,Nat.reduceAdd,bx];and_intros<;>first|exact trivial|exact ab.refl _|exact ab.any _|exact ab.of_eq (by rw[←hsn])|(refine ab.int ?_;omega))
   |false=>
    cases hb:Op.bytesLess (l.getD j default).1 q with
    |true=>
     rw[hb] at hbel ho
     simp only[Bool.true_eq_false,and_false,if_false,List.nil_append,Bool.not_true,Bool.or_self] at ho
     generalize l.getD j default=x at*
     refine rn1 (bD hil g1 h2 h3 q4 e1 hat @encI.eq_1 @vAV.eq_1 @List.length_map.{0,0} g0 g0') hbel ?_
     refine ⟨(j+1,o++[x],false),m,m+1,⟨by simp only;omega,by rw[←ho];simp,by simp;omega⟩,by simp only;omega,?_⟩
     refine aU.tm (by simp only[aC,go_sem,reduceIte,Nat.reduceEqDiff,Nat.reduceAdd,bx];and_intros<;>first|exact trivial|exact ab.refl _|exact ab.any _|exact ab.of_eq (by rw[←hsn])|(refine ab.int ?_;omega))
    |false=>
     rw[hb] at hbel ho
     simp only[true_and,and_self,if_true,Bool.not_false,Bool.or_true] at ho
     generalize l.getD j default=x at*
     refine rn1 (bD hil g1 h2 h3 q4 e1 hat @encI.eq_1 @vAV.eq_1 @List.length_map.{0,0} @List.length_cons.{0} (cj6 @List.length_nil.{0} @Nat.zero_add g0 g0' g1' g1'')) hbel ?_
     refine ⟨(j+1,o++[(q,v)]++[x],true),m+1,m+2,⟨by simp only;omega,by rw[←ho];simp,by simp;omega⟩,by simp only;omega,?_⟩
     refine aU.tm (by simp only[aC,go_sem,reduceIte,Nat.reduceEqDiff,Nat.reduceAdd,bx];and_intros<;>first|exact trivial|exact ab.refl _|exact ab.any _|exact ab.of_eq (by rw[←hsn3])|(refine ab.int ?_;omega))
 ·obtain rfl:j=l.length:=by omega
  have g1:=ixE (l.length)
  rw[List.drop_length,wGo] at ho
  cases b with
  |true=>
   simp only[if_true,List.append_nil] at ho
   refine rn0 (cj2 hil g1) ?_
   refine aJ ?_
   rw[←ho];exact ab.cap
  |false=>
   simp only[Bool.false_eq_true,if_false] at ho
   have hsq:=lW o q v
   refine rn0 (cj5 hil g1 @List.length_map.{0,0} g0 g0') ?_
   refine aJ ?_
   rw[←ho,←hsq];exact ab.cap
theorem r9 (a b:List Pr) (ha:a.length≤1000000):aA Tryz.prog 16 [.sl 2 (prs a) .any,.sl 2 (prs b) .any] (.bool (decide (a=b))):=by
 refine f16.aD (by simp) (by simp[al,av,aG,dV]) rfl ?_
 unfold c16
 simp only[C.zz]
 by_cases hab:a.length=b.length
 ·have g0:decide ((a.length:Int)=(b.length:Int))=true:=decide_eq_true (by omega)
  refine rn0 (cj2 g0 @aN) ?_
  refine Wp.cZ [0,1] xA6 (fun j:Nat=>[(5,.int .i64 (j:Nat))]) (fun j=>j≤a.length∧∀i,i<j→a.getD i default=b.getD i default) (fun j=>a.length - j) 0 ⟨Nat.zero_le _,fun i h=>absurd h (by omega)⟩ ?_ ?_
  ·exact xSb
  rintro j ⟨hj,hs⟩
  by_cases hc:j<a.length
  ·obtain ⟨g1,h2,h3,e1⟩:=ixF (j:=j) (n:=a.length) (by omega) (by omega)
   have h3':(j:Int)<(b.length:Int):=by omega
   have he:∀(x y:Pr),(decide (x.k=y.k)&&decide (x.v=y.v))=decide (x=y):=by
    rintro ⟨x1,x2⟩ ⟨y1,y2⟩
    rw[Bool.eq_iff_iff];simp
   cases hp:decide (a.getD j default=b.getD j default) with
   |true=>
    have hp':=(he _ _).trans hp
    repeat (first
     |((first|apply Wp.cf|apply Wp.dU);(· simp only[go_sem,reduceIte,Nat.reduceEqDiff,Nat.reduceAdd,bx,ax,if_true,if_false,Nat.reduceMul,Nat.reduceLeDiff,g1,h2,h3,h3',e1,hp',aN,cg _ _ _ hc,cg b j _ (show j<b.length by omega),bV];exact rfl))
     |(refine aa.nil ⟨?_,?_⟩;(· first|trivial|simp[ay,au,apart,aH]))
     |(apply Wp.bq;(· simp only[go_sem,reduceIte,Nat.reduceEqDiff,Nat.reduceAdd,bx,ax,if_true,if_false,Nat.reduceMul,Nat.reduceLeDiff,g1,h2,h3,h3',e1,hp',aN,cg _ _ _ hc,cg b j _ (show j<b.length by omega),bV];exact rfl);(· rfl))
     |refine Wp.skip ?_
     |refine Wp.label ?_
     |refine Wp.block ?_
     |refine Wp.exit ?_
     |refine Wp.seq ?_)
    refine ⟨j+1,⟨by omega,fun i hi=>?_⟩,by omega,?_⟩
    ·by_cases e:i=j
     ·subst e;exact of_decide_eq_true hp
     ·exact hs i (by omega)
    ·exact xSu
   |false=>
    have hp':=(he _ _).trans hp
    repeat (first
     |((first|apply Wp.cf|apply Wp.dU);(· simp only[go_sem,reduceIte,Nat.reduceEqDiff,Nat.reduceAdd,bx,ax,if_true,if_false,Nat.reduceMul,Nat.reduceLeDiff,g1,h2,h3,h3',e1,hp',aN,cg _ _ _ hc,cg b j _ (show j<b.length by omega),bV];exact rfl))
     |(refine aa.nil ⟨?_,?_⟩;(· first|trivial|simp[ay,au,apart,aH]))
     |(apply Wp.bq;(· simp only[go_sem,reduceIte,Nat.reduceEqDiff,Nat.reduceAdd,bx,ax,if_true,if_false,Nat.reduceMul,Nat.reduceLeDiff,g1,h2,h3,h3',e1,hp',aN,cg _ _ _ hc,cg b j _ (show j<b.length by omega),bV];exact rfl);(· rfl))
     |refine Wp.skip ?_
     |refine Wp.label ?_
     |refine Wp.block ?_
     |refine Wp.exit ?_
     |refine Wp.seq ?_)
    refine aJ ?_
    rw[decide_eq_false (fun e=>of_decide_eq_false hp (by rw[e]))];exact ab.refl _
  ·obtain rfl:j=a.length:=by omega
   have g1:=ixE (a.length)
   refine rn0 (cj2 g1 @aN) ?_
   refine aJ ?_
   have:a=b:=by
    refine List.ext_getElem hab fun i h1 h2=>?_
    have:=hs i h1
    rwa [ar h1,ar h2] at this
   rw[decide_eq_true this];exact ab.refl _
 ·have g0:decide ((a.length:Int)=(b.length:Int))=false:=decide_eq_false (by omega)
  refine rn0 (cj2 g0 @aN) ?_
  refine aJ ?_
  rw[decide_eq_false (fun e=>hab (by rw[e]))];exact ab.refl _
theorem Ai {l:List Ch} {j:Nat} {q:Bs} (hj:j≤l.length):q∈(l.take j).map (·.k)↔∃i,i<j∧(l.getD i default).k=q:=by
 constructor
 ·intro h
  obtain ⟨c,hc,e⟩:=List.mem_map.1 h
  obtain ⟨i,hi,rfl⟩:=List.mem_iff_getElem.1 hc
  rw[List.length_take] at hi
  refine ⟨i,by omega,?_⟩
  rw[ar (by omega)]
  rw[List.getElem_take] at e;exact e
 ·rintro ⟨i,hi,e⟩
  refine List.mem_map.2 ⟨l.getD i default,?_,e⟩
  rw[ar (by omega)]
  exact List.mem_iff_getElem.2 ⟨i,by rw[List.length_take];omega,by rw[List.getElem_take]⟩
set_option maxHeartbeats 2000000 in
theorem BQ (l:List Ch) (hl:l.length≤1000000):aA Tryz.prog 77 [.sl 3 (chs l) .any] (.bool (gD l)):=by
 refine f77.aD (by simp) (by simp[al,av,aG,dw]) rfl ?_
 unfold c77
 simp only[C.zz]
 refine rn0 @an ?_
 refine Wp.cZ [0] xA6 (fun j:Nat=>[(3,.int .i64 (j:Nat))]) (fun j=>j≤l.length∧∀i,i<j→gW l i=true) (fun j=>l.length - j) 0 ⟨Nat.zero_le _,fun i h=>absurd h (by omega)⟩ ?_ ?_
 ·exact xSb
 rintro j ⟨hj,hs⟩
 by_cases hcj:j<l.length
 ·obtain ⟨g1,h2,h3,e1⟩:=ixF (j:=j) (n:=l.length) (by omega) (by omega)
  have hat:=bH l j .any hcj
  have no:gW l j=false→gD l=false:=fun h=>by rw[gD,eM hcj h]
  have def0:gW l j=(!decide ((l.getD j default).k∈(l.take j).map (·.k))&&decide (((l.getD j default).k.length:Int)≤128)&&decide (((l.getD j default).v.length:Int)≤200)&&(!(l.getD j default).d||decide ((l.getD j default).v=[]))):=rfl
  have hdup:=Ai (q:=(l.getD j default).k) hj
  by_cases q1:128<((l.getD j default).k.length:Int)
  ·have d1:=decide_eq_true q1
   have hf:gD l=false:=no (by rw[def0,decide_eq_false (show ¬((l.getD j default).k.length:Int)≤128 by omega)];simp)
   generalize l.getD j default=x at*
   refine rn0 (cj7 g1 h2 h3 hat @aL.eq_1 @an d1) ?_
   refine aJ ?_
   rw[hf];exact ab.refl _
  have d1:=decide_eq_false q1
  by_cases q2:200<((l.getD j default).v.length:Int)
  ·have d2:=decide_eq_true q2
   have hf:gD l=false:=no (by rw[def0,decide_eq_false (show ¬((l.getD j default).v.length:Int)≤200 by omega)];simp)
   generalize l.getD j default=x at*
   refine rn0 (cj8 g1 h2 h3 hat @aL.eq_1 @an d1 d2) ?_
   refine aJ ?_
   rw[hf];exact ab.refl _
  have d2:=decide_eq_false q2
  by_cases q3:(l.getD j default).d=true∧(l.getD j default).v≠[]
  ·have hd:=q3.1
   have d4:=decide_eq_false q3.2
   have hf:gD l=false:=no (by rw[def0,hd,d4];simp)
   generalize l.getD j default=x at*
   refine rn0 (fR g1 h2 h3 hat @aL.eq_1 @an d1 d2 hd d4) ?_
   refine aJ ?_
   rw[hf];exact ab.refl _
  have q6:(l.getD j default).d=false∨((l.getD j default).d=true∧(l.getD j default).v=[]):=by
   cases hd:(l.getD j default).d with
   |false=>exact .inl rfl
   |true=>exact .inr ⟨rfl,Classical.byContradiction fun e=>q3 ⟨hd,e⟩⟩
  rcases q6 with hd|⟨hd,q4⟩
  ·refine rn0 (cj9 g1 h2 h3 hat @aL.eq_1 @an d1 d2 hd) ?_
   refine Wp.cZ [0,3] xA6 (fun i:Nat=>[(4,.int .i64 (i:Nat))]) (fun i=>i≤j∧∀i',i'<i→(l.getD i' default).k≠(l.getD j default).k) (fun i=>j - i) 0 ⟨Nat.zero_le _,fun i h=>absurd h (by omega)⟩ ?_ ?_
   ·exact xSb
   rintro i ⟨hi,hn⟩
   by_cases hi2:i<j
   ·have k1:decide ((i:Int)<(j:Int))=true:=decide_eq_true (by omega)
    have k2:(0:Int)≤(i:Int):=by omega
    have k3:(i:Int)<(l.length:Int):=by omega
    have k4:IntKind.i64.wrap ((i:Int)+1)=((i+1:Nat):Int):=by rw[IntWalk.i64_in _ (by omega)];omega
    have hat2:=bH l i .any (by omega)
    by_cases q5:(l.getD i default).k=(l.getD j default).k
    ·have d5:=decide_eq_true q5
     have hf:gD l=false:=no (by rw[def0,decide_eq_true (hdup.2 ⟨i,hi2,q5⟩)];rfl)
     refine rn0 (fR k1 k2 k3 h2 h3 hat hat2 @aL.eq_1 @an d5) ?_
     refine aJ ?_
     rw[hf];exact ab.refl _
    ·have d5:=decide_eq_false q5
     have hn2:∀i',i'<i+1→(l.getD i' default).k≠(l.getD j default).k:=fun i' hi'=>by
      by_cases e:i'=i
      ·rw[e];exact q5
      ·exact hn i' (by omega)
     refine rn0 (lI k1 k2 k3 h2 h3 hat hat2 @aL.eq_1 @an d5 k4) ?_
     refine ⟨i+1,⟨by omega,hn2⟩,by omega,?_⟩
     exact xSu
   ·have hij:i=j:=by omega
    subst hij
    have k1:decide ((i:Int)<(i:Int))=false:=decide_eq_false (by omega)
    have hyes:gW l i=true:=by
     rw[def0,decide_eq_false (fun h=>by obtain ⟨i',h1',h2'⟩:=hdup.1 h;exact hn i' h1' h2'),decide_eq_true (show ((l.getD i default).k.length:Int)≤128 by omega),decide_eq_true (show ((l.getD i default).v.length:Int)≤200 by omega)]
     rw[hd];rfl
    refine rn0 (cj2 k1 e1) ?_
    refine ⟨i+1,⟨by omega,fG hs hyes⟩,by omega,?_⟩
    exact xSu
  ·have d4:=decide_eq_true q4
   refine rn0 (fR g1 h2 h3 hat @aL.eq_1 @an d1 d2 hd d4) ?_
   refine Wp.cZ [0,3] xA6 (fun i:Nat=>[(4,.int .i64 (i:Nat))]) (fun i=>i≤j∧∀i',i'<i→(l.getD i' default).k≠(l.getD j default).k) (fun i=>j - i) 0 ⟨Nat.zero_le _,fun i h=>absurd h (by omega)⟩ ?_ ?_
   ·exact xSb
   rintro i ⟨hi,hn⟩
   by_cases hi2:i<j
   ·have k1:decide ((i:Int)<(j:Int))=true:=decide_eq_true (by omega)
    have k2:(0:Int)≤(i:Int):=by omega
    have k3:(i:Int)<(l.length:Int):=by omega
    have k4:IntKind.i64.wrap ((i:Int)+1)=((i+1:Nat):Int):=by rw[IntWalk.i64_in _ (by omega)];omega
    have hat2:=bH l i .any (by omega)
    by_cases q5:(l.getD i default).k=(l.getD j default).k
    ·have d5:=decide_eq_true q5
     have hf:gD l=false:=no (by rw[def0,decide_eq_true (hdup.2 ⟨i,hi2,q5⟩)];rfl)
     refine rn0 (fR k1 k2 k3 h2 h3 hat hat2 @aL.eq_1 @an d5) ?_
     refine aJ ?_
     rw[hf];exact ab.refl _
    ·have d5:=decide_eq_false q5
     have hn2:∀i',i'<i+1→(l.getD i' default).k≠(l.getD j default).k:=fun i' hi'=>by
      by_cases e:i'=i
      ·rw[e];exact q5
      ·exact hn i' (by omega)
     refine rn0 (lI k1 k2 k3 h2 h3 hat hat2 @aL.eq_1 @an d5 k4) ?_
     refine ⟨i+1,⟨by omega,hn2⟩,by omega,?_⟩
     exact xSu
   ·have hij:i=j:=by omega
    subst hij
    have k1:decide ((i:Int)<(i:Int))=false:=decide_eq_false (by omega)
    have hyes:gW l i=true:=by
     rw[def0,decide_eq_false (fun h=>by obtain ⟨i',h1',h2'⟩:=hdup.1 h;exact hn i' h1' h2'),decide_eq_true (show ((l.getD i default).k.length:Int)≤128 by omega),decide_eq_true (show ((l.getD i default).v.length:Int)≤200 by omega)]
     rw[hd,decide_eq_true q4];rfl
    refine rn0 (cj2 k1 e1) ?_
    refine ⟨i+1,⟨by omega,fG hs hyes⟩,by omega,?_⟩
    exact xSu
 ·have hje:j=l.length:=by omega
  subst hje
  have g1:=ixE (l.length)
  refine rn0 (cj2 g1 @an) ?_
  refine aJ ?_
  rw[gD,eI hs]
  exact ab.refl _
theorem qy {α:Type} [Inhabited α] {l:List α} {f:α→Bool} {i:Nat} (h:i<l.length) (hf:f (l.getD i default)=true):l.any f=true:=by
 rw[ar h] at hf
 exact List.any_eq_true.2 ⟨_,List.getElem_mem h,hf⟩
theorem tC {α:Type} [Inhabited α] {l:List α} {f:α→Bool} (h:∀i,i<l.length→f (l.getD i default)=false):l.any f=false:=by
 rw[List.any_eq_false]
 intro x hx
 obtain ⟨i,hi,rfl⟩:=List.mem_iff_getElem.1 hx
 have:=h i hi
 rw[ar hi] at this
 rw[this];exact Bool.false_ne_true
theorem sa {S:Spc} (hr:bb S.L) (hS:Small S) {j:Nat} (hj:j<S.L.length):(S.L.getD j default).2.length≤500000:=by
 have:=hS.2 (S.L.getD j default).1
 rwa [jC hr (by rw[ar hj];exact List.getElem_mem hj)] at this
theorem Aj {S:Spc} (hr:bb S.L) (hS:jY S) {j:Nat} (hj:j<S.L.length):(S.L.getD j default).2.length≤4398046511104:=by
 have:=hS.2 (S.L.getD j default).1
 rwa [jC hr (by rw[ar hj];exact List.getElem_mem hj)] at this
set_option maxHeartbeats 1000000 in
theorem pE (S:Spc) (hr:bb S.L) (hS:jY S) (lk:∀p∈S.L,Ls p.1) (a b:Bs) (la:Ls a) (lb:Ls b) (t:Int):aA Tryz.prog 63 [cP S,.str a,.str b,.int .i64 t] (.bool (bY S a b t)):=by
 refine f63.aD (by simp) (by simp[al,av,cA]) rfl ?_
 unfold c63
 simp only[C.zz]
 rw[pD hr]
 have hil:(S.L.map encI).length=S.L.length:=by simp
 have hS1:=hS.1
 refine rn0 @cP.eq_1 ?_
 refine Wp.cZ [1,2,3,4] xA6 (fun j:Nat=>[(9,.int .i64 (j:Nat))]) (fun j=>j≤S.L.length∧∀i,i<j→(inB (S.L.getD i default).1 a b&&dW (S.L.getD i default).2 t)=false) (fun j=>S.L.length - j) 0 ⟨Nat.zero_le _,fun i h=>absurd h (by omega)⟩ ?_ ?_
 ·exact xSb
 rintro j ⟨hj,hno⟩
 by_cases hj2:j<S.L.length
 ·obtain ⟨g1,h2,h3,e1⟩:=ixF (j:=j) (n:=S.L.length) (by omega) (by omega)
  have hat:=cR encI S.L j .any hj2
  have hw:=kR (S.L.getD j default).1 a b (lsI lk hj2) la lb
  have hsi:=xz (S.L.getD j default).2 (by have:=Aj hr hS hj2;omega) t
  have stp:(inB (S.L.getD j default).1 a b&&dW (S.L.getD j default).2 t)=false→∀i,i<j+1→(inB (S.L.getD i default).1 a b&&dW (S.L.getD i default).2 t)=false:=fun h i hi=>by
   by_cases e:i=j
   ·rw[e];exact h
   ·exact hno i (by omega)
  have yes:(inB (S.L.getD j default).1 a b&&dW (S.L.getD j default).2 t)=true→(S.L.any fun p=>inB p.1 a b&&dW p.2 t)=true:=fun h=>qy hj2 h
  generalize S.L.getD j default=x at*
  cases hb1:inB x.1 a b with
  |false=>
   rw[hb1] at hw stp
   refine rn1 (cj8 g1 h2 h3 e1 hat hil @encI.eq_1 @vAV.eq_1) hw ?_
   refine ⟨j+1,⟨by omega,stp rfl⟩,by omega,?_⟩
   exact xSu
  |true=>
   rw[hb1] at hw stp yes
   cases hb2:dW x.2 t with
   |false=>
    rw[hb2] at hsi stp
    refine rn2 (cj8 g1 h2 h3 e1 hat hil @encI.eq_1 @vAV.eq_1) hw hsi ?_
    refine ⟨j+1,⟨by omega,stp rfl⟩,by omega,?_⟩
    exact xSu
   |true=>
    rw[hb2] at hsi yes
    refine rn2 (cj8 g1 h2 h3 e1 hat hil @encI.eq_1 @vAV.eq_1) hw hsi ?_
    refine aJ ?_
    rw[yes rfl];exact ab.refl _
 ·have hje:j=S.L.length:=by omega
  subst hje
  have g1:=ixE (S.L.length)
  refine rn0 (cj2 g1 hil) ?_
  refine aJ ?_
  rw[tC hno];exact ab.refl _
def eu (a b:Bs) (t:Int) (p:It):Option Pr:=if inB p.1 a b=true then yk t p else none
theorem mI (a b:Bs) (t:Int):∀L:List It,(L.filter fun p=>inB p.1 a b).filterMap (yk t)=L.filterMap (eu a b t)
 |[]=>rfl
 |p::L=>by
  have ih:=mI a b t L
  by_cases h:inB p.1 a b=true
  ·rw[List.filter_cons,if_pos h,List.filterMap_cons,List.filterMap_cons,ih,eu,if_pos h]
  ·rw[List.filter_cons,if_neg h,List.filterMap_cons,ih,eu,if_neg h]
theorem pF (most:Int) (l:List Pr) (x:Pr):eh most (l++[x])=if most<0∨((eh most l).length:Int)<most then eh most l++[x] else eh most l:=by
 unfold eh
 by_cases h:most<0
 ·simp[h]
 ·simp only[if_neg h,false_or]
  split
  ·rename_i hl
   rw[List.length_take] at hl
   rw[List.take_append,List.take_of_length_le (l:=[x]) (by simp;omega)]
  ·rename_i hl
   rw[List.length_take] at hl
   rw[List.take_append]
   have:most.toNat - l.length=0:=by omega
   rw[this];simp
theorem sd (most:Int) (l:List Pr):(eh most l).length≤l.length:=by
 unfold eh;split
 ·exact Nat.le_refl _
 ·rw[List.length_take];omega
theorem pG {α β:Type} [Inhabited α] (f:α→Option β) {l:List α} {j:Nat} (h:j<l.length):(l.take (j+1)).filterMap f=(l.take j).filterMap f++(f (l.getD j default)).toList:=by
 rw[bJ default h,List.filterMap_append]
 congr 1
theorem CU (most:Int):prs (eh most [])=[]:=by simp[eh,prs]
theorem pH (l:List Pr) (k v:Bs):prs l++[.agg [.str k,.str v]]=prs (l++[⟨k,v⟩]):=by simp[prs,bV]
set_option maxHeartbeats 2000000 in
theorem Ak (S:Spc) (hr:bb S.L) (hS:Small S) (lk:∀p∈S.L,Ls p.1) (a b:Bs) (la:Ls a) (lb:Ls b) (t most:Int):aA Tryz.prog 116 [cP S,.str a,.str b,.int .i64 t,.int .i64 most] (.tup [.sl 2 (prs (cn S a b t most).1) .any,.int .i64 (cn S a b t most).2]):=by
 refine f116.aD (by simp) (by simp[al,av,cA]) (by simp[av,al,aG,dV]) ?_
 unfold Co
 simp only[C.zz]
 have hk:=kQ S t
 by_cases k1:cT S t=0
 ·have d0:=decide_eq_true k1
  have hres:cn S a b t most=(eh most (S.L.filterMap (eu a b t)),0):=by
   rw[cn,if_pos k1,Ag hr,mI]
  rw[hres]
  have hil:(S.L.map encI).length=S.L.length:=by simp
  have hS1:=hS.1
  refine rn1 (cj2 @cP.eq_1 d0) hk ?_
  refine Wp.le (aU.tok _ _) ?_
  refine Wp.fD [1,2,3,4,5] xA7 (fun (j:Nat) tk=>[(13,.sl 2 (prs (eh most ((S.L.take j).filterMap (eu a b t)))) (.own tk)),(14,.int .i64 (j:Nat))]) (fun j=>j≤S.L.length) (fun j=>S.L.length - j) 0 _ (Nat.zero_le _) rfl ?_ ?_
  ·simp only[aC,go_sem,reduceIte,Nat.reduceEqDiff,Nat.reduceAdd,bx,List.take_zero,List.filterMap_nil,CU];and_intros<;>first|exact trivial|exact ab.refl _|exact ab.any _|exact ab.eL rfl|(refine ab.int ?_;omega)
  rintro j tk m hj
  by_cases hj2:j<S.L.length
  ·obtain ⟨g1,h2,h3,e1⟩:=ixF (j:=j) (n:=S.L.length) (by omega) (by omega)
   have hat:=cR encI S.L j .any hj2
   have hw:=kR (S.L.getD j default).1 a b (lsI lk hj2) la lb
   have hta:=Bc (S.L.getD j default).2 (by have:=sa hr hS hj2;omega) t
   have hsn:=pG (eu a b t) hj2
   have hol:(eh most ((S.L.take j).filterMap (eu a b t))).length≤500000:=by
    have h1:=sd most ((S.L.take j).filterMap (eu a b t))
    have h2:=List.length_filterMap_le (eu a b t) (S.L.take j)
    rw[List.length_take] at h2
    omega
   have hcs:=pF most ((S.L.take j).filterMap (eu a b t))
   have keep:eu a b t (S.L.getD j default)=none→eh most ((S.L.take (j+1)).filterMap (eu a b t))=eh most ((S.L.take j).filterMap (eu a b t)):=fun h=>by rw[hsn,h];simp
   have add:∀x,eu a b t (S.L.getD j default)=some x→eh most ((S.L.take (j+1)).filterMap (eu a b t))=if most<0∨((eh most ((S.L.take j).filterMap (eu a b t))).length:Int)<most then eh most ((S.L.take j).filterMap (eu a b t))++[x] else eh most ((S.L.take j).filterMap (eu a b t)):=fun x h=>by rw[hsn,h,←hcs];simp
   have htw:eu a b t (S.L.getD j default)=if inB (S.L.getD j default).1 a b=true then (if (atB (S.L.getD j default).2 t).2=true then some ⟨(S.L.getD j default).1,(atB (S.L.getD j default).2 t).1⟩ else none) else none:=rfl
   obtain ⟨g0,g0',g1',g1''⟩:=mZ (show (eh most ((S.L.take j).filterMap (eu a b t))).length≤2000000 by omega)
   generalize hnx:eh most ((S.L.take (j+1)).filterMap (eu a b t))=nx at*
   generalize eh most ((S.L.take j).filterMap (eu a b t))=o at*
   generalize S.L.getD j default=x at*
   have hps:=pH o x.1 (atB x.2 t).1
   cases b1:(atB x.2 t).2 with
   |false=>
    rw[b1] at hta
    have hk2:=keep (by rw[htw,b1];simp)
    refine rn1 (cj8 g1 h2 h3 e1 hat hil @encI.eq_1 @vAV.eq_1) hta ?_
    refine ⟨j+1,tk,m,by omega,by omega,?_⟩
    rw[hnx,hk2]
    exact xSu
   |true=>
    rw[b1] at hta
    cases b2:inB x.1 a b with
    |false=>
     rw[b2] at hw
     have hk2:=keep (by rw[htw,b2];simp)
     refine rn2 (cj8 g1 h2 h3 e1 hat hil @encI.eq_1 @vAV.eq_1) hta hw ?_
     refine ⟨j+1,tk,m,by omega,by omega,?_⟩
     rw[hnx,hk2]
     exact xSu
    |true=>
     rw[b2] at hw
     have hk2:=add ⟨x.1,(atB x.2 t).1⟩ (by rw[htw,b2,b1];simp)
     by_cases m1:most<0
     ·have d1:=decide_eq_true m1
      rw[if_pos (.inl m1)] at hk2
      refine rn2 (bD g1 h2 h3 e1 hat hil @encI.eq_1 @vAV.eq_1 d1 @aN g0 g0') hta hw ?_
      refine ⟨j+1,m,m+1,by omega,by omega,?_⟩
      rw[hnx,hk2]
      refine aU.tm (by simp only[aC,go_sem,reduceIte,Nat.reduceEqDiff,Nat.reduceAdd,bx];and_intros<;>first|exact trivial|exact ab.refl _|exact ab.any _|exact ab.of_eq (by rw[←hps])|(refine ab.int ?_;omega))
     ·have d1:=decide_eq_false m1
      by_cases m2:(o.length:Int)<most
      ·have d2:=decide_eq_true m2
       rw[if_pos (.inr m2)] at hk2
       refine rn2 (bD g1 h2 h3 e1 hat hil @encI.eq_1 @vAV.eq_1 d1 d2 @aN (cj2 g0 g0')) hta hw ?_
       refine ⟨j+1,m,m+1,by omega,by omega,?_⟩
       rw[hnx,hk2]
       refine aU.tm (by simp only[aC,go_sem,reduceIte,Nat.reduceEqDiff,Nat.reduceAdd,bx];and_intros<;>first|exact trivial|exact ab.refl _|exact ab.any _|exact ab.of_eq (by rw[←hps])|(refine ab.int ?_;omega))
      ·have d2:=decide_eq_false m2
       rw[if_neg (fun h=>h.elim m1 m2)] at hk2
       refine rn2 (lI g1 h2 h3 e1 hat hil @encI.eq_1 @vAV.eq_1 d1 d2 @aN) hta hw ?_
       refine ⟨j+1,tk,m,by omega,by omega,?_⟩
       rw[hnx,hk2]
       exact xSu
  ·have hje:j=S.L.length:=by omega
   subst hje
   have g1:=ixE (S.L.length)
   refine rn0 (cj2 g1 hil) ?_
   refine aJ ?_
   rw[List.take_length];exact ab.tup (af.cons ab.cap (af.refl _))
 ·have d0:=decide_eq_false k1
  have hres:cn S a b t most=([],cT S t):=by rw[cn,if_neg k1]
  rw[hres]
  refine rn1 (cj2 @cP.eq_1 d0) hk ?_
  refine aJ ?_
  exact ab.tup (af.cons ab.cap (af.refl _))
def qz (mark:Int) (p:It):Option It:=if eP p.2 mark=[] then none else some (p.1,eP p.2 mark)
set_option maxHeartbeats 1000000 in
theorem Al (S:Spc) (hr:bb S.L) (hS:Small S) (mark:Int):aA Tryz.prog 36 [cP S,.int .i64 mark] (.tup [cP (br S mark).1,.int .i64 (br S mark).2]):=by
 refine f36.aD (by simp) (by simp[al,av,cA]) (by simp[av,al,cA]) ?_
 unfold c36
 simp only[C.zz]
 have hil:(S.L.map encI).length=S.L.length:=by simp
 have hS1:=hS.1
 by_cases p1:mark<S.mark
 ·have d1:=decide_eq_true p1
  have hres:br S mark=(S,2):=by rw[br,if_pos (.inl p1)]
  rw[hres]
  refine rn0 (cj2 @cP.eq_1 d1) ?_
  refine aJ ?_
  exact ab.refl _
 have d1:=decide_eq_false p1
 by_cases p2:S.last<mark
 ·have d2:=decide_eq_true p2
  have hres:br S mark=(S,2):=by rw[br,if_pos (.inr p2)]
  rw[hres]
  refine rn0 (cj3 @cP.eq_1 d1 d2) ?_
  refine aJ ?_
  exact ab.refl _
 have d2:=decide_eq_false p2
 have hres:br S mark=(⟨S.L.filterMap (qz mark),S.last,mark⟩,0):=by
  rw[br,if_neg (by omega),qv hr];rfl
 rw[hres]
 refine rn0 (cj3 @cP.eq_1 d1 d2) ?_
 refine Wp.le (aU.tok _ _) ?_
 refine Wp.fD [1,2,4,5] xA7 (fun (j:Nat) tk=>[(6,.sl 2 (((S.L.take j).filterMap (qz mark)).map encI) (.own tk)),(7,.int .i64 (j:Nat))]) (fun j=>j≤S.L.length) (fun j=>S.L.length - j) 0 _ (Nat.zero_le _) rfl ?_ ?_
 ·simp only[aC,go_sem,reduceIte,Nat.reduceEqDiff,Nat.reduceAdd,bx,List.take_zero,List.filterMap_nil,List.map_nil];and_intros<;>first|exact trivial|exact ab.refl _|exact ab.any _|exact ab.eL rfl|(refine ab.int ?_;omega)
 rintro j tk m hj
 by_cases hj2:j<S.L.length
 ·obtain ⟨g1,h2,h3,e1⟩:=ixF (j:=j) (n:=S.L.length) (by omega) (by omega)
  have hat:=cR encI S.L j .any hj2
  have hva:=vL (S.L.getD j default).2 (by have:=sa hr hS hj2;omega) mark
  have hsn:=pG (qz mark) hj2
  have hol:((S.L.take j).filterMap (qz mark)).length≤500000:=by
   have h2:=List.length_filterMap_le (qz mark) (S.L.take j)
   rw[List.length_take] at h2
   omega
  obtain ⟨g0,g0',g1',g1''⟩:=ng (show ((S.L.take j).filterMap (qz mark)).length≤2000000 by omega)
  have hvw:qz mark (S.L.getD j default)=if eP (S.L.getD j default).2 mark=[] then none else some ((S.L.getD j default).1,eP (S.L.getD j default).2 mark):=rfl
  generalize hnx:(S.L.take (j+1)).filterMap (qz mark)=nx at*
  generalize (S.L.take j).filterMap (qz mark)=o at*
  generalize S.L.getD j default=x at*
  have hsq:=lW o x.1 (eP x.2 mark)
  generalize eP x.2 mark=v at*
  by_cases hv:v=[]
  ·rw[hvw,if_pos hv] at hsn
   have z:decide ((0:Int)<(v.length:Int))=false:=by rw[hv];rfl
   refine rn1 (fR g1 h2 h3 e1 hat hil @encI.eq_1 @vAV.eq_1 @List.length_map.{0,0} z) hva ?_
   refine ⟨j+1,tk,m,by omega,by omega,?_⟩
   rw[hnx,hsn]
   refine aU.tm (by simp only[aC,go_sem,reduceIte,Nat.reduceEqDiff,Nat.reduceAdd,bx,Option.toList,List.append_nil];and_intros<;>first|exact trivial|exact ab.refl _|exact ab.any _|(refine ab.int ?_;omega))
  ·rw[hvw,if_neg hv] at hsn
   have z:decide ((0:Int)<(v.length:Int))=true:=by
    refine decide_eq_true ?_
    have:=List.length_pos_iff.2 hv
    omega
   refine rn1 (bD g1 h2 h3 e1 hat hil @encI.eq_1 @vAV.eq_1 @List.length_map.{0,0} z g0 g0') hva ?_
   refine ⟨j+1,m,m+1,by omega,by omega,?_⟩
   rw[hnx,hsn]
   refine aU.tm (by simp only[aC,go_sem,reduceIte,Nat.reduceEqDiff,Nat.reduceAdd,bx,Option.toList];and_intros<;>first|exact trivial|exact ab.refl _|exact ab.any _|exact ab.of_eq (by rw[←hsq])|(refine ab.int ?_;omega))
 ·have hje:j=S.L.length:=by omega
  subst hje
  have g1:=ixE (S.L.length)
  refine rn0 (cj2 g1 hil) ?_
  refine aJ ?_
  rw[List.take_length];exact ab.tup (af.cons (ab.agg (af.cons ab.cap (af.refl _))) (af.refl _))
def upR (t:Int) (S:Spc) (A:List It) (c:Ch):List It:=dD A c.k (fI (aY S.L c.k) ⟨t,c.v,c.d⟩).1
theorem tD {l:List Ch} (h:gD l=true) {j:Nat} (hj:j<l.length):gW l j=true:=List.all_eq_true.1 h j (List.mem_range.2 hj)
theorem Am {l:List Ch} (h:gD l=true) {j:Nat} (hj:j<l.length):(l.getD j default).k∉(l.take j).map (·.k):=by
 have:=tD h hj
 simp only[gW,Bool.and_eq_true,Bool.not_eq_true',decide_eq_false_iff_not] at this
 exact this.1.1.1
theorem uJ {l:List Ch} (h:gD l=true) {j:Nat} (hj:j<l.length):(l.getD j default).k.length≤128:=by
 have:=tD h hj
 simp only[gW,Bool.and_eq_true,decide_eq_true_eq] at this
 omega
theorem yo (t:Int) (S:Spc) (hr:bb S.L) (l:List Ch) (h:gD l=true):∀j,j≤l.length→bb ((l.take j).foldl (upR t S) S.L)∧(∀q,q∉(l.take j).map (·.k)→aY ((l.take j).foldl (upR t S) S.L) q=aY S.L q)∧doS t S (l.take j)= {S with L:=(l.take j).foldl (upR t S) S.L}
 |0,_=>by simp[doS,hr]
 |j+1,hj=>by
  obtain ⟨h1,h2,h3⟩:=yo t S hr l h j (by omega)
  have e:(l.take (j+1)).foldl (upR t S) S.L=upR t S ((l.take j).foldl (upR t S) S.L) (l.getD j default):=by
   rw[bJ default (show j<l.length by omega),List.foldl_append];rfl
  have hn:=Am h (show j<l.length by omega)
  rw[e]
  refine ⟨jT h1 _ _,fun q hq=>?_,?_⟩
  ·rw[bJ default (show j<l.length by omega),List.map_append,List.mem_append,not_or] at hq
   rw[upR,kT h1,if_neg (fun e=>hq.2 (by rw[List.map_cons,e];exact List.mem_cons_self))]
   exact h2 q hq.1
  ·rw[uB t S l (show j<l.length by omega),h3,cb,iP]
   simp only[upR,h2 _ hn]
theorem oi {L:List It} {q:Bs} {v:List Ver} {x:It} (h:x∈dD L q v):x=(q,v)∨x∈L:=by
 unfold dD at h
 split at h<;>split at h
 ·rcases List.mem_append.1 h with h|h
  ·exact .inr (List.mem_of_mem_take h)
  ·exact .inr (List.mem_of_mem_drop h)
 ·exact .inr h
 ·rcases List.mem_append.1 h with h|h
  ·exact .inr (List.mem_of_mem_take h)
  ·rcases List.mem_cons.1 h with h|h
   ·exact .inl h
   ·exact .inr (List.mem_of_mem_drop h)
 ·rcases List.mem_append.1 h with h|h
  ·exact .inr (List.mem_of_mem_take h)
  ·rcases List.mem_cons.1 h with h|h
   ·exact .inl h
   ·exact .inr (List.mem_of_mem_drop h)
theorem uK {L:List It} (lk:∀p∈L,Ls p.1) {q:Bs} (hq:Ls q) (v:List Ver):∀p∈dD L q v,Ls p.1:=fun p hp=>by
 rcases oi hp with rfl|hp
 ·exact hq
 ·exact lk p hp
theorem yp (t:Int) (S:Spc):∀(l:List Ch) (A:List It),(l.foldl (upR t S) A).length≤A.length+l.length
 |[],A=>by simp
 |c::l,A=>by
  have h1:=yp t S l (upR t S A c)
  have h2:=nO A c.k (fI (aY S.L c.k) ⟨t,c.v,c.d⟩).1
  simp only[upR] at h1 h2
  simp only[List.foldl_cons,List.length_cons,upR]
  omega
set_option maxHeartbeats 2000000 in
theorem yq (S:Spc) (hr:bb S.L) (hS:Small S) (lk:∀p∈S.L,Ls p.1) (t:Int) (l:List Ch) (hl:l.length≤500000):aA Tryz.prog 35 [cP S,.int .i64 t,.sl 3 (chs l) .any] (.tup [cP (bM S t l).1,.int .i64 (bM S t l).2]):=by
 refine f35.aD (by simp) (by simp[al,av,aG,cA,dw]) (by simp[av,al,cA]) ?_
 unfold c35
 simp only[C.zz]
 have hS1:=hS.1
 by_cases p1:t≤S.last
 ·have d1:=decide_eq_true p1
  have hres:bM S t l=(S,18):=by rw[bM,if_pos (.inl p1)]
  rw[hres]
  refine rn0 (cj2 @cP.eq_1 d1) ?_
  refine aJ ?_
  exact ab.refl _
 have d1:=decide_eq_false p1
 by_cases p2:1152921504606846976<t
 ·have d2:=decide_eq_true p2
  have hres:bM S t l=(S,18):=by rw[bM,if_pos (.inr p2)]
  rw[hres]
  refine rn0 (cj3 @cP.eq_1 d1 d2) ?_
  refine aJ ?_
  exact ab.refl _
 have d2:=decide_eq_false p2
 have hmc:=BQ l (by omega)
 cases hf:gD l with
 |false=>
  have hres:bM S t l=(S,2):=by rw[bM,if_neg (by omega),if_pos hf]
  rw[hres]
  rw[hf] at hmc
  refine rn1 (cj3 @cP.eq_1 d1 d2) hmc ?_
  refine aJ ?_
  exact ab.refl _
 |true=>
  have hdo:=yo t S hr l hf
  have hres:bM S t l=(⟨l.foldl (upR t S) S.L,t,S.mark⟩,0):=by
   have:=(hdo l.length (Nat.le_refl _)).2.2
   rw[List.take_length] at this
   rw[bM,if_neg (by omega),if_neg (by rw[hf];exact Bool.false_ne_true.symm),this]
  rw[hres]
  rw[hf] at hmc
  refine rn1 (cj3 @cP.eq_1 d1 d2) hmc ?_
  refine Wp.cZ [1,2,3,6,7] xA6 (fun j:Nat=>[(8,.sl 2 (((l.take j).foldl (upR t S) S.L).map encI) .any),(9,.int .i64 (j:Nat))]) (fun j=>j≤l.length∧∀p∈(l.take j).foldl (upR t S) S.L,Ls p.1) (fun j=>l.length - j) 0 ⟨Nat.zero_le _,lk⟩ ?_ ?_
  ·exact xSb
  rintro j ⟨hj,hls⟩
  by_cases hj2:j<l.length
  ·obtain ⟨g1,h2,h3,e1⟩:=ixF (j:=j) (n:=l.length) (by omega) (by omega)
   have hat:=bH l j .any hj2
   obtain ⟨hr1,hg1,-⟩:=hdo j hj
   have hlen:=yp t S (l.take j) S.L
   rw[List.length_take] at hlen
   have hkl:=uJ hf hj2
   have hup:(l.take (j+1)).foldl (upR t S) S.L=upR t S ((l.take j).foldl (upR t S) S.L) (l.getD j default):=by
    rw[bJ default hj2,List.foldl_append];rfl
   have hul:∀A c,upR t S A c=dD A c.k (fI (aY S.L c.k) ⟨t,c.v,c.d⟩).1:=fun _ _=>rfl
   rw[hul] at hup
   generalize hnx:(l.take (j+1)).foldl (upR t S) S.L=nx at*
   generalize (l.take j).foldl (upR t S) S.L=A at*
   generalize l.getD j default=c at*
   have hfd:=ym S (by omega) c.k
   have had:=BD (aY S.L c.k) (by have:=hS.2 c.k;omega) ⟨t,c.v,c.d⟩
   have hal:=qk (aY S.L c.k) ⟨t,c.v,c.d⟩
   have hml:=hS.2 c.k
   have hlk:Ls c.k:=by unfold Ls;omega
   generalize fI (aY S.L c.k) ⟨t,c.v,c.d⟩=w at*
   have hwi:=BP A (by omega) hls c.k hlk w.1 (by omega)
   rw[rZ A hr1] at hwi
   simp only[ba] at had
   unfold cP at hfd
   have hlsn:∀p∈nx,Ls p.1:=by rw[hup];exact uK hls hlk _
   refine rn3 (cj7 g1 h2 h3 e1 hat @aL.eq_1 @an) hfd had hwi ?_
   refine ⟨j+1,⟨by omega,by rw[hnx];exact hlsn⟩,by omega,?_⟩
   rw[hnx,hup]
   exact xSu
  ·have hje:j=l.length:=by omega
   subst hje
   have g1:=ixE (l.length)
   refine rn0 (cj2 g1 @an) ?_
   refine aJ ?_
   rw[List.take_length];exact ab.refl _
theorem BR {l:List It} {last:Int} {j:Nat} (h:oJ l last j=true):(l.getD j default).1.length≤128:=by
 simp only[oJ,yh,Bool.and_eq_true,decide_eq_true_eq] at h
 omega
theorem An {l:List It} {last:Int} {j:Nat} (h:oJ l last (j+1)=true):Op.bytesLess (l.getD j default).1 (l.getD (j+1) default).1=true:=by
 simp only[oJ,yh,nc,Bool.and_eq_true,Bool.or_eq_true,decide_eq_true_eq,Nat.add_one_ne_zero,false_or,if_false,Nat.add_sub_cancel] at h
 exact h.1.1.1.2
theorem Ao {l:List It} {last:Int} {j:Nat} (h:oJ l last j=true):(l.getD j default).2≠[]:=by
 simp only[oJ,yh,Bool.and_eq_true,decide_eq_true_eq] at h
 exact List.length_pos_iff.1 h.1.1.2
theorem tE {l:List It} {last mark:Int} (h:ldB l last mark=true) {j:Nat} (hj:j<l.length):oJ l last j=true:=by
 simp only[ldB,Bool.and_eq_true] at h
 exact List.all_eq_true.1 h.2 j (List.mem_range.2 hj)
theorem uL {l:List It} {last mark:Int} (h:ldB l last mark=true):bb l∧Full l:=by
 have up:∀i j,i<j→j<l.length→Op.bytesLess (l.getD i default).1 (l.getD j default).1=true:=by
  intro i j hij
  induction j with
  |zero=>omega
  |succ j ih=>
   intro hj
   have h1:=An (tE h hj)
   by_cases e:i=j
   ·rw[e];exact h1
   ·exact bz (ih (by omega) (by omega)) h1
 refine ⟨List.pairwise_iff_getElem.2 fun i j hi hj hij=>?_,fun p hp=>?_⟩
 ·simp only[ae,List.length_map] at hi hj
  have:=up i j hij hj
  rw[ar hi,ar hj] at this
  simpa [ae] using this
 ·obtain ⟨i,hi,rfl⟩:=List.mem_iff_getElem.1 hp
  have:=Ao (tE h hi)
  rwa [ar hi] at this
structure Fit (S:Spc) (k:Nat):Prop where
 ri:bb S.L
 fu:Full S.L
 ln:S.L.length≤k
 vs:∀p∈S.L,p.2.length≤k
 ls:∀p∈S.L,Ls p.1
theorem Fit.mono {S:Spc} {k j:Nat} (h:Fit S k) (hk:k≤j):Fit S j:=⟨h.ri,h.fu,Nat.le_trans h.ln hk,fun p hp=>Nat.le_trans (h.vs p hp) hk,h.ls⟩
theorem om {L:List It} {k:Nat} (h:∀p∈L,p.2.length≤k) (q:Bs):(aY L q).length≤k:=by
 induction L with
 |nil=>simp[aY]
 |cons p L ih=>
  rw[aY]
  split
  ·exact h p (by simp)
  ·exact ih (fun x hx=>h x (by simp[hx]))
theorem Fit.room {S:Spc} {k j:Nat} (h:Fit S k) (hk:k+j≤500000):Room S j:=⟨by have:=h.ln;omega,fun q=>by have:=om h.vs q;omega⟩
theorem Fit.small {S:Spc} {k:Nat} (h:Fit S k) (hk:k≤500000):Small S:=⟨by have:=h.ln;omega,fun q=>by have:=om h.vs q;omega⟩
theorem Fit.zero:Fit ⟨[],0,0⟩ 0:=⟨by simp[bb,bL,ae],fun p hp=>by simp at hp,Nat.le_refl _,fun p hp=>by simp at hp,fun p hp=>by simp at hp⟩
theorem Fit.lay {S:Spc} {k:Nat} (h:Fit S k):we [] S.L=S.L:=wg h.ri h.fu
theorem Fit.times {S:Spc} {k:Nat} (h:Fit S k) (a b:Int):Fit {S with last:=a,mark:=b} k:=⟨h.ri,h.fu,h.ln,h.vs,h.ls⟩
theorem Fit.step {S:Spc} {k:Nat} (h:Fit S k) (t:Int) (c:Ch) (hc:Ls c.k):Fit (cb t S c) (k+1):=by
 refine ⟨jT h.ri _ _,wh h.fu _ _,?_,fun p hp=>?_,uK h.ls hc _⟩
 ·have:=nO S.L c.k (fI (aY S.L c.k) ⟨t,c.v,c.d⟩).1
  have:=h.ln
  simp only[cb,iP];omega
 ·simp only[cb,iP] at hp
  rcases oi hp with rfl|hp
  ·have h1:=qk (aY S.L c.k) ⟨t,c.v,c.d⟩
   have h2:=om h.vs c.k
   simp only;omega
  ·have:=h.vs p hp;omega
theorem Fit.dos:∀(l:List Ch) {S:Spc} {k:Nat} (h:Fit S k) (t:Int) (hc:∀c∈l,Ls c.k),Fit (doS t S l) (k+l.length)
 |[],S,k,h,t,hc=>h
 |c::l,S,k,h,t,hc=>by
  have:=Fit.dos l (h.step t c (hc c (by simp))) t (fun x hx=>hc x (by simp[hx]))
  exact this.mono (by simp only[List.length_cons];omega)
theorem Fit.apply {S:Spc} {k:Nat} (h:Fit S k) (t:Int) (l:List Ch) (hc:∀c∈l,Ls c.k):Fit (bM S t l).1 (k+l.length):=by
 unfold bM
 split
 ·exact h.mono (by omega)
 ·split
  ·exact h.mono (by omega)
  ·have:=Fit.dos l h t hc
   exact ⟨this.ri,this.fu,this.ln,this.vs,this.ls⟩
theorem lj {mark:Int} {L:List It} {x:It} (h:x∈gJ mark L):∃p∈L,p.1=x.1∧x.2=eP p.2 mark:=by
 obtain ⟨p,hp,e⟩:=List.mem_filterMap.1 h
 split at e
 ·cases e
 ·cases e;exact ⟨p,hp,rfl,rfl⟩
theorem pI (mark:Int):∀L:List It,bb L→bb (gJ mark L)
 |[],_=>by simp[gJ,bb,bL,ae]
 |p::L,h=>by
  obtain ⟨h1,h2⟩:=ir.1 h
  have ih:=pI mark L h2
  by_cases hv:eP p.2 mark=[]
  ·have e:gJ mark (p::L)=gJ mark L:=by simp[gJ,hv]
   rw[e];exact ih
  ·have e:gJ mark (p::L)=(p.1,eP p.2 mark)::gJ mark L:=by simp[gJ,hv]
   rw[e]
   refine ir.2 ⟨fun x hx=>?_,ih⟩
   obtain ⟨y,hy,e2,-⟩:=lj hx
   rw[←e2];exact h1 y hy
theorem Fit.vac {S:Spc} {k:Nat} (h:Fit S k) (mark:Int):Fit (br S mark).1 k:=by
 unfold br
 split
 ·exact h
 ·rw[qv h.ri]
  refine ⟨pI mark S.L h.ri,pC mark S.L,?_,fun p hp=>?_,fun p hp=>?_⟩
  ·have:=List.length_filterMap_le (fun p:It=>if eP p.2 mark=[] then none else some (p.1,eP p.2 mark)) S.L
   exact Nat.le_trans this h.ln
  ·obtain ⟨y,hy,-,e⟩:=lj hp
   rw[e]
   exact Nat.le_trans (qu _ _) (h.vs y hy)
  ·obtain ⟨y,hy,e,-⟩:=lj hp
   rw[←e];exact h.ls y hy
theorem CV {l:List It} {last mark:Int} (h:ldB l last mark=true):∀p∈l,Ls p.1:=fun p hp=>by
 obtain ⟨i,hi,rfl⟩:=List.mem_iff_getElem.1 hp
 have:=BR (tE h hi)
 rw[ar hi] at this
 unfold Ls;omega
theorem Fit.load {l:List It} {last mark:Int} {k:Nat} (h:ldB l last mark=true) (hl:l.length≤k) (hv:∀p∈l,p.2.length≤k):Fit ⟨l,last,mark⟩ k:=⟨(uL h).1,(uL h).2,hl,hv,CV h⟩
structure Rt (S:Spc):Prop where
 it:∀p∈S.L,p.1.length≤128∧chB p.2=true∧(p.2.getD 0 default).t≤S.last
 mn:0≤S.mark
 ml:S.mark≤S.last
 mx:S.last≤1152921504606846976
theorem Rt.zero:Rt ⟨[],0,0⟩:=⟨fun p hp=>by simp at hp,by simp,by simp,by simp⟩
theorem qA:chB []=true:=rfl
theorem uM {l:List Ver}:chB l=true↔∀i,i<l.length→vOk l i=true:=by
 rw[chB,List.all_eq_true]
 exact ⟨fun h i hi=>h i (List.mem_range.2 hi),fun h i hi=>h i (List.mem_range.1 hi)⟩
theorem ot {x:Ver} {v:List Ver}:chB (x::v)=true↔okV x=true∧chB v=true∧(v≠[]→(v.getD 0 default).t<x.t):=by
 rw[uM,uM]
 constructor
 ·intro h
  refine ⟨?_,fun i hi=>?_,fun hv=>?_⟩
  ·have:=h 0 (by simp)
   rwa [fH rfl,List.getD_cons_zero] at this
  ·have:=h (i+1) (by simp;omega)
   rw[eJ (by omega)] at this
   simp only[List.getD_cons_succ,Nat.add_sub_cancel,Bool.and_eq_true,decide_eq_true_eq] at this
   cases i with
   |zero=>rw[fH rfl];exact this.1
   |succ i=>
    rw[eJ (by omega)]
    simp only[List.getD_cons_succ,Nat.add_sub_cancel,Bool.and_eq_true,decide_eq_true_eq] at this ⊢
    exact this
  ·have:=h 1 (by have:=List.length_pos_iff.2 hv;simp;omega)
   rw[eJ (by omega)] at this
   simp only[List.getD_cons_succ,Nat.sub_self,List.getD_cons_zero,Bool.and_eq_true,decide_eq_true_eq] at this
   exact this.2
 ·rintro ⟨h1,h2,h3⟩ i hi
  cases i with
  |zero=>rw[fH rfl,List.getD_cons_zero];exact h1
  |succ i=>
   have hi2:i<v.length:=by simpa using hi
   have:=h2 i hi2
   rw[eJ (by omega)]
   simp only[List.getD_cons_succ,Nat.add_sub_cancel,Bool.and_eq_true,decide_eq_true_eq]
   cases i with
   |zero=>
    rw[fH rfl] at this
    exact ⟨this,by rw[List.getD_cons_zero];exact h3 (fun e=>by rw[e] at hi2;simp at hi2)⟩
   |succ i=>
    rw[eJ (by omega)] at this
    simp only[Nat.add_sub_cancel,Bool.and_eq_true,decide_eq_true_eq] at this
    rw[List.getD_cons_succ];exact this
theorem yr {v:List Ver} (h:chB v=true):∀k,chB (v.take k)=true:=by
 induction v with
 |nil=>intro k;simp[qA]
 |cons x v ih=>
  intro k
  cases k with
  |zero=>exact qA
  |succ k=>
   obtain ⟨h1,h2,h3⟩:=ot.1 h
   rw[List.take_succ_cons]
   refine ot.2 ⟨h1,ih h2 k,fun hv=>?_⟩
   cases v with
   |nil=>simp at hv
   |cons y v=>
    cases k with
    |zero=>simp at hv
    |succ k=>simpa using h3 (by simp)
theorem wm {v:List Ver} (h:chB v=true) (m:Int):chB (eP v m)=true∧(eP v m≠[]→((eP v m).getD 0 default)=v.getD 0 default):=by
 rw[eP,if_pos h]
 refine ⟨yr h _,fun hn=>?_⟩
 cases v with
 |nil=>simp at hn
 |cons x v=>
  cases hk:kf (x::v) m with
  |zero=>rw[hk] at hn;simp at hn
  |succ k=>rw[List.take_succ_cons];rfl
theorem wo {v:List Ver} {x:Ver} (hv:chB v=true) (hx:okV x=true) (ht:v≠[]→(v.getD 0 default).t<x.t):fI v x=(x::v,0):=by
 rw[fI,if_neg (by simp[hv]),if_neg (by simp[hx]),if_neg]
 rintro ⟨h1,h2⟩
 have:=ht (List.length_pos_iff.1 h1)
 omega
theorem BS {c:Ch} {t:Int} (h1:1≤t) (h2:t≤1152921504606846976) (h3:((c.v.length:Nat):Int)≤200) (h4:(!c.d||decide (c.v=[]))=true):okV ⟨t,c.v,c.d⟩=true:=by
 simp only[okV,decide_eq_true h1,decide_eq_true h2,decide_eq_true h3,Bool.true_and]
 exact h4
theorem tF {L:List It} (h:∀p∈L,chB p.2=true) (q:Bs):chB (aY L q)=true:=by
 induction L with
 |nil=>exact qA
 |cons p L ih=>
  rw[aY]
  split
  ·exact h p (by simp)
  ·exact ih (fun x hx=>h x (by simp[hx]))
theorem wq {L:List It} {P:It→Prop} (h:∀p∈L,P p) (q:Bs) (hn:aY L q≠[]):∃p,P p∧p.2=aY L q∧p.1=q:=by
 induction L with
 |nil=>simp[aY] at hn
 |cons p L ih=>
  rw[aY] at hn ⊢
  split
  ·rename_i e;exact ⟨p,h p (by simp),rfl,e⟩
  ·rename_i e
   rw[if_neg e] at hn
   exact ih (fun x hx=>h x (by simp[hx])) hn
theorem Rt.head {S:Spc} (h:Rt S) (q:Bs) (hn:aY S.L q≠[]):((aY S.L q).getD 0 default).t≤S.last:=by
 obtain ⟨p,h1,h2,-⟩:=wq h.it q hn
 rw[←h2];exact h1.2.2
theorem BT {l:List Ch} (h:gD l=true) {j:Nat} (hj:j<l.length):(((l.getD j default).v.length:Nat):Int)≤200∧(!(l.getD j default).d||decide ((l.getD j default).v=[]))=true:=by
 have:=tD h hj
 simp only[gW,Bool.and_eq_true,decide_eq_true_eq] at this
 exact ⟨this.1.2,this.2⟩
theorem pJ {S:Spc} (h:Rt S) {t:Int} (h1:S.last<t) (h2:t≤1152921504606846976) {l:List Ch} (hf:gD l=true):∀j,j≤l.length→∀p∈(l.take j).foldl (upR t S) S.L,p.1.length≤128∧chB p.2=true∧(p.2.getD 0 default).t≤t
 |0,_=>by
  simp only[List.take_zero,List.foldl_nil]
  intro p hp
  obtain ⟨a,b,c⟩:=h.it p hp
  exact ⟨a,b,by omega⟩
 |j+1,hj=>by
  have ih:=pJ h h1 h2 hf j (by omega)
  rw[bJ default (show j<l.length by omega),List.foldl_append]
  intro p hp
  simp only[List.foldl_cons,List.foldl_nil,upR] at hp
  rcases oi hp with rfl|hp
  ·have hk:=uJ hf (show j<l.length by omega)
   obtain ⟨a,b⟩:=BT hf (show j<l.length by omega)
   have hm:=tF (fun p hp=>(h.it p hp).2.1) (l.getD j default).k
   have hx:=BS (t:=t) (by have:=h.mn;have:=h.ml;omega) h2 a b
   have ha:=wo hm hx (fun hn=>by have:=h.head _ hn;simp only;omega)
   rw[ha]
   refine ⟨by simpa using hk,ot.2 ⟨hx,hm,fun hn=>?_⟩,by simp⟩
   have:=h.head _ hn
   simp only;omega
  ·exact ih p hp
theorem Rt.apply {S:Spc} {k:Nat} (h:Rt S) (hF:Fit S k) (t:Int) (l:List Ch):Rt (bM S t l).1:=by
 unfold bM
 split
 ·exact h
 ·split
  ·exact h
  ·rename_i h1 h2
   have hf:gD l=true:=by simpa using h2
   have e:=(yo t S hF.ri l hf l.length (Nat.le_refl _)).2.2
   have hu:=pJ h (t:=t) (by omega) (by omega) hf l.length (Nat.le_refl _)
   rw[List.take_length] at e hu
   rw[e]
   exact ⟨fun p hp=>hu p hp,h.mn,by have:=h.ml;simp only;omega,by simp only;omega⟩
theorem Rt.vac {S:Spc} {k:Nat} (h:Rt S) (hF:Fit S k) (m:Int):Rt (br S m).1:=by
 unfold br
 split
 ·exact h
 ·rename_i h1
  rw[qv hF.ri]
  refine ⟨fun p hp=>?_,by have:=h.mn;simp only;omega,by simp only;omega,h.mx⟩
  obtain ⟨y,hy,e1,e2⟩:=lj hp
  obtain ⟨a,b,c⟩:=h.it y hy
  obtain ⟨d,e⟩:=wm b m
  rw[e2]
  refine ⟨by rw[←e1];exact a,d,?_⟩
  rw[e (by rw[←e2];exact pC m S.L p hp)];exact c
theorem Rt.load {S:Spc} {k:Nat} (h:Rt S) (hF:Fit S k):ldB S.L S.last S.mark=true:=by
 have hall:(List.range S.L.length).all (oJ S.L S.last)=true:=by
  refine List.all_eq_true.2 fun i hi=>?_
  have hi:=List.mem_range.1 hi
  have hm:S.L.getD i default∈S.L:=by rw[ar hi];exact List.getElem_mem hi
  obtain ⟨a,b,c⟩:=h.it _ hm
  have hn:=hF.fu _ hm
  have hl:(decide (i=0)||Op.bytesLess (nc S.L i) (S.L.getD i default).1)=true:=by
   by_cases e:i=0
   ·simp[e]
   ·rw[Bool.or_eq_true];right
    rw[nc,if_neg e]
    have:=bL.at (k:=ae S.L) hF.ri (i:=i - 1) (j:=i) (by omega) (by simpa [ae] using hi)
    have e1:(ae S.L).getD i []=(S.L.getD i default).1:=by rw[ar (by simpa [ae] using hi),ar hi];simp[ae]
    have e2:(ae S.L).getD (i - 1) []=(S.L.getD (i - 1) default).1:=by rw[ar (by simp[ae];omega),ar (by omega)];simp[ae]
    rwa [e1,e2] at this
  rw[oJ,yh,hl,b,decide_eq_true (show (((S.L.getD i default).1.length:Nat):Int)≤128 by omega),decide_eq_true (List.length_pos_iff.2 hn),decide_eq_true c];rfl
 have h1:=h.mn
 have h2:=h.ml
 have h3:=h.mx
 rw[ldB,hall,decide_eq_false (show ¬S.last<0 by omega),decide_eq_false (show ¬1152921504606846976<S.last by omega),decide_eq_false (show ¬S.mark<0 by omega),decide_eq_false (show ¬S.last<S.mark by omega)];rfl
end Go.Proofs.YtpehfflehebmbaaGreat.Space
end
section
set_option maxRecDepth 10000
namespace Go.Proofs.YtpehfflehebmbaaGreat.Txn
open Go Go.Av Go.Proofs Go.Proofs.YtpehfflehebmbaaGreat.C Go.Proofs.YtpehfflehebmbaaGreat.Batch Go.Proofs.YtpehfflehebmbaaGreat.Space
def lX (c:Ch):Bool→List Ch→List Ch
 |laid,[]=>if laid then [] else [c]
 |laid,x::l=>(if laid=false∧Op.bytesLess x.k c.k=false then [c] else [])++((if x.k=c.k then [] else [x])++lX c (laid|| !Op.bytesLess x.k c.k) l)
theorem pK (c:Ch):∀l:List Ch,(∀x∈l,x.k≠c.k)→lX c true l=l
 |[],_=>rfl
 |x::l,h=>by
  rw[lX,if_neg (h x (by simp))]
  simp only[Bool.true_eq_false,false_and,if_false,List.nil_append,Bool.true_or,List.singleton_append]
  rw[pK c l fun y hy=>h y (by simp[hy])]
theorem uN:∀{C:List Ch},bL (ak C)→∀c,lX c false C=jv C c
 |[],_,c=>by simp[lX,jv,ak,thK,plK]
 |x::C,h,c=>by
  have hx:(∀k∈ak C,Lt x.k k)∧bL (ak C):=List.pairwise_cons.1 h
  have ih:=uN hx.2 c
  have hp:plK (ak (x::C)) c.k=if Op.bytesLess x.k c.k=true then plK (ak C) c.k+1 else 0:=jB _ _ _
  have ht:thK (ak (x::C)) c.k=if Op.bytesLess x.k c.k=true then thK (ak C) c.k else decide (x.k=c.k):=by
   unfold thK
   rw[hp]
   split
   ·simp[ak]
   ·simp[ak]
  cases hl:Op.bytesLess x.k c.k with
  |true=>
   have hne:x.k≠c.k:=lh hl
   rw[hl] at hp ht
   simp only[if_true] at hp ht
   rw[lX,hl,if_neg hne]
   simp only[Bool.true_eq_false,and_false,if_false,List.nil_append,Bool.not_true,Bool.or_self,List.singleton_append,ih]
   unfold jv
   rw[hp,ht]
   cases thK (ak C) c.k<;>simp
  |false=>
   rw[hl] at hp ht
   simp only[Bool.false_eq_true,if_false] at hp ht
   rw[lX,hl]
   have hrest:∀y∈C,y.k≠c.k:=fun y hy e=>by
    have h1:=hx.1 y.k (List.mem_map.2 ⟨y,hy,rfl⟩)
    rw[Lt,e,hl] at h1;cases h1
   simp only[and_self,if_true,Bool.not_false,Bool.or_true,pK c C hrest]
   unfold jv
   rw[hp,ht]
   by_cases e:x.k=c.k
   ·simp[e]
   ·simp[e]
def pGo (k v:Bs):Bool→List Pr→List Pr
 |laid,[]=>if laid then [] else [⟨k,v⟩]
 |laid,x::l=>(if laid=false∧Op.bytesLess x.k k=false then [⟨k,v⟩] else [])++((if x.k=k then [] else [x])++pGo k v (laid|| !Op.bytesLess x.k k) l)
theorem se (k v:Bs):∀l:List Pr,pGo k v true l=l.filter fun p=>decide (p.k≠k)
 |[]=>rfl
 |x::l=>by
  rw[pGo,List.filter_cons]
  simp only[Bool.true_eq_false,false_and,if_false,List.nil_append,Bool.true_or,se k v l]
  by_cases e:x.k=k
  ·simp[e]
  ·simp[e]
theorem yu (k v:Bs):∀l:List Pr,pGo k v false l=gZ l k v
 |[]=>rfl
 |x::l=>by
  rw[pGo]
  unfold gZ
  rw[List.takeWhile_cons,List.dropWhile_cons]
  cases hl:Op.bytesLess x.k k with
  |true=>
   have hne:x.k≠k:=lh hl
   simp only[Bool.true_eq_false,and_false,if_false,List.nil_append,Bool.not_true,Bool.or_self,if_neg hne,List.singleton_append,if_true,List.cons_append]
   rw[yu k v l];rfl
  |false=>
   simp only[and_self,if_true,Bool.not_false,Bool.or_true,se,Bool.false_eq_true,if_false,List.nil_append]
   rw[List.filter_cons]
   by_cases e:x.k=k
   ·simp[e]
   ·simp[e]
def dJ (l:List Pr) (a b:Bs) (most:Int):List Pr:=eh most (l.filter fun p=>inR a b p.k)
end Go.Proofs.YtpehfflehebmbaaGreat.Txn
end
section
set_option maxRecDepth 100000
namespace Go.Proofs.YtpehfflehebmbaaGreat.Reads
open Go Go.Av Go.Proofs Go.Proofs.YtpehfflehebmbaaGreat.C Go.Proofs.YtpehfflehebmbaaGreat.Batch
def bQ (k:List Bs) (l:List Sp) (key:Bs):Bool:=bg k l&&(there k key||aR l key)
theorem yv (k:List Bs) (l:List Sp) (key:Bs) (h:bg k l=true):aA Tryz.prog 111 [bT k l,.str key] (.bool (there k key||aR l key)):=by
 refine f111.aD (by simp) (by simp[al,cJ,av]) rfl ?_
 unfold Cj
 simp only[C.zz]
 obtain ⟨b1,b2,b3,b4⟩:=dh h
 cases ht:there k key with
 |true=>
  have hse:=nT b4 b1 key
  rw[ht] at hse
  refine an1 @bT.eq_1 hse ?_
  refine aJ ?_
  exact ab.refl _
 |false=>
  have hse:=nT b4 b1 key
  rw[ht] at hse
  refine an2 @bT.eq_1 hse (gg l (by omega) key) ?_
  refine aJ ?_
  exact ab.refl _
theorem BU (k:List Bs) (l:List Sp) (h:bg k l=true) (c:Ch):aA Tryz.prog 110 [aL c,.ref [.sl 1 (strs k) .any,.sl 2 (sps l) .any]] (.bool (there k c.k||aR l c.k)):=by
 refine f110.aD (by simp) (by simp[al,av,aG,du,cG,aL]) rfl ?_
 unfold Ci
 simp only[C.zz]
 have hc:=yv k l c.k h
 unfold bT at hc
 refine rn1 @aL.eq_1 hc ?_
 refine aJ ?_
 exact ab.refl _
theorem wu (l:List Ch) (hl:l.length≤4611686018427387904) (p:Ch→Bool) {g:FuncId} {fn:Func} (hf:Tryz.prog.funcs[g]? =some fn) (hb:fn.body.isSome=true) (hn:fn.name≠ "runtime.NumGoroutine") (caps:List AV) (hc:al caps=true)
  (hp:∀c∈l,aA Tryz.prog g (aL c::caps) (.bool (p c))):
  aA Tryz.prog 109 [.sl 3 (chs l) .any,.clo (.func g) [] caps] (.int .i64 (ix p l)):=by
 refine f109.aD (by simp) (by simp[al,av,aG,dw,hc]) rfl ?_
 unfold Bv
 simp only[C.zz]
 refine Wp.aw xA1 (by trivial) ?_
 refine Wp.seq ?_
 refine Wp.aw (by simp only[go_sem,reduceIte,Nat.reduceEqDiff,Nat.reduceAdd,bx,an];exact rfl) (by trivial) ?_
 refine Wp.block ?_
 refine Wp.cZ [0,1,7] xA6 (fun j:Nat=>[(8,.int .i64 j)]) (fun j=>j≤l.length∧∀i (hi:i<l.length),i<j→p l[i]=false) (fun j=>l.length - j) 0 ⟨Nat.zero_le _,fun i hi h=>absurd h (by omega)⟩ ?_ ?_
 ·exact xSb
 ·rintro j ⟨hj,hs⟩
  refine Wp.aw xA1 (by trivial) ?_
  refine Wp.seq ?_
  refine Wp.bN (b:=decide ((j:Int)<(l.length:Int))) xA2 (fun hc=>?_) (fun hc=>?_)
  ·have h1:(0:Int)≤(j:Int):=by omega
   have h2:(j:Int)<(l.length:Int):=by simpa using hc
   have h3:j<l.length:=by omega
   have hq:=hp _ (List.getElem_mem h3)
   rw[←ar (d:=default) h3] at hq
   refine Wp.skip ?_
   refine Wp.seq ?_
   refine Wp.block ?_
   refine Wp.aw xA1 (by trivial) ?_
   refine Wp.seqItems (by simp only[go_sem,reduceIte,Nat.reduceEqDiff,Nat.reduceAdd,bx,an,h1,h2,and_self,if_true,Int.toNat_natCast,bH _ _ _ h3,aL];exact rfl) ?_
   refine aa.lF (by simp only[go_sem]) (by simp only[go_sem,reduceIte,Nat.reduceEqDiff];exact rfl) hf hb hn xA4 hq ?_
   refine aa.eval xA1 ?_
   refine aa.nil ⟨by trivial,?_⟩
   rw[ar h3]
   refine Wp.bN (b:=p l[j]) xA2 (fun hd=>?_) (fun hd=>?_)
   ·refine Wp.aw xA1 (by trivial) ?_
    refine aJ ?_
    rw[gC h3 hd hs]
    exact ab.refl _
   ·refine Wp.skip ?_
    refine Wp.jX (by simp only[go_sem,reduceIte,Nat.reduceEqDiff,Nat.reduceAdd,bx];simp (disch:=omega) only[IntWalk.i64_in];exact rfl) (by trivial) ?_
    refine ⟨j+1,⟨by omega,fun i hi h=>?_⟩,by omega,?_⟩
    ·by_cases he:i=j
     ·subst he;exact hd
     ·exact hs i hi (by omega)
    ·exact xSu
  ·have:¬(j:Int)<(l.length:Int):=by simpa using hc
   refine Wp.exit ?_
   refine Wp.aw xA1 (by trivial) ?_
   refine aJ ?_
   rw[gV fun i hi=>hs i hi (by omega)]
   exact ab.refl _
theorem qB (l:List Ch) (hl:l.length≤4611686018427387904) (p:Ch→Bool) {g:FuncId} {fn:Func} (hf:Tryz.prog.funcs[g]? =some fn) (hb:fn.body.isSome=true) (hn:fn.name≠ "runtime.NumGoroutine") (caps:List AV) (hc:al caps=true)
  (hp:∀c∈l,aA Tryz.prog g (aL c::caps) (.bool (p c))):
  aA Tryz.prog 66 [.sl 3 (chs l) .any,.clo (.func g) [] caps] (.bool (l.any p)):=by
 refine f66.aD (by simp) (by simp[al,av,aG,dw,hc]) rfl ?_
 unfold c66
 simp only[C.zz]
 refine an1 @cK (wu l hl p hf hb hn caps hc hp) ?_
 refine aJ ?_
 exact ab.refl _
def sf (k:List Bs) (l:List Sp) (cs:List Ch):Bool:=bg k l&&cs.any fun c=>there k c.k||aR l c.k
theorem CW (k:List Bs) (l:List Sp) (cs:List Ch) (hc:cs.length≤4611686018427387904):aA Tryz.prog 67 [bT k l,.sl 3 (chs cs) .any] (.bool (sf k l cs)):=by
 refine f67.aD (by simp) (by simp[al,av,aG,cJ,dw]) rfl ?_
 unfold c67
 simp only[C.zz]
 refine Wp.aw (by simp only[go_sem,reduceIte,Nat.reduceEqDiff,Nat.reduceAdd,bx,bT];exact rfl) (by trivial) ?_
 refine Wp.frz (fun j=>true) [(1,.sl 3 (chs cs) .any),(2,.ref [.sl 1 (strs k) .any,.sl 2 (sps l) .any])] ⟨ag,1,[],0⟩ ?_ (OLe.none _) (by simp) (by simp[go_sem]) (Nat.le_refl _) ?_
 ·simp only[aC,go_sem,reduceIte,Nat.reduceEqDiff,unT,and_true,beq_self_eq_true,Nat.reduceBEq,Bool.false_eq_true]
  and_intros<;>exact ab.refl _
 have hck:=fY k l
 unfold bT at hck
 cases h:bg k l with
 |false=>
  rw[h] at hck
  simp only[Bool.false_eq_true,if_false] at hck
  have d1:decide ((4:Int)=0)=false:=rfl
  refine rn1 d1 hck ?_
  refine aJ ?_
  rw[sf,h];exact ab.refl _
 |true=>
  rw[h] at hck
  simp only[if_true] at hck
  have d1:decide ((0:Int)=0)=true:=rfl
  have hcn:=qB cs hc (fun c=>there k c.k||aR l c.k) Tryz.func110 rfl (of_decide_eq_true (by kernel_rfl)) [.ref [.sl 1 (strs k) .any,.sl 2 (sps l) .any]] (by simp[al,av,aG,du,cG]) (fun c _=>BU k l h c)
  refine rn2 d1 hck hcn ?_
  refine aJ ?_
  rw[sf,h];exact ab.refl _
end Go.Proofs.YtpehfflehebmbaaGreat.Reads
end
section
set_option maxRecDepth 10000
namespace Go.Proofs.YtpehfflehebmbaaGreat.Reads
open Go Go.Av Go.Proofs Go.Proofs.YtpehfflehebmbaaGreat.C Go.Proofs.YtpehfflehebmbaaGreat.Batch
def bL (k:List Bs):Prop:=k.Pairwise fun a b=>Op.bytesLess a b=true
theorem pL {k:List Bs} {l:List Sp} (h:nJ k l=true):bL k∧∀x∈k,aR l x=false:=by
 refine ⟨?_,fun x hx=>?_⟩
 ·unfold bL
  rw[List.pairwise_iff_getElem]
  intro i j hi hj hij
  have:=rising h hij hj
  rwa [ar hi,ar hj] at this
 ·obtain ⟨i,hi,rfl⟩:=List.mem_iff_getElem.1 hx
  have:=List.all_eq_true.1 h i (List.mem_range.2 hi)
  simp only[kOk,Bool.and_eq_true,Bool.not_eq_true'] at this
  rw[←ar (d:=[]) hi];exact this.2
theorem yw {k:List Bs} {l:List Sp} (h:bL k) (h2:∀x∈k,aR l x=false):nJ k l=true:=by
 refine eI fun i hi=>?_
 simp only[kOk,Bool.and_eq_true,Bool.or_eq_true,decide_eq_true_eq,Bool.not_eq_true']
 refine ⟨?_,by rw[ar hi];exact h2 _ (List.getElem_mem hi)⟩
 by_cases h0:i=0
 ·exact .inl h0
 ·right
  rw[ar hi,ar (by omega)]
  exact List.pairwise_iff_getElem.1 h _ _ _ _ (by omega)
theorem gp {k:List Bs} (h:bL k) (q:Bs):there k q=decide (q∈k):=by
 have hk:=yw (l:=[]) h (fun _ _=>rfl)
 have hp:=kX k q
 refine Bool.eq_iff_iff.2 ?_
 simp only[there,Bool.and_eq_true,decide_eq_true_eq]
 constructor
 ·rintro ⟨h1,h2⟩
  rw[ar h1] at h2
  rw[←h2];exact List.getElem_mem h1
 ·intro hm
  obtain ⟨i,hi,e⟩:=List.mem_iff_getElem.1 hm
  have he:k.getD i []=q:=by rw[ar hi];exact e
  have h1:¬i<place k q:=by
   intro hlt
   have:=nR hlt
   rw[he,bk] at this;cases this
  have h2:¬place k q<i:=by
   intro hlt
   have a1:=rising hk hlt hi
   rw[he] at a1
   have a2:=nS (key:=q) hk (Nat.le_refl _) (Nat.lt_trans hlt hi)
   rw[a1] at a2;cases a2
  have:place k q=i:=by omega
  rw[this]
  exact ⟨hi,he⟩
theorem qC {k:List Bs} (h:bL k) (key q:Bs):q∈ja k key↔q∈k∨q=key:=by
 unfold ja
 rw[gp h]
 by_cases hm:key∈k
 ·rw[if_pos (by simpa using hm)]
  constructor
  ·exact .inl
  ·rintro (h|rfl)
   ·exact h
   ·exact hm
 ·rw[if_neg (by simpa using hm)]
  have e:k=k.take (place k key)++k.drop (place k key):=by simp
  constructor
  ·intro hq
   rcases List.mem_append.1 hq with hq|hq
   ·exact .inl (List.mem_of_mem_take hq)
   ·rcases List.mem_cons.1 hq with hq|hq
    ·exact .inr hq
    ·exact .inl (List.mem_of_mem_drop hq)
  ·rintro (hq|rfl)
   ·rw[e] at hq
    rcases List.mem_append.1 hq with hq|hq
    ·exact List.mem_append.2 (.inl hq)
    ·exact List.mem_append.2 (.inr (List.mem_cons_of_mem _ hq))
   ·simp
theorem yy {k:List Bs} (h:bL k) (key:Bs):bL (ja k key):=by
 have hk:=yw (l:=[]) h (fun _ _=>rfl)
 unfold ja
 rw[gp h]
 by_cases hm:key∈k
 ·rw[if_pos (by simpa using hm)];exact h
 ·rw[if_neg (by simpa using hm)]
  have a1:∀a∈k.take (place k key),Op.bytesLess a key=true:=by
   intro a ha
   obtain ⟨i,hi,rfl⟩:=List.mem_iff_getElem.1 ha
   rw[List.length_take] at hi
   have:=nR (k:=k) (key:=key) (i:=i) (by omega)
   rw[ar (by omega)] at this
   rw[List.getElem_take];exact this
  have a2:∀a∈k.drop (place k key),Op.bytesLess key a=true:=by
   intro a ha
   have ham:=List.mem_of_mem_drop ha
   obtain ⟨i,hi,rfl⟩:=List.mem_iff_getElem.1 ha
   rw[List.length_drop] at hi
   have:=nS (key:=key) hk (i:=place k key+i) (by omega) (by omega)
   rw[ar (by omega)] at this
   rw[List.getElem_drop] at ham ⊢
   rcases cN key k[place k key+i] with e|e|e
   ·exact e
   ·rw[←e] at ham;exact absurd ham hm
   ·rw[this] at e;cases e
  unfold bL
  rw[List.pairwise_append]
  refine ⟨h.sublist (List.take_sublist _ _),?_,fun a ha b hb=>?_⟩
  ·rw[List.pairwise_cons]
   exact ⟨a2,h.sublist (List.drop_sublist _ _)⟩
  ·rcases List.mem_cons.1 hb with rfl|hb
   ·exact a1 a ha
   ·exact bz (a1 a ha) (a2 b hb)
theorem sg {ks:List Bs} {l:List Sp} (hk:bL ks) (hl:NF l):
  ((dg ks l).2.2=0∨(dg ks l).2.2=9)∧((dg ks l).2.2=0→bg (dg ks l).1 (dg ks l).2.1=true∧∀q,(there (dg ks l).1 q||aR (dg ks l).2.1 q)=(decide (q∈ks)||aR l q)):=by
 have hr:bL (ks.filter fun x=> !aR l x):=List.Pairwise.sublist List.filter_sublist hk
 unfold dg
 split
 ·rename_i hc
  simp only[Bool.and_eq_true,decide_eq_true_eq] at hc
  refine ⟨.inl rfl,fun _=>⟨?_,fun q=>?_⟩⟩
  ·simp only[bg,decide_eq_true hc.1,decide_eq_true hc.2,CS hl,Bool.and_self,Bool.true_and]
   refine yw hr fun x hx=>?_
   have:=(List.mem_filter.1 hx).2
   simpa using this
  ·simp only
   rw[gp hr]
   cases hs:aR l q with
   |true=>simp
   |false=>simp[List.mem_filter,hs]
 ·exact ⟨.inr rfl,fun h=>by cases h⟩
theorem Ap {k:List Bs} {l:List Sp} (h:bg k l=true) (key:Bs):
  ((eo k l key).2.2=0∨(eo k l key).2.2=9)∧((eo k l key).2.2=0→bg (eo k l key).1 (eo k l key).2.1=true∧∀q,bQ (eo k l key).1 (eo k l key).2.1 q=(bQ k l q||decide (q=key))):=by
 obtain ⟨b1,b2,b3,b4⟩:=dh h
 obtain ⟨r1,r2⟩:=pL b4
 have e:eo k l key=dg (ja k key) l:=by simp[eo,h]
 rw[e]
 obtain ⟨m1,m2⟩:=sg (yy r1 key) (pq b3)
 refine ⟨m1,fun h0=>?_⟩
 obtain ⟨c1,c2⟩:=m2 h0
 refine ⟨c1,fun q=>?_⟩
 unfold bQ
 rw[c1,h,Bool.true_and,Bool.true_and,c2,gp r1]
 have:decide (q∈ja k key)=(decide (q∈k)||decide (q=key)):=by
  rw[Bool.eq_iff_iff]
  simp only[decide_eq_true_eq,Bool.or_eq_true]
  exact qC r1 key q
 rw[this]
 cases decide (q∈k)<;>cases decide (q=key)<;>cases aR l q<;>rfl
theorem BV {x:Sp} (h:hasB x=false) (q:Bs):fz x q=false:=by
 cases hw:fz x q with
 |false=>rfl
 |true=>
  rw[nb] at hw
  have hn:¬(x.t=[]∨Op.bytesLess x.f x.t=true):=fun e=>by rw[kY.2 e] at h;cases h
  rcases hw.2 with e|e
  ·exact absurd (.inl e) hn
  ·exact absurd (.inr (CR hw.1 e)) hn
theorem yz {k:List Bs} {l:List Sp} (h:bg k l=true) (x:Sp):
  ((cu k l x).2.2=0∨(cu k l x).2.2=9)∧((cu k l x).2.2=0→bg (cu k l x).1 (cu k l x).2.1=true∧∀q,bQ (cu k l x).1 (cu k l x).2.1 q=(bQ k l q||fz x q)):=by
 obtain ⟨b1,b2,b3,b4⟩:=dh h
 obtain ⟨r1,r2⟩:=pL b4
 have e:cu k l x=dg k (if hasB x=true then di l x else l):=by simp[cu,h]
 rw[e]
 have hn:NF (if hasB x=true then di l x else l)∧∀q,aR (if hasB x=true then di l x else l) q=(fz x q||aR l q):=by
  cases hh:hasB x with
  |true=>rw[if_pos rfl];exact ⟨(uG (pq b3) hh).1,(uG (pq b3) hh).2.1⟩
  |false=>rw[if_neg (by simp)];exact ⟨pq b3,fun q=>by rw[BV hh,Bool.false_or]⟩
 obtain ⟨m1,m2⟩:=sg r1 hn.1
 refine ⟨m1,fun h0=>?_⟩
 obtain ⟨c1,c2⟩:=m2 h0
 refine ⟨c1,fun q=>?_⟩
 unfold bQ
 rw[c1,h,Bool.true_and,Bool.true_and,c2,gp r1,hn.2]
 cases decide (q∈k)<;>cases fz x q<;>cases aR l q<;>rfl
end Go.Proofs.YtpehfflehebmbaaGreat.Reads
end
section
namespace Go.Av
open Go.ChangeShapes Go.WideShapes Go.ChangeAt Go.RowKit
section
variable {H:Type} {enc:TypeId × Value→H} {P:Program} {w:World}
def G0:aI:=⟨fun _=>False,fun _=>0,fun _=>False,fun _=>none,fun _=>False,fun _=>none⟩
def dK (P:Program) (e:TypeId) (cs:List AV):AV:=if bW P e then .agg cs else cs.headD .any
mutual
def lp:AV→Nat
 | .int _ _=>1
 | .bool _=>1
 | .str l=>l.length+1
 | .sl _ xs _=>cv xs+1
 | .agg cs=>cv cs
 |_=>0
def cv:List AV→Nat
 |[]=>0
 |x::xs=>lp x+cv xs
end
theorem hH:∀l m:List AV,cv (l++m)=cv l+cv m
 |[],m=>by simp[cv]
 |x::l,m=>by simp[cv,hH l m];omega
theorem pM (P:Program) (e:TypeId) (cs:List AV):lp (dK P e cs)≤cv cs:=by
 unfold dK
 split
 ·simp[lp]
 ·cases cs with
  |nil=>simp[lp,cv]
  |cons x cs=>simp[cv]
structure mL (B:DataW H→Nat) (BL:List (DataW H)→Nat):Prop where
 str:∀l,B (.lit (.string l))=l.length+1
 int:∀k n,B (.lit (.int k n))=1
 bool:∀b,B (.lit (.bool b))=1
 nil:B .nil=1
 slice:∀a b,B (.slice a b)=BL a+BL b+1
 agg:∀a,B (.agg a)=BL a+1
 nils:BL []=0
 cons:∀d l,BL (d::l)=B d+BL l
theorem mL.snoc {B:DataW H→Nat} {BL:List (DataW H)→Nat} (hB:mL B BL):∀(l:List (DataW H)) (d:DataW H),BL (l++[d])=BL l+B d
 |[],d=>by simp[hB.cons,hB.nils]
 |x::l,d=>by simp[hB.cons,mL.snoc hB l d];omega
theorem mL.take {B:DataW H→Nat} {BL:List (DataW H)→Nat} (hB:mL B BL):∀(l:List (DataW H)) (m:Nat),BL (l.take m)≤BL l
 |[],m=>by simp
 |x::l,0=>by simp[hB.nils]
 |x::l,m+1=>by simp[hB.cons,mL.take hB l m]
theorem iW {P:Program} {e:TypeId} {n:Nat}:∀{l:List (DataW H)} {d:DataW H},d∈l→n∈d.weights P e→n∈DataW.weightsAll P e l
 |x::l,d,h,hn=>by
  simp only[DataW.weightsAll,List.mem_append]
  rcases List.mem_cons.1 h with rfl|h
  ·exact .inl hn
  ·exact .inr (iW h hn)
inductive si {α β:Type} (R:α→β→Prop):List α→List β→Prop
 |nil:si R [] []
 |cons {a b l m}:R a b→si R l m→si R (a::l) (b::m)
def Fits (P:Program):Nat→TypeId→List AV→Prop
 |0,_,_=>False
 |k+1,t,xs=>match P.underlying t with
  |some .bool=>∃b,xs=[.bool b]
  |some (.int q)=>∃n,xs=[.int q n]∧(Lit.int q n).wf=true
  |some .string=>∃l,xs=[.str l]∧l.length≤reachBytes
  |some (.slice e)=>∃ys,xs=[.sl (P.cellsOf e) ys .any]∧ys.length*P.bytesOf e≤reachBytes∧∀y∈ys,∃cs,Fits P k e cs∧y=dK P e cs
  |some (.struct fs)=>∃xss,xs=xss.flatten∧si (fun (f:Field) cs=>Fits P k f.type cs) fs.toList xss
  |_=>False
def hP (P:Program):Nat→TypeId→Bool
 |0,_=>false
 |k+1,t=>match P.underlying t with
  |some .bool|some (.int _)|some .string=>true
  |some (.slice e)=>decide (e<P.types.size)&&decide (0<P.cellsOf e)&&(bW P e||decide (P.cellsOf e=1))&&hP P k e
  |some (.struct fs)=>decide (t<P.types.size)&&fs.all fun f=>hP P k f.type
  |_=>false
theorem pN {a:Addr} {v:Value} (h:w.cell? a=some v):a.spot=none:=by
 unfold World.cell? at h
 split at h
 ·split at h
  ·cases h
  ·rename_i hs;cases hh:a.spot with
   |none=>rfl
   |some x=>simp[hh] at hs
 ·cases h
theorem sj (b:Bool):One (.bool b):=⟨fun _=>by simp,fun _=>by simp⟩
theorem tG (k:IntKind) (n:Int):One (.int k n):=⟨fun _=>by simp,fun _=>by simp⟩
theorem tH (s:ByteArray):One (.string s):=⟨fun _=>by simp,fun _=>by simp⟩
theorem pO (a:Option Addr) (l c:Nat):One (.slice a l c):=⟨fun _=>by simp,fun _=>by simp⟩
theorem lq {R:Field→List AV→Prop} {G:aI} {B:DataW H→Nat} {BL:List (DataW H)→Nat} (hB:mL B BL) (full:List Value) (rd:Field→List Value→DataW H→Prop)
  (hrd:∀f cs d,rd f cs d→∃xs,R f xs∧aq G w xs cs∧(∀v∈cs,One v)∧cv xs≤B d):∀(fs:List Field) (ds:List (DataW H)) (off:Nat),ds.length=fs.length→
  (∀(j:Nat) f,fs[j]? =some f→f.offset=off+((fs.take j).map fun f=>P.cellsOf f.type).sum)→full.length=off+(fs.map fun f=>P.cellsOf f.type).sum→
  (∀(j:Nat) f d,fs[j]? =some f→ds[j]? =some d→rd f ((full.drop f.offset).take (P.cellsOf f.type)) d)→∃xss,si R fs xss∧aq G w xss.flatten (full.drop off)∧(∀v∈full.drop off,One v)∧cv xss.flatten≤BL ds
 |[],ds,off,hl,h1,h2,h3=>by
  have e:full.drop off=[]:=List.drop_eq_nil_of_le (by simp at h2;omega)
  exact ⟨[],.nil,by rw[e];exact .nil,by rw[e];simp,by simp[cv]⟩
 |f::fs,[],off,hl,h1,h2,h3=>by cases hl
 |f::fs,d::ds,off,hl,h1,h2,h3=>by
  have o0:f.offset=off:=by simpa using h1 0 f rfl
  have hf:=h3 0 f d rfl rfl
  rw[o0] at hf
  obtain ⟨xs,r1,r2,r3,r4⟩:=hrd f _ d hf
  obtain ⟨xss,q1,q2,q3,q4⟩:=lq hB full rd hrd fs ds (off+P.cellsOf f.type) (by simpa using hl) (fun j g hj=>by
   have:=h1 (j+1) g (by simpa using hj)
   simp only[List.take_succ_cons,List.map_cons,List.sum_cons] at this;omega) (by simp only[List.map_cons,List.sum_cons] at h2;omega) (fun j g d' hg hd=>h3 (j+1) g d' (by simpa using hg) (by simpa using hd))
  have e:full.drop off=(full.drop off).take (P.cellsOf f.type)++full.drop (off+P.cellsOf f.type):=by
   rw[←List.drop_drop,List.take_append_drop]
  refine ⟨xs::xss,.cons r1 q1,?_,?_,?_⟩
  ·rw[e,List.flatten_cons];exact r2.append q2
  ·rw[e];intro v hv
   rcases List.mem_append.1 hv with hv|hv
   ·exact r3 v hv
   ·exact q3 v hv
  ·rw[List.flatten_cons,hH,hB.cons];omega
theorem wv {e:TypeId} {cs:List AV} {vs:List Value} (hs:vs.length=P.cellsOf e) (hr:aq G0 w cs vs) (ho:∀v∈vs,One v) (hc:bW P e=false→P.cellsOf e=1):
  ∃v:Value,v.cells.toList=vs∧ah G0 w (dK P e cs) v:=by
 unfold dK
 cases ha:bW P e with
 |true=>exact ⟨.agg vs.toArray,by simp[Value.cells],by simp only[if_true,ah];exact ⟨vs,rfl,hr⟩⟩
 |false=>
  rw[hc ha] at hs
  obtain ⟨v,rfl⟩:=List.length_eq_one_iff.1 hs
  have hl:=hr.length
  obtain ⟨x,rfl⟩:=List.length_eq_one_iff.1 (show cs.length=1 by simpa using hl.symm)
  simp only[aq] at hr
  obtain ⟨v',us,e1,hv,e2⟩:=hr
  cases e1
  refine ⟨v,?_,by simpa using hv⟩
  have:=ho v (by simp)
  cases v<;>first|rfl|exact absurd rfl (this.1 _)|exact absurd rfl (this.2 _)
theorem Fits.slice {k:Nat} {t e:TypeId} {ys:List AV} (ht:P.underlying t=some (.slice e)) (h1:ys.length*P.bytesOf e≤reachBytes) (h2:∀y∈ys,∃cs,Fits P k e cs∧y=dK P e cs):Fits P (k+1) t [.sl (P.cellsOf e) ys .any]:=by
 unfold Fits;rw[ht];exact ⟨ys,rfl,h1,h2⟩
theorem wx (hl:laidOutB P=true) {B:DataW H→Nat} {BL:List (DataW H)→Nat} (hB:mL B BL):∀(k:Nat) (t:TypeId),hP P k t=true→∀(fuel:Nat) (cs:List Value) (x:DataW H × List MemPlace),
  DataW.trod enc P w 0 (fun _=>true) true fuel t cs=some x→(∀n∈x.1.weights P t,n≤reachBytes)→∃xs,Fits P k t xs∧aq G0 w xs cs∧(∀v∈cs,One v)∧cv xs≤B x.1:=by
 intro k
 induction k with
 |zero=>intro t h;cases h
 |succ k ih=>
  intro t hp fuel cs x hx hwt
  simp only[hP] at hp
  split at hp
  ·rename_i ht
   obtain ⟨b,rfl,rfl⟩:=DataW.trod_bool ht hx
   exact ⟨[.bool b],by simp only[Fits,ht];exact ⟨b,rfl⟩,.cons (by simp[ah]) .nil,by simp[sj],by simp[hB.bool,cv,lp]⟩
  ·rename_i q ht
   obtain ⟨n,rfl,rfl,hw⟩:=DataW.trod_int ht hx
   exact ⟨[.int q n],by simp only[Fits,ht];exact ⟨n,rfl,hw⟩,.cons (by simp[ah]) .nil,by simp[tG],by simp[hB.int,cv,lp]⟩
  ·rename_i ht
   obtain ⟨s,rfl,rfl,-⟩:=DataW.trod_string ht hx
   refine ⟨[.str s.data.toList],by simp only[Fits,ht];exact ⟨_,rfl,hwt _ (by simp[DataW.weights])⟩,.cons (by simp[ah]) .nil,by simp[tH],by simp[hB.str,cv,lp]⟩
  ·rename_i e ht
   simp only[Bool.and_eq_true,decide_eq_true_eq] at hp
   obtain ⟨⟨⟨-,hsz⟩,hag⟩,hpe⟩:=hp
   rcases DataW.trod_slice ht hx with ⟨rfl,rfl⟩|⟨a,len,cap,elems,rest,n,rfl,rfl,rfl,hb,hlc,hcm,hel,hread,hrest,-⟩
   ·refine ⟨[.sl (P.cellsOf e) [] .any],Fits.slice ht (by simp) (fun y hy=>by cases hy),.cons ?_ .nil,by simp[pO],by simp[hB.nil,cv,lp]⟩
    unfold ah;exact .inl ⟨rfl,⟨none,rfl⟩,trivial⟩
   ·have hone:bW P e=false→P.cellsOf e=1:=by
     intro ha
     simpa [ha] using hag
    have each:∀i,i<len→∃vs xs,w.cells? 0 (a.add (i*P.cellsOf e)) (P.cellsOf e)=some vs∧Fits P k e xs∧aq G0 w xs vs∧(∀v∈vs,One v)∧∀y,elems[i]? =some y→cv xs≤B y.1:=by
     intro i hi
     have h:=hread i hi
     rw[List.getElem?_eq_getElem (by omega)] at h
     obtain ⟨vs,h1,h2⟩:=Option.bind_eq_some_iff.1 h
     obtain ⟨xs,h3,h4,h5,h6⟩:=ih e hpe n vs _ h2 (fun m hm=>hwt m (by
      simp only[DataW.weights,ht,List.mem_cons,List.mem_append]
      exact .inr (.inl (iW (List.mem_map.2 ⟨_,List.getElem_mem (by omega),rfl⟩) hm))))
     exact ⟨vs,xs,h1,h3,h4,h5,fun y hy=>by rw[List.getElem?_eq_getElem (by omega)] at hy;cases hy;exact h6⟩
    have build:∀m,m≤len→∃ys vs,ys.length=m∧vs.length=m*P.cellsOf e∧(∀y∈ys,∃cs,Fits P k e cs∧y=dK P e cs)∧aB G0 w (P.cellsOf e) ys vs∧(∀(i:Nat) v,vs[i]? =some v→w.cell? (a.add i)=some v∧One v)∧cv ys≤BL ((elems.map (·.1)).take m):=by
     intro m
     induction m with
     |zero=>intro _;exact ⟨[],[],rfl,by simp,by simp,by simp[aB],by simp,by simp[cv]⟩
     |succ m ihm=>
      intro hm
      obtain ⟨ys,vs,k1,k2,k3,k4,k5,k6⟩:=ihm (by omega)
      obtain ⟨us,xs,e1,e2,e3,e4,eb⟩:=each m (by omega)
      obtain ⟨-,e5,e6⟩:=World.cells?_some e1
      obtain ⟨v,hv1,hv2⟩:=wv e5 e3 e4 hone
      refine ⟨ys++[dK P e xs],vs++us,by simp[k1],by simp[k2,e5,Nat.add_mul],?_,?_,?_,?_⟩
      ·intro y hy
       rcases List.mem_append.1 hy with hy|hy
       ·exact k3 y hy
       ·simp at hy;exact ⟨xs,e2,hy⟩
      ·refine k4.append ?_
       simp only[aB]
       exact ⟨v,[],by simp[hv1],by rw[←Array.length_toList,hv1,e5],hv2,rfl⟩
      ·intro i z hz
       rcases Nat.lt_or_ge i vs.length with hi|hi
       ·rw[List.getElem?_append_left hi] at hz;exact k5 i z hz
       ·rw[List.getElem?_append_right hi] at hz
        have hlt:i - vs.length<us.length:=(List.getElem?_eq_some_iff.1 hz).1
        have:=e6 (i - vs.length) (by omega)
        rw[hz] at this
        have ea:(a.add (m*P.cellsOf e)).add (i - vs.length)=a.add i:=by
         rw[←k2]
         unfold Addr.add
         by_cases h0:vs.length=0
         ·simp[h0]
         ·by_cases h1:i - vs.length=0
          ·have:i=vs.length:=by omega
           subst this;simp
          ·have:i≠0:=by omega
           simp[h0,h1,this];omega
        rw[ea] at this
        exact ⟨this,e4 z (List.mem_of_getElem? hz)⟩
      ·have hlt:m<(elems.map (·.1)).length:=by simp;omega
       rw[List.take_succ_eq_append_getElem hlt,hB.snoc,hH]
       have h1:=eb _ (List.getElem?_eq_getElem (by omega))
       have h2:=pM P e xs
       simp only[List.getElem_map,cv]
       omega
    obtain ⟨ys,vs,k1,k2,k3,k4,k5,k6⟩:=build len (Nat.le_refl _)
    refine ⟨[.sl (P.cellsOf e) ys .any],Fits.slice ht ?_ k3,.cons ?_ .nil,by simp[pO],?_⟩
    ·have:=hwt ((elems.length+rest.length)*P.bytesOf e) (by simp[DataW.weights,ht])
     exact Nat.le_trans (Nat.mul_le_mul_right _ (by omega)) this
    rotate_left
    ·have:=hB.take (elems.map (·.1)) len
     simp only[hB.slice,cv,lp]
     omega
    unfold ah
    by_cases hcap:cap=0
    ·have:ys=[]:=List.length_eq_zero_iff.1 (by omega)
     exact .inl ⟨this,⟨some a,by simp;omega⟩,by simp[fO]⟩
    ·have hspot:a.spot=none:=by
      by_cases hl0:len=0
      ·obtain ⟨hr1,hr2⟩:=hrest rfl
       have h:=hr2 0 (by omega)
       rw[List.getElem?_eq_getElem (by omega)] at h
       obtain ⟨vs',h1,h2⟩:=Option.bind_eq_some_iff.1 h
       obtain ⟨-,g1,g2⟩:=World.cells?_some h1
       have:=g2 0 hsz
       rw[List.getElem?_eq_getElem (by omega)] at this
       have:=pN this
       simpa [hl0,Addr.add] using this
      ·obtain ⟨us,xs,e1,e2,e3,e4,-⟩:=each 0 (by omega)
       obtain ⟨-,g1,g2⟩:=World.cells?_some e1
       have:=g2 0 hsz
       rw[List.getElem?_eq_getElem (by omega)] at this
       have:=pN this
       simpa [Addr.add] using this
     obtain ⟨B,off,sp⟩:=a
     simp only at hspot
     subst hspot
     refine .inr ⟨B,off,cap,vs,by simp[k1],by omega,by rw[k2,k1],k4,fun i v hv=>?_,by simp[cC]⟩
     obtain ⟨c1,c2⟩:=k5 i v hv
     rw[add_plain] at c1
     exact ⟨c1,c2,by simp[G0],by simp[G0]⟩
  ·rename_i fs ht
   simp only[Bool.and_eq_true,decide_eq_true_eq] at hp
   obtain ⟨hlt,hp⟩:=hp
   rw[Array.all_eq_true_iff_forall_mem] at hp
   obtain ⟨xs,n,rfl,rfl,hlen,hxl,hread⟩:=DataW.trod_struct ht hx
   obtain ⟨-,hsum,hoff⟩:=kid_struct hl hlt ht
   obtain ⟨xss,q1,q2,q3,q4⟩:=lq (P:=P) (R:=fun (f:Field) cs=>Fits P k f.type cs) (G:=G0) (w:=w) hB cs
    (fun f us d=>hP P k f.type=true∧∃y,DataW.trod enc P w 0 (fun _=>true) true n f.type us=some y∧y.1=d∧∀m∈d.weights P f.type,m≤reachBytes)
    (fun f us d ⟨h1,y,h2,h3,h4⟩=>by subst h3;exact ih f.type h1 n us y h2 h4) fs.toList (xs.map (·.1)) 0 (by simp[hxl]) (fun j f hj=>by rw[hoff j f hj];omega) (by rw[hlen,hsum];omega)
    (fun i f d hi hd=>by
     refine ⟨hp f (by have:=List.mem_of_getElem? hi;simpa using this),?_⟩
     have h:=hread i f (by simpa using hi)
     rw[List.getElem?_map] at hd
     cases hxi:xs[i]? with
     |none=>rw[hxi] at hd;cases hd
     |some y=>
      rw[hxi] at h hd
      refine ⟨y,h,by simpa using hd,fun m hm=>hwt m ?_⟩
      simp only[DataW.weights,ht]
      exact DataW.weights_mem_each (j:=i) (t:=f.type) (d:=d) (by rw[List.getElem?_map,hi];rfl) (by rw[List.getElem?_map,hxi];exact hd) m hm)
   refine ⟨xss.flatten,by simp only[Fits,ht];exact ⟨xss,rfl,q1⟩,by simpa using q2,by simpa using q3,?_⟩
   rw[hB.agg];omega
  ·cases hp
def lr (P:Program) (k:Nat) (t:TypeId) (a:AV):Prop:=∃cs,Fits P k t cs∧a=dK P t cs
theorem Aq {k:Nat} {t:TypeId} {v:Value} {xs:List AV} {base:Nat} (hp:hP P k t=true) (hok:Value.okWide P w .any base t v) (hr:aq G0 w xs v.cells.toList) (ho:∀u∈v.cells.toList,One u):ah G0 w (dK P t xs) v:=by
 unfold dK
 cases ha:bW P t with
 |true=>
  have:∃cs,v= .agg cs:=by
   unfold bW at ha
   unfold Value.okWide at hok
   split at ha
   ·rename_i h;rw[h] at hok;obtain ⟨cs,h,-⟩:=hok;exact ⟨cs,h⟩
   ·rename_i h;rw[h] at hok;obtain ⟨cs,h,-⟩:=hok;exact ⟨cs,h⟩
   ·cases ha
  obtain ⟨cs,rfl⟩:=this
  simp only[if_true,ah]
  exact ⟨cs.toList,by simp,by simpa [Value.cells] using hr⟩
 |false=>
  have hv:v.cells= #[v]:=by
   cases v<;>try rfl
   exfalso
   cases k with
   |zero=>cases hp
   |succ k=>
    unfold hP at hp
    unfold bW at ha
    unfold Value.okWide Cell.okWide Cell.ok at hok
    split at hp
    all_goals (try (rename_i h;rw[h] at hok ha;simp at hok ha;done))
    all_goals (try (rename_i h;rw[h] at hok ha;simp at hok;done))
    all_goals simp_all
  rw[hv] at hr
  have hl:=hr.length
  obtain ⟨x,rfl⟩:=List.length_eq_one_iff.1 (show xs.length=1 by simpa using hl.symm)
  simp only[aq] at hr
  obtain ⟨v',us,e1,hx,e2⟩:=hr
  cases e1
  simpa using hx
theorem so (hl:laidOutB P=true) {B:DataW H→Nat} {BL:List (DataW H)→Nat} (hB:mL B BL) {k:Nat} {base:Nat}:∀{ts us:List TypeId} {vs:List Value} {ds:List (DataW H)} {ps:List MemPlace},(∀t∈ts,hP P k t=true)→
  (∀(j:Nat) t v,ts[j]? =some t→vs[j]? =some v→Value.okWide P w .any base t v)→(∀n∈DataW.weightsEach P (ts++us) ds,n≤reachBytes)→DataW.TrodAll enc P w 0 (fun _=>true) true ts vs ds ps→∃avs,si (lr P k) ts avs∧aq G0 w avs vs∧cv avs≤BL ds
 |[],us,[],[],_,_,_,_,_=>⟨[],.nil,.nil,by simp[cv]⟩
 |t::ts,us,v::vs,d::ds,_,hp,hok,hwt,⟨p,q,⟨fuel,h1⟩,h2,_⟩=>by
  obtain ⟨xs,f1,f2,f3,f4⟩:=wx hl hB k t (hp t (by simp)) fuel _ _ h1 (fun n hn=>hwt n (by simp only[List.cons_append,DataW.weightsEach,List.mem_append];exact .inl hn))
  obtain ⟨avs,g1,g2,g3⟩:=so hl hB (us:=us) (fun t ht=>hp t (by simp[ht])) (fun j t v a b=>hok (j+1) t v (by simpa using a) (by simpa using b)) (fun n hn=>hwt n (by simp only[List.cons_append,DataW.weightsEach,List.mem_append];exact .inr hn)) h2
  refine ⟨dK P t xs::avs,.cons ⟨xs,f1,rfl⟩ g1,.cons (Aq (hp t (by simp)) (hok 0 t v rfl rfl) f2 f3) g2,?_⟩
  have:=pM P t xs
  simp only[cv,hB.cons] at f4 ⊢
  omega
theorem mJ {sp:Nat→Bool}:∀{ts:List TypeId} {vs:List Value} {ds:List (DataW H)} {ps:List MemPlace},DataW.TrodAll enc P w 0 sp true ts vs ds ps→ds.length=ts.length
 |[],[],[],_,h=>rfl
 |t::ts,v::vs,d::ds,_,⟨p,q,h1,h2,e⟩=>by simp[mJ h2]
theorem kj {w':World} {sp:Nat→Bool}:∀{ts:List TypeId} {vs:List Value} {ds:List (DataW H)} {ps:List MemPlace},DataW.TrodAll enc P w 0 sp true ts vs ds ps→(∀p∈ps,w.sameAt w' p)→DataW.TrodAll enc P w' 0 sp true ts vs ds ps
 |[],[],[],_,h,_=>h
 |t::ts,v::vs,d::ds,_,⟨p,q,⟨fuel,h1⟩,h2,e⟩,hs=>by
  subst e
  exact ⟨p,q,⟨fuel,DataW.trod_carry fuel _ _ _ h1 (fun x hx=>hs x (List.mem_append_left _ hx))⟩,kj h2 (fun x hx=>hs x (List.mem_append_right _ hx)),rfl⟩
theorem wy (hl:laidOutB P=true) {B:DataW H→Nat} {BL:List (DataW H)→Nat} (hB:mL B BL) (hm:mapsRowed P=true) (hz:∀t e,t<P.types.size→P.underlying t=some (.slice e)→0<P.cellsOf e) {f:FuncId} {fn:Func} {s:ChangeSpec} {k base:Nat} {W:World} {args:Array Value} {ds gs:List (DataW H)} {before:List MemPlace} {tb:TypeId}
  (hvars:s.vars=[]) (hfn:∀l:List (DataW H),l.length=fn.params.size→s.fn H l= {results:=[.lit (.bool true)],args:=l}) (hrt:fn.resultTypes= #[tb]) (htb:P.underlying tb=some .bool)
  (hpl':fn.params.toList.all (hP P k)=true) (hlt':fn.params.toList.all (fun t=>decide (t<P.types.size))=true)
  (hval:∀(j:Nat) t v,fn.params[j]? =some t→args[j]? =some v→Value.okWide P W .any base t v) (hW:DataW.Whole enc P fn.params.toList s.vars false W args.toList ds gs before)
  {us:List TypeId} (hwt:(DataW.weightsEach P (fn.params.toList++us) (ds++gs)).all (· ≤reachBytes)=true)
  (law:∀avs,si (lr P k) fn.params.toList avs→cv avs≤BL (ds++gs)→aA P f avs (.bool true)):
  Calls P f args W fun e W'=>∃v,e= .returned v∧s.post enc P fn false true false false W args v W':=by
 have hpl:∀t∈fn.params.toList,hP P k t=true:=List.all_eq_true.1 hpl'
 have hlt:∀t∈fn.params.toList,t<P.types.size:=fun t ht=>of_decide_eq_true (List.all_eq_true.1 hlt' t ht)
 have hW':=hW
 obtain ⟨p,q,hA,hV,rfl,-,-⟩:=hW
 rw[hvars] at hV
 obtain ⟨rfl,rfl⟩:=trodVars_none hV
 rw[List.append_nil] at hwt law
 obtain ⟨avs,g1,g2,g3⟩:=so hl hB hpl (fun j t v a b=>hval j t v (by simpa using a) (by simpa using b)) (fun n hn=>of_decide_eq_true (List.all_eq_true.1 hwt n hn)) hA
 have hlaw:=law avs g1 g3 0 0 G0 W args.toList g2 eA ⟨fun _ _ _ h=>h,fun _ _ _ h=>h⟩
 rw[show args.toList.toArray=args from Array.toArray_toList] at hlaw
 refine hlaw.mono ?_
 rintro e W' ⟨v,G',he,T,-,hv⟩
 subst he
 simp only[ah] at hv
 subst hv
 have keep:∀B,B<W.heap.size→W'.heap[B]? =W.heap[B]? :=fun B hB=>T.keep B hB (fun x=>cr B x) (fun ⟨t,ht,_⟩=>by simp[H0,Av.H.only] at ht)
 have hlt':∀x∈p,x.block<W.heap.size:=DataW.TrodAll.lt hA
 have hlen:=mJ hA
 refine ⟨_,rfl,ds,[],p++[],[],p,[],hW',?_,?_,?_,?_,fun h=>by cases h⟩
 ·rw[hfn _ (by simpa using hlen),hrt]
  exact trodAll_mk1 (shut_bool htb _)
 ·rw[hfn _ (by simpa using hlen)]
  have:=DataW.TrodAll.respare (kids_rows hl hm) hz (spare':=fun b=>decide (b<W.heap.size)) hlt hA (fun x hx=>by simpa using hlt' x hx)
  simp only[List.append_nil]
  refine kj this fun x hx=>?_
  have hb:=hlt' x hx
  cases x with
  |cell b off=>unfold World.sameAt World.cell?;simp only;rw[keep b hb]
  |map b=>exact keep b hb
 ·rw[hvars,hfn _ (by simpa using hlen)]
  rfl
 ·refine ⟨T.os,T.output,fun i hi=>?_⟩
  rw[keep i hi]
  generalize W.heap[i]? =o
  cases o with
  |none=>rfl
  |some o=>cases o<;>simp
end
end Go.Av
end
section
set_option maxRecDepth 100000
namespace Go.Proofs.YtpehfflehebmbaaGreat.Reads
open Go Go.Av Go.Proofs Go.Proofs.YtpehfflehebmbaaGreat.C
theorem laid:laidOutB Tryz.prog=true:=by kernel_rfl
theorem Bk:mapsRowed Tryz.prog=true:=by kernel_rfl
theorem full:∀t e,t<Tryz.prog.types.size→Tryz.prog.underlying t=some (.slice e)→0<Tryz.prog.cellsOf e:=slices_full_of Tryz.prog (by kernel_rfl)
theorem own:ownKnob Tryz.prog.godebug=none:=by kernel_rfl
theorem CX {H:Type}:mL (H:=H) Rows.uptoBulk Rows.uptoBulkAll:=
 ⟨fun l=>by simp[Rows.uptoBulk],fun k n=>by simp[Rows.uptoBulk],fun b=>by simp[Rows.uptoBulk],by simp[Rows.uptoBulk],fun a b=>by simp[Rows.uptoBulk],fun a=>by simp[Rows.uptoBulk],by simp[Rows.uptoBulkAll],fun d l=>by simp[Rows.uptoBulkAll]⟩
theorem ou {α:Type} {t:TypeId} {k:Nat} {enc:α→AV} {Q:α→Prop} (h1:∀cs,Fits Tryz.prog k t cs→∃x,dK Tryz.prog t cs=enc x∧Q x):∀{ys:List AV},(∀y∈ys,∃cs,Fits Tryz.prog k t cs∧y=dK Tryz.prog t cs)→∃l:List α,ys=l.map enc∧∀x∈l,Q x
 |[],_=>⟨[],rfl,by simp⟩
 |y::ys,h=>by
  obtain ⟨l,rfl,hl⟩:=ou h1 (ys:=ys) (fun z hz=>h z (by simp[hz]))
  obtain ⟨cs,g1,g2⟩:=h y (by simp)
  obtain ⟨x,e,q⟩:=h1 cs g1
  refine ⟨x::l,by simp[g2,e],fun z hz=>?_⟩
  rcases List.mem_cons.1 hz with rfl|hz
  ·exact q
  ·exact hl z hz
end Go.Proofs.YtpehfflehebmbaaGreat.Reads
end
section
set_option maxRecDepth 10000
namespace Go.Proofs.YtpehfflehebmbaaGreat.Reads
open Go Go.Av Go.Proofs Go.Proofs.YtpehfflehebmbaaGreat.C Go.Proofs.YtpehfflehebmbaaGreat.Batch
structure Df (k:List Bs) (l:List Sp) (n:Nat):Prop where
 nf:NF l
 rise:bL k
 un:∀x∈k,aR l x=false
 kn:k.length≤n
 ln:l.length≤n
def LsS (l:List Sp):Prop:=∀i,Ls (l.getD i default).f∧Ls (l.getD i default).t
def LsK (k:List Bs):Prop:=∀i,Ls (k.getD i [])
theorem ov:Ls []:=by unfold Ls;simp
theorem LsS.of {l:List Sp} (h:∀s∈l,Ls s.f∧Ls s.t):LsS l:=by
 intro i
 by_cases hi:i<l.length
 ·rw[ar hi];exact h _ (List.getElem_mem hi)
 ·rw[List.getD_eq_getElem?_getD,List.getElem?_eq_none (by omega)];exact ⟨ov,ov⟩
theorem LsK.of {k:List Bs} (h:∀s∈k,Ls s):LsK k:=by
 intro i
 by_cases hi:i<k.length
 ·rw[ar hi];exact h _ (List.getElem_mem hi)
 ·rw[List.getD_eq_getElem?_getD,List.getElem?_eq_none (by omega)];exact ov
theorem fB (l:List Sp) (hl:l.length≤1000000) (hs:LsS l) (q:Bs) (hq:Ls q):aA Tryz.prog 136 [.sl 2 (sps l) .any,.str q] (.bool (aR l q)):=by
 refine f136.aD (by simp) (by simp[al,av,aG,cG]) rfl ?_
 unfold CD
 simp only[C.zz]
 refine lJ ?_
 refine Wp.cZ [0,1] xA6 (fun j:Nat=>[(5,.int .i64 j)]) (fun j=>j≤l.length∧∀i,i<j→fz (l.getD i default) q=false) (fun j=>l.length - j) 0 ⟨Nat.zero_le _,fun i h=>absurd h (by omega)⟩ ?_ ?_
 ·exact xSb
 rintro j ⟨hj,hn⟩
 by_cases hc:j<l.length
 ·have g1:decide ((j:Int)<(l.length:Int))=true:=decide_eq_true (by omega)
  have h2:(0:Int)≤(j:Int):=by omega
  have h3:(j:Int)<(l.length:Int):=by omega
  have e1:IntKind.i64.wrap ((j:Int)+1)=((j+1:Nat):Int):=by rw[IntWalk.i64_in _ (by omega)];omega
  cases hw:fz (l.getD j default) q with
  |true=>
   have hsp:aR l q=true:=List.any_eq_true.2 ⟨l.getD j default,by rw[ar hc];exact List.getElem_mem hc,hw⟩
   refine an1 (cj9 g1 h2 h3 e1 @az @Int.toNat_natCast (fun d=>bt _ _ d hc) @aX.eq_1 hw) (pe (l.getD j default) q (hs j).1 (hs j).2 hq) ?_
   refine aJ ?_
   rw[hsp];exact ab.refl _
  |false=>
   refine an1 (cj9 g1 h2 h3 e1 @az @Int.toNat_natCast (fun d=>bt _ _ d hc) @aX.eq_1 hw) (pe (l.getD j default) q (hs j).1 (hs j).2 hq) ?_
   refine ⟨j+1,⟨by omega,fun i hi=>?_⟩,by omega,?_⟩
   ·by_cases e:i=j
    ·subst e;exact hw
    ·exact hn i (by omega)
   ·exact xSu
 ·obtain rfl:j=l.length:=by omega
  have g1:decide ((l.length:Int)<(l.length:Int))=false:=decide_eq_false (by omega)
  have hsp:aR l q=false:=List.any_eq_false.2 fun s hss=>by
   obtain ⟨i,hi,rfl⟩:=List.mem_iff_getElem.1 hss
   have:=hn i hi
   rw[ar hi] at this
   simp[this]
  refine an0 (cj2 g1 @az) ?_
  refine aJ ?_
  rw[hsp];exact ab.refl _
theorem fE (k:List Bs) (l:List Sp) (hk:LsK k) (hl:LsS l):aA Tryz.prog 114 [bT k l] (.bool (bg k l)):=by
 refine f114.aD (by simp) (by simp[al,cJ]) rfl ?_
 unfold Cm
 simp only[C.zz]
 refine Wp.aw (by simp only[go_sem,reduceIte,Nat.reduceEqDiff,Nat.reduceAdd,bx,bT];exact rfl) (by trivial) ?_
 refine Wp.frz (fun _=>true) [(1,.ref [.sl 1 (strs k) .any,.sl 2 (sps l) .any])] ⟨ag,1,[],0⟩ ?_ (OLe.none _) (by simp) (by simp[go_sem]) (Nat.le_refl _) ?_
 ·simp only[aC,go_sem,reduceIte,Nat.reduceEqDiff,unT,and_true]
  exact ab.refl _
 by_cases b1:k.length≤64
 rotate_left
 ·have d1:decide ((64:Int)<(k.length:Int))=true:=decide_eq_true (by omega)
  refine an0 (cj2 d1 @ao) ?_
  refine aJ ?_
  simp only[bg,decide_eq_false b1,Bool.false_and]
  exact ab.refl _
 have d1:decide ((64:Int)<(k.length:Int))=false:=decide_eq_false (by omega)
 by_cases b2:l.length≤64
 rotate_left
 ·have d2:decide ((64:Int)<(l.length:Int))=true:=decide_eq_true (by omega)
  refine an0 (cj4 d1 d2 @ao @az) ?_
  refine aJ ?_
  simp only[bg,decide_eq_false b2,Bool.and_false,Bool.false_and]
  exact ab.refl _
 have d2:decide ((64:Int)<(l.length:Int))=false:=decide_eq_false (by omega)
 refine an0 (cj4 d1 d2 @ao @az) ?_
 refine Wp.cZ [1] xA6 (fun j:Nat=>[(3,.int .i64 j)]) (fun j=>j≤l.length∧∀i,i<j→jr l i=true) (fun j=>l.length - j) 0 ⟨Nat.zero_le _,fun i h=>absurd h (by omega)⟩ ?_ ?_
 ·exact xSb
 rintro j ⟨hj,hs⟩
 by_cases hc:j<l.length
 ·have g1:decide ((j:Int)<(l.length:Int))=true:=decide_eq_true (by omega)
  have h2:(0:Int)≤(j:Int):=by omega
  have h3:(j:Int)<(l.length:Int):=by omega
  have e1:IntKind.i64.wrap ((j:Int)+1)=((j+1:Nat):Int):=by rw[IntWalk.i64_in _ (by omega)];omega
  have key:∀{b:Bool},jr l j=b→(b=true→∀i,i<j+1→jr l i=true)∧(b=false→bg k l=false):=by
   intro b hb
   refine ⟨fun h i hi=>?_,fun h=>?_⟩
   ·by_cases e:i=j
    ·subst e;rw[hb,h]
    ·exact hs i (by omega)
   ·have:mF l=false:=eM hc (hb.trans h)
    simp[bg,this]
  cases ha:hasB (l.getD j default) with
  |false=>
   have q:=(key (b:=false) (by simp only[jr,ha,Bool.false_and])).2 rfl
   refine an1 (cj9 g1 h2 h3 e1 @az @Int.toNat_natCast (fun d=>bt _ _ d hc) @aX.eq_1 ha) (lL (l.getD j default) (hl j).1 (hl j).2) ?_
   refine aJ ?_
   rw[q];exact ab.refl _
  |true=>
   by_cases hz:j=0
   ·have g2:decide ((0:Int)<(j:Int))=false:=decide_eq_false (by omega)
    have q:=(key (b:=true) (by simp only[jr,ha,hz,decide_true,Bool.true_or,Bool.and_self] at ha ⊢;simp only[ha,Bool.and_self])).1 rfl
    refine an1 (fR g1 g2 h2 h3 e1 @az @Int.toNat_natCast (fun d=>bt _ _ d hc) @aX.eq_1 ha) (lL (l.getD j default) (hl j).1 (hl j).2) ?_
    refine ⟨j+1,⟨by omega,q⟩,by omega,?_⟩
    exact xSu
   ·have g2:decide ((0:Int)<(j:Int))=true:=decide_eq_true (by omega)
    have e2:IntKind.i64.wrap ((j:Int) - 1)=((j - 1:Nat):Int):=by rw[IntWalk.i64_in _ (by omega)];omega
    have h4:(0:Int)≤((j - 1:Nat):Int):=by omega
    have h5:((j - 1:Nat):Int)<(l.length:Int):=by omega
    have h6:j - 1<l.length:=by omega
    have hq:jr l j=bc (l.getD (j - 1) default) (l.getD j default):=by simp only[jr,ha,decide_eq_false hz,Bool.true_and,Bool.false_or]
    cases he:decide ((l.getD (j - 1) default).t=[]) with
    |true=>
     have q:=(key (b:=false) (by rw[hq,bc,he];rfl)).2 rfl
     refine an1 (bD g1 g2 h2 h3 h4 h5 e1 e2 @az @Int.toNat_natCast (fun d=>bt _ _ d hc) (cj4 (fun d=>bt _ _ d h6) @aX.eq_1 ha he)) (lL (l.getD j default) (hl j).1 (hl j).2) ?_
     refine aJ ?_
     rw[q];exact ab.refl _
    |false=>
     cases hp:Op.bytesLess (l.getD (j - 1) default).t (l.getD j default).f with
     |true=>
      have q:=(key (b:=true) (by rw[hq,bc,he,hp];rfl)).1 rfl
      repeat (first
       |((first|apply Wp.seqItems|apply Wp.items|((first
         |(refine aa.bF ?_ ?_ (lL (l.getD j default) (hl j).1 (hl j).2) ?_;(· simp only[go_sem,reduceIte,Nat.reduceEqDiff,Nat.reduceAdd,bx]);(· simp only[go_sem,reduceIte,Nat.reduceEqDiff,Nat.reduceAdd,bx,List.map];first|exact af.refl _|(repeat (first|exact af.nil|refine af.cons xA5 ?_))))
         |(refine aa.bF ?_ ?_ (cI (l.getD (j - 1) default).t (l.getD j default).f (hl _).2 (hl _).1) ?_;(· simp only[go_sem,reduceIte,Nat.reduceEqDiff,Nat.reduceAdd,bx]);(· simp only[go_sem,reduceIte,Nat.reduceEqDiff,Nat.reduceAdd,bx,List.map];first|exact af.refl _|(repeat (first|exact af.nil|refine af.cons xA5 ?_)))));apply aa.eval));(· simp only[go_sem,reduceIte,Nat.reduceEqDiff,Nat.reduceAdd,bx,ax,if_true,if_false,Nat.reduceMul,Nat.reduceLeDiff,g1,g2,h2,h3,h4,h5,e1,e2,az,Int.toNat_natCast,bt _ _ _ hc,bt _ _ _ h6,aX,ha,he,hp];exact rfl))
       |(refine aa.nil ⟨?_,?_⟩;(· first|trivial|simp[ay,au,apart,aH]))
       |(apply Wp.bq;(· simp only[go_sem,reduceIte,Nat.reduceEqDiff,Nat.reduceAdd,bx,ax,if_true,if_false,Nat.reduceMul,Nat.reduceLeDiff,g1,g2,h2,h3,h4,h5,e1,e2,az,Int.toNat_natCast,bt _ _ _ hc,bt _ _ _ h6,aX,ha,he,hp];exact rfl);(· rfl))
       |refine Wp.skip ?_
       |refine Wp.label ?_
       |refine Wp.block ?_
       |refine Wp.exit ?_
       |refine Wp.seq ?_)
      refine ⟨j+1,⟨by omega,q⟩,by omega,?_⟩
      exact xSu
     |false=>
      have q:=(key (b:=false) (by rw[hq,bc,he,hp];rfl)).2 rfl
      repeat (first
       |((first|apply Wp.seqItems|apply Wp.items|((first
         |(refine aa.bF ?_ ?_ (lL (l.getD j default) (hl j).1 (hl j).2) ?_;(· simp only[go_sem,reduceIte,Nat.reduceEqDiff,Nat.reduceAdd,bx]);(· simp only[go_sem,reduceIte,Nat.reduceEqDiff,Nat.reduceAdd,bx,List.map];first|exact af.refl _|(repeat (first|exact af.nil|refine af.cons xA5 ?_))))
         |(refine aa.bF ?_ ?_ (cI (l.getD (j - 1) default).t (l.getD j default).f (hl _).2 (hl _).1) ?_;(· simp only[go_sem,reduceIte,Nat.reduceEqDiff,Nat.reduceAdd,bx]);(· simp only[go_sem,reduceIte,Nat.reduceEqDiff,Nat.reduceAdd,bx,List.map];first|exact af.refl _|(repeat (first|exact af.nil|refine af.cons xA5 ?_)))));apply aa.eval));(· simp only[go_sem,reduceIte,Nat.reduceEqDiff,Nat.reduceAdd,bx,ax,if_true,if_false,Nat.reduceMul,Nat.reduceLeDiff,g1,g2,h2,h3,h4,h5,e1,e2,az,Int.toNat_natCast,bt _ _ _ hc,bt _ _ _ h6,aX,ha,he,hp];exact rfl))
       |(refine aa.nil ⟨?_,?_⟩;(· first|trivial|simp[ay,au,apart,aH]))
       |(apply Wp.bq;(· simp only[go_sem,reduceIte,Nat.reduceEqDiff,Nat.reduceAdd,bx,ax,if_true,if_false,Nat.reduceMul,Nat.reduceLeDiff,g1,g2,h2,h3,h4,h5,e1,e2,az,Int.toNat_natCast,bt _ _ _ hc,bt _ _ _ h6,aX,ha,he,hp];exact rfl);(· rfl))
       |refine Wp.skip ?_
       |refine Wp.label ?_
       |refine Wp.block ?_
       |refine Wp.exit ?_
       |refine Wp.seq ?_)
      refine aJ ?_
      rw[q];exact ab.refl _
 obtain rfl:j=l.length:=by omega
 have g1:decide ((l.length:Int)<(l.length:Int))=false:=decide_eq_false (by omega)
 have hsp:mF l=true:=eI hs
 refine an0 (cj2 g1 @az) ?_
 refine Wp.cZ [1] xA6 (fun j:Nat=>[(4,.int .i64 j)]) (fun j=>j≤k.length∧∀i,i<j→kOk k l i=true) (fun j=>k.length - j) 0 ⟨Nat.zero_le _,fun i h=>absurd h (by omega)⟩ ?_ ?_
 ·exact xSb
 rintro j ⟨hj,hs'⟩
 by_cases hc:j<k.length
 ·have g1:decide ((j:Int)<(k.length:Int))=true:=decide_eq_true (by omega)
  have h2:(0:Int)≤(j:Int):=by omega
  have h3:(j:Int)<(k.length:Int):=by omega
  have e1:IntKind.i64.wrap ((j:Int)+1)=((j+1:Nat):Int):=by rw[IntWalk.i64_in _ (by omega)];omega
  have key:∀{b:Bool},kOk k l j=b→(b=true→∀i,i<j+1→kOk k l i=true)∧(b=false→bg k l=false):=by
   intro b hb
   refine ⟨fun h i hi=>?_,fun h=>?_⟩
   ·by_cases e:i=j
    ·subst e;rw[hb,h]
    ·exact hs' i (by omega)
   ·have:nJ k l=false:=eM hc (hb.trans h)
    simp[bg,this]
  have go:∀g:Bool,((decide (j=0)||Op.bytesLess (k.getD (j - 1) []) (k.getD j []))=g)→kOk k l j=(g&& !aR l (k.getD j [])):=fun g hg=>by simp only[kOk,hg]
  by_cases hz:j=0
  ·have g2:decide ((0:Int)<(j:Int))=false:=decide_eq_false (by omega)
   have hg:=go true (by simp[hz])
   cases hp:aR l (k.getD j []) with
   |true=>
    have q:=(key (b:=false) (by rw[hg,hp];rfl)).2 rfl
    refine an1 (cj9 g1 g2 h2 h3 e1 @ao @Int.toNat_natCast (fun d=>aV _ _ d hc) hp) (fB l (by omega) hl (k.getD j []) (hk j)) ?_
    refine aJ ?_
    rw[q];exact ab.refl _
   |false=>
    have q:=(key (b:=true) (by rw[hg,hp];rfl)).1 rfl
    refine an1 (cj9 g1 g2 h2 h3 e1 @ao @Int.toNat_natCast (fun d=>aV _ _ d hc) hp) (fB l (by omega) hl (k.getD j []) (hk j)) ?_
    refine ⟨j+1,⟨by omega,q⟩,by omega,?_⟩
    exact xSu
  ·have g2:decide ((0:Int)<(j:Int))=true:=decide_eq_true (by omega)
   have e2:IntKind.i64.wrap ((j:Int) - 1)=((j - 1:Nat):Int):=by rw[IntWalk.i64_in _ (by omega)];omega
   have h4:(0:Int)≤((j - 1:Nat):Int):=by omega
   have h5:((j - 1:Nat):Int)<(k.length:Int):=by omega
   have h6:j - 1<k.length:=by omega
   have hg:=go _ (show _=Op.bytesLess (k.getD (j - 1) []) (k.getD j []) by simp[hz])
   cases hp:Op.bytesLess (k.getD (j - 1) []) (k.getD j []) with
   |false=>
    have q:=(key (b:=false) (by rw[hg,hp];rfl)).2 rfl
    repeat (first
     |((first|apply Wp.seqItems|apply Wp.items|((first
       |(refine aa.bF ?_ ?_ (cI (k.getD (j - 1) []) (k.getD j []) (hk _) (hk _)) ?_;(· simp only[go_sem,reduceIte,Nat.reduceEqDiff,Nat.reduceAdd,bx]);(· simp only[go_sem,reduceIte,Nat.reduceEqDiff,Nat.reduceAdd,bx,List.map];first|exact af.refl _|(repeat (first|exact af.nil|refine af.cons xA5 ?_)))));apply aa.eval));(· simp only[go_sem,reduceIte,Nat.reduceEqDiff,Nat.reduceAdd,bx,ax,if_true,if_false,Nat.reduceMul,Nat.reduceLeDiff,g1,g2,h2,h3,h4,h5,e1,e2,ao,Int.toNat_natCast,aV _ _ _ hc,aV _ _ _ h6,hp];exact rfl))
     |(refine aa.nil ⟨?_,?_⟩;(· first|trivial|simp[ay,au,apart,aH]))
     |(apply Wp.bq;(· simp only[go_sem,reduceIte,Nat.reduceEqDiff,Nat.reduceAdd,bx,ax,if_true,if_false,Nat.reduceMul,Nat.reduceLeDiff,g1,g2,h2,h3,h4,h5,e1,e2,ao,Int.toNat_natCast,aV _ _ _ hc,aV _ _ _ h6,hp];exact rfl);(· rfl))
     |refine Wp.skip ?_
     |refine Wp.label ?_
     |refine Wp.block ?_
     |refine Wp.exit ?_
     |refine Wp.seq ?_)
    refine aJ ?_
    rw[q];exact ab.refl _
   |true=>
    cases hp2:aR l (k.getD j []) with
    |true=>
     have q:=(key (b:=false) (by rw[hg,hp,hp2];rfl)).2 rfl
     repeat (first
      |((first|apply Wp.seqItems|apply Wp.items|((first
        |(refine aa.bF ?_ ?_ (cI (k.getD (j - 1) []) (k.getD j []) (hk _) (hk _)) ?_;(· simp only[go_sem,reduceIte,Nat.reduceEqDiff,Nat.reduceAdd,bx]);(· simp only[go_sem,reduceIte,Nat.reduceEqDiff,Nat.reduceAdd,bx,List.map];first|exact af.refl _|(repeat (first|exact af.nil|refine af.cons xA5 ?_))))
        |(refine aa.bF ?_ ?_ (fB l (by omega) hl (k.getD j []) (hk j)) ?_;(· simp only[go_sem,reduceIte,Nat.reduceEqDiff,Nat.reduceAdd,bx]);(· simp only[go_sem,reduceIte,Nat.reduceEqDiff,Nat.reduceAdd,bx,List.map];first|exact af.refl _|(repeat (first|exact af.nil|refine af.cons xA5 ?_)))));apply aa.eval));(· simp only[go_sem,reduceIte,Nat.reduceEqDiff,Nat.reduceAdd,bx,ax,if_true,if_false,Nat.reduceMul,Nat.reduceLeDiff,g1,g2,h2,h3,h4,h5,e1,e2,ao,Int.toNat_natCast,aV _ _ _ hc,aV _ _ _ h6,hp,hp2];exact rfl))
      |(refine aa.nil ⟨?_,?_⟩;(· first|trivial|simp[ay,au,apart,aH]))
      |(apply Wp.bq;(· simp only[go_sem,reduceIte,Nat.reduceEqDiff,Nat.reduceAdd,bx,ax,if_true,if_false,Nat.reduceMul,Nat.reduceLeDiff,g1,g2,h2,h3,h4,h5,e1,e2,ao,Int.toNat_natCast,aV _ _ _ hc,aV _ _ _ h6,hp,hp2];exact rfl);(· rfl))
      |refine Wp.skip ?_
      |refine Wp.label ?_
      |refine Wp.block ?_
      |refine Wp.exit ?_
      |refine Wp.seq ?_)
     refine aJ ?_
     rw[q];exact ab.refl _
    |false=>
     have q:=(key (b:=true) (by rw[hg,hp,hp2];rfl)).1 rfl
     repeat (first
      |((first|apply Wp.seqItems|apply Wp.items|((first
        |(refine aa.bF ?_ ?_ (cI (k.getD (j - 1) []) (k.getD j []) (hk _) (hk _)) ?_;(· simp only[go_sem,reduceIte,Nat.reduceEqDiff,Nat.reduceAdd,bx]);(· simp only[go_sem,reduceIte,Nat.reduceEqDiff,Nat.reduceAdd,bx,List.map];first|exact af.refl _|(repeat (first|exact af.nil|refine af.cons xA5 ?_))))
        |(refine aa.bF ?_ ?_ (fB l (by omega) hl (k.getD j []) (hk j)) ?_;(· simp only[go_sem,reduceIte,Nat.reduceEqDiff,Nat.reduceAdd,bx]);(· simp only[go_sem,reduceIte,Nat.reduceEqDiff,Nat.reduceAdd,bx,List.map];first|exact af.refl _|(repeat (first|exact af.nil|refine af.cons xA5 ?_)))));apply aa.eval));(· simp only[go_sem,reduceIte,Nat.reduceEqDiff,Nat.reduceAdd,bx,ax,if_true,if_false,Nat.reduceMul,Nat.reduceLeDiff,g1,g2,h2,h3,h4,h5,e1,e2,ao,Int.toNat_natCast,aV _ _ _ hc,aV _ _ _ h6,hp,hp2];exact rfl))
      |(refine aa.nil ⟨?_,?_⟩;(· first|trivial|simp[ay,au,apart,aH]))
      |(apply Wp.bq;(· simp only[go_sem,reduceIte,Nat.reduceEqDiff,Nat.reduceAdd,bx,ax,if_true,if_false,Nat.reduceMul,Nat.reduceLeDiff,g1,g2,h2,h3,h4,h5,e1,e2,ao,Int.toNat_natCast,aV _ _ _ hc,aV _ _ _ h6,hp,hp2];exact rfl);(· rfl))
      |refine Wp.skip ?_
      |refine Wp.label ?_
      |refine Wp.block ?_
      |refine Wp.exit ?_
      |refine Wp.seq ?_)
     refine ⟨j+1,⟨by omega,q⟩,by omega,?_⟩
     exact xSu
 obtain rfl:j=k.length:=by omega
 have g1:decide ((k.length:Int)<(k.length:Int))=false:=decide_eq_false (by omega)
 have hk:nJ k l=true:=eI hs'
 refine an0 (cj2 g1 @ao) ?_
 refine aJ ?_
 simp only[bg,decide_eq_true b1,decide_eq_true b2,hsp,hk,Bool.and_self]
 exact ab.refl _
theorem Bl {g:Nat→Option Av.Obj} {A B B':Av.Obj} (h1:g 0=some A) (h2:g 1=some B) (hs:cq B B'):OLe g (upd (upd ag 0 (some A)) 1 (some B')):=OLe.put (OLe.at h1) h2 hs
def mkR (l:List Sp) (ks:List Bs):List Bs:=ks.filter fun x=> !aR l x
theorem yA (l:List Sp) {ks:List Bs} {j:Nat} (h:j<ks.length):mkR l (ks.take (j+1))=if aR l (ks.getD j [])=true then mkR l (ks.take j) else mkR l (ks.take j)++[ks.getD j []]:=by
 rw[Av.bJ [] h,mkR,List.filter_append,List.filter_cons,List.filter_nil]
 cases aR l (ks.getD j [])<;>simp[mkR]
set_option maxHeartbeats 1000000 in
theorem uO (ks:List Bs) (l:List Sp) (hk:ks.length≤1000) (hl:l.length≤1000) (lk:LsK ks) (ll:LsS l):aA Tryz.prog 115 [.sl 1 (strs ks) .any,.sl 2 (sps l) .any] (.tup [bT (mkR l ks) l,.bool (decide ((mkR l ks).length≤64)&&decide (l.length≤64))]):=by
 refine f115.aD (by simp) (by simp[al,av,aG,du,cG]) (by simp[av,al,cJ]) ?_
 unfold Cn
 simp only[C.zz]
 refine rn0 @ao ?_
 refine Wp.le (aU.tok _ _) ?_
 refine Wp.le (aU.of (fun i=>ab.refl _) (Bl (A:= .cells [.sl 1 [] (.exact 0),.sl 2 [] (.exact 0)]) (B:= .cells [.sl 1 [] (.exact 0),.sl 2 [] (.exact 0)]) (B':= .cells [.sl 1 (strs []) (.own 0),.sl 2 [] (.exact 0)]) (by simp[upd]) (by simp[upd]) (af.cons (ab.eL rfl) (af.refl _))) (fun _ h=>h) (Nat.le_refl _) (Nat.le_refl _)) ?_
 refine Wp.mz (β:=Nat × Nat × Nat) [0,1,4,6] xA7 (fun j=>[(7,.int .i64 (j.1:Nat))]) (fun j=>⟨upd (upd ag 0 (some (.cells [.sl 1 [] (.exact 0),.sl 2 [] (.exact 0)]))) 1 (some (.cells [.sl 1 (strs (mkR l (ks.take j.1))) (.own j.2.1),.sl 2 [] (.exact 0)])),2,[j.2.1],j.2.2⟩) (fun j=>j.1≤ks.length) (fun j=>ks.length - j.1) (0,0,1) (Nat.zero_le _) rfl ?_ ?_
 ·exact xSb
 rintro ⟨j,tk,m⟩ hj
 simp only at hj ⊢
 have hfl:(mkR l (ks.take j)).length≤1000:=by
  have:=List.length_filter_le (fun x=> !aR l x) (ks.take j)
  rw[List.length_take] at this
  unfold mkR;omega
 have r1:((mkR l (ks.take j)).length+1)*16≤140737488355328:=by omega
 have r2:(mkR l (ks.take j)).length+1<4611686018427387904:=by omega
 by_cases hc:j<ks.length
 ·obtain ⟨g1,h2,h3,e1⟩:=ixF (j:=j) (n:=ks.length) (by omega) (by omega)
  have hsp:=fB l (by omega) ll (ks.getD j []) (lk j)
  have hsn:=yA l hc
  generalize hnx:mkR l (ks.take (j+1))=nx at*
  generalize mkR l (ks.take j)=o at*
  cases hb:aR l (ks.getD j []) with
  |true=>
   rw[hb] at hsp hsn
   refine rn1 (cj6 g1 h2 h3 e1 @ao (fun d=>aV _ _ d hc)) hsp ?_
   refine ⟨(j+1,tk,m),by simp only;omega,by simp only;omega,?_⟩
   rw[if_pos rfl] at hsn
   simp only[hnx,hsn]
   exact xSu
  |false=>
   rw[hb] at hsp hsn
   refine rn1 (lI g1 h2 h3 e1 @ao (fun d=>aV _ _ d hc) @List.length_cons.{0} @List.length_nil.{0} @Nat.zero_add r1 r2) hsp ?_
   rw[if_neg Bool.false_ne_true] at hsn
   have hss:strs o++[.str (ks.getD j [])]=strs (o++[ks.getD j []]):=by simp[strs]
   refine ⟨(j+1,m,m+1),by simp only;omega,by simp only;omega,?_⟩
   simp only[hnx,hsn]
   refine aU.of (dr ?_) (Bl (A:= .cells [.sl 1 [] (.exact 0),.sl 2 [] (.exact 0)]) (B:= .cells [.sl 1 (strs o++[.str (ks.getD j [])]) (.own m),.sl 2 [] (.exact 0)]) (by simp[upd]) (by simp[upd]) (af.cons (ab.of_eq (by rw[hss])) (af.refl _))) (fun _ h=>h) (Nat.le_refl _) (Nat.le_refl _)
   exact xSb
 ·have hje:j=ks.length:=by omega
  subst hje
  have g1:=ixE (ks.length)
  rw[List.take_length] at*
  have c1:decide (((mkR l ks).length:Int)≤64)=decide ((mkR l ks).length≤64):=by simp;omega
  have c2:decide ((l.length:Int)≤64)=decide (l.length≤64):=by simp;omega
  cases hd:decide ((mkR l ks).length≤64) with
  |true=>
   rw[hd] at c1
   refine rn0 (cj5 g1 @ao @az c1 c2) ?_
   refine aJ ?_
   exact ab.tup (af.cons (ab.agg (af.cons ab.own (af.refl _))) (af.refl _))
  |false=>
   rw[hd] at c1
   refine rn0 (cj5 g1 @ao @az c1 c2) ?_
   refine aJ ?_
   exact ab.tup (af.cons (ab.agg (af.cons ab.own (af.refl _))) (af.refl _))
def kGo (q:Bs):Bool→List Bs→List Bs
 |laid,[]=>if laid then [] else [q]
 |laid,p::l=>(if laid=false∧Op.bytesLess p q=false then [q] else [])++((if p=q then [] else [p])++kGo q (laid|| !Op.bytesLess p q) l)
theorem sq (q:Bs):∀l:List Bs,(∀p∈l,p≠q)→kGo q true l=l
 |[],_=>rfl
 |p::l,h=>by
  rw[kGo,if_neg (h p (by simp))]
  simp only[Bool.true_eq_false,false_and,if_false,List.nil_append,Bool.true_or,List.singleton_append]
  rw[sq q l fun x hx=>h x (by simp[hx])]
theorem ow (x:Bs) (k:List Bs) (q:Bs):place (x::k) q=if Op.bytesLess x q=true then place k q+1 else 0:=by
 simp only[place,List.findIdx_cons]
 cases h:Op.bytesLess x q<;>simp
theorem tI (x:Bs) (k:List Bs) (q:Bs):there (x::k) q=if Op.bytesLess x q=true then there k q else decide (x=q):=by
 simp only[there,ow]
 cases h:Op.bytesLess x q<;>simp
theorem yB (x:Bs) (k:List Bs) (q:Bs):ja (x::k) q=if Op.bytesLess x q=true then x::ja k q else if x=q then x::k else q::x::k:=by
 simp only[ja,tI,ow]
 by_cases h:Op.bytesLess x q=true
 ·simp only[if_pos h,List.take_succ_cons,List.drop_succ_cons,List.cons_append]
  split<;>rfl
 ·simp only[if_neg h]
  by_cases e:x=q<;>simp[e]
theorem tJ (q:Bs):∀k:List Bs,bL k→kGo q false k=ja k q
 |[],_=>by simp[kGo,ja,there,place]
 |x::k,hr=>by
  obtain ⟨h1,h2⟩:=List.pairwise_cons.1 hr
  have ih:=tJ q k h2
  rw[yB,kGo]
  by_cases h:Op.bytesLess x q=true
  ·have hn:x≠q:=fun e=>by rw[e,bk] at h;cases h
   rw[if_pos h,←ih]
   simp[h,hn]
  ·have h':Op.bytesLess x q=false:=by simpa using h
   have ht:=sq q k fun y hy e=>by
    have:=h1 y hy
    rw[e,h'] at this;cases this
   rw[if_neg h]
   by_cases e:x=q
   ·subst e;simp[h',ht]
   ·simp[h',e,ht]
theorem uP (q:Bs):∀(l:List Bs) (b:Bool),(kGo q b l).length≤l.length+1
 |[],b=>by cases b<;>simp[kGo]
 |p::l,b=>by
  have key:∀(l:List Bs),(kGo q true l).length≤l.length:=by
   intro l
   induction l with
   |nil=>simp[kGo]
   |cons p l ih=>
    rw[kGo]
    simp only[Bool.true_eq_false,false_and,if_false,List.nil_append,Bool.true_or,List.length_append,List.length_cons]
    split<;>simp<;>omega
  have h1:=key l
  have h2:=uP q l false
  rw[kGo]
  cases b<;>cases Op.bytesLess p q<;>by_cases hk:p=q<;>simp[hk] <;>omega
set_option maxHeartbeats 2000000 in
theorem BW (k:List Bs) (l:List Sp) (lk:LsK k) (ll:LsS l) (q:Bs) (hq:Ls q):aA Tryz.prog 73 [bT k l,.str q] (bU (eo k l q)):=by
 refine f73.aD (by simp) (by simp[al,av,cJ]) (gl _) ?_
 unfold c73
 simp only[C.zz]
 have hr:=fE k l lk ll
 unfold bT at hr
 cases hc:bg k l with
 |false=>
  rw[hc] at hr
  refine rn1 @bT.eq_1 hr ?_
  refine aJ ?_
  rw[eo,hc];exact fF 4
 |true=>
 rw[hc] at hr
 obtain ⟨b1,b2,b3,b4⟩:=dh hc
 have hri:=(pL b4).1
 refine rn1 @bT.eq_1 hr ?_
 refine Wp.le (aU.tok _ _) ?_
 refine Wp.fD [1,2,4,5] xA7 (fun (j:Nat × List Bs × Bool) tk=>[(6,.sl 1 (strs j.2.1) (.own tk)),(7,.bool j.2.2),(8,.int .i64 (j.1:Nat))]) (fun j=>j.1≤k.length∧j.2.1++kGo q j.2.2 (k.drop j.1)=kGo q false k∧j.2.1.length≤2*j.1) (fun j=>k.length - j.1) (0,[],false) _ ⟨Nat.zero_le _,by simp,Nat.le_refl _⟩ rfl ?_ ?_
 ·simp only[aC,go_sem,reduceIte,Nat.reduceEqDiff,Nat.reduceAdd,bx];and_intros<;>first|exact trivial|exact ab.refl _|exact ab.any _|exact ab.eL rfl|(refine ab.int ?_;omega)
 rintro ⟨j,o,b⟩ tk m ⟨hj,ho,hol⟩
 simp only at hj ho hol
 have g0:(o.length+1)*16≤140737488355328:=by omega
 have g0':o.length+1<4611686018427387904:=by omega
 have g1':(o.length+1+1)*16≤140737488355328:=by omega
 have g1'':o.length+1+1<4611686018427387904:=by omega
 have snoc:∀(o:List Bs) (x:Bs),strs o++[.str x]=strs (o++[x]):=fun o x=>by simp[strs]
 by_cases hcj:j<k.length
 ·obtain ⟨g1,h2,h3,e1⟩:=ixF (j:=j) (n:=k.length) (by omega) (by omega)
  have hdr:k.drop j=k.getD j []::k.drop (j+1):=by
   rw[List.drop_eq_getElem_cons hcj,Av.ar hcj]
  rw[hdr,kGo] at ho
  have hbel:=cI (k.getD j []) q (lk j) hq
  have hsg:=aV k j .any hcj
  generalize k.getD j []=x at*
  by_cases hk:x=q
  ·have q4:decide (x=q)=true:=decide_eq_true hk
   rw[if_pos hk,List.nil_append] at ho
   cases b with
   |true=>
    simp only[Bool.true_eq_false,false_and,if_false,List.nil_append,Bool.true_or] at ho
    refine rn0 (cj7 @ao g1 h2 h3 q4 e1 hsg) ?_
    refine ⟨(j+1,o,true),tk,m,⟨by simp only;omega,ho,by simp only;omega⟩,by simp only;omega,?_⟩
    exact xSu
   |false=>
    have hb:Op.bytesLess x q=false:=by rw[hk,bk]
    rw[hb] at hbel ho
    simp only[true_and,and_self,if_true,Bool.not_false,Bool.or_true] at ho
    refine rn1 (bD @ao g1 h2 h3 q4 e1 hsg @List.length_cons.{0} @List.length_nil.{0} @Nat.zero_add g0 g0') hbel ?_
    refine ⟨(j+1,o++[q],true),m,m+1,⟨by simp only;omega,by rw[←ho];simp,by simp;omega⟩,by simp only;omega,?_⟩
    refine aU.tm (by simp only[aC,go_sem,reduceIte,Nat.reduceEqDiff,Nat.reduceAdd,bx];and_intros<;>first|exact trivial|exact ab.refl _|exact ab.any _|exact ab.of_eq (by rw[snoc])|(refine ab.int ?_;omega))
  ·have q4:decide (x=q)=false:=decide_eq_false hk
   rw[if_neg hk] at ho
   cases b with
   |true=>
    simp only[Bool.true_eq_false,false_and,if_false,List.nil_append,Bool.true_or] at ho
    refine rn0 (bD @ao g1 h2 h3 q4 e1 hsg @List.length_cons.{0} @List.length_nil.{0} @Nat.zero_add g0 g0') ?_
    refine ⟨(j+1,o++[x],true),m,m+1,⟨by simp only;omega,by rw[←ho];simp,by simp;omega⟩,by simp only;omega,?_⟩
    refine aU.tm (by simp only[aC,go_sem,reduceIte,Nat.reduceEqDiff,Nat.reduceAdd,bx];and_intros<;>first|exact trivial|exact ab.refl _|exact ab.any _|exact ab.of_eq (by rw[snoc])|(refine ab.int ?_;omega))
   |false=>
    cases hb:Op.bytesLess x q with
    |true=>
     rw[hb] at hbel ho
     simp only[Bool.true_eq_false,and_false,if_false,List.nil_append,Bool.not_true,Bool.or_self] at ho
     refine rn1 (bD @ao g1 h2 h3 q4 e1 hsg @List.length_cons.{0} @List.length_nil.{0} @Nat.zero_add g0 g0') hbel ?_
     refine ⟨(j+1,o++[x],false),m,m+1,⟨by simp only;omega,by rw[←ho];simp,by simp;omega⟩,by simp only;omega,?_⟩
     refine aU.tm (by simp only[aC,go_sem,reduceIte,Nat.reduceEqDiff,Nat.reduceAdd,bx];and_intros<;>first|exact trivial|exact ab.refl _|exact ab.any _|exact ab.of_eq (by rw[snoc])|(refine ab.int ?_;omega))
    |false=>
     rw[hb] at hbel ho
     simp only[true_and,and_self,if_true,Bool.not_false,Bool.or_true] at ho
     refine rn1 (bD @ao g1 h2 h3 q4 e1 hsg @List.length_cons.{0} @List.length_nil.{0} @Nat.zero_add g0 (cj3 g0' g1' g1'')) hbel ?_
     refine ⟨(j+1,o++[q]++[x],true),m+1,m+2,⟨by simp only;omega,by rw[←ho];simp,by simp;omega⟩,by simp only;omega,?_⟩
     refine aU.tm (by simp only[aC,go_sem,reduceIte,Nat.reduceEqDiff,Nat.reduceAdd,bx];and_intros<;>first|exact trivial|exact ab.refl _|exact ab.any _|exact ab.of_eq (by rw[←snoc,←snoc])|(refine ab.int ?_;omega))
 ·obtain rfl:j=k.length:=by omega
  have g1:=ixE (k.length)
  rw[List.drop_length,kGo] at ho
  have hlen:=uP q k false
  have hins:LsK (kGo q false k):=by
   refine LsK.of fun s hs=>?_
   rw[tJ q k hri] at hs
   rcases (qC hri q s).1 hs with h|h
   ·obtain ⟨i,hi,rfl⟩:=List.mem_iff_getElem.1 h
    have:=lk i
    rwa [Av.ar hi] at this
   ·rw[h];exact hq
  have hm:=uO (kGo q false k) l (by omega) (by omega) hins ll
  have hres:eo k l q=if (decide ((mkR l (kGo q false k)).length≤64)&&decide (l.length≤64))=true then (mkR l (kGo q false k),l,0) else ([],[],9):=by
   rw[eo,if_pos hc,dg,tJ q k hri];rfl
  rw[hres]
  unfold bT at hm
  generalize hok:(decide ((mkR l (kGo q false k)).length≤64)&&decide (l.length≤64))=okb at*
  have fin:∀(tkk:AV),True:=fun _=>trivial
  cases b with
  |true=>
   simp only[if_true,List.append_nil] at ho
   rw[←ho] at hm ⊢
   cases okb
   ·refine rn1 (cj2 @ao g1) hm ?_
    refine aJ ?_
    exact fF 9
   ·refine rn1 (cj2 @ao g1) hm ?_
    refine aJ ?_
    exact ab.refl _
  |false=>
   simp only[Bool.false_eq_true,if_false] at ho
   rw[←ho] at hm ⊢
   have fit:af [.sl 1 (strs o++[.str q]) (.own m),.sl 2 (sps l) .any] [.sl 1 (strs (o++[q])) .any,.sl 2 (sps l) .any]:=by
    rw[snoc];exact af.cons ab.own (af.refl _)
   cases okb
   ·refine rn1 (cj7 @ao g1 @List.length_cons.{0} @List.length_nil.{0} @Nat.zero_add g0 g0') hm ?_
    refine aJ ?_
    exact fF 9
   ·refine rn1 (cj7 @ao g1 @List.length_cons.{0} @List.length_nil.{0} @Nat.zero_add g0 g0') hm ?_
    refine aJ ?_
    exact ab.refl _
structure RS where
 x:Sp
 a:List Sp
 b:List Sp
def ew (x y:Sp):Sp:=⟨if Op.bytesLess y.f x.f=true then y.f else x.f,if y.t=[]∨(x.t≠[]∧Op.bytesLess x.t y.t=true) then y.t else x.t⟩
theorem sr (x y:Sp):ew x y=fJ x y:=by
 unfold ew fJ
 have e1:(if Op.bytesLess y.f x.f=true then y.f else x.f)=if (Op.bytesLess x.f y.f||decide (x.f=y.f))=true then x.f else y.f:=by
  rcases cN x.f y.f with h|h|h
  ·have:Op.bytesLess y.f x.f=false:=by
    cases h2:Op.bytesLess y.f x.f with
    |false=>rfl
    |true=>have:=bz h h2;rw[bk] at this;cases this
   simp[h,this]
  ·simp[h,bk]
  ·have h2:Op.bytesLess x.f y.f=false:=by
    cases h2:Op.bytesLess x.f y.f with
    |false=>rfl
    |true=>have:=bz h h2;rw[bk] at this;cases this
   have h3:x.f≠y.f:=fun e=>by rw[e,bk] at h;cases h
   simp[h,h2,h3]
 have e2:(if y.t=[]∨(x.t≠[]∧Op.bytesLess x.t y.t=true) then y.t else x.t)=if x.t=[] then [] else if y.t=[] then [] else if (!Op.bytesLess x.t y.t)=true then x.t else y.t:=by
  by_cases h1:y.t=[]
  ·by_cases h2:x.t=[] <;>simp[h1,h2]
  ·by_cases h2:x.t=[]
   ·simp[h1,h2]
   ·cases h3:Op.bytesLess x.t y.t<;>simp[h1,h2,h3]
 rw[e1,e2]
def fU (s:RS) (y:Sp):RS:=
 if bc y s.x=true then ⟨s.x,s.a++[y],s.b⟩ else if bc s.x y=true then ⟨s.x,s.a,s.b++[y]⟩ else ⟨ew s.x y,s.a,s.b⟩
def e9 (l:List Sp) (x:Sp):RS:=l.foldl fU ⟨x,[],[]⟩
structure Rel (s:SS) (r:RS) (rest:List Sp):Prop where
 x:s.x=r.x
 has:hasB r.x=true
 op:s.laid=false→r.b=[]∧s.out=r.a
 sh:s.laid=true→s.out=r.a++[r.x]++r.b∧∀z∈rest,bc r.x z=true
theorem Ar {x y:Sp} (hx:hasB x=true) (hy:hasB y=true) (h:bc x y=true):bc y x=false:=by
 cases h2:bc y x with
 |false=>rfl
 |true=>
  have:=fM h hy h2
  obtain ⟨a,b⟩:=lR.1 this
  rcases kY.1 hx with e|e
  ·exact absurd e a
  ·have:=bz e b
   rw[bk] at this;cases this
theorem yC:∀(l:List Sp) (s:SS) (r:RS),NF l→Rel s r l→Rel (l.foldl cb s) (l.foldl fU r) []
 |[],s,r,_,h=>h
 |y::l,s,r,hn,h=>by
  have hy:=hn.1 y (by simp)
  have hap:=(List.pairwise_cons.1 hn.2).1
  rw[List.foldl_cons,List.foldl_cons]
  refine yC l _ _ (qn hn) ?_
  obtain ⟨hx,hh,hop,hsh⟩:=h
  have eS:cb s y=if bc y r.x=true then ⟨r.x,s.laid,s.out++[y]⟩ else if bc r.x y=false then ⟨fJ r.x y,s.laid,s.out⟩ else if s.laid=false then ⟨r.x,true,s.out++[r.x]++[y]⟩ else ⟨r.x,true,s.out++[y]⟩:=by unfold cb;rw[hx]
  cases hl:s.laid with
  |false=>
   obtain ⟨o1,o2⟩:=hop hl
   cases c1:bc y r.x with
   |true=>
    have e1:cb s y=⟨r.x,false,s.out++[y]⟩:=by rw[eS,c1,hl];simp
    have e2:fU r y=⟨r.x,r.a++[y],r.b⟩:=by unfold fU;rw[c1];simp
    rw[e1,e2]
    exact ⟨rfl,hh,fun _=>⟨o1,by simp only;rw[o2]⟩,fun h=>by simp at h⟩
   |false=>
    cases c2:bc r.x y with
    |false=>
     have e1:cb s y=⟨fJ r.x y,false,s.out⟩:=by rw[eS,c1,c2,hl];simp
     have e2:fU r y=⟨ew r.x y,r.a,r.b⟩:=by unfold fU;rw[c1,c2];simp
     rw[e1,e2]
     exact ⟨(sr _ _).symm,by simp only;rw[sr];exact rM hh hy,fun _=>⟨o1,o2⟩,fun h=>by simp at h⟩
    |true=>
     have e1:cb s y=⟨r.x,true,s.out++[r.x]++[y]⟩:=by rw[eS,c1,c2,hl];simp
     have e2:fU r y=⟨r.x,r.a,r.b++[y]⟩:=by unfold fU;rw[c1,c2];simp
     rw[e1,e2]
     exact ⟨rfl,hh,fun h=>by simp at h,fun _=>⟨by simp only;rw[o1,o2];simp,fun z hz=>fM c2 hy (hap z hz)⟩⟩
  |true=>
   obtain ⟨o1,o2⟩:=hsh hl
   have c2:=o2 y (by simp)
   have c1:=Ar hh hy c2
   have e1:cb s y=⟨r.x,true,s.out++[y]⟩:=by rw[eS,c1,c2,hl];simp
   have e2:fU r y=⟨r.x,r.a,r.b++[y]⟩:=by unfold fU;rw[c1,c2];simp
   rw[e1,e2]
   exact ⟨rfl,hh,fun h=>by simp at h,fun _=>⟨by simp only;rw[o1];simp,fun z hz=>o2 z (by simp[hz])⟩⟩
theorem uQ {l:List Sp} {x:Sp} (h:NF l) (hx:hasB x=true):(e9 l x).a++[(e9 l x).x]++(e9 l x).b=di l x:=by
 have hr:=yC l ⟨x,false,[]⟩ ⟨x,[],[]⟩ h ⟨rfl,hx,fun _=>⟨rfl,rfl⟩,fun h=>by simp at h⟩
 unfold di lQ e9
 obtain ⟨h1,-,h2,h3⟩:=hr
 cases hl:(l.foldl cb ⟨x,false,[]⟩).laid with
 |false=>
  obtain ⟨e1,e2⟩:=h2 hl
  rw[if_neg Bool.false_ne_true,e1,e2,h1];simp
 |true=>
  rw[if_pos rfl,(h3 hl).1]
def LsP (s:Sp):Prop:=Ls s.f∧Ls s.t
structure BX (r:RS) (n:Nat):Prop where
 a:∀s∈r.a,LsP s
 b:∀s∈r.b,LsP s
 x:LsP r.x
 n:r.a.length+r.b.length≤n
theorem As {r:RS} {n:Nat} {y:Sp} (h:BX r n) (hy:LsP y):BX (fU r y) (n+1):=by
 obtain ⟨h1,h2,h3,h4⟩:=h
 unfold fU
 split
 ·exact ⟨fun s hs=>by rcases List.mem_append.1 hs with e|e;exact h1 s e;rw[List.mem_singleton.1 e];exact hy,h2,h3,by simp only[List.length_append,List.length_cons,List.length_nil];omega⟩
 ·split
  ·exact ⟨h1,fun s hs=>by rcases List.mem_append.1 hs with e|e;exact h2 s e;rw[List.mem_singleton.1 e];exact hy,h3,by simp only[List.length_append,List.length_cons,List.length_nil];omega⟩
  ·refine ⟨h1,h2,?_,by simp only;omega⟩
   unfold ew LsP
   simp only
   constructor
   ·split
    ·exact hy.1
    ·exact h3.1
   ·split
    ·exact hy.2
    ·exact h3.2
theorem uR (l:List Sp) (x:Sp) {j:Nat} (h:j<l.length):e9 (l.take (j+1)) x=fU (e9 (l.take j) x) (l.getD j default):=by
 rw[Av.bJ default h,e9,List.foldl_append];rfl
theorem tK {l:List Sp} (hl:LsS l) {x:Sp} (hx:LsP x):∀j,j≤l.length→BX (e9 (l.take j) x) j
 |0,_=>⟨by simp[e9],by simp[e9],by simpa [e9] using hx,by simp[e9]⟩
 |j+1,hj=>by
  rw[uR l x (show j<l.length by omega)]
  exact As (tK hl hx j (by omega)) (hl j)
theorem gK {g:Nat→Option Av.Obj} {A B C:Av.Obj} (h0:g 0=some A) (h1:g 1=some B) (h2:g 2=some C):OLe g (upd (upd (upd ag 0 (some A)) 1 (some B)) 2 (some C)):=OLe.put (OLe.put (OLe.at h0) h1 (cq.refl _)) h2 (cq.refl _)
set_option maxHeartbeats 4000000 in
theorem At (k:List Bs) (l:List Sp) (lk:LsK k) (ll:LsS l) (x:Sp) (hx:LsP x):aA Tryz.prog 76 [bT k l,.str x.f,.str x.t] (bU (cu k l x)):=by
 refine f76.aD (by simp) (by simp[al,av,cJ]) (gl _) ?_
 unfold c76
 simp only[C.zz]
 have hr:=fE k l lk ll
 unfold bT at hr
 cases hc:bg k l with
 |false=>
  rw[hc] at hr
  refine rn1 @bT.eq_1 hr ?_
  refine aJ ?_
  rw[cu,hc];exact fF 4
 |true=>
 rw[hc] at hr
 obtain ⟨b1,b2,b3,b4⟩:=dh hc
 have hhas:=lL x hx.1 hx.2
 cases hB:hasB x with
 |false=>
  rw[hB] at hhas
  have hmk:mkR l k=k:=List.filter_eq_self.2 fun s hs=>by rw[(pL b4).2 s hs];rfl
  have hres:cu k l x=(k,l,0):=by
   have e:(k.filter fun x=> !aR l x)=k:=hmk
   rw[cu,if_pos hc,if_neg (by rw[hB];exact Bool.false_ne_true),dg,e,decide_eq_true b1,decide_eq_true b2];rfl
  refine rn2 (cj2 @bT.eq_1 @aX.eq_1) hr hhas ?_
  refine aJ ?_
  rw[hres];exact ab.refl _
 |true=>
 rw[hB] at hhas
 have hall:=tK ll hx
 refine rn2 (cj2 @bT.eq_1 @aX.eq_1) hr hhas ?_
 refine Wp.le (aU.tok _ _) ?_
 refine Wp.le (aU.tok _ _) ?_
 refine Wp.le (aU.of (fun i=>ab.refl _) (gK (A:= .cells [.sl 1 (strs k) .any,.sl 2 (sps l) .any]) (B:= .cells [.sl 1 [] (.exact 0),.sl 2 [] (.exact 0)]) (C:= .cells [.str x.f,.str x.t]) (by simp[upd]) (by simp[upd]) (by simp[upd])) (fun _ h=>h) (Nat.le_refl _) (Nat.le_refl _)) ?_
 refine Wp.mz (β:=Nat × (Nat × Nat) × Nat × Nat) [3,6,8] xA7 (fun j=>[(9,.sl 2 (sps (e9 (l.take j.1) x).a) (.own j.2.1.1)),(10,.sl 2 (sps (e9 (l.take j.1) x).b) (.own j.2.1.2)),(11,.int .i64 (j.1:Nat))]) (fun j=>⟨upd (upd (upd ag 0 (some (.cells [.sl 1 (strs k) .any,.sl 2 (sps l) .any]))) 1 (some (.cells [.sl 1 [] (.exact 0),.sl 2 [] (.exact 0)]))) 2 (some (.cells [.str (e9 (l.take j.1) x).x.f,.str (e9 (l.take j.1) x).x.t])),j.2.2.1,[j.2.1.1,j.2.1.2],j.2.2.2⟩) (fun j=>j.1≤l.length∧3≤j.2.2.1∧j.2.1.1≠j.2.1.2∧j.2.1.1<j.2.2.2∧j.2.1.2<j.2.2.2) (fun j=>l.length - j.1) (0,(1,0),3,2) ⟨Nat.zero_le _,Nat.le_refl _,by decide,by decide,by decide⟩ ?_ ?_ ?_
 ·rfl
 ·simp only[aC,go_sem,reduceIte,Nat.reduceEqDiff,Nat.reduceAdd,bx,List.take_zero];and_intros<;>first|exact trivial|exact ab.refl _|exact ab.any _|exact ab.eL rfl|(refine ab.int ?_;omega)
 rintro ⟨j,⟨ta,tb⟩,n,m⟩ ⟨hj,hn,htt,hta,htb⟩
 simp only at hj hn htt hta htb ⊢
 have hro:=hall j hj
 by_cases hcj:j<l.length
 ·obtain ⟨g1,h2,h3,e1⟩:=ixF (j:=j) (n:=l.length) (by omega) (by omega)
  have hat:=bt l j .any hcj
  have hy:LsP (l.getD j default):=ll j
  have hsn:=uR l x hcj
  generalize hR1:e9 (l.take (j+1)) x=R1 at*
  generalize e9 (l.take j) x=R at*
  generalize l.getD j default=y at*
  have a0:(0=n)=False:=eq_false (by omega)
  have a1:(1=n)=False:=eq_false (by omega)
  have a2:(2=n)=False:=eq_false (by omega)
  have a3:(n=0)=False:=eq_false (by omega)
  have a4:(n=1)=False:=eq_false (by omega)
  have a5:(n=2)=False:=eq_false (by omega)
  have ft1:(ta=tb)=False:=eq_false htt
  have ft2:(tb=ta)=False:=eq_false (fun e=>htt e.symm)
  have hrn:=hro.n
  have r1:(R.a.length+1)*32≤140737488355328:=by omega
  have r2:R.a.length+1<4611686018427387904:=by omega
  have r3:(R.b.length+1)*32≤140737488355328:=by omega
  have r4:R.b.length+1<4611686018427387904:=by omega
  have hp1:=rA y R.x hy.2 hro.x.1
  have hp2:=rA R.x y hro.x.2 hy.1
  have hbf:=cI y.f R.x.f hy.1 hro.x.1
  have hbt:=cI R.x.t y.t hro.x.2 hy.2
  unfold aX at hp1 hp2
  have sn:∀(o:List Sp) (s:Sp),sps o++[.agg [.str s.f,.str s.t]]=sps (o++[s]):=fun o s=>by simp[sps,aX]
  cases c1:bc y R.x with
  |true=>
   rw[c1] at hp1
   have hst:R1=⟨R.x,R.a++[y],R.b⟩:=by rw[hsn];unfold fU;rw[c1];simp
   refine rn1 (bD g1 h2 h3 e1 @az hat @aX.eq_1 a0 a1 a2 a3 (lI a4 a5 ft1 ft2 @List.length_cons.{0} @List.length_nil.{0} @Nat.zero_add r1 r2 r3 r4)) hp1 ?_
   refine ⟨(j+1,(m,tb),n+1,m+1),⟨by simp only;omega,by simp only;omega,by simp only;omega,by simp only;omega,by simp only;omega⟩,by simp only;omega,?_⟩
   simp only[hR1,hst]
   refine aU.of (dr ?_) (gK (by simp[upd,a0,a1,a2,a3,a4,a5]) (by simp[upd,a0,a1,a2,a3,a4,a5]) (by simp[upd,a0,a1,a2,a3,a4,a5])) (fun u hu=>by first|exact hu|(simp at hu ⊢;omega)) (by simp) (by simp)
   simp only[aC,go_sem,reduceIte,Nat.reduceEqDiff,Nat.reduceAdd,bx];and_intros<;>first|exact trivial|exact ab.refl _|exact ab.any _|exact ab.of_eq (by rw[sn])|(refine ab.int ?_;omega)
  |false=>
  rw[c1] at hp1
  cases c2:bc R.x y with
  |true=>
   rw[c2] at hp2
   have hst:R1=⟨R.x,R.a,R.b++[y]⟩:=by rw[hsn];unfold fU;rw[c1,c2];simp
   refine rn2 (bD g1 h2 h3 e1 @az hat @aX.eq_1 a0 a1 a2 a3 (lI a4 a5 ft1 ft2 @List.length_cons.{0} @List.length_nil.{0} @Nat.zero_add r1 r2 r3 r4)) hp1 hp2 ?_
   refine ⟨(j+1,(ta,m),n+1,m+1),⟨by simp only;omega,by simp only;omega,by simp only;omega,by simp only;omega,by simp only;omega⟩,by simp only;omega,?_⟩
   simp only[hR1,hst]
   refine aU.of (dr ?_) (gK (by simp[upd,a0,a1,a2,a3,a4,a5]) (by simp[upd,a0,a1,a2,a3,a4,a5]) (by simp[upd,a0,a1,a2,a3,a4,a5])) (fun u hu=>by first|exact hu|(simp at hu ⊢;omega)) (by simp) (by simp)
   simp only[aC,go_sem,reduceIte,Nat.reduceEqDiff,Nat.reduceAdd,bx];and_intros<;>first|exact trivial|exact ab.refl _|exact ab.any _|exact ab.of_eq (by rw[sn])|(refine ab.int ?_;omega)
  |false=>
  rw[c2] at hp2
  have hst:R1=⟨ew R.x y,R.a,R.b⟩:=by rw[hsn];unfold fU;rw[c1,c2];simp
  have hL:Op.bytesLess y.f R.x.f=true∨Op.bytesLess y.f R.x.f=false:=by cases Op.bytesLess y.f R.x.f<;>simp
  rcases hL with L1E|L1E
  ·rw[L1E] at hbf
   by_cases p1:y.t=[]
   ·have d1:=decide_eq_true p1
    refine rn4 (bD g1 h2 h3 e1 @az hat @aX.eq_1 a0 a1 a2 a3 (bD a4 a5 ft1 ft2 @List.length_cons.{0} @List.length_nil.{0} @Nat.zero_add r1 r2 r3 r4 d1)) hp1 hp2 hbf hbt ?_
    refine ⟨(j+1,(ta,tb),n+1,m),⟨by simp only;omega,by simp only;omega,by simp only;omega,by simp only;omega,by simp only;omega⟩,by simp only;omega,?_⟩
    have hj2:ew R.x y=⟨y.f,y.t⟩:=by unfold ew;simp[L1E,p1]
    simp only[hR1,hst,hj2]
    refine aU.of (dr ?_) (gK (by simp[upd,a0,a1,a2,a3,a4,a5]) (by simp[upd,a0,a1,a2,a3,a4,a5]) (by simp[upd,a0,a1,a2,a3,a4,a5])) (fun u hu=>by first|exact hu|(simp at hu ⊢;omega)) (by simp) (by simp)
    exact xSb
   have d1:=decide_eq_false p1
   by_cases p2:R.x.t=[]
   ·have d2:=decide_eq_true p2
    refine rn4 (bD g1 h2 h3 e1 @az hat @aX.eq_1 a0 a1 a2 a3 (bD a4 a5 ft1 ft2 @List.length_cons.{0} @List.length_nil.{0} @Nat.zero_add r1 r2 r3 r4 (cj2 d1 d2))) hp1 hp2 hbf hbt ?_
    refine ⟨(j+1,(ta,tb),n+1,m),⟨by simp only;omega,by simp only;omega,by simp only;omega,by simp only;omega,by simp only;omega⟩,by simp only;omega,?_⟩
    have hj2:ew R.x y=⟨y.f,R.x.t⟩:=by unfold ew;simp[L1E,p1,p2]
    simp only[hR1,hst,hj2]
    refine aU.of (dr ?_) (gK (by simp[upd,a0,a1,a2,a3,a4,a5]) (by simp[upd,a0,a1,a2,a3,a4,a5]) (by simp[upd,a0,a1,a2,a3,a4,a5])) (fun u hu=>by first|exact hu|(simp at hu ⊢;omega)) (by simp) (by simp)
    exact xSb
   have d2:=decide_eq_false p2
   cases p3:Op.bytesLess R.x.t y.t with
   |true=>
    rw[p3] at hbt
    refine rn4 (bD g1 h2 h3 e1 @az hat @aX.eq_1 a0 a1 a2 a3 (bD a4 a5 ft1 ft2 @List.length_cons.{0} @List.length_nil.{0} @Nat.zero_add r1 r2 r3 r4 (cj2 d1 d2))) hp1 hp2 hbf hbt ?_
    refine ⟨(j+1,(ta,tb),n+1,m),⟨by simp only;omega,by simp only;omega,by simp only;omega,by simp only;omega,by simp only;omega⟩,by simp only;omega,?_⟩
    have hj2:ew R.x y=⟨y.f,y.t⟩:=by unfold ew;simp[L1E,p1,p2,p3]
    simp only[hR1,hst,hj2]
    refine aU.of (dr ?_) (gK (by simp[upd,a0,a1,a2,a3,a4,a5]) (by simp[upd,a0,a1,a2,a3,a4,a5]) (by simp[upd,a0,a1,a2,a3,a4,a5])) (fun u hu=>by first|exact hu|(simp at hu ⊢;omega)) (by simp) (by simp)
    exact xSb
   |false=>
    rw[p3] at hbt
    refine rn4 (bD g1 h2 h3 e1 @az hat @aX.eq_1 a0 a1 a2 a3 (bD a4 a5 ft1 ft2 @List.length_cons.{0} @List.length_nil.{0} @Nat.zero_add r1 r2 r3 r4 (cj2 d1 d2))) hp1 hp2 hbf hbt ?_
    refine ⟨(j+1,(ta,tb),n+1,m),⟨by simp only;omega,by simp only;omega,by simp only;omega,by simp only;omega,by simp only;omega⟩,by simp only;omega,?_⟩
    have hj2:ew R.x y=⟨y.f,R.x.t⟩:=by unfold ew;simp[L1E,p1,p2,p3]
    simp only[hR1,hst,hj2]
    refine aU.of (dr ?_) (gK (by simp[upd,a0,a1,a2,a3,a4,a5]) (by simp[upd,a0,a1,a2,a3,a4,a5]) (by simp[upd,a0,a1,a2,a3,a4,a5])) (fun u hu=>by first|exact hu|(simp at hu ⊢;omega)) (by simp) (by simp)
    exact xSb
  ·rw[L1E] at hbf
   by_cases p1:y.t=[]
   ·have d1:=decide_eq_true p1
    refine rn4 (bD g1 h2 h3 e1 @az hat @aX.eq_1 a0 a1 a2 a3 (bD a4 a5 ft1 ft2 @List.length_cons.{0} @List.length_nil.{0} @Nat.zero_add r1 r2 r3 r4 d1)) hp1 hp2 hbf hbt ?_
    refine ⟨(j+1,(ta,tb),n+1,m),⟨by simp only;omega,by simp only;omega,by simp only;omega,by simp only;omega,by simp only;omega⟩,by simp only;omega,?_⟩
    have hj2:ew R.x y=⟨R.x.f,y.t⟩:=by unfold ew;simp[L1E,p1]
    simp only[hR1,hst,hj2]
    refine aU.of (dr ?_) (gK (by simp[upd,a0,a1,a2,a3,a4,a5]) (by simp[upd,a0,a1,a2,a3,a4,a5]) (by simp[upd,a0,a1,a2,a3,a4,a5])) (fun u hu=>by first|exact hu|(simp at hu ⊢;omega)) (by simp) (by simp)
    exact xSb
   have d1:=decide_eq_false p1
   by_cases p2:R.x.t=[]
   ·have d2:=decide_eq_true p2
    refine rn4 (bD g1 h2 h3 e1 @az hat @aX.eq_1 a0 a1 a2 a3 (bD a4 a5 ft1 ft2 @List.length_cons.{0} @List.length_nil.{0} @Nat.zero_add r1 r2 r3 r4 (cj2 d1 d2))) hp1 hp2 hbf hbt ?_
    refine ⟨(j+1,(ta,tb),n+1,m),⟨by simp only;omega,by simp only;omega,by simp only;omega,by simp only;omega,by simp only;omega⟩,by simp only;omega,?_⟩
    have hj2:ew R.x y=⟨R.x.f,R.x.t⟩:=by unfold ew;simp[L1E,p1,p2]
    simp only[hR1,hst,hj2]
    refine aU.of (dr ?_) (gK (by simp[upd,a0,a1,a2,a3,a4,a5]) (by simp[upd,a0,a1,a2,a3,a4,a5]) (by simp[upd,a0,a1,a2,a3,a4,a5])) (fun u hu=>by first|exact hu|(simp at hu ⊢;omega)) (by simp) (by simp)
    exact xSb
   have d2:=decide_eq_false p2
   cases p3:Op.bytesLess R.x.t y.t with
   |true=>
    rw[p3] at hbt
    refine rn4 (bD g1 h2 h3 e1 @az hat @aX.eq_1 a0 a1 a2 a3 (bD a4 a5 ft1 ft2 @List.length_cons.{0} @List.length_nil.{0} @Nat.zero_add r1 r2 r3 r4 (cj2 d1 d2))) hp1 hp2 hbf hbt ?_
    refine ⟨(j+1,(ta,tb),n+1,m),⟨by simp only;omega,by simp only;omega,by simp only;omega,by simp only;omega,by simp only;omega⟩,by simp only;omega,?_⟩
    have hj2:ew R.x y=⟨R.x.f,y.t⟩:=by unfold ew;simp[L1E,p1,p2,p3]
    simp only[hR1,hst,hj2]
    refine aU.of (dr ?_) (gK (by simp[upd,a0,a1,a2,a3,a4,a5]) (by simp[upd,a0,a1,a2,a3,a4,a5]) (by simp[upd,a0,a1,a2,a3,a4,a5])) (fun u hu=>by first|exact hu|(simp at hu ⊢;omega)) (by simp) (by simp)
    exact xSb
   |false=>
    rw[p3] at hbt
    refine rn4 (bD g1 h2 h3 e1 @az hat @aX.eq_1 a0 a1 a2 a3 (bD a4 a5 ft1 ft2 @List.length_cons.{0} @List.length_nil.{0} @Nat.zero_add r1 r2 r3 r4 (cj2 d1 d2))) hp1 hp2 hbf hbt ?_
    refine ⟨(j+1,(ta,tb),n+1,m),⟨by simp only;omega,by simp only;omega,by simp only;omega,by simp only;omega,by simp only;omega⟩,by simp only;omega,?_⟩
    have hj2:ew R.x y=⟨R.x.f,R.x.t⟩:=by unfold ew;simp[L1E,p1,p2,p3]
    simp only[hR1,hst,hj2]
    refine aU.of (dr ?_) (gK (by simp[upd,a0,a1,a2,a3,a4,a5]) (by simp[upd,a0,a1,a2,a3,a4,a5]) (by simp[upd,a0,a1,a2,a3,a4,a5])) (fun u hu=>by first|exact hu|(simp at hu ⊢;omega)) (by simp) (by simp)
    exact xSb
 ·have hje:j=l.length:=by omega
  subst hje
  have g1:=ixE (l.length)
  rw[List.take_length] at hro ⊢
  have hse:=uQ (pq b3) hB
  generalize e9 l x=R at*
  have hrn:=hro.n
  have r1:(R.a.length+1)*32≤140737488355328:=by omega
  have r2:R.a.length+1<4611686018427387904:=by omega
  have r3:(R.a.length+1+R.b.length)*32≤140737488355328:=by omega
  have r4:R.a.length+1+R.b.length<4611686018427387904:=by omega
  have ft1:(ta=tb)=False:=eq_false htt
  have ft2:(tb=ta)=False:=eq_false (fun e=>htt e.symm)
  have a3:(n=0)=False:=eq_false (by omega)
  have a4:(n=1)=False:=eq_false (by omega)
  have a5:(n=2)=False:=eq_false (by omega)
  have a0:(0=n)=False:=eq_false (by omega)
  have a1:(1=n)=False:=eq_false (by omega)
  have a2:(2=n)=False:=eq_false (by omega)
  have hrow:sps R.a++[.agg [.str R.x.f,.str R.x.t]]++sps R.b=sps (di l x):=by rw[←hse];simp[sps,aX]
  have hls:LsS (di l x):=by
   refine LsS.of fun s hs=>?_
   rw[←hse] at hs
   rcases List.mem_append.1 hs with h|h
   ·rcases List.mem_append.1 h with h|h
    ·exact hro.a s h
    ·rw[List.mem_singleton.1 h];exact hro.x
   ·exact hro.b s h
  have hln:(di l x).length≤1000:=by rw[←hse];simp only[List.length_append,List.length_cons,List.length_nil];omega
  have hm:=uO k (di l x) (by omega) hln lk hls
  have hres:cu k l x=if (decide ((mkR (di l x) k).length≤64)&&decide ((di l x).length≤64))=true then (mkR (di l x) k,di l x,0) else ([],[],9):=by
   rw[cu,if_pos hc,if_pos hB];rfl
  rw[hres]
  unfold bT at hm
  generalize (decide ((mkR (di l x) k).length≤64)&&decide ((di l x).length≤64))=okb at*
  have fit:∀c,af [.sl 1 (strs k) .any,.sl 2 (sps R.a++[.agg [.str R.x.f,.str R.x.t]]++sps R.b) (.own c)] [.sl 1 (strs k) .any,.sl 2 (sps (di l x)) .any]:=fun c=>by
   rw[hrow];exact af.cons (ab.refl _) (af.cons ab.own af.nil)
  cases okb
  ·repeat (first
    |((first|apply Wp.cf|apply Wp.dU|((first
      |(refine aa.bF ?_ ?_ (hm) ?_;(· simp only[go_sem,reduceIte,Nat.reduceEqDiff,Nat.reduceAdd,bx]);(· simp only[go_sem,reduceIte,Nat.reduceEqDiff,Nat.reduceAdd,bx,List.map];exact fit _)));apply aa.evR));(· simp only[go_sem,reduceIte,Nat.reduceEqDiff,Nat.reduceAdd,bx,ax,if_true,if_false,Nat.reduceMul,Nat.reduceLeDiff,g1,az,List.length_cons,List.length_nil,Nat.zero_add,a0,a1,a2,a3,a4,a5,ft1,ft2,r1,r2,r3,r4];exact rfl))
    |(refine aa.nil ⟨?_,?_⟩;(· first|trivial|simp[ay,au,apart,aH]))
    |(apply Wp.bq;(· simp only[go_sem,reduceIte,Nat.reduceEqDiff,Nat.reduceAdd,bx,ax,if_true,if_false,Nat.reduceMul,Nat.reduceLeDiff,g1,az,List.length_cons,List.length_nil,Nat.zero_add,a0,a1,a2,a3,a4,a5,ft1,ft2,r1,r2,r3,r4];exact rfl);(· rfl))
    |refine Wp.skip ?_
    |refine Wp.label ?_
    |refine Wp.block ?_
    |refine Wp.exit ?_
    |refine Wp.seq ?_)
   refine aa.nil ⟨by simp[ay,au,apart,aH];omega,?_⟩
   refine rn0 (cj6 a0 a1 a2 a3 a4 a5) ?_
   refine aJ ?_
   exact fF 9
  ·repeat (first
    |((first|apply Wp.cf|apply Wp.dU|((first
      |(refine aa.bF ?_ ?_ (hm) ?_;(· simp only[go_sem,reduceIte,Nat.reduceEqDiff,Nat.reduceAdd,bx]);(· simp only[go_sem,reduceIte,Nat.reduceEqDiff,Nat.reduceAdd,bx,List.map];exact fit _)));apply aa.evR));(· simp only[go_sem,reduceIte,Nat.reduceEqDiff,Nat.reduceAdd,bx,ax,if_true,if_false,Nat.reduceMul,Nat.reduceLeDiff,g1,az,List.length_cons,List.length_nil,Nat.zero_add,a0,a1,a2,a3,a4,a5,ft1,ft2,r1,r2,r3,r4];exact rfl))
    |(refine aa.nil ⟨?_,?_⟩;(· first|trivial|simp[ay,au,apart,aH]))
    |(apply Wp.bq;(· simp only[go_sem,reduceIte,Nat.reduceEqDiff,Nat.reduceAdd,bx,ax,if_true,if_false,Nat.reduceMul,Nat.reduceLeDiff,g1,az,List.length_cons,List.length_nil,Nat.zero_add,a0,a1,a2,a3,a4,a5,ft1,ft2,r1,r2,r3,r4];exact rfl);(· rfl))
    |refine Wp.skip ?_
    |refine Wp.label ?_
    |refine Wp.block ?_
    |refine Wp.exit ?_
    |refine Wp.seq ?_)
   refine aa.nil ⟨by simp[ay,au,apart,aH];omega,?_⟩
   refine rn0 (cj6 a0 a1 a2 a3 a4 a5) ?_
   refine aJ ?_
   exact ab.refl _
theorem lY {k:List Bs} {l:List Sp} (h:bg k l=true) (q:Bs):bQ k l q=(decide (q∈k)||aR l q):=by
 rw[bQ,h,gp (pL (dh h).2.2.2).1];rfl
theorem pP (k:List Bs) (l:List Sp) (hk:LsK k) (hl:LsS l) (q:Bs) (hq:Ls q):aA Tryz.prog 108 [bT k l,.str q] (.bool (bQ k l q)):=by
 refine f108.aD (by simp) (by simp[al,av,cJ]) rfl ?_
 unfold Cg
 simp only[C.zz]
 have hr:=fE k l hk hl
 unfold bT at hr
 cases h:bg k l with
 |false=>
  rw[h] at hr
  refine rn1 @bT.eq_1 hr ?_
  refine aJ ?_
  rw[bQ,h];exact ab.refl _
 |true=>
  rw[h] at hr
  obtain ⟨b1,b2,b3,b4⟩:=dh h
  have hsp:=fB l (by omega) hl q hq
  refine rn1 @bT.eq_1 hr ?_
  refine Wp.cZ [1,2] xA6 (fun j:Nat=>[(5,.int .i64 (j:Nat))]) (fun j=>j≤k.length∧∀i,i<j→k.getD i []≠q) (fun j=>k.length - j) 0 ⟨Nat.zero_le _,fun i h=>absurd h (by omega)⟩ ?_ ?_
  ·exact xSb
  rintro j ⟨hj,hno⟩
  by_cases hc:j<k.length
  ·obtain ⟨g1,h2,h3,e1⟩:=ixF (j:=j) (n:=k.length) (by omega) (by omega)
   by_cases he:k.getD j []=q
   ·have d1:=decide_eq_true he
    have hm:q∈k:=by
     rw[ar hc] at he
     rw[←he];exact List.getElem_mem hc
    refine rn0 (cj6 g1 h2 h3 @ao (fun d=>aV _ _ d hc) d1) ?_
    refine aJ ?_
    rw[lY h,decide_eq_true hm];exact ab.refl _
   ·have d1:=decide_eq_false he
    have hno2:∀i,i<j+1→k.getD i []≠q:=fun i hi=>by
     by_cases e:i=j
     ·rw[e];exact he
     ·exact hno i (by omega)
    refine rn0 (cj7 g1 h2 h3 e1 @ao (fun d=>aV _ _ d hc) d1) ?_
    refine ⟨j+1,⟨by omega,hno2⟩,by omega,?_⟩
    exact xSu
  ·have hje:j=k.length:=by omega
   subst hje
   have g1:=ixE (k.length)
   have hm:¬q∈k:=fun hm=>by
    obtain ⟨i,hi,e⟩:=List.mem_iff_getElem.1 hm
    exact hno i hi (by rw[ar hi];exact e)
   refine rn1 (cj2 g1 @ao) hsp ?_
   refine aJ ?_
   rw[lY h,decide_eq_false hm];exact ab.refl _
theorem BY (k:List Bs) (l:List Sp) (hk:LsK k) (hl:LsS l) (cs:List Ch) (hcl:cs.length≤1000000) (hcs:∀c∈cs,Ls c.k):aA Tryz.prog 69 [bT k l,.sl 3 (chs cs) .any] (.bool (sf k l cs)):=by
 refine f69.aD (by simp) (by simp[al,av,aG,cJ,dw]) rfl ?_
 unfold c69
 simp only[C.zz]
 have hres:sf k l cs=cs.any fun c=>bQ k l c.k:=by
  unfold sf bQ
  cases bg k l<;>simp
 rw[hres]
 refine rn0 @bT.eq_1 ?_
 refine Wp.cZ [1,2] xA6 (fun j:Nat=>[(5,.int .i64 (j:Nat))]) (fun j=>j≤cs.length∧∀i,i<j→bQ k l (cs.getD i default).k=false) (fun j=>cs.length - j) 0 ⟨Nat.zero_le _,fun i h=>absurd h (by omega)⟩ ?_ ?_
 ·exact xSb
 rintro j ⟨hj,hno⟩
 by_cases hc:j<cs.length
 ·obtain ⟨g1,h2,h3,e1⟩:=ixF (j:=j) (n:=cs.length) (by omega) (by omega)
  have hat:=bH cs j .any hc
  have hcov:=pP k l hk hl (cs.getD j default).k (hcs _ (by rw[ar hc];exact List.getElem_mem hc))
  unfold bT at hcov
  cases hb:bQ k l (cs.getD j default).k with
  |true=>
   rw[hb] at hcov
   refine rn1 (cj6 g1 h2 h3 @an hat @aL.eq_1) hcov ?_
   refine aJ ?_
   rw[Space.qy (f:=fun c:Ch=>bQ k l c.k) hc hb];exact ab.refl _
  |false=>
   rw[hb] at hcov
   have hno2:∀i,i<j+1→bQ k l (cs.getD i default).k=false:=fun i hi=>by
    by_cases e:i=j
    ·rw[e];exact hb
    ·exact hno i (by omega)
   refine rn1 (cj7 g1 h2 h3 e1 @an hat @aL.eq_1) hcov ?_
   refine ⟨j+1,⟨by omega,hno2⟩,by omega,?_⟩
   exact xSu
 ·have hje:j=cs.length:=by omega
  subst hje
  have g1:=ixE (cs.length)
  refine rn0 (cj2 g1 @an) ?_
  refine aJ ?_
  rw[Space.tC (f:=fun c:Ch=>bQ k l c.k) hno];exact ab.refl _
open Space (Spc cP It bb jY bY) in
theorem yD (k:List Bs) (l:List Sp) (hk:LsK k) (hl:LsS l) (S:Spc) (hr:bb S.L) (hS:jY S) (lk:∀p∈S.L,p.1.length≤128) (t:Int):aA Tryz.prog 64 [bT k l,cP S,.int .i64 t] (.bool (S.L.any fun p=>bQ k l p.1&&bY S p.1 (p.1++[0]) t)):=by
 refine f64.aD (by simp) (by simp[al,av,cJ,Space.cA]) rfl ?_
 unfold c64
 simp only[C.zz]
 have hil:(S.L.map Space.encI).length=S.L.length:=by simp
 have hS1:=hS.1
 have lk2:∀p∈S.L,Ls p.1:=fun p hp=>by have:=lk p hp;unfold Ls;omega
 refine rn0 (cj2 @bT.eq_1 @cP.eq_1) ?_
 refine Wp.cZ [2,3,4] xA6 (fun j:Nat=>[(7,.int .i64 (j:Nat))]) (fun j=>j≤S.L.length∧∀i,i<j→(bQ k l (S.L.getD i default).1&&bY S (S.L.getD i default).1 ((S.L.getD i default).1++[0]) t)=false) (fun j=>S.L.length - j) 0 ⟨Nat.zero_le _,fun i h=>absurd h (by omega)⟩ ?_ ?_
 ·exact xSb
 rintro j ⟨hj,hno⟩
 by_cases hc:j<S.L.length
 ·obtain ⟨g1,h2,h3,e1⟩:=ixF (j:=j) (n:=S.L.length) (by omega) (by omega)
  have hat:=cR Space.encI S.L j .any hc
  have hlen:=lk (S.L.getD j default) (by rw[ar hc];exact List.getElem_mem hc)
  have yes:(bQ k l (S.L.getD j default).1&&bY S (S.L.getD j default).1 ((S.L.getD j default).1++[0]) t)=true→(S.L.any fun p=>bQ k l p.1&&bY S p.1 (p.1++[0]) t)=true:=fun h=>Space.qy (f:=fun p:It=>bQ k l p.1&&bY S p.1 (p.1++[0]) t) hc h
  have stp:(bQ k l (S.L.getD j default).1&&bY S (S.L.getD j default).1 ((S.L.getD j default).1++[0]) t)=false→∀i,i<j+1→(bQ k l (S.L.getD i default).1&&bY S (S.L.getD i default).1 ((S.L.getD i default).1++[0]) t)=false:=fun h i hi=>by
   by_cases e:i=j
   ·rw[e];exact h
   ·exact hno i (by omega)
  generalize S.L.getD j default=x at*
  have hcov:=pP k l hk hl x.1 (by unfold Ls;omega)
  have hsi:=Space.pE S hr hS lk2 x.1 (x.1++[0]) (by unfold Ls;omega) (by unfold Ls;rw[List.length_append];simp;omega) t
  unfold bT at hcov
  unfold cP at hsi
  have hadd:x.1.length+1<9223372036854775808:=by omega
  cases hb:bQ k l x.1 with
  |false=>
   rw[hb] at hcov stp
   refine rn1 (cj8 g1 h2 h3 e1 hil hat @Space.encI.eq_1 @Space.vAV.eq_1) hcov ?_
   refine ⟨j+1,⟨by omega,stp rfl⟩,by omega,?_⟩
   exact xSu
  |true=>
   rw[hb] at hcov stp yes
   cases hb2:bY S x.1 (x.1++[0]) t with
   |false=>
    rw[hb2] at hsi stp
    refine rn2 (bD g1 h2 h3 e1 hil hat @Space.encI.eq_1 @Space.vAV.eq_1 @List.length_cons.{0} @List.length_nil.{0} @Nat.zero_add hadd) hcov hsi ?_
    refine ⟨j+1,⟨by omega,stp rfl⟩,by omega,?_⟩
    exact xSu
   |true=>
    rw[hb2] at hsi yes
    refine rn2 (bD g1 h2 h3 e1 hil hat @Space.encI.eq_1 @Space.vAV.eq_1 @List.length_cons.{0} @List.length_nil.{0} @Nat.zero_add hadd) hcov hsi ?_
    refine aJ ?_
    rw[yes rfl];exact ab.refl _
 ·have hje:j=S.L.length:=by omega
  subst hje
  have g1:=ixE (S.L.length)
  refine rn0 (cj2 g1 hil) ?_
  refine aJ ?_
  rw[Space.tC (f:=fun p:It=>bQ k l p.1&&bY S p.1 (p.1++[0]) t) hno];exact ab.refl _
def fV (f:FuncId) (args:List AV) (F:Fr) (b:Bool):Prop:=aT Tryz.prog f args [F] fun r L=>r= .bool b∧L=[F]
theorem tL {F:Fr} (hk:F.k=[]) (l:List Bs) (hl:l.length≤4611686018427387904) (p:Bs→Bool) {g:FuncId} {fn:Func} (hf:Tryz.prog.funcs[g]? =some fn) (hb:fn.body.isSome=true) (hn:fn.name≠ "runtime.NumGoroutine") (caps:List AV)
  (hp:∀c∈l,fV g (.str c::caps) F (p c)):
  aT Tryz.prog 102 [.sl 1 (strs l) .any,.clo (.func g) [] caps] [F] fun r L=>r= .int .i64 (ix p l)∧L=[F]:=by
 refine f102.bo (by simp) fun n m ok=>?_
 unfold zI
 simp only[C.zz]
 refine Wp.aw xA1 (by trivial) ?_
 refine Wp.seq ?_
 refine Wp.aw (by simp only[go_sem,reduceIte,Nat.reduceEqDiff,Nat.reduceAdd,bx,ao];exact rfl) (by trivial) ?_
 refine Wp.block ?_
 refine Wp.gU (β:=Nat) [0,1,7] xA7 (fun j=>[(8,.int .i64 (j:Nat))]) (fun j L=>j≤l.length∧(∀i (hi:i<l.length),i<j→p l[i]=false)∧L=[F]) (fun j=>l.length - j) 0 ⟨Nat.zero_le _,fun i hi h=>absurd h (by omega),rfl⟩ ok xA9 ?_
 rintro j L n1 T1 m1 on ⟨hj,hs,rfl⟩
 refine Wp.aw xA1 (by trivial) ?_
 refine Wp.seq ?_
 refine Wp.bN (b:=decide ((j:Int)<(l.length:Int))) xA2 (fun hc=>?_) (fun hc=>?_)
 ·have h1:(0:Int)≤(j:Int):=by omega
  have h2:(j:Int)<(l.length:Int):=by simpa using hc
  have h3:j<l.length:=by omega
  have hq:=hp _ (List.getElem_mem h3)
  rw[←ar (d:=[]) h3] at hq
  refine Wp.skip ?_
  refine Wp.seq ?_
  refine Wp.block ?_
  refine Wp.aw xA1 (by trivial) ?_
  refine Wp.seqItems (by simp only[go_sem,reduceIte,Nat.reduceEqDiff,Nat.reduceAdd,bx,ao,h1,h2,and_self,if_true,Int.toNat_natCast,aV _ _ _ h3];exact rfl) ?_
  refine aa.lG [] [F] [] (by simp only[go_sem]) (by simp only[go_sem,reduceIte,Nat.reduceEqDiff];exact rfl) hf hb hn xA4 hq on.ok fun r G' n2 m2 ids hqq hn2 hm2 ok2 wi ki=>?_
  obtain ⟨rfl,rfl⟩:=hqq
  simp only[List.nil_append,List.append_nil] at ok2 wi ki ⊢
  have on2:On [F] n1 m1 [F] n2 _ m2:=⟨hn2,hm2,ok2,wi,ki⟩
  refine aa.eval xA1 ?_
  refine aa.nil ⟨by trivial,?_⟩
  rw[ar h3]
  refine Wp.bN (b:=p l[j]) xA2 (fun hd=>?_) (fun hd=>?_)
  ·refine Wp.aw xA1 (by trivial) ?_
   refine Wp.ret ⟨trivial,_,rfl,_,_,((on.step on2).ends (ab.refl _) ⟨?_,rfl⟩)⟩
   rw[gC h3 hd hs];rfl
  ·refine Wp.skip ?_
   refine Wp.jX (by simp only[go_sem,reduceIte,Nat.reduceEqDiff,Nat.reduceAdd,bx];simp (disch:=omega) only[IntWalk.i64_in];exact rfl) (by trivial) ?_
   refine ⟨j+1,[F],n2,_,m2,on2,⟨by omega,fun i hi h=>?_,rfl⟩,by omega,?_⟩
   ·by_cases he:i=j
    ·subst he;exact hd
    ·exact hs i hi (by omega)
   ·exact xSu
 ·have:¬(j:Int)<(l.length:Int):=by simpa using hc
  refine Wp.exit ?_
  refine Wp.aw xA1 (by trivial) ?_
  refine Wp.ret ⟨trivial,_,rfl,_,_,(on.ends (ab.refl _) ⟨?_,rfl⟩)⟩
  rw[gV fun i hi=>hs i hi (by omega)];rfl
theorem wz {F:Fr} (hk:F.k=[]) (l:List Sp) (hl:l.length≤4611686018427387904) (p:Sp→Bool) {g:FuncId} {fn:Func} (hf:Tryz.prog.funcs[g]? =some fn) (hb:fn.body.isSome=true) (hn:fn.name≠ "runtime.NumGoroutine") (caps:List AV)
  (hp:∀c∈l,fV g (aX c::caps) F (p c)):
  aT Tryz.prog 135 [.sl 2 (sps l) .any,.clo (.func g) [] caps] [F] fun r L=>r= .int .i64 (ix p l)∧L=[F]:=by
 refine f135.bo (by simp) fun n m ok=>?_
 unfold Bx
 simp only[C.zz]
 refine Wp.aw xA1 (by trivial) ?_
 refine Wp.seq ?_
 refine Wp.aw (by simp only[go_sem,reduceIte,Nat.reduceEqDiff,Nat.reduceAdd,bx,az];exact rfl) (by trivial) ?_
 refine Wp.block ?_
 refine Wp.gU (β:=Nat) [0,1,7] xA7 (fun j=>[(8,.int .i64 (j:Nat))]) (fun j L=>j≤l.length∧(∀i (hi:i<l.length),i<j→p l[i]=false)∧L=[F]) (fun j=>l.length - j) 0 ⟨Nat.zero_le _,fun i hi h=>absurd h (by omega),rfl⟩ ok xA9 ?_
 rintro j L n1 T1 m1 on ⟨hj,hs,rfl⟩
 refine Wp.aw xA1 (by trivial) ?_
 refine Wp.seq ?_
 refine Wp.bN (b:=decide ((j:Int)<(l.length:Int))) xA2 (fun hc=>?_) (fun hc=>?_)
 ·have h1:(0:Int)≤(j:Int):=by omega
  have h2:(j:Int)<(l.length:Int):=by simpa using hc
  have h3:j<l.length:=by omega
  have hq:=hp _ (List.getElem_mem h3)
  rw[←ar (d:=default) h3] at hq
  refine Wp.skip ?_
  refine Wp.seq ?_
  refine Wp.block ?_
  refine Wp.aw xA1 (by trivial) ?_
  refine Wp.seqItems (by simp only[go_sem,reduceIte,Nat.reduceEqDiff,Nat.reduceAdd,bx,az,h1,h2,and_self,if_true,Int.toNat_natCast,bt _ _ _ h3,aX];exact rfl) ?_
  refine aa.lG [] [F] [] (by simp only[go_sem]) (by simp only[go_sem,reduceIte,Nat.reduceEqDiff];exact rfl) hf hb hn xA4 hq on.ok fun r G' n2 m2 ids hqq hn2 hm2 ok2 wi ki=>?_
  obtain ⟨rfl,rfl⟩:=hqq
  simp only[List.nil_append,List.append_nil] at ok2 wi ki ⊢
  have on2:On [F] n1 m1 [F] n2 _ m2:=⟨hn2,hm2,ok2,wi,ki⟩
  refine aa.eval xA1 ?_
  refine aa.nil ⟨by trivial,?_⟩
  rw[ar h3]
  refine Wp.bN (b:=p l[j]) xA2 (fun hd=>?_) (fun hd=>?_)
  ·refine Wp.aw xA1 (by trivial) ?_
   refine Wp.ret ⟨trivial,_,rfl,_,_,((on.step on2).ends (ab.refl _) ⟨?_,rfl⟩)⟩
   rw[gC h3 hd hs];rfl
  ·refine Wp.skip ?_
   refine Wp.jX (by simp only[go_sem,reduceIte,Nat.reduceEqDiff,Nat.reduceAdd,bx];simp (disch:=omega) only[IntWalk.i64_in];exact rfl) (by trivial) ?_
   refine ⟨j+1,[F],n2,_,m2,on2,⟨by omega,fun i hi h=>?_,rfl⟩,by omega,?_⟩
   ·by_cases he:i=j
    ·subst he;exact hd
    ·exact hs i hi (by omega)
   ·exact xSu
 ·have:¬(j:Int)<(l.length:Int):=by simpa using hc
  refine Wp.exit ?_
  refine Wp.aw xA1 (by trivial) ?_
  refine Wp.ret ⟨trivial,_,rfl,_,_,(on.ends (ab.refl _) ⟨?_,rfl⟩)⟩
  rw[gV fun i hi=>hs i hi (by omega)];rfl
theorem oK {F:Fr} (hk:F.k=[]) (l:List Bs) (hl:l.length≤4611686018427387904) (p:Bs→Bool) {g:FuncId} {fn:Func} (hf:Tryz.prog.funcs[g]? =some fn) (hb:fn.body.isSome=true) (hn:fn.name≠ "runtime.NumGoroutine") (caps:List AV)
  (hp:∀c∈l,fV g (.str c::caps) F (p c)):
  fV 59 [.sl 1 (strs l) .any,.clo (.func g) [] caps] F (l.any p):=by
 refine f59.bo (by simp) fun n m ok=>?_
 unfold c59
 simp only[C.zz]
 refine rn0 @cK ?_
 refine aa.gB xA2 xA3 (tL hk l hl p hf hb hn caps hp) (hk) (ok) fun n1 m1 ids on hids=>?_
 refine aa.evR (by simp only[go_sem,reduceIte,Nat.reduceEqDiff,Nat.reduceAdd,bx,cK];exact rfl) ?_
 refine rn0 @cK ?_
 exact Wp.ret ⟨trivial,_,rfl,_,_,on.ends (ab.refl _) ⟨rfl,rfl⟩⟩
theorem qD {F:Fr} (hk:F.k=[]) (l:List Sp) (hl:l.length≤4611686018427387904) (p:Sp→Bool) {g:FuncId} {fn:Func} (hf:Tryz.prog.funcs[g]? =some fn) (hb:fn.body.isSome=true) (hn:fn.name≠ "runtime.NumGoroutine") (caps:List AV)
  (hp:∀c∈l,fV g (aX c::caps) F (p c)):
  fV 104 [.sl 2 (sps l) .any,.clo (.func g) [] caps] F (l.any p):=by
 refine f104.bo (by simp) fun n m ok=>?_
 unfold Bt
 simp only[C.zz]
 refine rn0 @cK ?_
 refine aa.gB xA2 xA3 (wz hk l hl p hf hb hn caps hp) (hk) (ok) fun n1 m1 ids on hids=>?_
 refine aa.evR (by simp only[go_sem,reduceIte,Nat.reduceEqDiff,Nat.reduceAdd,bx,cK];exact rfl) ?_
 refine rn0 @cK ?_
 exact Wp.ret ⟨trivial,_,rfl,_,_,on.ends (ab.refl _) ⟨rfl,rfl⟩⟩
def tM (x:AV) (F:Fr) (t:Int) (w:Bs→Bs→Bool):Prop:=∀a b,fV 58 [x,.str a,.str b,.int .i64 t] F (w a b)
theorem yE {x:AV} {F:Fr} {t:Int} {w:Bs→Bs→Bool} (hk:F.k=[]) (hw:tM x F t w) (q:Bs) (hq:q.length≤4611686018427387904):fV 103 [.str q,.ref [x],.ref [.int .i64 t]] F (w q (q++[0])):=by
 refine f103.bo (by simp) fun n m ok=>?_
 unfold Cd
 simp only[C.zz]
 have hadd:q.length+1<9223372036854775808:=by omega
 have hw2:=hw q (q++[0])
 refine rn0 (cj4 @List.length_cons.{0} @List.length_nil.{0} @Nat.zero_add hadd) ?_
 refine aa.gB xA2 xA3 (hw2) (hk) (ok) fun n1 m1 ids on hids=>?_
 refine aa.evR xA1 ?_
 refine rn0 hadd ?_
 exact Wp.ret ⟨trivial,_,rfl,_,_,on.ends (ab.refl _) ⟨rfl,rfl⟩⟩
theorem yF {x:AV} {F:Fr} {t:Int} {w:Bs→Bs→Bool} (hk:F.k=[]) (hw:tM x F t w) (s:Sp):fV 105 [aX s,.ref [x],.ref [.int .i64 t]] F (w s.f s.t):=by
 refine f105.nG (by simp) fun n m ok=>?_
 unfold Ce
 simp only[C.zz]
 have hw2:=hw s.f s.t
 have ok2:=ok.more (.cells [.str s.f,.str s.t])
 have gb:∀L,lay (ob n (.cells [.str s.f,.str s.t])::L) n=some (.cells [.str s.f,.str s.t]):=fun L=>aK _ _ _
 refine rn0 @aX.eq_1 ?_
 rw[bm]
 refine rn0 gb ?_
 refine aa.iM ([_]) ([]) xA2 xA3 (hw2) (hk) (ok2) fun n1 m1 ids hn1 hm1 hids ok3=>?_
 simp only[List.cons_append,List.nil_append] at ok3 ⊢
 refine aa.evR xA1 ?_
 refine rn0 gb ?_
 exact Wp.ret ⟨trivial,_,rfl,ab.refl _,fun j hj=>bp _ _ (by omega),fun t ht=>by simp[ks,hk] at ht⟩
def fS (k:List Bs) (l:List Sp) (w:Bs→Bs→Bool):Bool:=bg k l&&((k.any fun q=>w q (q++[0]))||l.any fun s=>w s.f s.t)
set_option maxHeartbeats 2000000 in
theorem Au {x:AV} {F:Fr} {t:Int} {w:Bs→Bs→Bool} (hx:x= .sc (.pointer none)∨∃s,x= .ptr s 0∧(F.o s).isSome=true) (hk:F.k=[]) (hw:tM x F t w) (k:List Bs) (l:List Sp) (lk:∀q∈k,q.length≤4611686018427387904):
  fV 60 [bT k l,x,.int .i64 t] F (fS k l w):=by
 refine f60.nG (by simp) fun n m ok=>?_
 unfold c60
 simp only[C.zz]
 have hck:=fY k l
 unfold bT at hck
 have e1:decide (n≤n)=true:=decide_eq_true (by omega)
 have e2:decide (n≤n+1)=true:=decide_eq_true (by omega)
 have e3:decide (n≤n+1+1)=true:=decide_eq_true (by omega)
 have f1:(n=n+1+1)=False:=eq_false (by omega)
 have f2:(n=n+1)=False:=eq_false (by omega)
 have f3:(n+1=n+1+1)=False:=eq_false (by omega)
 have ok1:Ok [F] (n+1+1+1) (ks [F]) m:=ok.grow (by omega) (Nat.le_refl _)
 have ole:∀a b c:Av.Obj,OLe (H.drop ⟨upd (upd (upd (lay [F]) n (some a)) (n+1) (some b)) (n+1+1) (some c),n+1+1+1,ks [F],m⟩ fun j=>decide (n≤j)).objs (lay [F]):=fun a b c j o hj=>by
  have hjn:j<n:=by
   rcases Nat.lt_or_ge j n with h|h
   ·exact h
   ·rw[ok.fq h] at hj;cases hj
  refine ⟨o,?_,cq.refl _⟩
  simp only[H.drop,upd]
  rw[if_neg (by simp;omega),if_neg (by omega),if_neg (by omega),if_neg (by omega)];exact hj
 have c1:=fun (hc:bg k l=true)=>oK hk k (by have:=(dh hc).1;omega) (fun q=>w q (q++[0])) Tryz.func103 rfl (of_decide_eq_true (by kernel_rfl)) [.ref [x],.ref [.int .i64 t]] (fun c hc2=>yE hk hw c (lk c hc2))
 have c2:=fun (hc:bg k l=true)=>qD hk l (by have:=(dh hc).2.1;omega) (fun s=>w s.f s.t) Tryz.func105 rfl (of_decide_eq_true (by kernel_rfl)) [.ref [x],.ref [.int .i64 t]] (fun c _=>yF hk hw c)
 have d4:decide ((4:Int)=0)=false:=rfl
 have d0:decide ((0:Int)=0)=true:=rfl
 rcases hx with e|⟨s,e,hs⟩
 ·clear hw
  subst e
  refine Wp.aw (by simp only[go_sem,reduceIte,Nat.reduceEqDiff,Nat.reduceAdd,bx,bT];exact rfl) (by trivial) ?_
  refine Wp.frz (fun j=>decide (n≤j)) [(3,.ref [.sl 1 (strs k) .any,.sl 2 (sps l) .any]),(4,.ref [.sc (.pointer none)]),(5,.ref [.int .i64 t])] ⟨lay [F],n+1+1+1,ks [F],m⟩ ?_ (ole _ _ _) (fun t ht=>ht) (Nat.le_refl _) (Nat.le_refl _) ?_
  ·simp only[aC,go_sem,reduceIte,Nat.reduceEqDiff,unT,bx,e1,e2,e3,f1,f2,f3,if_false,if_true,List.drop_zero]
   and_intros<;>first|exact ab.refl _|trivial
  cases hc:bg k l with
  |false=>
   rw[hc] at hck
   simp only[Bool.false_eq_true,if_false] at hck
   refine rn1 d4 hck ?_
   refine Wp.ret ⟨trivial,_,rfl,?_,fun j hj=>rfl,fun t ht=>ht⟩
   rw[fS,hc];exact ab.refl _
  |true=>
   rw[hc] at hck
   simp only[if_true] at hck
   have k1:=c1 hc
   have k2:=c2 hc
   refine rn1 d0 hck ?_
   cases hb1:(k.any fun q=>w q (q++[0])) with
   |true=>
    rw[hb1] at k1
    refine aa.gB xA2 xA3 (k1) (hk) (ok1) fun n1 m1 ids1 on1 hids1=>?_
    refine aa.evR xA1 ?_
    refine rn0 d0 ?_
    refine Wp.ret ⟨trivial,_,rfl,?_,fun j hj=>rfl,fun t ht=>by simp[ks,hk] at ht⟩
    rw[fS,hc,hb1];exact ab.refl _
   |false=>
    rw[hb1] at k1
    refine aa.gB xA2 xA3 (k1) (hk) (ok1) fun n1 m1 ids1 on1 hids1=>?_
    refine aa.evR xA1 ?_
    refine rn0 d0 ?_
    refine aa.gB xA2 xA3 (k2) (hk) (on1.ok) fun n2 m2 ids2 on2 hids2=>?_
    refine aa.evR xA1 ?_
    refine rn0 d0 ?_
    refine Wp.ret ⟨trivial,_,rfl,?_,fun j hj=>rfl,fun t ht=>by simp[ks,hk] at ht⟩
    rw[fS,hc,hb1];exact ab.refl _
 ·clear hw
  subst e
  refine Wp.aw (by simp only[go_sem,reduceIte,Nat.reduceEqDiff,Nat.reduceAdd,bx,bT];exact rfl) (by trivial) ?_
  refine Wp.frz (fun j=>decide (n≤j)) [(3,.ref [.sl 1 (strs k) .any,.sl 2 (sps l) .any]),(4,.ref [.ptr s 0]),(5,.ref [.int .i64 t])] ⟨lay [F],n+1+1+1,ks [F],m⟩ ?_ (ole _ _ _) (fun t ht=>ht) (Nat.le_refl _) (Nat.le_refl _) ?_
  ·simp only[aC,go_sem,reduceIte,Nat.reduceEqDiff,unT,bx,e1,e2,e3,f1,f2,f3,if_false,if_true,List.drop_zero]
   and_intros<;>first|exact ab.refl _|trivial
  cases hc:bg k l with
  |false=>
   rw[hc] at hck
   simp only[Bool.false_eq_true,if_false] at hck
   refine rn1 d4 hck ?_
   refine Wp.ret ⟨trivial,_,rfl,?_,fun j hj=>rfl,fun t ht=>ht⟩
   rw[fS,hc];exact ab.refl _
  |true=>
   rw[hc] at hck
   simp only[if_true] at hck
   have k1:=c1 hc
   have k2:=c2 hc
   refine rn1 d0 hck ?_
   cases hb1:(k.any fun q=>w q (q++[0])) with
   |true=>
    rw[hb1] at k1
    refine aa.gB xA2 xA3 (k1) (hk) (ok1) fun n1 m1 ids1 on1 hids1=>?_
    refine aa.evR xA1 ?_
    refine rn0 d0 ?_
    refine Wp.ret ⟨trivial,_,rfl,?_,fun j hj=>rfl,fun t ht=>by simp[ks,hk] at ht⟩
    rw[fS,hc,hb1];exact ab.refl _
   |false=>
    rw[hb1] at k1
    refine aa.gB xA2 xA3 (k1) (hk) (ok1) fun n1 m1 ids1 on1 hids1=>?_
    refine aa.evR xA1 ?_
    refine rn0 d0 ?_
    refine aa.gB xA2 xA3 (k2) (hk) (on1.ok) fun n2 m2 ids2 on2 hids2=>?_
    refine aa.evR xA1 ?_
    refine rn0 d0 ?_
    refine Wp.ret ⟨trivial,_,rfl,?_,fun j hj=>rfl,fun t ht=>by simp[ks,hk] at ht⟩
    rw[fS,hc,hb1];exact ab.refl _
theorem pQ:∀(x q:Bs),(!Op.bytesLess x q&&Op.bytesLess x (q++[0]))=decide (x=q)
 |[],[]=>by simp[Op.bytesLess]
 |a::x,[]=>by cases x<;>simp[Op.bytesLess]
 |[],b::q=>by simp[Op.bytesLess]
 |a::x,b::q=>by
  have ih:=pQ x q
  simp only[List.cons_append,Op.bytesLess]
  by_cases h1:a<b
  ·have:a≠b:=fun e=>by rw[e] at h1;exact absurd h1 (by simp)
   simp[h1,this]
  ·by_cases h2:a=b
   ·subst h2
    simp only[h1,decide_false,Bool.false_or,beq_self_eq_true,Bool.true_and]
    rw[ih];simp
   ·have:(a == b)=false:=by simp[h2]
    simp[h1,h2,this]
theorem Aw (x q:Bs):Space.inB x q (q++[0])=decide (x=q):=by
 have:(q++[0]:Bs)≠[]:=by simp
 rw[←pQ,Space.inB,Space.eU,decide_eq_false this,Bool.false_or]
theorem BZ (s:Sp) (x:Bs):Space.inB x s.f s.t=fz s x:=rfl
open Space (Spc It bb bY) in
theorem wA {S:Spc} (hr:bb S.L) (k:List Bs) (l:List Sp) (t:Int):fS k l (fun a b=>bY S a b t)=S.L.any fun p=>bQ k l p.1&&bY S p.1 (p.1++[0]) t:=by
 cases hc:bg k l with
 |false=>simp[fS,bQ,hc]
 |true=>
  rw[fS,hc,Bool.true_and]
  refine Bool.eq_iff_iff.2 ?_
  simp only[Bool.or_eq_true,List.any_eq_true,Bool.and_eq_true,lY hc,decide_eq_true_eq,Space.pD hr,Aw,BZ]
  constructor
  ·rintro (⟨q,hq,p,hp,e,hs⟩|⟨s,hs,p,hp,hw,hv⟩)
   ·exact ⟨p,hp,.inl (by rw[e];exact hq),p,hp,rfl,hs⟩
   ·exact ⟨p,hp,.inr (List.any_eq_true.2 ⟨s,hs,hw⟩),p,hp,rfl,hv⟩
  ·rintro ⟨p,hp,h1,p2,hp2,e,hv⟩
   rcases h1 with h1|h1
   ·exact .inl ⟨p.1,h1,p2,hp2,e,hv⟩
   ·obtain ⟨s,hs,hw⟩:=List.any_eq_true.1 h1
    exact .inr ⟨s,hs,p2,hp2,by rw[e];exact hw,hv⟩
end Go.Proofs.YtpehfflehebmbaaGreat.Reads
end
section
set_option maxRecDepth 10000
namespace Go.Proofs.YtpehfflehebmbaaGreat.Txn
open Go Go.Av Go.Proofs Go.Proofs.YtpehfflehebmbaaGreat.C Go.Proofs.YtpehfflehebmbaaGreat.Batch Go.Proofs.YtpehfflehebmbaaGreat.Space Go.Proofs.YtpehfflehebmbaaGreat.Reads
def dC (S:Spc) (Y:Tx) (a b:Bs) (most:Int):Tx × List Pr × Int:=
 if Y.ended then (Y,[],17) else ((gI S Y a b most).1,if (gI S Y a b most).2.2=0 then (gI S Y a b most).2.1 else [],(gI S Y a b most).2.2)
set_option maxHeartbeats 4000000 in
theorem qE {x s:Nat} {Y:Tx} {F:Fr} {S:Spc} {FS:Fr} (hF:TxF x s Y F) (hS:cU s S FS) (hr:bb S.L) (sm:Small S) (hSk:∀p∈S.L,p.1.length≤1000000) (hrC:Space.bL (ak Y.C)) (hl:Y.C.length≤64) (hCk:∀c∈Y.C,c.k.length≤1000000) (a b:Bs) (most:Int):
  aT Tryz.prog 15 [.ptr x 0,.str a,.str b,.int .i64 most] [F,FS] fun r L=>r= .tup [.sl 2 (prs (dC S Y a b most).2.1) .any,.int .i64 (dC S Y a b most).2.2]∧∃F',L=[F',FS]∧TxF x s (dC S Y a b most).1 F':=by
 refine f15.bo (by simp) fun n m ok=>?_
 unfold c15
 simp only[C.zz]
 have e1:(decide (n≤n)&&decide (n≠n+1+1))=true:=by simp;omega
 have e2:(decide (n≤n+1)&&decide (n+1≠n+1+1))=true:=by simp
 have e3:(decide (n≤n+1+1)&&decide (n+1+1≠n+1+1))=false:=by simp
 have e4:(decide (n≤n+1+1+1)&&decide (n+1+1+1≠n+1+1))=true:=by simp;omega
 have f1:(n=n+1)=False:=eq_false (by omega)
 have f2:(n=n+1+1)=False:=eq_false (by omega)
 have f3:(n=n+1+1+1)=False:=eq_false (by omega)
 have f4:(n+1=n+1+1)=False:=eq_false (by omega)
 have f5:(n+1=n+1+1+1)=False:=eq_false (by omega)
 have f6:(n+1+1=n+1+1+1)=False:=eq_false (by omega)
 have dx:(decide (n≤x)&&decide (x≠n+1+1))=false:=by
  obtain ⟨_,_,_,_,_,hx,_⟩:=hF.go
  have:=ok.lt (by simp) hx
  simp;omega
 have ok0:Ok [F,FS] (n+1+1) (ks [F,FS]) m:=ok.grow (by omega) (Nat.le_refl _)
 have ok1:=(ok0.more (.cells [.str b])).grow (n':=n+1+1+1+1) (m':=m) (by omega) (Nat.le_refl _)
 have on0:On [F,FS] n m [ob (n+1+1) (.cells [.str b]),F,FS] (n+1+1+1+1) (ks [F,FS]) m:=by
  refine ⟨by omega,Nat.le_refl _,ok1,fun j=>?_,fun t ht=> .inl (by simpa [ks,ob] using ht)⟩
  by_cases e:j=n+1+1
  ·exact .inl (by omega)
  ·rw[bp _ _ e]
   cases h:lay [F,FS] j with
   |none=>exact .inr (.inr rfl)
   |some o=>exact .inr (.inl rfl)
 refine Wp.aw xA1 (by trivial) ?_
 refine Wp.frz (fun j=>decide (n≤j)&&decide (j≠n+1+1)) [(4,.ref [.ptr x 0]),(5,.ref [.str a]),(6,.ptr (n+1+1) 0),(7,.ref [.int .i64 most])] ⟨lay [ob (n+1+1) (.cells [.str b]),F,FS],n+1+1+1+1,ks [F,FS],m⟩ ?_ ?_ (fun t ht=>ht) (Nat.le_refl _) (Nat.le_refl _) ?_
 ·simp only[aC,go_sem,reduceIte,Nat.reduceEqDiff,unT,eB,bx,e1,e2,e3,e4,f1,f2,f3,f4,f5,f6,dx,if_false,if_true,List.drop_zero,Bool.false_eq_true]
  and_intros<;>first|exact ab.refl _|trivial
 ·intro j o hj
  have hj:lay [ob (n+1+1) (.cells [.str b]),F,FS] j=some o:=hj
  by_cases e:j=n+1+1
  ·subst e
   rw[aK] at hj
   cases hj
   refine ⟨.cells [.str b],?_,cq.refl _⟩
   simp only[H.drop,e3,Bool.false_eq_true,if_false,upd,f6,if_true]
  ·rw[bp _ _ e] at hj
   have hjn:j<n:=by
    rcases Nat.lt_or_ge j n with h|h
    ·exact h
    ·rw[ok.fq h] at hj;cases hj
   refine ⟨o,?_,cq.refl _⟩
   simp only[H.drop,upd]
   rw[if_neg (by simp;omega),if_neg (by omega),if_neg (by omega),if_neg (by omega),if_neg (by omega)];exact hj
 refine de ?_
 have gF:=hF
 cases he:Y.ended with
 |true=>
  have hd:=BI hF (l:=[ob (n+1+1) (.cells [.str b]),F,FS]) (by simp) he (.clo (.func 49) [] [.ref [.ptr x 0],.ref [.str a],.ptr (n+1+1) 0,.ref [.int .i64 most]])
  refine aa.eX xA2 xA3 (hd) (ok1) fun r1 G1 n1 T1 m1 ids1 hq1 on1=>?_
  obtain ⟨rfl,rfl⟩:=hq1
  refine aa.evR xA1 ?_
  refine de ?_
  refine Wp.ret ⟨trivial,_,rfl,_,_,(on0.step on1).mG (ab.tup (af.cons ab.cap (af.refl _))) ⟨by rw[dC,if_pos he];rfl,F,rfl,by rw[dC,if_pos he];exact hF⟩⟩
 |false=>
  have hd:=z7 hF (l:=[ob (n+1+1) (.cells [.str b]),F,FS]) (by simp) he (g:=49) Tryz.func49 (of_decide_eq_true (by kernel_rfl)) (of_decide_eq_true (by kernel_rfl)) [.ref [.ptr x 0],.ref [.str a],.ptr (n+1+1) 0,.ref [.int .i64 most]]
   (Q:=fun v e L=>v= .sl 2 (prs (gI S Y a b most).2.1) .any∧e=(gI S Y a b most).2.2∧∃F' b',L=[ob (n+1+1) (.cells [.str b']),F',FS]∧TxF x s (gI S Y a b most).1 F') ((Ab hF hS hr sm hSk hrC hl hCk a b most).mono fun r L ⟨h1,h2⟩=>⟨_,_,h1,rfl,rfl,h2⟩)
  refine aa.eX xA2 xA3 (hd) (ok1) fun r1 G1 n1 T1 m1 ids1 hq1 on1=>?_
  obtain ⟨v,e,rfl,rfl,rfl,F',b',rfl,hF'⟩:=hq1
  have hg:dC S Y a b most=((gI S Y a b most).1,if (gI S Y a b most).2.2=0 then (gI S Y a b most).2.1 else [],(gI S Y a b most).2.2):=by rw[dC,if_neg (by simp[he])]
  refine aa.evR xA1 ?_
  refine de ?_
  refine Wp.ret ⟨trivial,_,rfl,.tup [.sl 2 (prs (dC S Y a b most).2.1) .any,.int .i64 (dC S Y a b most).2.2],_,(on0.step on1).mG ?_ ⟨rfl,F',rfl,by rw[hg];exact hF'⟩⟩
  rw[hg]
  simp only
  refine ab.tup (af.cons ?_ (af.refl _))
  split
  ·exact ab.refl _
  ·exact ab.cap
theorem uS {x s:Nat} {Y:Tx} {F:Fr} (hF:TxF x s Y F) (hk:Y.rk.length≤1000000) (hs:Y.rs.length≤1000000):aT Tryz.prog 22 [.ptr x 0] [F] fun r l=>r=bT Y.rk Y.rs∧l=[F]:=by
 obtain ⟨cm,M,K,hM,hxc,hx,hcm,hK⟩:=hF.go
 refine f22.nG (by simp) fun n m ok=>?_
 unfold c22
 simp only[C.zz]
 have fx:=ok.at0 hx
 obtain ⟨x1,x2,x3,x4⟩:=cF (ok.lt (by simp) hx)
 have c1:aA Tryz.prog 61 [.sl 1 (strs Y.rk) .any] (.sl 1 (strs Y.rk) .any):=jL (sz:=1) (bytes:=16) f61 _ (du _) (by rw[ao];omega) (by rw[ao];omega)
 have c2:aA Tryz.prog 62 [.sl 2 (sps Y.rs) .any] (.sl 2 (sps Y.rs) .any):=jL (sz:=2) (bytes:=32) f62 _ (cG _) (by rw[az];omega) (by rw[az];omega)
 refine Wp.aw xA1 (by trivial) ?_
 rw[bm]
 have okx:=ok
 have ok:=ok.more (.cells [.sl 1 [] (.exact 0),.sl 2 [] (.exact 0)])
 have fx:=ok.sub (F:=F) (by simp) _ _ hx
 have fn:=aK n (.cells [.sl 1 [] (.exact 0),.sl 2 [] (.exact 0)]) [F]
 refine xL2 (cj2 fx fn) (gd hF) c1 c2 ?_
 intro ids
 rw[bu]
 refine Wp.ret ⟨trivial,bT Y.rk Y.rs,?_,?_,fun j hj=>bp _ _ (by omega),fun t h=>h⟩
 ·simp only[bR,rvs,rv,go_sem,reduceIte,Nat.reduceEqDiff,aK,bT];rfl
 ·simp only[bT,unT,eB];exact ab.refl _
theorem yG {x s:Nat} {Y:Tx} {F:Fr} {S:Spc} {FS:Fr} (hF:TxF x s Y F) (hS:cU s S FS) (hr:bb S.L) (sm:jY S) (k:Bs) (hk:k.length≤4611686018427387904):
  aT Tryz.prog 57 [.str k,.ref [.ptr x 0]] [F,FS] fun r l=>r= .bool (bY S k (k++[0]) Y.t)∧l=[F,FS]:=by
 obtain ⟨cm,M,K,hM,hxc,hx,hcm,hK⟩:=hF.go
 refine f57.bo (by simp) fun n m ok=>?_
 unfold c57
 simp only[C.zz]
 have fx:=ok.sub (F:=F) (by simp) _ _ hx
 have rm:k.length+1<9223372036854775808:=by omega
 refine rn0 (cj4 fx rm @List.length_cons.{0} @List.length_nil.{0}) ?_
 refine aa.uv [_] [] (by simp only[go_sem]) xA4 (uA hS hr sm k (k++[0]) Y.t) hS.k ok fun n2 m2 ids2 hn2 hm2 ok2=>?_
 have on2:On [F,FS] n m [F,FS] n2 _ m2:=⟨hn2,hm2,ok2,.refl,.refl⟩
 refine aa.evR xA1 ?_
 refine aa.nil ⟨by simp[ay,au,apart,aH],?_⟩
 exact Wp.ret ⟨trivial,_,rfl,_,_,on2.ends (ab.refl _) ⟨rfl,rfl⟩⟩
theorem yH {G:List Fr} {K:AV} (l:List Bs) (hl:l.length≤4611686018427387904) (hK:(K= .sl 1 [] (.exact 0)∧l=[])∨∃k F,K= .tsl 1 k 0 l.length none∧F∈G∧F.o k=some (.cells (strs l))) (p:Bs→Bool) {g:FuncId} {fn:Func} (hf:Tryz.prog.funcs[g]? =some fn) (hb:fn.body.isSome=true) (hn:fn.name≠ "runtime.NumGoroutine") (caps:List AV)
  (hp:∀c∈l,aT Tryz.prog g (.str c::caps) G fun r L=>r= .bool (p c)∧L=G):
  aT Tryz.prog 102 [K,.clo (.func g) [] caps] G fun r L=>r= .int .i64 (ix p l)∧L=G:=by
 refine f102.bo (by simp) fun n m ok=>?_
 unfold zI
 simp only[C.zz]
 rcases hK with ⟨rfl,rfl⟩|⟨k,F,rfl,hFG,hk⟩
 ·have d0:decide ((0:Int)<((0:Nat):Int))=false:=rfl
  refine rn0 @List.length_nil.{0} ?_
  refine Wp.mB (WpL.next ?_)
  refine rn0 d0 ?_
  exact Wp.ret ⟨trivial,_,rfl,_,_,(On.refl ok).ends (ab.refl _) ⟨by rw[gV (fun i hi=>by simp at hi)];rfl,rfl⟩⟩
 refine Wp.aw xA1 (by trivial) ?_
 refine Wp.seq ?_
 refine Wp.aw xA1 (by trivial) ?_
 refine Wp.block ?_
 refine Wp.gU (β:=Nat) [0,1,7] xA7 (fun j=>[(8,.int .i64 (j:Nat))]) (fun j L=>j≤l.length∧(∀i (hi:i<l.length),i<j→p l[i]=false)∧L=G) (fun j=>l.length - j) 0 ⟨Nat.zero_le _,fun i hi h=>absurd h (by omega),rfl⟩ ok xA9 ?_
 rintro j L n1 T1 m1 on ⟨hj,hs,rfl⟩
 by_cases hjl:j<l.length
 ·obtain ⟨g1,h2,h3,e1⟩:=ixF (j:=j) (n:=l.length) (by omega) (by omega)
  have hq:=hp _ (List.getElem_mem hjl)
  have fk:=on.ok.sub hFG _ _ hk
  have gj:(strs l)[0+j*1]? =some (.str l[j]):=by simp[strs,hjl]
  have gj':(strs l)[j]? =some (.str l[j]):=by simp[strs,hjl]
  refine rn0 (fR g1 h2 h3 @and_self @Int.toNat_natCast fk gj gj' @Nat.zero_add @Nat.mul_one) ?_
  refine aa.mY (by simp only[go_sem]) (by simp only[go_sem,reduceIte,Nat.reduceEqDiff];exact rfl) hf hb hn xA4 hq on.ok fun r G' n2 T2 m2 ids hqq on2=>?_
  obtain ⟨rfl,rfl⟩:=hqq
  refine aa.evR xA1 ?_
  refine aa.nil ⟨by trivial,?_⟩
  cases hd:p l[j] with
  |true=>
   refine de ?_
   refine Wp.ret ⟨trivial,_,rfl,_,_,((on.step on2).ends (ab.refl _) ⟨?_,rfl⟩)⟩
   rw[gC hjl hd hs];rfl
  |false=>
   refine rn0 e1 ?_
   refine ⟨j+1,_,n2,_,m2,on2,⟨by omega,fun i hi h=>?_,rfl⟩,by omega,?_⟩
   ·by_cases he:i=j
    ·subst he;exact hd
    ·exact hs i hi (by omega)
   ·exact xSu
 ·obtain rfl:j=l.length:=by omega
  have g1:=ixE (l.length)
  refine rn0 g1 ?_
  refine Wp.ret ⟨trivial,_,rfl,_,_,(on.ends (ab.refl _) ⟨?_,rfl⟩)⟩
  rw[gV fun i hi=>hs i hi hi];rfl
theorem ss {G:List Fr} {K:AV} (l:List Bs) (hl:l.length≤4611686018427387904) (hK:(K= .sl 1 [] (.exact 0)∧l=[])∨∃k F,K= .tsl 1 k 0 l.length none∧F∈G∧F.o k=some (.cells (strs l))) (p:Bs→Bool) {g:FuncId} {fn:Func} (hf:Tryz.prog.funcs[g]? =some fn) (hb:fn.body.isSome=true) (hn:fn.name≠ "runtime.NumGoroutine") (caps:List AV)
  (hp:∀c∈l,aT Tryz.prog g (.str c::caps) G fun r L=>r= .bool (p c)∧L=G):
  aT Tryz.prog 59 [K,.clo (.func g) [] caps] G fun r L=>r= .bool (l.any p)∧L=G:=by
 refine f59.bo (by simp) fun n m ok=>?_
 unfold c59
 simp only[C.zz]
 refine rn0 @cK ?_
 refine aa.eX xA2 xA3 (yH l hl hK p hf hb hn caps hp) (ok) fun r1 G1 n1 T1 m1 ids1 hq1 on1=>?_
 obtain ⟨rfl,rfl⟩:=hq1
 refine aa.evR (by simp only[go_sem,reduceIte,Nat.reduceEqDiff,Nat.reduceAdd,bx,cK];exact rfl) ?_
 refine rn0 @cK ?_
 exact Wp.ret ⟨trivial,_,rfl,_,_,on1.ends (ab.refl _) ⟨rfl,rfl⟩⟩
def lZ (S:Spc) (Y:Tx):Bool:=((ak Y.C).any fun k=>bY S k (k++[0]) Y.t)||fS Y.rk Y.rs (fun a b=>bY S a b Y.t)
set_option maxHeartbeats 2000000 in
theorem su {x s:Nat} {Y:Tx} {F:Fr} {S:Spc} {FS:Fr} (hF:TxF x s Y F) (hS:cU s S FS) (hr:bb S.L) (sm:jY S) (hl:Y.C.length≤64) (hCk:∀c∈Y.C,c.k.length≤1000000) (hRk:∀q∈Y.rk,q.length≤1000000):
  aT Tryz.prog 19 [.ptr x 0] [F,FS] fun r L=>r= .bool (lZ S Y)∧L=[F,FS]:=by
 obtain ⟨cm,M,K,hM,hxc,hx,hcm,hK⟩:=hF.go
 refine f19.bo (by simp) fun n m ok=>?_
 have hkl:=bP Y.C
 have e1:decide (n≤n)=true:=decide_eq_true (by omega)
 have hxn:=ok.lt (F:=F) (by simp) hx
 have dx:=decide_eq_false (show ¬n≤x by omega)
 have ok1:Ok [F,FS] (n+1) (ks [F,FS]) m:=ok.grow (by omega) (Nat.le_refl _)
 have on0:On [F,FS] n m [F,FS] (n+1) (ks [F,FS]) m:=⟨by omega,Nat.le_refl _,ok1,.refl,.refl⟩
 have hkC:∀q∈ak Y.C,q.length≤1000000:=fun q hq=>by
  obtain ⟨c,hc,rfl⟩:=List.mem_map.1 hq
  exact hCk c hc
 have hcK:=ss (G:=[F,FS]) (K:=K) (ak Y.C) (by omega) (by
  rcases hK with h|⟨k,h1,h2,h3,h4⟩
  ·exact .inl h
  ·exact .inr ⟨k,F,h1,by simp,h2⟩) (fun k=>bY S k (k++[0]) Y.t) Tryz.func57 (of_decide_eq_true (by kernel_rfl)) (of_decide_eq_true (by kernel_rfl)) [.ref [.ptr x 0]] (fun c hc=>yG hF hS hr sm c (by have:=hkC c hc;omega))
 have hst:=Au (x:= .ptr s 0) (F:=FS) (t:=Y.t) (w:=fun a b=>bY S a b Y.t) (.inr ⟨s,rfl,by obtain ⟨_,_,_,_,_,h,_⟩:=hS.go;rw[h];rfl⟩) hS.k (fun a b=>uA hS hr sm a b Y.t) Y.rk Y.rs (fun q hq=>by have:=hRk q hq;omega)
 unfold fV Reads.bT at hst
 unfold c19
 simp only[C.zz]
 refine Wp.aw xA1 (by trivial) ?_
 refine Wp.frz (fun j=>decide (n≤j)) [(1,.ref [.ptr x 0])] ⟨lay [F,FS],n+1,ks [F,FS],m⟩ ?_ (kZ ok fun j hj=>by simp only[upd];rw[if_neg (by omega)]) (fun t ht=>ht) (Nat.le_refl _) (Nat.le_refl _) ?_
 ·simp only[aC,go_sem,reduceIte,Nat.reduceEqDiff,unT,eB,bx,e1,dx,if_false,if_true,List.drop_zero]
  and_intros<;>first|exact ab.refl _|trivial
 have okx:=ok
 have ok:=ok1
 have fx:=ok.sub (F:=F) (by simp) _ _ hx
 refine xL0 fx (gd hF) ?_
 intro ids
 refine aa.eX xA2 xA3 (hcK) (ok1) fun r1 G1 n1 T1 m1 ids1 hq1 on1=>?_
 obtain ⟨rfl,rfl⟩:=hq1
 have fx1:=on1.ok.sub (F:=F) (by simp) _ _ hx
 cases ha:(ak Y.C).any fun k=>bY S k (k++[0]) Y.t with
 |true=>
  refine aa.evR (by simp only[go_sem,reduceIte,Nat.reduceEqDiff,Nat.reduceAdd,bx,ha];exact rfl) ?_
  refine aa.nil ⟨by simp[ay,au,apart,aH],?_⟩
  exact Wp.ret ⟨trivial,_,rfl,_,_,(on0.step on1).ends (ab.refl _) ⟨by rw[lZ,ha];rfl,rfl⟩⟩
 |false=>
  refine aa.evR (by simp only[go_sem,reduceIte,Nat.reduceEqDiff,Nat.reduceAdd,bx,ha,fx1,ax,if_true,if_false,Nat.reduceMul,Nat.reduceLeDiff];exact rfl) ?_
  refine aa.uv [_] [] (by simp only[go_sem,bx,reduceIte,Nat.reduceEqDiff]) xA4 hst hS.k on1.ok fun n2 m2 ids2 hn2 hm2 ok2=>?_
  have on2:On [F,FS] n1 m1 [F,FS] n2 _ m2:=⟨hn2,hm2,ok2,.refl,.refl⟩
  refine aa.evR xA1 ?_
  refine aa.nil ⟨by simp[ay,au,apart,aH],?_⟩
  refine Wp.ret ⟨trivial,_,rfl,_,_,((on0.step on1).step on2).ends (ab.refl _) ⟨by rw[lZ,ha,Bool.false_or];rfl,rfl⟩⟩
theorem B0 {x s:Nat} {Y:Tx} {F:Fr} (hF:TxF x s Y F) (hr:Space.bL (ak Y.C)) (hl:Y.C.length≤64) (k:Bs):
  aT Tryz.prog 17 [.ptr x 0,.str k] [F] fun r L=>r= .int .i64 (eF Y ⟨k,[],true⟩).2∧∃F',L=[F']∧TxF x s (eF Y ⟨k,[],true⟩).1 F':=by
 refine f17.bo (by simp) fun n m ok=>?_
 unfold c17
 simp only[C.zz]
 have hc:=rK hF hr hl ⟨k,[],true⟩
 simp only[aL] at hc
 refine de ?_
 refine aa.eX xA2 xA3 (hc) (ok) fun r1 G1 n1 T1 m1 ids1 hq1 on1=>?_
 obtain ⟨rfl,F',rfl,hF'⟩:=hq1
 refine aa.evR xA1 ?_
 refine de ?_
 exact Wp.ret ⟨trivial,_,rfl,_,_,on1.ends (ab.refl _) ⟨rfl,F',rfl,hF'⟩⟩
theorem Ax {x s:Nat} {Y:Tx} {F:Fr} (hF:TxF x s Y F):kd Tryz.prog 25 [.ptr x 0] F (.bool Y.ended):=by
 obtain ⟨c,M,K,hM,hsc,hs,hc,hK⟩:=hF.go
 refine f25.looks hF.fin (by simp) fun n m=>?_
 unfold c25
 simp only[C.zz]
 refine xL0 hs (gd hF) ?_
 intro ids
 exact Wp.ret ⟨trivial,_,rfl,ab.refl _,rfl⟩
theorem CY {x s:Nat} {Y:Tx} {F:Fr} (hF:TxF x s Y F):
  aT Tryz.prog 38 [.ptr x 0] [F] fun r L=>r= .int .i64 (ik Y)∧∃F',L=[F']∧TxF x s {Y with ended:=true} F':=by
 obtain ⟨cm,M,K,hM,hxc,hx,hcm,hK⟩:=hF.go
 refine f38.bo (by simp) fun n m ok=>?_
 unfold c38
 simp only[C.zz]
 have fx:=ok.at0 hx
 have hx0:(F.o x).isSome=true:=by rw[hx];rfl
 have hop:=kE hF
 cases he:Y.ended with
 |true=>
  rw[ik,he] at hop ⊢
  have d0:decide ((17:Int)=0)=false:=rfl
  refine xL0 d0 hop ?_
  intro ids
  refine Wp.ret ⟨trivial,_,rfl,_,_,(On.refl ok).ends (ab.refl _) ⟨rfl,F,rfl,?_⟩⟩
  rw[show ({Y with ended:=true}:Tx)=Y by rw[←he]];exact hF
 |false=>
  rw[ik,he] at hop ⊢
  have d0:decide ((0:Int)=0)=true:=rfl
  refine xL0 (cj3 d0 fx @Bool.false_eq_true) hop ?_
  intro ids
  have e1:=nX (A:=[]) (B:=[]) (.cells [.ptr s 0,.int .i64 Y.t,.mp cm,K,.sl 1 (strs Y.rk) .any,.sl 2 (sps Y.rs) .any,.bool true]) ok hx0
  have on1:=On.CT (A:=[]) (B:=[]) (.cells [.ptr s 0,.int .i64 Y.t,.mp cm,K,.sl 1 (strs Y.rk) .any,.sl 2 (sps Y.rs) .any,.bool true]) ok hx0
  simp only[List.nil_append] at e1 on1
  rw[e1]
  exact Wp.ret ⟨trivial,_,rfl,_,_,on1.ends (ab.refl _) ⟨rfl,_,rfl,TxF.read hM hxc hcm hK hF.k hF.fin {Y with ended:=true} rfl⟩⟩
theorem Ay:∀{C:List Ch},Space.bL (ak C)→∀{i:Nat} (hi:i<C.length),ca C ((ak C).getD i [])=C[i]:=by
 intro C hr i hi
 rw[iQ hi,ca,lU hr (List.getElem_mem hi)]
 rfl
set_option maxHeartbeats 1000000 in
theorem wB {x s:Nat} {Y:Tx} {F:Fr} (hF:TxF x s Y F) (hr:Space.bL (ak Y.C)) (hl:Y.C.length≤64):aT Tryz.prog 21 [.ptr x 0] [F] (fun r l=>r= .sl 3 (chs Y.C) .any∧l=[F]):=by
 obtain ⟨cm,M,K,hM,hxc,hx,hcm,hK⟩:=hF.go
 refine f21.xr (by simp) fun n m ok=>?_
 unfold c21
 simp only[C.zz]
 have ksF:ks [F]=[]:=by simp[ks,hF.k]
 rw[ksF] at ok ⊢
 have fx:=ok.at0 hx
 have fc:=ok.at0 hcm
 have hkl:=bP Y.C
 rcases hK with ⟨rfl,h2⟩|⟨k,rfl,h2,h3,h4⟩
 ·have g1:decide ((0:Int)<((0:Nat):Int))=false:=rfl
  have hL:Y.C=[]:=by simpa [ak] using h2
  refine xL0 fx (gd hF) ?_
  intro ids
  refine Wp.mB (WpL.next ?_)
  refine rn0 g1 ?_
  refine Wp.ret ⟨trivial,_,rfl,?_,fun j hj=>rfl,fun t ht=>ht⟩
  rw[hL];exact ab.cap
 ·have fk:=ok.at0 h2
  refine xL0 fx (gd hF) ?_
  intro ids
  refine Wp.le (aU.tok _ _) ?_
  refine Wp.fD (β:=Nat) [0,12,13] xA7 (fun j tk=>[(14,.int .i64 (j:Nat)),(3,.sl 3 (chs (Y.C.take j)) (.own tk))]) (fun j=>j≤Y.C.length) (fun j=>Y.C.length - j) 0 m (Nat.zero_le _) rfl ?_ ?_
  ·simp only[aC,go_sem,reduceIte,Nat.reduceEqDiff]
   exact ⟨ab.refl _,ab.eL rfl,trivial⟩
  intro j tk m1 hj
  by_cases hj2:j<Y.C.length
  ·obtain ⟨g1,h2,h3,e1⟩:=ixF (j:=j) (n:=(ak Y.C).length) (by omega) (by omega)
   have hget:(strs (ak Y.C))[j]? =some (.str ((ak Y.C).getD j [])):=by
    have:j<(ak Y.C).length:=by omega
    simp[strs,this]
   have hkj:=iQ hj2
   have hstep:chs (Y.C.take (j+1))=chs (Y.C.take j)++[aL Y.C[j]]:=by
    rw[List.take_succ_eq_append_getElem hj2,chs,List.map_append];rfl
   have hlk:=pn false ((ak Y.C).getD j []) M
   have hog:ca M ((ak Y.C).getD j [])=Y.C[j]:=by rw[show ca M ((ak Y.C).getD j [])=ca Y.C ((ak Y.C).getD j []) by rw[ca,ca,hM],Ay hr hj2]
   rw[hog] at hlk
   rw[hkj] at hlk hget
   generalize Y.C[j]=c at*
   unfold nQ at hlk
   simp only[cQ,Bool.false_eq_true,if_false,reduceIte] at hlk
   have hm:(chs (Y.C.take j)).length=j:=by simp[chs];omega
   have rm1:(j+1)*40≤140737488355328:=by omega
   have rm2:j+1<4611686018427387904:=by omega
   have sh:shaped (aL c)=true:=rfl
   unfold aL at hlk sh hstep
   refine rn0 (bD g1 h2 h3 fk hget fx fc @cw hlk @Nat.zero_add @Nat.mul_one (cj7 hm rm1 rm2 @List.mem_singleton.{0} @List.length_cons.{0} @List.length_nil.{0} e1)) ?_
   refine ⟨j+1,m1,m1+1,by omega,by omega,?_⟩
   rw[hstep]
   exact xSu
  ·have hje:j=Y.C.length:=by omega
   subst hje
   rw[hkl]
   have g1:=ixE (Y.C.length)
   refine rn0 g1 ?_
   refine Wp.ret ⟨trivial,_,rfl,?_,fun j hj=>rfl,fun t ht=>by simp at ht⟩
   rw[List.take_length];exact ab.cap
theorem yI {F:Fr} (hk:F.k=[]) (l:List Ch) (hl:l.length≤4611686018427387904) (p:Ch→Bool) {g:FuncId} {fn:Func} (hf:Tryz.prog.funcs[g]? =some fn) (hb:fn.body.isSome=true) (hn:fn.name≠ "runtime.NumGoroutine") (caps:List AV)
  (hp:∀c∈l,fV g (aL c::caps) F (p c)):
  aT Tryz.prog 109 [.sl 3 (chs l) .any,.clo (.func g) [] caps] [F] fun r L=>r= .int .i64 (ix p l)∧L=[F]:=by
 refine f109.bo (by simp) fun n m ok=>?_
 unfold Bv
 simp only[C.zz]
 refine Wp.aw xA1 (by trivial) ?_
 refine Wp.seq ?_
 refine Wp.aw (by simp only[go_sem,reduceIte,Nat.reduceEqDiff,Nat.reduceAdd,bx,an];exact rfl) (by trivial) ?_
 refine Wp.block ?_
 refine Wp.gU (β:=Nat) [0,1,7] xA7 (fun j=>[(8,.int .i64 (j:Nat))]) (fun j L=>j≤l.length∧(∀i (hi:i<l.length),i<j→p l[i]=false)∧L=[F]) (fun j=>l.length - j) 0 ⟨Nat.zero_le _,fun i hi h=>absurd h (by omega),rfl⟩ ok xA9 ?_
 rintro j L n1 T1 m1 on ⟨hj,hs,rfl⟩
 refine Wp.aw xA1 (by trivial) ?_
 refine Wp.seq ?_
 refine Wp.bN (b:=decide ((j:Int)<(l.length:Int))) xA2 (fun hc=>?_) (fun hc=>?_)
 ·have h1:(0:Int)≤(j:Int):=by omega
  have h2:(j:Int)<(l.length:Int):=by simpa using hc
  have h3:j<l.length:=by omega
  have hq:=hp _ (List.getElem_mem h3)
  rw[←Reads.ar (d:=default) h3] at hq
  refine Wp.skip ?_
  refine Wp.seq ?_
  refine Wp.block ?_
  refine Wp.aw xA1 (by trivial) ?_
  refine Wp.seqItems (by simp only[go_sem,reduceIte,Nat.reduceEqDiff,Nat.reduceAdd,bx,an,h1,h2,and_self,if_true,Int.toNat_natCast,bH _ _ _ h3,aL];exact rfl) ?_
  refine aa.lG [] [F] [] (by simp only[go_sem]) (by simp only[go_sem,reduceIte,Nat.reduceEqDiff];exact rfl) hf hb hn xA4 hq on.ok fun r G' n2 m2 ids hqq hn2 hm2 ok2 wi ki=>?_
  obtain ⟨rfl,rfl⟩:=hqq
  simp only[List.nil_append,List.append_nil] at ok2 wi ki ⊢
  have on2:On [F] n1 m1 [F] n2 _ m2:=⟨hn2,hm2,ok2,wi,ki⟩
  refine aa.eval xA1 ?_
  refine aa.nil ⟨by trivial,?_⟩
  rw[Reads.ar h3]
  refine Wp.bN (b:=p l[j]) xA2 (fun hd=>?_) (fun hd=>?_)
  ·refine Wp.aw xA1 (by trivial) ?_
   refine Wp.ret ⟨trivial,_,rfl,_,_,((on.step on2).ends (ab.refl _) ⟨?_,rfl⟩)⟩
   rw[gC h3 hd hs];rfl
  ·refine Wp.skip ?_
   refine Wp.jX (by simp only[go_sem,reduceIte,Nat.reduceEqDiff,Nat.reduceAdd,bx];simp (disch:=omega) only[IntWalk.i64_in];exact rfl) (by trivial) ?_
   refine ⟨j+1,[F],n2,_,m2,on2,⟨by omega,fun i hi h=>?_,rfl⟩,by omega,?_⟩
   ·by_cases he:i=j
    ·subst he;exact hd
    ·exact hs i hi (by omega)
   ·exact xSu
 ·have:¬(j:Int)<(l.length:Int):=by simpa using hc
  refine Wp.exit ?_
  refine Wp.aw xA1 (by trivial) ?_
  refine Wp.ret ⟨trivial,_,rfl,_,_,(on.ends (ab.refl _) ⟨?_,rfl⟩)⟩
  rw[gV fun i hi=>hs i hi (by omega)];rfl
theorem sw {F:Fr} (hk:F.k=[]) (l:List Ch) (hl:l.length≤4611686018427387904) (p:Ch→Bool) {g:FuncId} {fn:Func} (hf:Tryz.prog.funcs[g]? =some fn) (hb:fn.body.isSome=true) (hn:fn.name≠ "runtime.NumGoroutine") (caps:List AV)
  (hp:∀c∈l,fV g (aL c::caps) F (p c)):
  fV 66 [.sl 3 (chs l) .any,.clo (.func g) [] caps] F (l.any p):=by
 refine f66.bo (by simp) fun n m ok=>?_
 unfold c66
 simp only[C.zz]
 refine rn0 @cK ?_
 refine aa.gB xA2 xA3 (yI hk l hl p hf hb hn caps hp) (hk) (ok) fun n1 m1 ids on hids=>?_
 refine aa.evR (by simp only[go_sem,reduceIte,Nat.reduceEqDiff,Nat.reduceAdd,bx,cK];exact rfl) ?_
 refine rn0 @cK ?_
 exact Wp.ret ⟨trivial,_,rfl,_,_,on.ends (ab.refl _) ⟨rfl,rfl⟩⟩
theorem Az {x s:Nat} {Y:Tx} {F:Fr} (hF:TxF x s Y F) (c:Ch):fV 65 [aL c,.ref [.ptr x 0]] F (bO Y.C c.k).isSome:=by
 obtain ⟨cm,M,K,hM,hxc,hx,hcm,hK⟩:=hF.go
 refine f65.nG (by simp) fun n m ok=>?_
 unfold c65
 simp only[C.zz]
 have fx:=ok.at0 hx
 have fc:=ok.at0 hcm
 obtain ⟨x1,x2,x3,x4⟩:=cF (ok.lt (by simp) hx)
 obtain ⟨c1,c2,c3,c4⟩:=cF (ok.lt (by simp) hcm)
 have hlk:=pn true c.k M
 rw[show ca M c.k=ca Y.C c.k by rw[ca,ca,hM],hM] at hlk
 unfold nQ at hlk
 simp only[cQ,if_true] at hlk
 refine Wp.aw (by simp only[go_sem,reduceIte,Nat.reduceEqDiff,Nat.reduceAdd,bx,aL];exact rfl) (by trivial) ?_
 refine Wp.seq (Wp.reg ?_)
 refine aa.part 13 (by simp only[go_sem,reduceIte,Nat.reduceEqDiff,Nat.reduceAdd,bx,fx,fc,cw,hlk,aL,x1,x2,x3,x4,c1,c2,c3,c4];exact rfl) ?_
 simp only[List.drop_succ_cons,List.drop_zero,List.drop_nil]
 refine aa.nil ⟨by simp[ay,au,apart,aH,x1,x2,x3,x4,c1,c2,c3,c4],?_⟩
 refine de ?_
 refine Wp.ret ⟨trivial,_,rfl,ab.refl _,fun j hj=>?_,fun t h=>h⟩
 simp only[upd]
 repeat rw[if_neg (by omega)]
def ox (Y:Tx) (l:List Ch):Bool:=(l.any fun c=>(bO Y.C c.k).isSome)||sf Y.rk Y.rs l
theorem AA {x s:Nat} {Y:Tx} {F:Fr} (hF:TxF x s Y F) (l:List Ch) (hl:l.length≤4611686018427387904):fV 27 [.ptr x 0,.sl 3 (chs l) .any] F (ox Y l):=by
 obtain ⟨cm,M,K,hM,hxc,hx,hcm,hK⟩:=hF.go
 refine f27.bo (by simp) fun n m ok=>?_
 unfold c27
 simp only[C.zz]
 have e1:decide (n≤n)=true:=decide_eq_true (by omega)
 have hxn:=ok.lt (F:=F) (by simp) hx
 have dx:=decide_eq_false (show ¬n≤x by omega)
 have ok1:Ok [F] (n+1) (ks [F]) m:=ok.grow (by omega) (Nat.le_refl _)
 have on0:On [F] n m [F] (n+1) (ks [F]) m:=⟨by omega,Nat.le_refl _,ok1,.refl,.refl⟩
 have hh:=CW Y.rk Y.rs l hl
 unfold Reads.bT at hh
 refine Wp.aw xA1 (by trivial) ?_
 refine Wp.frz (fun j=>decide (n≤j)) [(0,.ptr x 0),(1,.sl 3 (chs l) .any),(2,.ref [.ptr x 0])] ⟨lay [F],n+1,ks [F],m⟩ ?_ (kZ ok fun j hj=>by simp only[upd];rw[if_neg (by omega)]) (fun t ht=>ht) (Nat.le_refl _) (Nat.le_refl _) ?_
 ·simp only[aC,go_sem,reduceIte,Nat.reduceEqDiff,unT,eB,bx,e1,dx,if_false,if_true,List.drop_zero]
  and_intros<;>first|exact ab.refl _|trivial
 have okx:=ok
 have ok:=ok1
 refine Da (gd hF) ?_
 intro ids
 refine aa.gB xA2 xA3 (sw hF.k l hl (fun c=>(bO Y.C c.k).isSome) Tryz.func65 (of_decide_eq_true (by kernel_rfl)) (of_decide_eq_true (by kernel_rfl)) [.ref [.ptr x 0]] (fun c hc=>Az hF c)) (hF.k) (ok1) fun n1 m1 ids on1 hids=>?_
 have fx1:=on1.ok.at0 hx
 cases ha:l.any fun c=>(bO Y.C c.k).isSome with
 |true=>
  refine aa.evR (by simp only[go_sem,reduceIte,Nat.reduceEqDiff,Nat.reduceAdd,bx,ha];exact rfl) ?_
  refine aa.nil ⟨by trivial,?_⟩
  refine de ?_
  exact Wp.ret ⟨trivial,_,rfl,_,_,(on0.step on1).ends (ab.refl _) ⟨by rw[ox,ha];rfl,rfl⟩⟩
 |false=>
  have ok:=on1.ok
  refine aa.evR (by simp only[go_sem,reduceIte,Nat.reduceEqDiff,Nat.reduceAdd,bx,ha,fx1,ax,if_true,if_false,Nat.reduceMul,Nat.reduceLeDiff];exact rfl) ?_
  refine aa.bF xA2 (by simp only[go_sem,reduceIte,Nat.reduceEqDiff,Nat.reduceAdd,bx,List.map];exact af.refl _) (hh) ?_
  refine aa.evR xA1 ?_
  refine aa.nil ⟨by trivial,?_⟩
  refine de ?_
  exact Wp.ret ⟨trivial,_,rfl,_,_,(on0.step on1).ends (ab.refl _) ⟨by rw[ox,ha,Bool.false_or];rfl,rfl⟩⟩
end Go.Proofs.YtpehfflehebmbaaGreat.Txn
end
section
set_option maxRecDepth 10000
namespace Go.Av
theorem Ok.sx {A B:List Fr} {F:Fr} {n m:Nat} {T:List Nat} (ok:Ok (A++F::B) n T m):Ok (A++B) n T m where
 bd G hG j hj:=ok.bd G (by rcases List.mem_append.1 hG with h|h<;>simp[h]) j hj
 dj:=ok.dj.sublist (List.Sublist.append (List.Sublist.refl _) (List.sublist_cons_self _ _))
 tk t ht:=ok.tk t (by
  simp only[ks,List.flatMap_append,List.flatMap_cons,List.mem_append] at ht ⊢
  rcases ht with h|h
  ·exact .inl h
  ·exact .inr (.inr h))
 td:=ok.td.sublist (List.Sublist.append (List.Sublist.refl _) (List.sublist_cons_self _ _))
 tb:=ok.tb
theorem lu {A B:List Fr} {F:Fr} {n m:Nat} {T:List Nat} (ok:Ok (A++F::B) n T m) (j:Nat):lay (A++B) j=lay (A++F::B) j∨((F.o j).isSome=true∧lay (A++B) j=none):=by
 cases e:F.o j with
 |none=>left;simp only[bK,cO,e,Option.none_or]
 |some o=>
  right
  refine ⟨rfl,cd.2 fun G hG=>?_⟩
  have hp:=List.pairwise_append.1 ok.dj
  rcases List.mem_append.1 hG with h|h
  ·rcases hp.2.2 G h F (by simp) j with h1|h1
   ·exact h1
   ·rw[e] at h1;cases h1
  ·rcases (List.pairwise_cons.1 hp.2.1).1 G h j with h1|h1
   ·rw[e] at h1;cases h1
   ·exact h1
theorem lv {A B:List Fr} {F:Fr} {n m:Nat} {T:List Nat} (ok:Ok (A++F::B) n T m):OLe (lay (A++F::B)) (lay (A++B)):=fun j o hj=>by
 rcases lu ok j with h|⟨h,h2⟩
 ·exact ⟨o,by rw[←h];exact hj,cq.refl _⟩
 ·rw[h2] at hj;cases hj
theorem On.sx {A B:List Fr} {F:Fr} {l0:List Fr} {n0 m0 n m:Nat} {T:List Nat} (a:On l0 n0 m0 (A++F::B) n T m):On l0 n0 m0 (A++B) n T m:=by
 refine a.step ⟨Nat.le_refl _,Nat.le_refl _,a.ok.sx,fun j=>?_,fun t ht=> .inl ?_⟩
 ·rcases lu a.ok j with h|⟨h,h2⟩
  ·cases e:lay (A++F::B) j with
   |none=>right;right;rw[h,e]
   |some o=>right;left;rfl
  ·right;right;exact h2
 ·simp only[ks,List.flatMap_append,List.flatMap_cons,List.mem_append] at ht ⊢
  rcases ht with h|h
  ·exact .inl h
  ·exact .inr (.inr h)
theorem Ok.yJ {A B:List Fr} {i:Nat} {o:Obj} {n m:Nat} {T:List Nat} (ok:Ok (A++ob i o::B) n T m):(fun j=>if j=i then none else lay (A++ob i o::B) j)=lay (A++B):=by
 funext j
 by_cases e:j=i
 ·rw[if_pos e]
  rcases lu ok j with h|⟨h,h2⟩
  ·subst e
   refine (cd.2 fun G hG=>?_).symm
   have hp:=List.pairwise_append.1 ok.dj
   rcases List.mem_append.1 hG with h|h
   ·rcases hp.2.2 G h (ob j o) (by simp) j with h1|h1
    ·exact h1
    ·simp[aW] at h1
   ·rcases (List.pairwise_cons.1 hp.2.1).1 G h j with h1|h1
    ·simp[aW] at h1
    ·exact h1
  ·exact h2.symm
 ·rw[if_neg e]
  rcases lu ok j with h|⟨h,h2⟩
  ·exact h.symm
  ·rw[aW,if_neg e] at h;cases h
theorem On.iX {l0 L L':List Fr} {n0 m0 n m:Nat} {T:List Nat} {q r:AV} {QQ:AV→List Fr→Prop} (b:On l0 n0 m0 L' n T m) (hle:OLe (lay L) (lay L')) (hs:ab q r) (hq:QQ r L'):Ends l0 n0 m0 QQ q ⟨lay L,n,T,m⟩ r L':=
 ⟨hs,hle,b.ok.tk,b.ok.shrink,b.wi,b.ki,hq⟩
theorem On.only {L:List Fr} {n0 m0 n m:Nat} {T:List Nat} {F:Fr} (ok0:Ok [F] n0 (ks [F]) m0) (hk:F.k=[]) (a:Ok L n T m) (h1:n0≤n) (h2:m0≤m):On [F] n0 m0 [F] n T m:=
 ⟨h1,h2,⟨fun G hG j hj=>ok0.bd G hG j (Nat.le_trans h1 hj),by simp,fun t ht=>by simp[ks,hk] at ht,by simp,a.tb⟩,.refl,.refl⟩
theorem AB {L:List Fr} {F:Fr} {n m:Nat} {T:List Nat} (ok:Ok L n T m) (h:F∈L):OLe (lay L) (lay [F]):=fun j o hj=>⟨o,ok.sub h j o (by simpa [cO,lay,ag] using hj),cq.refl _⟩
end Go.Av
namespace Go.Proofs.YtpehfflehebmbaaGreat.Txn
open Go Go.Av Go.Proofs Go.Proofs.YtpehfflehebmbaaGreat.C Go.Proofs.YtpehfflehebmbaaGreat.Batch Go.Proofs.YtpehfflehebmbaaGreat.Space Go.Proofs.YtpehfflehebmbaaGreat.Reads
def rOk (l:List Ch) (i:Nat):Prop:=cH (l.getD i default)=true∧¬((l.getD i default).d=true∧(l.getD i default).v≠[])∧i<64∧(0<i→Op.bytesLess (l.getD (i - 1) default).k (l.getD i default).k=true)
instance (l:List Ch) (i:Nat):Decidable (rOk l i):=by unfold rOk;infer_instance
def sy (l:List Ch):Bool:=(List.range l.length).all fun i=>decide (rOk l i)
theorem iu {l:List Ch}:sy l=true↔∀i,i<l.length→rOk l i:=by simp[sy]
theorem sA:∀{l:List Ch},(∀i,i+1<l.length→Op.bytesLess (l.getD i default).k (l.getD (i+1) default).k=true)→Space.bL (ak l)
 |[],_=>List.Pairwise.nil
 |[x],_=>by simp[ak,Space.bL]
 |x::y::l,h=>by
  have ih:=sA (l:=y::l) fun i hi=>by
   have:=h (i+1) (by simp at hi ⊢;omega)
   simpa using this
  have h0:Op.bytesLess x.k y.k=true:=by
   have:=h 0 (by simp)
   simpa using this
  refine List.pairwise_cons.2 ⟨fun q hq=>?_,ih⟩
  rcases List.mem_cons.1 hq with rfl|hq
  ·exact h0
  ·exact bz h0 ((List.pairwise_cons.1 ih).1 q hq)
theorem sB {l:List Ch} {i:Nat} (hi:i≤l.length) (h:∀j,j<i→rOk l j):Space.bL (ak (l.take i)):=by
 refine sA fun j hj=>?_
 rw[List.length_take,Nat.min_eq_left hi] at hj
 have:=(h (j+1) hj).2.2.2 (by omega)
 rw[Nat.add_sub_cancel] at this
 simpa [List.getD,List.getElem?_take,hj,show j<i by omega] using this
theorem sD:∀{M:List Ch} {c:Ch},(∀x∈M,x.k≠c.k)→iZ M c=M++[c]
 |[],_,_=>rfl
 |x::M,c,h=>by
  rw[iZ,if_neg (h x (by simp)),sD fun y hy=>h y (by simp[hy])];rfl
theorem wC {l:List Ch} {i:Nat} (hi:i<l.length) (h:∀j,j<i+1→rOk l j):iZ (l.take i) (l.getD i default)=l.take (i+1):=by
 have hr:=sB (i:=i+1) hi h
 have e:l.take (i+1)=l.take i++[l.getD i default]:=by rw[List.take_succ_eq_append_getElem hi,Av.ar hi]
 rw[e]
 refine sD fun x hx ex=>?_
 rw[e,ak,List.map_append] at hr
 have:=(List.pairwise_append.1 hr).2.2 x.k (List.mem_map.2 ⟨x,hx,rfl⟩) (l.getD i default).k (by simp)
 rw[ex,bk] at this
 cases this
def lx (Y:Tx) (l:List Ch):Tx × Int:=if sy l then ({Y with C:=l},0) else (Y,2)
def jZ (i k:Nat):AV:=if i=0 then .sl 1 [] (.exact 0) else .tsl 1 k 0 i none
def jb (l:List Ch) (mp i k:Nat) (F:Fr):List Fr:=if i=0 then [ob mp (.map (bU (l.take i))),F] else [ob k (.cells (strs (ak (l.take i)))),ob mp (.map (bU (l.take i))),F]
set_option maxHeartbeats 4000000 in
theorem tN {x s:Nat} {Y:Tx} {F:Fr} (hF:TxF x s Y F) (l:List Ch) (hll:l.length≤4611686018427387904):
  aT Tryz.prog 85 [.ref [.sl 3 (chs l) .any],.ref [.ptr x 0]] [F] fun r L=>∃v e,r= .tup [v,.int .i64 e]∧e=(lx Y l).2∧∃F',L=[F']∧TxF x s (lx Y l).1 F':=by
 obtain ⟨cm,M,K,hM,hxc,hx,hcm,hK⟩:=hF.go
 refine f85.bo (by simp) fun n m ok=>?_
 unfold c85
 simp only[C.zz]
 have hxn:=ok.lt (by simp) hx
 have hx0:(F.o x).isSome=true:=by rw[hx];rfl
 refine rn0 @an ?_
 rw[bm]
 have on0:On [F] n m [ob n (.map (bU (l.take 0))),F] (n+1) (ks [F]) m:=(On.refl (ok.more _)).grown
 refine Wp.gU (β:=Nat × Nat) [0,1,4,9,10] xA7 (fun b=>[(5,jZ b.1 b.2),(11,.int .i64 (b.1:Nat))]) (fun b L=>b.1≤l.length∧n≤b.2∧(0<b.1→n<b.2)∧(∀j,j<b.1→rOk l j)∧L=jb l n b.1 b.2 F) (fun b=>l.length - b.1) (0,n) ⟨Nat.zero_le _,Nat.le_refl _,fun h=>absurd h (by simp),fun j h=>absurd h (by simp),rfl⟩ on0.ok (by simp only[aC,go_sem,reduceIte,Nat.reduceEqDiff,jZ];exact ⟨ab.refl _,ab.refl _,trivial⟩) ?_
 rintro ⟨i,k⟩ L n1 T1 m1 on ⟨hi,hk,hk2,hs,rfl⟩
 simp only at hi hk hk2 hs on ⊢
 have hgn:=on.gn
 have hgm:=on.gm
 have hFm:F∈jb l n i k F:=by unfold jb;split<;>simp
 by_cases hi2:i<l.length
 ·obtain ⟨g1,h2,h3,e1⟩:=ixF (j:=i) (n:=l.length) (by omega) (by omega)
  have hat:(chs l).getD i .any=aL (l.getD i default):=bH l i .any hi2
  have hrok:rOk l i↔(cH (l.getD i default)=true∧¬((l.getD i default).d=true∧(l.getD i default).v≠[])∧i<64∧(0<i→Op.bytesLess (l.getD (i - 1) default).k (l.getD i default).k=true)):=Iff.rfl
  have hot:rOk l i→iZ (l.take i) (l.getD i default)=l.take (i+1):=fun h=>wC hi2 fun j hj=>by
   rcases Nat.lt_or_ge j i with h1|h1
   ·exact hs j h1
   ·rw[show j=i by omega];exact h
  have htk:l.take (i+1)=l.take i++[l.getD i default]:=by rw[List.take_succ_eq_append_getElem hi2,Av.ar hi2]
  have bad:¬rOk l i→∀(c:List AV) (q:AV),ab q (.tup [.bool false,.int .i64 2])→∃r l',Av.Ends [F] n m (fun r L=>∃v e,r= .tup [v,.int .i64 e]∧e=(lx Y l).2∧∃F',L=[F']∧TxF x s (lx Y l).1 F') q ⟨lay (ob n1 (.cells c)::jb l n i k F),n1+1,T1,m1⟩ r l':=fun hb c q hq=>by
   have e2:lx Y l=(Y,2):=by
    rw[lx,if_neg]
    intro h
    exact hb (iu.1 h i hi2)
   have okb:=on.ok.more (.cells c)
   exact ⟨_,[F],On.iX (On.only ok hF.k okb (by omega) hgm) (AB okb (List.mem_cons_of_mem _ hFm)) hq ⟨_,_,rfl,by rw[e2],F,rfl,by rw[e2];exact hF⟩⟩
  generalize hc:l.getD i default=c at*
  have okb:=on.ok.more (.cells [.str c.k,.str c.v,.bool c.d])
  have f7:=aK n1 (.cells [.str c.k,.str c.v,.bool c.d]) (jb l n i k F)
  refine Wp.aw (by simp only[go_sem,reduceIte,Nat.reduceEqDiff,Nat.reduceAdd,bx,g1];exact rfl) (by trivial) ?_
  refine Wp.seq ?_
  refine Wp.cond_true xA2 ?_
  refine Wp.skip ?_
  refine Wp.seq ?_
  refine Wp.block ?_
  refine Wp.aw (by simp only[go_sem,reduceIte,Nat.reduceEqDiff,Nat.reduceAdd,bx,h2,h3,hat,an,aL,and_self,if_true,Int.toNat_natCast];exact rfl) (by trivial) ?_
  rw[bm,bu]
  refine Wp.seq ?_
  by_cases a1:(120:Int)<(c.k.length:Int)
  ·have d1:=decide_eq_true a1
   refine Wp.seq (Wp.reg ?_)
   refine aa.part 10 (by simp only[go_sem,reduceIte,Nat.reduceEqDiff,Nat.reduceAdd,bx,f7,d1];exact rfl) ?_
   simp only[List.drop_succ_cons,List.drop_zero,List.drop_nil]
   refine aa.part 10 (by simp only[go_sem,reduceIte,Nat.reduceEqDiff,Nat.reduceAdd,bx,f7,d1];exact rfl) ?_
   simp only[List.drop_succ_cons,List.drop_zero,List.drop_nil]
   refine aa.part 10 (by simp only[go_sem,reduceIte,Nat.reduceEqDiff,Nat.reduceAdd,bx,f7,d1];exact rfl) ?_
   simp only[List.drop_succ_cons,List.drop_zero,List.drop_nil]
   refine aa.part 10 (by simp only[go_sem,reduceIte,Nat.reduceEqDiff,Nat.reduceAdd,bx,f7,d1];exact rfl) ?_
   simp only[List.drop_succ_cons,List.drop_zero,List.drop_nil]
   refine aa.nil ⟨by simp[ay,au,apart,aH],?_⟩
   refine Wp.cond_true xA2 ?_
   refine de ?_
   refine Wp.ret ⟨trivial,_,rfl,bad (fun h=>?_) _ _ (ab.refl _)⟩
   have:=(hrok.1 h).1
   simp[cH] at this;omega
  have d1:=decide_eq_false a1
  by_cases a2:(199:Int)<(c.v.length:Int)
  ·have d2:=decide_eq_true a2
   refine Wp.seq (Wp.reg ?_)
   refine aa.part 10 (by simp only[go_sem,reduceIte,Nat.reduceEqDiff,Nat.reduceAdd,bx,f7,d1,d2];exact rfl) ?_
   simp only[List.drop_succ_cons,List.drop_zero,List.drop_nil]
   refine aa.part 10 (by simp only[go_sem,reduceIte,Nat.reduceEqDiff,Nat.reduceAdd,bx,f7,d1,d2];exact rfl) ?_
   simp only[List.drop_succ_cons,List.drop_zero,List.drop_nil]
   refine aa.part 10 (by simp only[go_sem,reduceIte,Nat.reduceEqDiff,Nat.reduceAdd,bx,f7,d1,d2];exact rfl) ?_
   simp only[List.drop_succ_cons,List.drop_zero,List.drop_nil]
   refine aa.part 10 (by simp only[go_sem,reduceIte,Nat.reduceEqDiff,Nat.reduceAdd,bx,f7,d1,d2];exact rfl) ?_
   simp only[List.drop_succ_cons,List.drop_zero,List.drop_nil]
   refine aa.nil ⟨by simp[ay,au,apart,aH],?_⟩
   refine Wp.cond_true xA2 ?_
   refine de ?_
   refine Wp.ret ⟨trivial,_,rfl,bad (fun h=>?_) _ _ (ab.refl _)⟩
   have:=(hrok.1 h).1
   simp[cH] at this;omega
  have d2:=decide_eq_false a2
  have hkp:cH c=true:=by simp[cH];omega
  by_cases a3:c.d=true∧c.v≠[]
  ·have d3:=a3.1
   rw[d3] at f7 okb
   have d4:=decide_eq_false a3.2
   refine Wp.seq (Wp.reg ?_)
   refine aa.part 10 (by simp only[go_sem,reduceIte,Nat.reduceEqDiff,Nat.reduceAdd,bx,f7,d1,d2,d3,d4,Bool.not_false];exact rfl) ?_
   simp only[List.drop_succ_cons,List.drop_zero,List.drop_nil]
   refine aa.part 10 (by simp only[go_sem,reduceIte,Nat.reduceEqDiff,Nat.reduceAdd,bx,f7,d1,d2,d3,d4,Bool.not_false];exact rfl) ?_
   simp only[List.drop_succ_cons,List.drop_zero,List.drop_nil]
   refine aa.part 10 (by simp only[go_sem,reduceIte,Nat.reduceEqDiff,Nat.reduceAdd,bx,f7,d1,d2,d3,d4,Bool.not_false];exact rfl) ?_
   simp only[List.drop_succ_cons,List.drop_zero,List.drop_nil]
   refine aa.part 10 (by simp only[go_sem,reduceIte,Nat.reduceEqDiff,Nat.reduceAdd,bx,f7,d1,d2,d3,d4,Bool.not_false];exact rfl) ?_
   simp only[List.drop_succ_cons,List.drop_zero,List.drop_nil]
   refine aa.nil ⟨by simp[ay,au,apart,aH],?_⟩
   refine Wp.cond_true xA2 ?_
   refine de ?_
   refine Wp.ret ⟨trivial,_,rfl,bad (fun h=>?_) _ _ (ab.refl _)⟩
   exact absurd a3 (hrok.1 h).2.1
  have hdv:c.d=false∨(c.d=true∧c.v=[]):=by
   cases e:c.d with
   |false=>exact .inl rfl
   |true=>exact .inr ⟨rfl,Classical.not_not.1 fun h=>a3 ⟨e,h⟩⟩
  rcases hdv with d3|⟨d3,d4⟩
  ·rw[d3] at f7 okb
   by_cases a5:(64:Int)≤(i:Int)
   ·have d5:=decide_eq_true a5
    refine Wp.seq (Wp.reg ?_)
    refine aa.part 10 (by simp only[go_sem,reduceIte,Nat.reduceEqDiff,Nat.reduceAdd,bx,f7,d1,d2,d3,Bool.false_eq_true,d5];exact rfl) ?_
    simp only[List.drop_succ_cons,List.drop_zero,List.drop_nil]
    refine aa.part 10 (by simp only[go_sem,reduceIte,Nat.reduceEqDiff,Nat.reduceAdd,bx,f7,d1,d2,d3,Bool.false_eq_true,d5];exact rfl) ?_
    simp only[List.drop_succ_cons,List.drop_zero,List.drop_nil]
    refine aa.part 10 (by simp only[go_sem,reduceIte,Nat.reduceEqDiff,Nat.reduceAdd,bx,f7,d1,d2,d3,Bool.false_eq_true,d5];exact rfl) ?_
    simp only[List.drop_succ_cons,List.drop_zero,List.drop_nil]
    refine aa.part 10 (by simp only[go_sem,reduceIte,Nat.reduceEqDiff,Nat.reduceAdd,bx,f7,d1,d2,d3,Bool.false_eq_true,d5];exact rfl) ?_
    simp only[List.drop_succ_cons,List.drop_zero,List.drop_nil]
    refine aa.nil ⟨by simp[ay,au,apart,aH],?_⟩
    refine Wp.cond_true xA2 ?_
    refine de ?_
    refine Wp.ret ⟨trivial,_,rfl,bad (fun h=>?_) _ _ (ab.refl _)⟩
    have:=(hrok.1 h).2.2.1
    omega
   have d5:=decide_eq_false a5
   rcases Nat.eq_zero_or_pos i with rfl|h0
   ·have d6:decide ((0:Int)<((0:Nat):Int))=false:=rfl
    have hrl:jb l n 0 k F=[ob n (.map (bU [])),F]:=rfl
    have hrv:jZ 0 k= .sl 1 [] (.exact 0):=rfl
    rw[hrl] at okb on f7 ⊢
    refine Wp.seq (Wp.reg ?_)
    refine aa.part 10 (by simp only[go_sem,reduceIte,Nat.reduceEqDiff,Nat.reduceAdd,bx,f7,d1,d2,d3,Bool.false_eq_true,d5,d6];exact rfl) ?_
    simp only[List.drop_succ_cons,List.drop_zero,List.drop_nil]
    refine aa.part 10 (by simp only[go_sem,reduceIte,Nat.reduceEqDiff,Nat.reduceAdd,bx,f7,d1,d2,d3,Bool.false_eq_true,d5,d6];exact rfl) ?_
    simp only[List.drop_succ_cons,List.drop_zero,List.drop_nil]
    refine aa.part 10 (by simp only[go_sem,reduceIte,Nat.reduceEqDiff,Nat.reduceAdd,bx,f7,d1,d2,d3,Bool.false_eq_true,d5,d6];exact rfl) ?_
    simp only[List.drop_succ_cons,List.drop_zero,List.drop_nil]
    refine aa.part 10 (by simp only[go_sem,reduceIte,Nat.reduceEqDiff,Nat.reduceAdd,bx,f7,d1,d2,d3,Bool.false_eq_true,d5,d6];exact rfl) ?_
    simp only[List.drop_succ_cons,List.drop_zero,List.drop_nil]
    refine aa.nil ⟨by simp[ay,au,apart,aH],?_⟩
    refine Wp.cond_false xA2 ?_
    refine Wp.skip ?_
    have hrk:rOk l 0:=hrok.2 ⟨hkp,a3,by omega,fun h=>absurd h (by simp)⟩
    have hot1:iZ [] c=l.take 1:=hot hrk
    have htk1:l.take 1=[]++[c]:=htk
    have hput:=ij c []
    simp only[aL,fe] at hput
    rw[hot1,d3] at hput
    have e7:=Ok.bu (A:=[ob n1 (.cells [.str c.k,.str c.v,.bool false])]) (.map (bU (l.take 1))) okb
    have on7:=On.dv (A:=[ob n1 (.cells [.str c.k,.str c.v,.bool false])]) (o':=(.map (bU (l.take 1)))) okb
    simp only[List.cons_append,List.nil_append] at e7 on7
    have fm:=okb.sub (F:=ob n (.map (bU []))) (by simp) n (.map (bU [])) (by simp[aW])
    refine Wp.aw (by simp only[go_sem,reduceIte,Nat.reduceEqDiff,Nat.reduceAdd,bx,ax,if_true,if_false,Nat.reduceMul,Nat.reduceLeDiff,f7,fm,cw,hput,d3];exact rfl) (by trivial) ?_
    rw[e7]
    have f7b:=aK n1 (.cells [.str c.k,.str c.v,.bool false]) [ob n (.map (bU (l.take 1))),F]
    have hcell:([AV.str c.k]:List AV).flatMap cellsOf=strs (ak (l.take 1)):=by rw[htk1];simp[ak,strs,cellsOf]
    refine Wp.reg ?_
    refine aa.part 4 (by simp only[go_sem,reduceIte,Nat.reduceEqDiff,Nat.reduceAdd,bx,ax,if_true,if_false,Nat.reduceMul,Nat.reduceLeDiff,f7b,hrv];exact rfl) ?_
    simp only[List.drop_succ_cons,List.drop_zero,List.drop_nil]
    refine aa.opT xA2 (by simp only[fX,go_sem,reduceIte,Nat.reduceEqDiff,Nat.reduceAdd,bx,List.all_cons,List.all_nil,List.length_cons,List.length_nil,Nat.reduceMul,Nat.reduceLeDiff,Nat.reduceLT,Nat.zero_lt_succ,and_self,if_true,decide_true,Bool.and_self,hcell];exact rfl) rfl ?_
    refine aa.part 1 xA1 ?_
    simp only[List.drop_succ_cons,List.drop_zero,List.drop_nil]
    refine aa.nil ⟨by simp[ay,au,apart,aH],?_⟩
    rw[bm]
    have okC:=on7.ok.more (.cells (strs (ak (l.take 1))))
    have onD:=(on7.grown.step (On.refl okC).grown).sx (A:=[_])
    simp only[List.cons_append,List.nil_append] at onD
    refine Wp.jX (by simp only[go_sem,reduceIte,Nat.reduceEqDiff,Nat.reduceAdd,bx,e1];exact rfl) (by trivial) ?_
    refine ⟨(1,n1+1),[ob (n1+1) (.cells (strs (ak (l.take 1)))),ob n (.map (bU (l.take 1))),F],n1+1+1,T1,m1,onD,⟨by simp only;omega,by simp only;omega,fun _=>by simp only;omega,fun j hj=>?_,by simp[jb]⟩,by simp only;omega,?_⟩
    ·rcases Nat.lt_or_ge j 0 with h1|h1
     ·exact hs j h1
     ·rw[show j=0 by simp only at hj;omega];exact hrk
    ·refine aU.of (dr ?_) (lv (A:=[_]) okC) (fun _ h=>h) (Nat.le_refl _) (Nat.le_refl _)
     simp only[jZ,Nat.succ_ne_zero,if_false]
     exact xSb
   have d6:decide ((0:Int)<(i:Int))=true:=decide_eq_true (by omega)
   have w1:IntKind.i64.wrap ((i:Int) - 1)=((i - 1:Nat):Int):=by rw[IntWalk.i64_in _ (by omega)];omega
   have w2:(0:Int)≤((i - 1:Nat):Int):=by omega
   have w3:((i - 1:Nat):Int)<(l.length:Int):=by omega
   have hat1:(chs l).getD (i - 1) .any=aL (l.getD (i - 1) default):=bH l (i - 1) .any (by omega)
   cases hlt:Op.bytesLess (l.getD (i - 1) default).k c.k with
   |false=>
    refine Wp.seq (Wp.reg ?_)
    refine aa.part 10 (by simp only[go_sem,reduceIte,Nat.reduceEqDiff,Nat.reduceAdd,bx,f7,d1,d2,d3,Bool.false_eq_true,d5,d6,w1,w2,w3,hat1,an,aL,hlt,and_self,if_true,Int.toNat_natCast];exact rfl) ?_
    simp only[List.drop_succ_cons,List.drop_zero,List.drop_nil]
    refine aa.part 10 (by simp only[go_sem,reduceIte,Nat.reduceEqDiff,Nat.reduceAdd,bx,f7,d1,d2,d3,Bool.false_eq_true,d5,d6,w1,w2,w3,hat1,an,aL,hlt,and_self,if_true,Int.toNat_natCast];exact rfl) ?_
    simp only[List.drop_succ_cons,List.drop_zero,List.drop_nil]
    refine aa.part 10 (by simp only[go_sem,reduceIte,Nat.reduceEqDiff,Nat.reduceAdd,bx,f7,d1,d2,d3,Bool.false_eq_true,d5,d6,w1,w2,w3,hat1,an,aL,hlt,and_self,if_true,Int.toNat_natCast];exact rfl) ?_
    simp only[List.drop_succ_cons,List.drop_zero,List.drop_nil]
    refine aa.part 10 (by simp only[go_sem,reduceIte,Nat.reduceEqDiff,Nat.reduceAdd,bx,f7,d1,d2,d3,Bool.false_eq_true,d5,d6,w1,w2,w3,hat1,an,aL,hlt,and_self,if_true,Int.toNat_natCast];exact rfl) ?_
    simp only[List.drop_succ_cons,List.drop_zero,List.drop_nil]
    refine aa.nil ⟨by simp[ay,au,apart,aH],?_⟩
    refine Wp.cond_true xA2 ?_
    refine de ?_
    refine Wp.ret ⟨trivial,_,rfl,bad (fun h=>?_) _ _ (ab.refl _)⟩
    have:=(hrok.1 h).2.2.2 h0
    rw[hlt] at this;cases this
   |true=>
    have hrl:jb l n i k F=[ob k (.cells (strs (ak (l.take i)))),ob n (.map (bU (l.take i))),F]:=by rw[jb,if_neg (by omega)]
    have hrv:jZ i k= .tsl 1 k 0 i none:=by rw[jZ,if_neg (by omega)]
    rw[hrl] at okb on f7 ⊢
    refine Wp.seq (Wp.reg ?_)
    refine aa.part 10 (by simp only[go_sem,reduceIte,Nat.reduceEqDiff,Nat.reduceAdd,bx,f7,d1,d2,d3,Bool.false_eq_true,d5,d6,w1,w2,w3,hat1,an,aL,hlt,and_self,if_true,Int.toNat_natCast];exact rfl) ?_
    simp only[List.drop_succ_cons,List.drop_zero,List.drop_nil]
    refine aa.part 10 (by simp only[go_sem,reduceIte,Nat.reduceEqDiff,Nat.reduceAdd,bx,f7,d1,d2,d3,Bool.false_eq_true,d5,d6,w1,w2,w3,hat1,an,aL,hlt,and_self,if_true,Int.toNat_natCast];exact rfl) ?_
    simp only[List.drop_succ_cons,List.drop_zero,List.drop_nil]
    refine aa.part 10 (by simp only[go_sem,reduceIte,Nat.reduceEqDiff,Nat.reduceAdd,bx,f7,d1,d2,d3,Bool.false_eq_true,d5,d6,w1,w2,w3,hat1,an,aL,hlt,and_self,if_true,Int.toNat_natCast];exact rfl) ?_
    simp only[List.drop_succ_cons,List.drop_zero,List.drop_nil]
    refine aa.part 10 (by simp only[go_sem,reduceIte,Nat.reduceEqDiff,Nat.reduceAdd,bx,f7,d1,d2,d3,Bool.false_eq_true,d5,d6,w1,w2,w3,hat1,an,aL,hlt,and_self,if_true,Int.toNat_natCast];exact rfl) ?_
    simp only[List.drop_succ_cons,List.drop_zero,List.drop_nil]
    refine aa.nil ⟨by simp[ay,au,apart,aH],?_⟩
    refine Wp.cond_false xA2 ?_
    refine Wp.skip ?_
    have hrk:rOk l i:=hrok.2 ⟨hkp,a3,by omega,fun h=>hlt⟩
    have hot1:iZ (l.take i) c=l.take (i+1):=hot hrk
    have htk1:l.take (i+1)=l.take i++[c]:=htk
    have hput:=ij c (l.take i)
    simp only[aL,fe] at hput
    rw[hot1,d3] at hput
    have e7:=Ok.bu (A:=[ob n1 (.cells [.str c.k,.str c.v,.bool false]),ob k (.cells (strs (ak (l.take i))))]) (.map (bU (l.take (i+1)))) okb
    have on7:=On.dv (A:=[ob n1 (.cells [.str c.k,.str c.v,.bool false]),ob k (.cells (strs (ak (l.take i))))]) (o':=(.map (bU (l.take (i+1))))) okb
    simp only[List.cons_append,List.nil_append] at e7 on7
    have fm:=okb.sub (F:=ob n (.map (bU (l.take i)))) (by simp) n (.map (bU (l.take i))) (by simp[aW])
    refine Wp.aw (by simp only[go_sem,reduceIte,Nat.reduceEqDiff,Nat.reduceAdd,bx,ax,if_true,if_false,Nat.reduceMul,Nat.reduceLeDiff,f7,fm,cw,hput,d3];exact rfl) (by trivial) ?_
    rw[e7]
    have f7b:=aK n1 (.cells [.str c.k,.str c.v,.bool false]) [ob k (.cells (strs (ak (l.take i)))),ob n (.map (bU (l.take (i+1)))),F]
    have fkb:=on7.ok.sub (F:=ob k (.cells (strs (ak (l.take i))))) (by simp) k (.cells (strs (ak (l.take i)))) (by simp[aW])
    have hcl:(strs (ak (l.take i))).length=i:=by rw[ao,bP,List.length_take];omega
    have r1:(i+1)*16≤140737488355328:=by omega
    have r2:i+1<4611686018427387904:=by omega
    have hcell:strs (ak (l.take i))++([AV.str c.k]:List AV).flatMap cellsOf=strs (ak (l.take (i+1))):=by rw[htk1];simp[ak,strs,cellsOf]
    have e8:=Ok.yJ (A:=[ob n1 (.cells [.str c.k,.str c.v,.bool false])]) on7.ok
    simp only[List.cons_append,List.nil_append] at e8
    refine Wp.reg ?_
    refine aa.part 4 (by simp only[go_sem,reduceIte,Nat.reduceEqDiff,Nat.reduceAdd,bx,ax,if_true,if_false,Nat.reduceMul,Nat.reduceLeDiff,f7b,hrv];exact rfl) ?_
    simp only[List.drop_succ_cons,List.drop_zero,List.drop_nil]
    refine aa.opK xA2 (by simp only[kP,go_sem,reduceIte,Nat.reduceEqDiff,Nat.reduceAdd,bx,List.all_cons,List.all_nil,List.length_cons,List.length_nil,Nat.mul_one,fkb,hcl,r1,r2,and_self,if_true,decide_true,Bool.and_self,hcell];exact rfl) rfl ?_
    refine aa.part 1 xA1 ?_
    simp only[List.drop_succ_cons,List.drop_zero,List.drop_nil]
    refine aa.nil ⟨by simp[ay,au,apart,aH],?_⟩
    rw[e8,bm]
    have onB:=on7.grown.sx (A:=[_])
    have okC:=onB.ok.more (.cells (strs (ak (l.take (i+1)))))
    have onD:=(onB.step (On.refl okC).grown).sx (A:=[_])
    simp only[List.cons_append,List.nil_append] at onD
    refine Wp.jX (by simp only[go_sem,reduceIte,Nat.reduceEqDiff,Nat.reduceAdd,bx,e1];exact rfl) (by trivial) ?_
    refine ⟨((i+1),n1+1),[ob (n1+1) (.cells (strs (ak (l.take (i+1))))),ob n (.map (bU (l.take (i+1)))),F],n1+1+1,T1,m1,onD,⟨by simp only;omega,by simp only;omega,fun _=>by simp only;omega,fun j hj=>?_,by simp[jb]⟩,by simp only;omega,?_⟩
    ·rcases Nat.lt_or_ge j i with h1|h1
     ·exact hs j h1
     ·rw[show j=i by simp only at hj;omega];exact hrk
    ·refine aU.of (dr ?_) (lv (A:=[_]) okC) (fun _ h=>h) (Nat.le_refl _) (Nat.le_refl _)
     simp only[jZ,Nat.succ_ne_zero,if_false]
     exact xSb
  ·have d4':=decide_eq_true d4
   rw[d3] at f7 okb
   by_cases a5:(64:Int)≤(i:Int)
   ·have d5:=decide_eq_true a5
    refine Wp.seq (Wp.reg ?_)
    refine aa.part 10 (by simp only[go_sem,reduceIte,Nat.reduceEqDiff,Nat.reduceAdd,bx,f7,d1,d2,d3,d4',Bool.not_true,d5];exact rfl) ?_
    simp only[List.drop_succ_cons,List.drop_zero,List.drop_nil]
    refine aa.part 10 (by simp only[go_sem,reduceIte,Nat.reduceEqDiff,Nat.reduceAdd,bx,f7,d1,d2,d3,d4',Bool.not_true,d5];exact rfl) ?_
    simp only[List.drop_succ_cons,List.drop_zero,List.drop_nil]
    refine aa.part 10 (by simp only[go_sem,reduceIte,Nat.reduceEqDiff,Nat.reduceAdd,bx,f7,d1,d2,d3,d4',Bool.not_true,d5];exact rfl) ?_
    simp only[List.drop_succ_cons,List.drop_zero,List.drop_nil]
    refine aa.part 10 (by simp only[go_sem,reduceIte,Nat.reduceEqDiff,Nat.reduceAdd,bx,f7,d1,d2,d3,d4',Bool.not_true,d5];exact rfl) ?_
    simp only[List.drop_succ_cons,List.drop_zero,List.drop_nil]
    refine aa.nil ⟨by simp[ay,au,apart,aH],?_⟩
    refine Wp.cond_true xA2 ?_
    refine de ?_
    refine Wp.ret ⟨trivial,_,rfl,bad (fun h=>?_) _ _ (ab.refl _)⟩
    have:=(hrok.1 h).2.2.1
    omega
   have d5:=decide_eq_false a5
   rcases Nat.eq_zero_or_pos i with rfl|h0
   ·have d6:decide ((0:Int)<((0:Nat):Int))=false:=rfl
    have hrl:jb l n 0 k F=[ob n (.map (bU [])),F]:=rfl
    have hrv:jZ 0 k= .sl 1 [] (.exact 0):=rfl
    rw[hrl] at okb on f7 ⊢
    refine Wp.seq (Wp.reg ?_)
    refine aa.part 10 (by simp only[go_sem,reduceIte,Nat.reduceEqDiff,Nat.reduceAdd,bx,f7,d1,d2,d3,d4',Bool.not_true,d5,d6];exact rfl) ?_
    simp only[List.drop_succ_cons,List.drop_zero,List.drop_nil]
    refine aa.part 10 (by simp only[go_sem,reduceIte,Nat.reduceEqDiff,Nat.reduceAdd,bx,f7,d1,d2,d3,d4',Bool.not_true,d5,d6];exact rfl) ?_
    simp only[List.drop_succ_cons,List.drop_zero,List.drop_nil]
    refine aa.part 10 (by simp only[go_sem,reduceIte,Nat.reduceEqDiff,Nat.reduceAdd,bx,f7,d1,d2,d3,d4',Bool.not_true,d5,d6];exact rfl) ?_
    simp only[List.drop_succ_cons,List.drop_zero,List.drop_nil]
    refine aa.part 10 (by simp only[go_sem,reduceIte,Nat.reduceEqDiff,Nat.reduceAdd,bx,f7,d1,d2,d3,d4',Bool.not_true,d5,d6];exact rfl) ?_
    simp only[List.drop_succ_cons,List.drop_zero,List.drop_nil]
    refine aa.nil ⟨by simp[ay,au,apart,aH],?_⟩
    refine Wp.cond_false xA2 ?_
    refine Wp.skip ?_
    have hrk:rOk l 0:=hrok.2 ⟨hkp,a3,by omega,fun h=>absurd h (by simp)⟩
    have hot1:iZ [] c=l.take 1:=hot hrk
    have htk1:l.take 1=[]++[c]:=htk
    have hput:=ij c []
    simp only[aL,fe] at hput
    rw[hot1,d3] at hput
    have e7:=Ok.bu (A:=[ob n1 (.cells [.str c.k,.str c.v,.bool true])]) (.map (bU (l.take 1))) okb
    have on7:=On.dv (A:=[ob n1 (.cells [.str c.k,.str c.v,.bool true])]) (o':=(.map (bU (l.take 1)))) okb
    simp only[List.cons_append,List.nil_append] at e7 on7
    have fm:=okb.sub (F:=ob n (.map (bU []))) (by simp) n (.map (bU [])) (by simp[aW])
    refine Wp.aw (by simp only[go_sem,reduceIte,Nat.reduceEqDiff,Nat.reduceAdd,bx,ax,if_true,if_false,Nat.reduceMul,Nat.reduceLeDiff,f7,fm,cw,hput,d3];exact rfl) (by trivial) ?_
    rw[e7]
    have f7b:=aK n1 (.cells [.str c.k,.str c.v,.bool true]) [ob n (.map (bU (l.take 1))),F]
    have hcell:([AV.str c.k]:List AV).flatMap cellsOf=strs (ak (l.take 1)):=by rw[htk1];simp[ak,strs,cellsOf]
    refine Wp.reg ?_
    refine aa.part 4 (by simp only[go_sem,reduceIte,Nat.reduceEqDiff,Nat.reduceAdd,bx,ax,if_true,if_false,Nat.reduceMul,Nat.reduceLeDiff,f7b,hrv];exact rfl) ?_
    simp only[List.drop_succ_cons,List.drop_zero,List.drop_nil]
    refine aa.opT xA2 (by simp only[fX,go_sem,reduceIte,Nat.reduceEqDiff,Nat.reduceAdd,bx,List.all_cons,List.all_nil,List.length_cons,List.length_nil,Nat.reduceMul,Nat.reduceLeDiff,Nat.reduceLT,Nat.zero_lt_succ,and_self,if_true,decide_true,Bool.and_self,hcell];exact rfl) rfl ?_
    refine aa.part 1 xA1 ?_
    simp only[List.drop_succ_cons,List.drop_zero,List.drop_nil]
    refine aa.nil ⟨by simp[ay,au,apart,aH],?_⟩
    rw[bm]
    have okC:=on7.ok.more (.cells (strs (ak (l.take 1))))
    have onD:=(on7.grown.step (On.refl okC).grown).sx (A:=[_])
    simp only[List.cons_append,List.nil_append] at onD
    refine Wp.jX (by simp only[go_sem,reduceIte,Nat.reduceEqDiff,Nat.reduceAdd,bx,e1];exact rfl) (by trivial) ?_
    refine ⟨(1,n1+1),[ob (n1+1) (.cells (strs (ak (l.take 1)))),ob n (.map (bU (l.take 1))),F],n1+1+1,T1,m1,onD,⟨by simp only;omega,by simp only;omega,fun _=>by simp only;omega,fun j hj=>?_,by simp[jb]⟩,by simp only;omega,?_⟩
    ·rcases Nat.lt_or_ge j 0 with h1|h1
     ·exact hs j h1
     ·rw[show j=0 by simp only at hj;omega];exact hrk
    ·refine aU.of (dr ?_) (lv (A:=[_]) okC) (fun _ h=>h) (Nat.le_refl _) (Nat.le_refl _)
     simp only[jZ,Nat.succ_ne_zero,if_false]
     exact xSb
   have d6:decide ((0:Int)<(i:Int))=true:=decide_eq_true (by omega)
   have w1:IntKind.i64.wrap ((i:Int) - 1)=((i - 1:Nat):Int):=by rw[IntWalk.i64_in _ (by omega)];omega
   have w2:(0:Int)≤((i - 1:Nat):Int):=by omega
   have w3:((i - 1:Nat):Int)<(l.length:Int):=by omega
   have hat1:(chs l).getD (i - 1) .any=aL (l.getD (i - 1) default):=bH l (i - 1) .any (by omega)
   cases hlt:Op.bytesLess (l.getD (i - 1) default).k c.k with
   |false=>
    refine Wp.seq (Wp.reg ?_)
    refine aa.part 10 (by simp only[go_sem,reduceIte,Nat.reduceEqDiff,Nat.reduceAdd,bx,f7,d1,d2,d3,d4',Bool.not_true,d5,d6,w1,w2,w3,hat1,an,aL,hlt,and_self,if_true,Int.toNat_natCast];exact rfl) ?_
    simp only[List.drop_succ_cons,List.drop_zero,List.drop_nil]
    refine aa.part 10 (by simp only[go_sem,reduceIte,Nat.reduceEqDiff,Nat.reduceAdd,bx,f7,d1,d2,d3,d4',Bool.not_true,d5,d6,w1,w2,w3,hat1,an,aL,hlt,and_self,if_true,Int.toNat_natCast];exact rfl) ?_
    simp only[List.drop_succ_cons,List.drop_zero,List.drop_nil]
    refine aa.part 10 (by simp only[go_sem,reduceIte,Nat.reduceEqDiff,Nat.reduceAdd,bx,f7,d1,d2,d3,d4',Bool.not_true,d5,d6,w1,w2,w3,hat1,an,aL,hlt,and_self,if_true,Int.toNat_natCast];exact rfl) ?_
    simp only[List.drop_succ_cons,List.drop_zero,List.drop_nil]
    refine aa.part 10 (by simp only[go_sem,reduceIte,Nat.reduceEqDiff,Nat.reduceAdd,bx,f7,d1,d2,d3,d4',Bool.not_true,d5,d6,w1,w2,w3,hat1,an,aL,hlt,and_self,if_true,Int.toNat_natCast];exact rfl) ?_
    simp only[List.drop_succ_cons,List.drop_zero,List.drop_nil]
    refine aa.nil ⟨by simp[ay,au,apart,aH],?_⟩
    refine Wp.cond_true xA2 ?_
    refine de ?_
    refine Wp.ret ⟨trivial,_,rfl,bad (fun h=>?_) _ _ (ab.refl _)⟩
    have:=(hrok.1 h).2.2.2 h0
    rw[hlt] at this;cases this
   |true=>
    have hrl:jb l n i k F=[ob k (.cells (strs (ak (l.take i)))),ob n (.map (bU (l.take i))),F]:=by rw[jb,if_neg (by omega)]
    have hrv:jZ i k= .tsl 1 k 0 i none:=by rw[jZ,if_neg (by omega)]
    rw[hrl] at okb on f7 ⊢
    refine Wp.seq (Wp.reg ?_)
    refine aa.part 10 (by simp only[go_sem,reduceIte,Nat.reduceEqDiff,Nat.reduceAdd,bx,f7,d1,d2,d3,d4',Bool.not_true,d5,d6,w1,w2,w3,hat1,an,aL,hlt,and_self,if_true,Int.toNat_natCast];exact rfl) ?_
    simp only[List.drop_succ_cons,List.drop_zero,List.drop_nil]
    refine aa.part 10 (by simp only[go_sem,reduceIte,Nat.reduceEqDiff,Nat.reduceAdd,bx,f7,d1,d2,d3,d4',Bool.not_true,d5,d6,w1,w2,w3,hat1,an,aL,hlt,and_self,if_true,Int.toNat_natCast];exact rfl) ?_
    simp only[List.drop_succ_cons,List.drop_zero,List.drop_nil]
    refine aa.part 10 (by simp only[go_sem,reduceIte,Nat.reduceEqDiff,Nat.reduceAdd,bx,f7,d1,d2,d3,d4',Bool.not_true,d5,d6,w1,w2,w3,hat1,an,aL,hlt,and_self,if_true,Int.toNat_natCast];exact rfl) ?_
    simp only[List.drop_succ_cons,List.drop_zero,List.drop_nil]
    refine aa.part 10 (by simp only[go_sem,reduceIte,Nat.reduceEqDiff,Nat.reduceAdd,bx,f7,d1,d2,d3,d4',Bool.not_true,d5,d6,w1,w2,w3,hat1,an,aL,hlt,and_self,if_true,Int.toNat_natCast];exact rfl) ?_
    simp only[List.drop_succ_cons,List.drop_zero,List.drop_nil]
    refine aa.nil ⟨by simp[ay,au,apart,aH],?_⟩
    refine Wp.cond_false xA2 ?_
    refine Wp.skip ?_
    have hrk:rOk l i:=hrok.2 ⟨hkp,a3,by omega,fun h=>hlt⟩
    have hot1:iZ (l.take i) c=l.take (i+1):=hot hrk
    have htk1:l.take (i+1)=l.take i++[c]:=htk
    have hput:=ij c (l.take i)
    simp only[aL,fe] at hput
    rw[hot1,d3] at hput
    have e7:=Ok.bu (A:=[ob n1 (.cells [.str c.k,.str c.v,.bool true]),ob k (.cells (strs (ak (l.take i))))]) (.map (bU (l.take (i+1)))) okb
    have on7:=On.dv (A:=[ob n1 (.cells [.str c.k,.str c.v,.bool true]),ob k (.cells (strs (ak (l.take i))))]) (o':=(.map (bU (l.take (i+1))))) okb
    simp only[List.cons_append,List.nil_append] at e7 on7
    have fm:=okb.sub (F:=ob n (.map (bU (l.take i)))) (by simp) n (.map (bU (l.take i))) (by simp[aW])
    refine Wp.aw (by simp only[go_sem,reduceIte,Nat.reduceEqDiff,Nat.reduceAdd,bx,ax,if_true,if_false,Nat.reduceMul,Nat.reduceLeDiff,f7,fm,cw,hput,d3];exact rfl) (by trivial) ?_
    rw[e7]
    have f7b:=aK n1 (.cells [.str c.k,.str c.v,.bool true]) [ob k (.cells (strs (ak (l.take i)))),ob n (.map (bU (l.take (i+1)))),F]
    have fkb:=on7.ok.sub (F:=ob k (.cells (strs (ak (l.take i))))) (by simp) k (.cells (strs (ak (l.take i)))) (by simp[aW])
    have hcl:(strs (ak (l.take i))).length=i:=by rw[ao,bP,List.length_take];omega
    have r1:(i+1)*16≤140737488355328:=by omega
    have r2:i+1<4611686018427387904:=by omega
    have hcell:strs (ak (l.take i))++([AV.str c.k]:List AV).flatMap cellsOf=strs (ak (l.take (i+1))):=by rw[htk1];simp[ak,strs,cellsOf]
    have e8:=Ok.yJ (A:=[ob n1 (.cells [.str c.k,.str c.v,.bool true])]) on7.ok
    simp only[List.cons_append,List.nil_append] at e8
    refine Wp.reg ?_
    refine aa.part 4 (by simp only[go_sem,reduceIte,Nat.reduceEqDiff,Nat.reduceAdd,bx,ax,if_true,if_false,Nat.reduceMul,Nat.reduceLeDiff,f7b,hrv];exact rfl) ?_
    simp only[List.drop_succ_cons,List.drop_zero,List.drop_nil]
    refine aa.opK xA2 (by simp only[kP,go_sem,reduceIte,Nat.reduceEqDiff,Nat.reduceAdd,bx,List.all_cons,List.all_nil,List.length_cons,List.length_nil,Nat.mul_one,fkb,hcl,r1,r2,and_self,if_true,decide_true,Bool.and_self,hcell];exact rfl) rfl ?_
    refine aa.part 1 xA1 ?_
    simp only[List.drop_succ_cons,List.drop_zero,List.drop_nil]
    refine aa.nil ⟨by simp[ay,au,apart,aH],?_⟩
    rw[e8,bm]
    have onB:=on7.grown.sx (A:=[_])
    have okC:=onB.ok.more (.cells (strs (ak (l.take (i+1)))))
    have onD:=(onB.step (On.refl okC).grown).sx (A:=[_])
    simp only[List.cons_append,List.nil_append] at onD
    refine Wp.jX (by simp only[go_sem,reduceIte,Nat.reduceEqDiff,Nat.reduceAdd,bx,e1];exact rfl) (by trivial) ?_
    refine ⟨((i+1),n1+1),[ob (n1+1) (.cells (strs (ak (l.take (i+1))))),ob n (.map (bU (l.take (i+1)))),F],n1+1+1,T1,m1,onD,⟨by simp only;omega,by simp only;omega,fun _=>by simp only;omega,fun j hj=>?_,by simp[jb]⟩,by simp only;omega,?_⟩
    ·rcases Nat.lt_or_ge j i with h1|h1
     ·exact hs j h1
     ·rw[show j=i by simp only at hj;omega];exact hrk
    ·refine aU.of (dr ?_) (lv (A:=[_]) okC) (fun _ h=>h) (Nat.le_refl _) (Nat.le_refl _)
     simp only[jZ,Nat.succ_ne_zero,if_false]
     exact xSb
 ·obtain rfl:i=l.length:=by omega
  have hres:sy l=true:=iu.2 hs
  have e2:lx Y l=({Y with C:=l},0):=by rw[lx,if_pos hres]
  have fx:=on.ok.sub hFm _ _ hx
  have fm:=on.ok.sub (F:=ob n (.map (bU (l.take l.length)))) (by unfold jb;split<;>simp) n (.map (bU (l.take l.length))) (by simp[aW])
  rw[List.take_length] at fm
  have hnx:(n=x)=False:=eq_false (by omega)
  have hkl:=bP l
  rcases Nat.eq_zero_or_pos l.length with h0|h0
  ·have hrv:jZ l.length k= .sl 1 [] (.exact 0):=by rw[jZ,if_pos h0]
   have g1:=ixE (l.length)
   rw[hrv]
   refine rn0 g1 ?_
   refine Wp.reg ?_
   refine aa.part 10 (by simp only[go_sem,reduceIte,Nat.reduceEqDiff,Nat.reduceAdd,bx,ax,if_true,if_false,Nat.reduceMul,Nat.reduceLeDiff,fx];exact rfl) ?_
   simp only[List.drop_succ_cons,List.drop_zero,List.drop_nil]
   refine aa.nil ⟨by simp[ay,au,apart,aH],?_⟩
   refine de ?_
   refine Wp.ret ⟨trivial,_,rfl,gf (Y':={Y with C:=l}) (M':=l) (K:= .sl 1 [] (.exact 0)) (.inl hx0) (.inr (Nat.le_refl _)) (by simp only;omega) (by simp only;omega) (by omega) ok (by simp only;omega) (by simp only;omega) ?_ (ab.refl _) (ab.refl _) ?_ (fun q=>rfl) ?_ (fun j o hj=>by cases hj) (fun t ht=>by simp[ks] at ht) (ab.refl _) (fun F' h=>⟨_,_,rfl,by rw[e2],F',rfl,by rw[e2];exact h⟩)⟩
   ·simp only[go_sem,reduceIte]
   ·simp only[go_sem,hnx,if_false];exact fm
   ·exact .inl ⟨rfl,by rw[List.length_eq_zero_iff.1 h0];rfl⟩
  ·have hrv:jZ l.length k= .tsl 1 k 0 l.length none:=by rw[jZ,if_neg (by omega)]
   have fk:=on.ok.sub (F:=ob k (.cells (strs (ak (l.take l.length))))) (by unfold jb;rw[if_neg (by omega)];simp) k (.cells (strs (ak (l.take l.length)))) (by simp[aW])
   have hkn:=on.ok.lt (F:=ob k (.cells (strs (ak (l.take l.length))))) (by unfold jb;rw[if_neg (by omega)];simp) (j:=k) (o:= .cells (strs (ak (l.take l.length)))) (by simp[aW])
   rw[List.take_length] at fk
   have hkx:(k=x)=False:=eq_false (by omega)
   have g1:=ixE (l.length)
   rw[hrv]
   refine rn0 g1 ?_
   refine Wp.reg ?_
   refine aa.part 10 (by simp only[go_sem,reduceIte,Nat.reduceEqDiff,Nat.reduceAdd,bx,ax,if_true,if_false,Nat.reduceMul,Nat.reduceLeDiff,fx];exact rfl) ?_
   simp only[List.drop_succ_cons,List.drop_zero,List.drop_nil]
   refine aa.nil ⟨by simp[ay,au,apart,aH],?_⟩
   refine de ?_
   refine Wp.ret ⟨trivial,_,rfl,gf (Y':={Y with C:=l}) (M':=l) (K:= .tsl 1 k 0 l.length none) (.inl hx0) (.inr (Nat.le_refl _)) (by simp only;omega) (by simp only;omega) (by omega) ok (by simp only;omega) (by simp only;omega) ?_ (ab.refl _) (ab.refl _) ?_ (fun q=>rfl) ?_ (fun j o hj=>by cases hj) (fun t ht=>by simp[ks] at ht) (ab.refl _) (fun F' h=>⟨_,_,rfl,by rw[e2],F',rfl,by rw[e2];exact h⟩)⟩
   ·simp only[go_sem,reduceIte]
   ·simp only[go_sem,hnx,if_false];exact fm
   ·refine .inr ⟨k,by simp only[hkl],?_,by omega,by have:=hk2 h0;omega,by simp only;omega,.inr hk⟩
    simp only[go_sem,hkx,if_false];exact fk
end Go.Proofs.YtpehfflehebmbaaGreat.Txn
end
section
set_option maxRecDepth 10000
namespace Go.Proofs.YtpehfflehebmbaaGreat.Txn
open Go Go.Av Go.Proofs Go.Proofs.YtpehfflehebmbaaGreat.C Go.Proofs.YtpehfflehebmbaaGreat.Batch Go.Proofs.YtpehfflehebmbaaGreat.Space Go.Proofs.YtpehfflehebmbaaGreat.Reads
def eG (Y:Tx):AV:= .agg [.int .i64 Y.t,.sl 3 (chs Y.C) .any,.sl 1 (strs Y.rk) .any,.sl 2 (sps Y.rs) .any,.bool Y.ended]
theorem db (Y:Tx):av (eG Y)=true:=by simp[eG,av,al,aG,dw,du,cG]
theorem uT:∀{C:List Ch} {q:Bs} {j:Nat} (hj:j<C.length),(∀i,i<j→¬(C.getD i default).k=q)→(C.getD j default).k=q→bO C q=some (C.getD j default)
 |[],_,_,hj,_,_=>by simp at hj
 |c::C,q,0,hj,_,h=>by
  simp only[List.getD_cons_zero] at h ⊢
  rw[bO,if_pos h]
 |c::C,q,j+1,hj,h,h2=>by
  have h0:=h 0 (by omega)
  simp only[List.getD_cons_zero,List.getD_cons_succ] at h0 h2 ⊢
  rw[bO,if_neg h0]
  exact uT (by simpa using hj) (fun i hi=>by simpa using h (i+1) (by omega)) h2
theorem uU:∀{C:List Ch} {q:Bs},(∀i,i<C.length→¬(C.getD i default).k=q)→bO C q=none
 |[],_,_=>rfl
 |c::C,q,h=>by
  have h0:=h 0 (by simp)
  simp only[List.getD_cons_zero] at h0
  rw[bO,if_neg h0]
  exact uU fun i hi=>by simpa using h (i+1) (by simpa using hi)
set_option maxHeartbeats 1000000 in
theorem yK (Y:Tx) (hl:Y.C.length≤1000000) (q:Bs):aA Tryz.prog 68 [eG Y,.str q] (.tup [aL (ca Y.C q),.bool (bO Y.C q).isSome]):=by
 refine f68.aD (by simp) (by simp[al,av,db]) (by simp[av,al,aL]) ?_
 unfold c68
 simp only[C.zz]
 unfold eG
 refine lJ ?_
 refine Wp.cZ [1,2,4,5] xA6 (fun j:Nat=>[(6,.int .i64 j)]) (fun j=>j≤Y.C.length∧∀i,i<j→¬(Y.C.getD i default).k=q) (fun j=>Y.C.length - j) 0 ⟨Nat.zero_le _,fun i h=>absurd h (by omega)⟩ ?_ ?_
 ·exact xSb
 ·rintro j ⟨hj,hr⟩
  by_cases hc:j<Y.C.length
  ·obtain ⟨g1,h2,h3,e1⟩:=ixF (j:=j) (n:=Y.C.length) (by omega) (by omega)
   by_cases hk:(Y.C.getD j default).k=q
   ·have d2:decide ((Y.C.getD j default).k=q)=true:=decide_eq_true hk
    have hf:=uT hc hr hk
    refine an0 (cj8 @an g1 d2 h2 h3 @Int.toNat_natCast (fun d=>bH _ _ d hc) @aL.eq_1) ?_
    refine Wp.ret ⟨trivial,_,by simp only[bR,rvs,rv,go_sem,bx,ax,reduceIte,Nat.reduceEqDiff,if_true,if_false,Nat.reduceLeDiff];exact rfl,?_⟩
    exact ab.of_eq (by simp only[ca,hf];rfl)
   ·have d2:decide ((Y.C.getD j default).k=q)=false:=decide_eq_false hk
    refine an0 (cj9 @an g1 d2 h2 h3 e1 @Int.toNat_natCast (fun d=>bH _ _ d hc) @aL.eq_1) ?_
    refine ⟨j+1,⟨by omega,fun i hi=>?_⟩,by omega,?_⟩
    ·by_cases he:i=j
     ·subst he;exact hk
     ·exact hr i (by omega)
    ·exact xSu
  ·obtain rfl:j=Y.C.length:=by omega
   have g1:=ixE (Y.C.length)
   have hf:=uU hr
   refine an0 (cj2 @an g1) ?_
   refine Wp.ret ⟨trivial,_,by simp only[bR,rvs,rv,go_sem,bx,ax,reduceIte,Nat.reduceEqDiff,if_true,if_false,Nat.reduceLeDiff];exact rfl,?_⟩
   exact ab.of_eq (by simp only[ca,hf];rfl)
theorem iv (l:List Ch) (c:Ch):chs l++[.agg [.str c.k,.str c.v,.bool c.d]]=chs (l++[c]):=by simp[chs,aL]
theorem ng {n:Nat} (h:n≤2000000):(n+1)*40≤140737488355328∧n+1<4611686018427387904∧(n+1+1)*40≤140737488355328∧n+1+1<4611686018427387904:=by omega
theorem AD {l:List Ch} {j:Nat} (h:j<l.length):l.drop j=l.getD j default::l.drop (j+1):=Batch.qe h
theorem wD {c:Ch} (hd:c.d=true→c.v=[]):kept c=cH c:=by
 unfold kept cH
 cases e:c.d with
 |false=>simp
 |true=>simp[hd e]
theorem AE {Y:Tx} (hr:Space.bL (ak Y.C)) (hl:Y.C.length≤64) (c:Ch):fL Y.C c=if cH c=false then (Y.C,2) else if 64<(lX c false Y.C).length then (Y.C,9) else (lX c false Y.C,0):=by
 rw[uN hr,fL]
 split
 ·rfl
 ·have:=rJ Y.C c
  cases ht:thK (ak Y.C) c.k with
  |true=>
   rw[ht] at this
   simp only[if_true] at this
   rw[if_neg (by simp),if_neg (by omega)]
  |false=>
   rw[ht] at this
   simp only[Bool.false_eq_true,if_false] at this
   by_cases h:64≤Y.C.length
   ·rw[if_pos ⟨rfl,h⟩,if_pos (by omega)]
   ·rw[if_neg (by simp[h]),if_neg (by omega)]
set_option maxHeartbeats 2000000 in
theorem l5 (Y:Tx) (hr:Space.bL (ak Y.C)) (hl:Y.C.length≤64) (lk:∀x∈Y.C,Ls x.k) (c:Ch) (hck:Ls c.k) (hd:c.d=true→c.v=[]):
  aA Tryz.prog 32 [eG Y,aL c] (.tup [eG (eF Y c).1,.int .i64 (eF Y c).2]):=by
 refine f32.aD (by simp) (by simp[al,av,db,aL]) (by simp[av,al,db]) ?_
 unfold c32
 simp only[C.zz]
 have hkp:=kQ c
 rw[wD hd] at hkp
 have hcg:=AE hr hl c
 have hct:eF Y c=if Y.ended then (Y,17) else ({Y with C:=(fL Y.C c).1},(fL Y.C c).2):=rfl
 obtain ⟨t,C,rk,rs,ended⟩:=Y
 simp only at hr hl lk hcg hct
 rw[hct]
 unfold eG
 unfold aL at hkp ⊢
 cases ended with
 |true=>
  refine lJ ?_
  refine Wp.ret ⟨trivial,_,by simp only[bR,rvs,rv,go_sem,bx,ax,reduceIte,Nat.reduceEqDiff,if_true,if_false,Nat.reduceLeDiff];exact rfl,?_⟩
  exact ab.refl _
 |false=>
  cases hk:cH c with
  |false=>
   rw[hk] at hkp
   rw[hk,if_pos rfl] at hcg
   simp only[hcg]
   refine oG hkp ?_
   refine Wp.ret ⟨trivial,_,by simp only[bR,rvs,rv,go_sem,bx,ax,reduceIte,Nat.reduceEqDiff,if_true,if_false,Nat.reduceLeDiff];exact rfl,?_⟩
   exact ab.refl _
  |true=>
   rw[hk] at hkp
   rw[hk,if_neg (by simp)] at hcg
   simp only[hcg]
   refine oG hkp ?_
   refine Wp.le (aU.tok _ _) ?_
   refine Wp.fD [2,3,4,5] xA7 (fun (j:Nat × List Ch × Bool) tk=>[(6,.sl 3 (chs j.2.1) (.own tk)),(7,.bool j.2.2),(8,.int .i64 j.1)]) (fun j=>j.1≤C.length∧j.2.1++lX c j.2.2 (C.drop j.1)=lX c false C∧j.2.1.length≤2*j.1) (fun j=>C.length - j.1) (0,[],false) _ ⟨Nat.zero_le _,by simp,Nat.le_refl _⟩ rfl ?_ ?_
   ·simp only[aC,go_sem,reduceIte,Nat.reduceEqDiff,Nat.reduceAdd,bx];and_intros<;>first|exact trivial|exact ab.refl _|exact ab.any _|exact ab.eL rfl|(refine ab.int ?_;omega)
   ·rintro ⟨j,o,b⟩ tk m ⟨hj,ho,hol⟩
    simp only at hj ho hol
    obtain ⟨g0,g0',g1',g1''⟩:=ng (show o.length≤2000000 by omega)
    by_cases hc:j<C.length
    ·obtain ⟨g1,h2,h3,e1⟩:=ixF (j:=j) (n:=C.length) (by omega) (by omega)
     rw[AD hc,lX] at ho
     have hls:Ls (C.getD j default).k:=lk _ (by rw[Av.ar hc];exact List.getElem_mem hc)
     have hbel:=cI (C.getD j default).k c.k hls hck
     by_cases hkk:(C.getD j default).k=c.k
     ·have q4:decide ((C.getD j default).k=c.k)=true:=decide_eq_true hkk
      rw[if_pos hkk,List.nil_append] at ho
      cases b with
      |true=>
       simp only[Bool.true_eq_false,false_and,if_false,List.nil_append,Bool.true_or] at ho
       refine an0 (cj9 @an g1 h2 h3 q4 e1 @Int.toNat_natCast (fun d=>bH _ _ d hc) @aL.eq_1) ?_
       refine ⟨(j+1,o,true),tk,m,⟨by simp only;omega,ho,by simp only;omega⟩,by simp only;omega,?_⟩
       exact xSu
      |false=>
       cases hb:Op.bytesLess (C.getD j default).k c.k with
       |true=>
        rw[hb] at hbel ho
        simp only[Bool.true_eq_false,and_false,if_false,List.nil_append,Bool.not_true,Bool.or_self] at ho
        refine an1 (cj9 @an g1 h2 h3 q4 e1 @Int.toNat_natCast (fun d=>bH _ _ d hc) @aL.eq_1) hbel ?_
        refine ⟨(j+1,o,false),tk,m,⟨by simp only;omega,ho,by simp only;omega⟩,by simp only;omega,?_⟩
        exact xSu
       |false=>
        rw[hb] at hbel ho
        simp only[true_and,and_self,if_true,Bool.not_false,Bool.or_true] at ho
        refine an1 (bD @an g1 h2 h3 q4 e1 @Int.toNat_natCast (fun d=>bH _ _ d hc) @aL.eq_1 @List.length_cons.{0} @List.length_nil.{0} (cj3 @Nat.zero_add g0 g0')) hbel ?_
        refine ⟨(j+1,o++[c],true),m,m+1,⟨by simp only;omega,by rw[←ho];simp,by simp;omega⟩,by simp only;omega,?_⟩
        refine aU.tm (by simp only[aC,go_sem,reduceIte,Nat.reduceEqDiff,Nat.reduceAdd,bx];and_intros<;>first|exact trivial|exact ab.refl _|exact ab.any _|exact ab.of_eq (by rw[←iv])|(refine ab.int ?_;omega))
     ·have q4:decide ((C.getD j default).k=c.k)=false:=decide_eq_false hkk
      rw[if_neg hkk] at ho
      cases b with
      |true=>
       simp only[Bool.true_eq_false,false_and,if_false,List.nil_append,Bool.true_or] at ho
       refine an0 (bD @an g1 h2 h3 q4 e1 @Int.toNat_natCast (fun d=>bH _ _ d hc) @aL.eq_1 @List.length_cons.{0} @List.length_nil.{0} (cj3 @Nat.zero_add g0 g0')) ?_
       refine ⟨(j+1,o++[C.getD j default],true),m,m+1,⟨by simp only;omega,by rw[←ho];simp,by simp;omega⟩,by simp only;omega,?_⟩
       refine aU.tm (by simp only[aC,go_sem,reduceIte,Nat.reduceEqDiff,Nat.reduceAdd,bx];and_intros<;>first|exact trivial|exact ab.refl _|exact ab.any _|exact ab.of_eq (by rw[←iv])|(refine ab.int ?_;omega))
      |false=>
       cases hb:Op.bytesLess (C.getD j default).k c.k with
       |true=>
        rw[hb] at hbel ho
        simp only[Bool.true_eq_false,and_false,if_false,List.nil_append,Bool.not_true,Bool.or_self] at ho
        refine an1 (bD @an g1 h2 h3 q4 e1 @Int.toNat_natCast (fun d=>bH _ _ d hc) @aL.eq_1 @List.length_cons.{0} @List.length_nil.{0} (cj3 @Nat.zero_add g0 g0')) hbel ?_
        refine ⟨(j+1,o++[C.getD j default],false),m,m+1,⟨by simp only;omega,by rw[←ho];simp,by simp;omega⟩,by simp only;omega,?_⟩
        refine aU.tm (by simp only[aC,go_sem,reduceIte,Nat.reduceEqDiff,Nat.reduceAdd,bx];and_intros<;>first|exact trivial|exact ab.refl _|exact ab.any _|exact ab.of_eq (by rw[←iv])|(refine ab.int ?_;omega))
       |false=>
        rw[hb] at hbel ho
        simp only[true_and,and_self,if_true,Bool.not_false,Bool.or_true] at ho
        refine an1 (bD @an g1 h2 h3 q4 e1 @Int.toNat_natCast (fun d=>bH _ _ d hc) @aL.eq_1 @List.length_cons.{0} @List.length_nil.{0} (cj5 @Nat.zero_add g0 g0' g1' g1'')) hbel ?_
        refine ⟨(j+1,o++[c]++[C.getD j default],true),m+1,m+2,⟨by simp only;omega,by rw[←ho];simp,by simp;omega⟩,by simp only;omega,?_⟩
        refine aU.tm (by simp only[aC,go_sem,reduceIte,Nat.reduceEqDiff,Nat.reduceAdd,bx];and_intros<;>first|exact trivial|exact ab.refl _|exact ab.any _|exact ab.of_eq (by rw[←iv,←iv])|(refine ab.int ?_;omega))
    ·obtain rfl:j=C.length:=by omega
     have g1:=ixE (C.length)
     rw[List.drop_length,lX] at ho
     cases b with
     |true=>
      simp only[if_true,List.append_nil] at ho
      rw[←ho]
      by_cases hf:64<o.length
      ·have d9:decide ((64:Int)<(o.length:Int))=true:=decide_eq_true (by omega)
       simp only[if_pos hf]
       refine an0 (cj3 @an g1 d9) ?_
       refine Wp.ret ⟨trivial,_,by simp only[bR,rvs,rv,go_sem,bx,ax,reduceIte,Nat.reduceEqDiff,if_true,if_false,Nat.reduceLeDiff];exact rfl,?_⟩
       exact ab.refl _
      ·have d9:decide ((64:Int)<(o.length:Int))=false:=decide_eq_false (by omega)
       simp only[if_neg hf]
       refine an0 (cj3 @an g1 d9) ?_
       refine Wp.ret ⟨trivial,_,by simp only[bR,rvs,rv,go_sem,bx,ax,reduceIte,Nat.reduceEqDiff,if_true,if_false,Nat.reduceLeDiff];exact rfl,?_⟩
       exact ab.tup (af.cons (ab.agg (af.cons (ab.refl _) (af.cons ab.own (af.refl _)))) (af.refl _))
     |false=>
      simp only[Bool.false_eq_true,if_false] at ho
      rw[←ho]
      by_cases hf:64<(o++[c]).length
      ·have d9:decide ((64:Int)<((o.length+1:Nat):Int))=true:=decide_eq_true (by simp at hf;omega)
       simp only[if_pos hf]
       refine an0 (cj9 @an g1 d9 @List.length_append.{0} @List.length_cons.{0} @List.length_nil.{0} @Nat.zero_add g0 g0') ?_
       refine Wp.ret ⟨trivial,_,by simp only[bR,rvs,rv,go_sem,bx,ax,reduceIte,Nat.reduceEqDiff,if_true,if_false,Nat.reduceLeDiff];exact rfl,?_⟩
       exact ab.refl _
      ·have d9:decide ((64:Int)<((o.length+1:Nat):Int))=false:=decide_eq_false (by simp at hf;omega)
       simp only[if_neg hf]
       refine an0 (cj9 @an g1 d9 @List.length_append.{0} @List.length_cons.{0} @List.length_nil.{0} @Nat.zero_add g0 g0') ?_
       refine Wp.ret ⟨trivial,_,by simp only[bR,rvs,rv,go_sem,bx,ax,reduceIte,Nat.reduceEqDiff,if_true,if_false,Nat.reduceLeDiff];exact rfl,?_⟩
       rw[iv]
       exact ab.tup (af.cons (ab.agg (af.cons (ab.refl _) (af.cons ab.own (af.refl _)))) (af.refl _))
def gM (Y:Tx) (l:List Ch):Tx × Int:=if Y.ended then (Y,17) else lx Y l
theorem l6 {x s:Nat} {Y:Tx} {F:Fr} (hF:TxF x s Y F) (l:List Ch) (hll:l.length≤4611686018427387904):
  aT Tryz.prog 40 [.ptr x 0,.sl 3 (chs l) .any] [F] fun r L=>r= .int .i64 (gM Y l).2∧∃F',L=[F']∧TxF x s (gM Y l).1 F':=by
 refine f40.bo (by simp) fun n m ok=>?_
 unfold c40
 simp only[C.zz]
 have e1:decide (n≤n)=true:=decide_eq_true (by omega)
 have e2:decide (n≤n+1)=true:=decide_eq_true (by omega)
 have f1:(n=n+1)=False:=eq_false (by omega)
 have f2:(n+1=n)=False:=eq_false (by omega)
 have ok1:Ok [F] (n+1+1) (ks [F]) m:=ok.grow (by omega) (Nat.le_refl _)
 have on0:On [F] n m [F] (n+1+1) (ks [F]) m:=⟨by omega,Nat.le_refl _,ok1,.refl,.refl⟩
 have dx:=decide_eq_false (show ¬n≤x from by have:=hF.go;obtain ⟨_,_,_,_,_,hx,_⟩:=this;have:=ok.lt (by simp) hx;omega)
 refine Wp.aw xA1 (by trivial) ?_
 refine Wp.frz (fun j=>decide (n≤j)) [(2,.ref [.ptr x 0]),(3,.ref [.sl 3 (chs l) .any])] ⟨lay [F],n+1+1,ks [F],m⟩ ?_ (kZ ok fun j hj=>by simp only[upd];rw[if_neg (by omega),if_neg (by omega)]) (fun t ht=>ht) (Nat.le_refl _) (Nat.le_refl _) ?_
 ·simp only[aC,go_sem,reduceIte,Nat.reduceEqDiff,unT,eB,bx,e1,e2,f1,f2,dx,if_false,if_true,List.drop_zero]
  and_intros<;>first|exact ab.refl _|trivial
 refine de ?_
 cases he:Y.ended with
 |true=>
  have hd:=xP hF (l:=[F]) (by simp) he (.clo (.func 85) [] [.ref [.sl 3 (chs l) .any],.ref [.ptr x 0]])
  refine aa.eX xA2 xA3 (hd) (ok1) fun r1 G1 n1 T1 m1 ids1 hq1 on1=>?_
  obtain ⟨rfl,rfl⟩:=hq1
  refine aa.evR xA1 ?_
  refine de ?_
  refine Wp.ret ⟨trivial,_,rfl,_,_,(on0.step on1).ends (ab.refl _) ⟨by rw[gM,he];rfl,F,rfl,by rw[gM,he];exact hF⟩⟩
 |false=>
  have hd:=uD hF (l:=[F]) (by simp) he (g:=85) Tryz.func85 (of_decide_eq_true (by kernel_rfl)) (of_decide_eq_true (by kernel_rfl)) [.ref [.sl 3 (chs l) .any],.ref [.ptr x 0]] (Q:=fun v e L=>e=(lx Y l).2∧∃F',L=[F']∧TxF x s (lx Y l).1 F') (tN hF l hll)
  refine aa.eX xA2 xA3 (hd) (ok1) fun r1 G1 n1 T1 m1 ids1 hq1 on1=>?_
  obtain ⟨v,e,rfl,rfl,F',rfl,hF'⟩:=hq1
  refine aa.evR xA1 ?_
  refine de ?_
  refine Wp.ret ⟨trivial,_,rfl,_,_,(on0.step on1).ends (ab.refl _) ⟨by rw[gM,he];rfl,F',rfl,by rw[gM,if_neg (by simp[he])];exact hF'⟩⟩
theorem AF {S:Spc} {q:Bs} {t:Int} (h:t≤S.last):(eE S q t).2=12↔t<S.mark:=by
 unfold eE cT
 by_cases h1:t<S.mark
 ·simp[h1]
 ·rw[if_neg h1,if_neg (show ¬S.last<t by omega),if_pos rfl]
  split<;>simp[h1]
theorem yL {S:Spc} {q:Bs} {t:Int} (h:¬(eE S q t).2=0):(eE S q t).1=[]:=by
 unfold eE at h ⊢
 split
 ·rename_i h1
  rw[if_pos h1] at h
  split
  ·rename_i h2;rw[if_pos h2] at h;exact absurd rfl h
  ·rfl
 ·rfl
set_option maxHeartbeats 2000000 in
theorem yM (S:Spc) (Y:Tx) (hS:jY S) (hl:Y.C.length≤1000000) (lk:LsK Y.rk) (ll:LsS Y.rs) (ht:Y.t≤S.last) (q:Bs) (hq:Ls q):
  aA Tryz.prog 33 [eG Y,cP S,.str q] (.tup [eG (gG S Y q).1,.str (gG S Y q).2.1,.int .i64 (gG S Y q).2.2]):=by
 refine f33.aD (by simp) (by simp[al,av,db,cA]) (by simp[av,al,db]) ?_
 unfold c33
 simp only[C.zz]
 have hown:=yK Y hl q
 have hky:=BW Y.rk Y.rs lk ll q hq
 have hgt:=yn S hS q Y.t
 have h12:=AF (q:=q) ht
 have hval:=yL (S:=S) (q:=q) (t:=Y.t)
 have hgy:gG S Y q=if Y.ended then (Y,[],17) else ((fN S Y q).1,if (fN S Y q).2.2=0 then (fN S Y q).2.1 else [],(fN S Y q).2.2):=rfl
 obtain ⟨t,C,rk,rs,ended⟩:=Y
 simp only at hl lk ll ht hown hky hgt h12 hval
 unfold Reads.bU Reads.bT at hky
 rw[hgy]
 unfold eG at hown ⊢
 unfold cP at hgt ⊢
 unfold aL at hown
 cases ended with
 |true=>
  refine lJ ?_
  refine Wp.ret ⟨trivial,_,by simp only[bR,rvs,rv,go_sem,bx,ax,reduceIte,Nat.reduceEqDiff,if_true,if_false,Nat.reduceLeDiff];exact rfl,?_⟩
  exact ab.refl _
 |false=>
  rw[fN]
  simp only
  cases hg:bO C q with
  |some c=>
   rw[hg,show ca C q=c by rw[ca,hg];rfl] at hown
   cases hd:c.d with
   |true=>
    rw[hd] at hown
    refine an1 @Option.isSome_some.{0} hown ?_
    refine Wp.ret ⟨trivial,_,by simp only[bR,rvs,rv,go_sem,bx,ax,reduceIte,Nat.reduceEqDiff,if_true,if_false,Nat.reduceLeDiff];exact rfl,?_⟩
    simp[hd]
    exact ab.refl _
   |false=>
    rw[hd] at hown
    refine an1 @Option.isSome_some.{0} hown ?_
    refine Wp.ret ⟨trivial,_,by simp only[bR,rvs,rv,go_sem,bx,ax,reduceIte,Nat.reduceEqDiff,if_true,if_false,Nat.reduceLeDiff];exact rfl,?_⟩
    simp[hd]
    exact ab.refl _
  |none=>
   rw[hg,show ca C q=⟨[],[],false⟩ by rw[ca,hg];rfl] at hown
   generalize hgb:eE S q t=gb at*
   generalize hkb:eo rk rs q=kb at*
   by_cases hm:t<S.mark
   ·have d1:=decide_eq_true hm
    have e12:=h12.2 hm
    refine an1 (cj2 @Option.isSome_none.{0} d1) hown ?_
    refine Wp.ret ⟨trivial,_,by simp only[bR,rvs,rv,go_sem,bx,ax,reduceIte,Nat.reduceEqDiff,if_true,if_false,Nat.reduceLeDiff];exact rfl,?_⟩
    simp[e12]
    exact ab.refl _
   ·have d1:=decide_eq_false hm
    have e12:¬gb.2=12:=fun h=>hm (h12.1 h)
    by_cases h0:kb.2.2=0
    ·have d2:=decide_eq_true h0
     refine an3 (cj3 @Option.isSome_none.{0} d1 d2) hown hky hgt ?_
     refine Wp.ret ⟨trivial,_,by simp only[bR,rvs,rv,go_sem,bx,ax,reduceIte,Nat.reduceEqDiff,if_true,if_false,Nat.reduceLeDiff];exact rfl,?_⟩
     simp only[e12,h0,if_true,if_false,Bool.false_eq_true]
     by_cases hz:gb.2=0
     ·rw[if_pos hz];exact ab.refl _
     ·rw[if_neg hz,hval hz];exact ab.refl _
    ·have d2:=decide_eq_false h0
     refine an2 (cj3 @Option.isSome_none.{0} d1 d2) hown hky ?_
     refine Wp.ret ⟨trivial,_,by simp only[bR,rvs,rv,go_sem,bx,ax,reduceIte,Nat.reduceEqDiff,if_true,if_false,Nat.reduceLeDiff];exact rfl,?_⟩
     simp only[e12,h0,if_true,if_false,Bool.false_eq_true]
     exact ab.refl _
set_option maxHeartbeats 1000000 in
theorem yN (Y:Tx) (hl:Y.C.length≤1000000) (lk:LsK Y.rk) (ll:LsS Y.rs) (cs:List Ch) (hcl:cs.length≤1000000) (hcs:∀c∈cs,Ls c.k):
  aA Tryz.prog 28 [eG Y,.sl 3 (chs cs) .any] (.bool (ox Y cs)):=by
 refine f28.aD (by simp) (by simp[al,av,aG,db,dw]) rfl ?_
 unfold c28
 simp only[C.zz]
 have hown:=fun q=>yK Y hl q
 have hh:=BY Y.rk Y.rs lk ll cs hcl hcs
 have hmt:ox Y cs=((cs.any fun c=>(bO Y.C c.k).isSome)||sf Y.rk Y.rs cs):=rfl
 obtain ⟨t,C,rk,rs,ended⟩:=Y
 simp only at hl lk ll hown hh hmt
 rw[hmt]
 unfold Reads.bT at hh
 unfold eG at hown ⊢
 unfold aL at hown
 refine lJ ?_
 refine Wp.uq [1,2] xA7 (fun j:Nat=>[(5,.int .i64 j)]) (fun j=>j≤cs.length∧∀i,i<j→(bO C (cs.getD i default).k).isSome=false) (fun j=>cs.length - j) 0 ⟨Nat.zero_le _,fun i h=>absurd h (by omega)⟩ ?_ ?_
 ·exact xSb
 rintro j n hn ⟨hj,hs⟩
 simp only at hn
 have z1:(n=0)=False:=eq_false (by omega)
 have z2:(0=n)=False:=eq_false (by omega)
 by_cases hc:j<cs.length
 ·obtain ⟨g1,h2,h3,e1⟩:=ixF (j:=j) (n:=cs.length) (by omega) (by omega)
  have hat:=bH cs j .any hc
  have hw:=hown (cs.getD j default).k
  cases hso:(bO C (cs.getD j default).k).isSome with
  |true=>
   rw[hso] at hw
   refine an1 (cj9 @an g1 h2 h3 @Int.toNat_natCast hat @aL.eq_1 z1 z2) hw ?_
   refine aa.nil ⟨by simp[ay,au,apart,aH,z1,z2],?_⟩
   refine lJ ?_
   refine aJ ?_
   have:(cs.any fun c=>(bO C c.k).isSome)=true:=List.any_eq_true.2 ⟨cs.getD j default,by rw[Av.ar hc];exact List.getElem_mem hc,hso⟩
   rw[this,Bool.true_or];exact ab.refl _
  |false=>
   rw[hso] at hw
   refine an1 (fR @an g1 h2 h3 e1 @Int.toNat_natCast hat @aL.eq_1 z1 z2) hw ?_
   refine aa.nil ⟨by simp[ay,au,apart,aH,z1,z2],?_⟩
   refine an0 e1 ?_
   refine ⟨j+1,n+1,by simp only;omega,⟨by omega,fun i hi=>?_⟩,by omega,?_⟩
   ·by_cases he:i=j
    ·subst he;exact hso
    ·exact hs i (by omega)
   ·refine aU.tmN (by omega) (OLe.at (by simp[upd,ag,z1,z2])) (by simp only[aC,go_sem,reduceIte,Nat.reduceEqDiff,Nat.reduceAdd,bx,z1,z2];and_intros<;>first|exact trivial|exact ab.refl _|exact ab.any _|(refine ab.int ?_;omega))
 ·obtain rfl:j=cs.length:=by omega
  have g1:=ixE (cs.length)
  have:(cs.any fun c=>(bO C c.k).isSome)=false:=by
   rw[List.any_eq_false]
   intro c hc
   obtain ⟨i,hi,rfl⟩:=List.getElem_of_mem hc
   have:=hs i hi
   rw[Av.ar hi] at this
   simp[this]
  refine an1 (cj2 @an g1) hh ?_
  refine aJ ?_
  rw[this,Bool.false_or];exact ab.refl _
end Go.Proofs.YtpehfflehebmbaaGreat.Txn
end
section
set_option maxRecDepth 100000
namespace Go.Proofs.YtpehfflehebmbaaGreat.Space
open Go Go.Av Go.Proofs Go.Proofs.YtpehfflehebmbaaGreat.C Go.Proofs.YtpehfflehebmbaaGreat.Batch
theorem laid:laidOutB Tryz.prog=true:=by kernel_rfl
theorem Bk:mapsRowed Tryz.prog=true:=by kernel_rfl
theorem full:∀t e,t<Tryz.prog.types.size→Tryz.prog.underlying t=some (.slice e)→0<Tryz.prog.cellsOf e:=slices_full_of Tryz.prog (by kernel_rfl)
theorem own:ownKnob Tryz.prog.godebug=none:=by kernel_rfl
theorem CX {H:Type}:mL (H:=H) Rows.uptoBulk Rows.uptoBulkAll:=
 ⟨fun l=>by simp[Rows.uptoBulk],fun k n=>by simp[Rows.uptoBulk],fun b=>by simp[Rows.uptoBulk],by simp[Rows.uptoBulk],fun a b=>by simp[Rows.uptoBulk],fun a=>by simp[Rows.uptoBulk],by simp[Rows.uptoBulkAll],fun d l=>by simp[Rows.uptoBulkAll]⟩
theorem ou {α:Type} {t:TypeId} {k:Nat} {enc:α→AV} {Q:α→Prop} (h1:∀cs,Fits Tryz.prog k t cs→∃x,dK Tryz.prog t cs=enc x∧Q x):∀{ys:List AV},(∀y∈ys,∃cs,Fits Tryz.prog k t cs∧y=dK Tryz.prog t cs)→∃l:List α,ys=l.map enc∧∀x∈l,Q x
 |[],_=>⟨[],rfl,by simp⟩
 |y::ys,h=>by
  obtain ⟨l,rfl,hl⟩:=ou h1 (ys:=ys) (fun z hz=>h z (by simp[hz]))
  obtain ⟨cs,g1,g2⟩:=h y (by simp)
  obtain ⟨x,e,q⟩:=h1 cs g1
  refine ⟨x::l,by simp[g2,e],fun z hz=>?_⟩
  rcases List.mem_cons.1 hz with rfl|hz
  ·exact q
  ·exact hl z hz
theorem uV {n b:Nat} (hb:8≤b) (h:n*b≤reachBytes):n≤35184372088832:=by
 have:n*8≤n*b:=Nat.mul_le_mul_left n hb
 have e:reachBytes=140737488351232:=rfl
 omega
def AG (c:Ch):Prop:=c.k.length≤reachBytes∧c.v.length≤reachBytes
theorem sE {k:Nat} {cs:List AV} (h:Fits Tryz.prog (k+2) 65 cs):∃p:Ch,dK Tryz.prog 65 cs=aL p∧AG p:=by
 have hw:∀cs,dK Tryz.prog 65 cs= .agg cs:=fun cs=>by
  unfold dK;rw[if_pos (by kernel_rfl)]
 rw[hw]
 unfold Fits at h
 rw[Tryz.underlying65] at h
 obtain ⟨xss,rfl,h⟩:=h
 cases h with|cons h0 h=>cases h with|cons h1 h=>cases h with|cons h2 h=>
 cases h
 unfold Fits at h0 h1 h2
 simp only at h0 h1 h2
 rw[Tryz.underlying9] at h0 h1
 rw[Tryz.underlying4] at h2
 obtain ⟨n,rfl,hn⟩:=h0
 obtain ⟨v,rfl,hv⟩:=h1
 obtain ⟨d,rfl⟩:=h2
 exact ⟨⟨n,v,d⟩,rfl,hn,hv⟩
theorem ly {k:Nat} {cs:List AV} (h:Fits Tryz.prog (k+3) 27 cs):∃l:List Ch,dK Tryz.prog 27 cs= .sl 3 (chs l) .any∧cs=[.sl 3 (chs l) .any]∧l.length≤35184372088832∧∀c∈l,AG c:=by
 unfold Fits at h
 rw[Tryz.underlying27] at h
 obtain ⟨xs,rfl,hlx,hx⟩:=h
 obtain ⟨l,rfl,hl⟩:=ou (fun cs h=>sE h) hx
 have c1:Tryz.prog.cellsOf 65=3:=by kernel_rfl
 have c2:Tryz.prog.bytesOf 65=40:=by kernel_rfl
 rw[List.length_map,c2] at hlx
 refine ⟨l,?_,by rw[c1];rfl,uV (by decide) hlx,hl⟩
 unfold dK;rw[if_neg (by rw[show bW Tryz.prog 27=false by kernel_rfl];simp),c1];rfl
theorem qF {a:AV} (h:lr Tryz.prog 5 27 a):∃l:List Ch,a= .sl 3 (chs l) .any∧l.length≤35184372088832∧∀c∈l,AG c:=by
 obtain ⟨cs,h,rfl⟩:=h
 obtain ⟨l,e,-,h1,h2⟩:=ly h
 exact ⟨l,e,h1,h2⟩
structure Act where
 k:Int
 t:Int
 l:List Ch
instance:Inhabited Act:=⟨⟨0,0,[]⟩⟩
def dm (a:Act):AV:= .agg [.int .i64 a.k,.int .i64 a.t,.sl 3 (chs a.l) .any]
end Go.Proofs.YtpehfflehebmbaaGreat.Space
end
section
set_option maxRecDepth 10000
namespace Go.Proofs.YtpehfflehebmbaaGreat.Space
open Go Go.Av Go.Proofs Go.Proofs.YtpehfflehebmbaaGreat.C Go.Proofs.YtpehfflehebmbaaGreat.Batch
def Dd (l:List Act):Nat:=(l.map fun a=>1+a.l.length).sum
structure Few (l:List Act):Prop where
 n:Dd l≤200
 t:∀a∈l,-100≤a.t∧a.t≤1099511627776
 c:∀a∈l,∀c∈a.l,c.k.length≤1000∧c.v.length≤1000
theorem Ok.tok {l:List Fr} {n m:Nat} {T:List Nat} (ok:Ok l n T m):Ok l n (m::T) (m+1):=
 ⟨ok.bd,ok.dj,fun t ht=>List.mem_cons_of_mem _ (ok.tk t ht),ok.td,fun t ht=>by
  rcases List.mem_cons.1 ht with rfl|h
  ·omega
  ·have:=ok.tb t h;omega⟩
def S0:Spc:=⟨[],0,0⟩
theorem Few.ls {l:List Act} (h:Few l) {a:Act} (ha:a∈l):∀c∈a.l,Ls c.k:=fun c hc=>by
 have:=(h.c a ha c hc).1
 unfold Ls;omega
theorem oy {S:Spc} {t:Int}:cT S t=0↔S.mark≤t∧t≤S.last:=by
 unfold cT
 constructor
 ·intro h
  split at h
  ·omega
  ·split at h<;>omega
 ·intro h
  rw[if_neg (by omega),if_neg (by omega)]
end Go.Proofs.YtpehfflehebmbaaGreat.Space
end
section
set_option maxRecDepth 10000
namespace Go.Proofs.YtpehfflehebmbaaGreat.Batch
open Go Go.Av Go.Proofs Go.Proofs.YtpehfflehebmbaaGreat.C
theorem CZ {l:List Pr} (h:∀p∈l,Ls p.k) (j:Nat):Ls (l.getD j default).k:=by
 by_cases hj:j<l.length
 ·rw[List.getD_eq_getElem?_getD,List.getElem?_eq_getElem hj];exact h _ (List.getElem_mem hj)
 ·rw[List.getD_eq_getElem?_getD,List.getElem?_eq_none (by omega)];exact Nat.zero_le _
theorem gL (l:List Pr) (c:Pr):prs l++[.agg [.str c.k,.str c.v]]=prs (l++[c]):=by simp[prs,bV]
theorem uW {α:Type} [Inhabited α] {l:List α} {i:Nat} (h:i<l.length):l.getD i default=l[i]:=by
 rw[List.getD_eq_getElem?_getD,List.getElem?_eq_getElem h];rfl
def mM (k:Bs) (p:Pr):Bool:=decide (p.k=k)
def B1 (l:List Pr) (k:Bs):Bs:=match l.find? (mM k) with|some p=>p.v|none=>[]
def oL (l:List Pr) (k:Bs):Nat:=match l.find? (mM k) with|some _=>0|none=>7
theorem AH {l:List Pr} {k:Bs} {j:Nat} (hj:j<l.length) (h:∀i,i<j→¬(l.getD i default).k=k) (hk:(l.getD j default).k=k):l.find? (mM k)=some (l.getD j default):=by
 rw[uW hj] at hk ⊢
 rw[List.find?_eq_some_iff_getElem]
 refine ⟨by simp[mM,hk],j,hj,rfl,fun i hi=>?_⟩
 have:=h i hi
 rw[uW (by omega)] at this
 simp[mM,this]
theorem AI {l:List Pr} {k:Bs} (h:∀i,i<l.length→¬(l.getD i default).k=k):l.find? (mM k)=none:=by
 rw[List.find?_eq_none]
 intro x hx
 obtain ⟨i,hi,rfl⟩:=List.getElem_of_mem hx
 have:=h i hi
 rw[uW hi] at this
 simp[mM,this]
theorem C4 (l:List Pr) (hl:l.length≤4611686018427387904) (k:Bs):aA Tryz.prog 137 [.sl 2 (prs l) .any,.str k] (.tup [.str (B1 l k),.int .i64 (oL l k)]):=by
 refine f137.aD (by simp) (by simp[al,av,aG,dV]) (by simp[av,al]) ?_
 unfold CE
 simp only[C.zz]
 refine lJ ?_
 refine Wp.cZ [0,1] xA6 (fun j:Nat=>[(6,.int .i64 j)]) (fun j=>j≤l.length∧∀i,i<j→¬(l.getD i default).k=k) (fun j=>l.length - j) 0 ⟨Nat.zero_le _,fun i h=>absurd h (by omega)⟩ ?_ ?_
 ·exact xSb
 ·rintro j ⟨hj,hr⟩
  by_cases hc:j<l.length
  ·have d1:decide ((j:Int)<(l.length:Int))=true:=decide_eq_true (by omega)
   have h2:(0:Int)≤(j:Int):=by omega
   have h3:(j:Int)<(l.length:Int):=by omega
   have e1:IntKind.i64.wrap ((j:Int)+1)=((j+1:Nat):Int):=by rw[IntWalk.i64_in _ (by omega)];omega
   by_cases hk:(l.getD j default).k=k
   ·have d2:decide ((l.getD j default).k=k)=true:=decide_eq_true hk
    have hf:=AH hc hr hk
    refine an0 (cj8 @aN d1 d2 h2 h3 @Int.toNat_natCast (fun d=>cg _ _ d hc) @bV.eq_1) ?_
    refine aJ ?_
    exact ab.of_eq (by simp only[B1,oL,hf];rfl)
   ·have d2:decide ((l.getD j default).k=k)=false:=decide_eq_false hk
    refine an0 (cj9 @aN d1 d2 h2 h3 e1 @Int.toNat_natCast (fun d=>cg _ _ d hc) @bV.eq_1) ?_
    refine ⟨j+1,⟨by omega,fun i hi=>?_⟩,by omega,?_⟩
    ·by_cases he:i=j
     ·subst he;exact hk
     ·exact hr i (by omega)
    ·exact xSu
  ·obtain rfl:j=l.length:=by omega
   have d1:decide ((l.length:Int)<(l.length:Int))=false:=decide_eq_false (by omega)
   have hf:=AI hr
   refine an0 (cj2 @aN d1) ?_
   refine aJ ?_
   exact ab.of_eq (by simp only[B1,oL,hf];rfl)
def rest (k:Bs) (l:List Pr):List Pr:=l.filter fun p=> !mM k p
theorem wE (k:Bs) (p:Pr) (l:List Pr):rest k (p::l)=(if p.k=k then [] else [p])++rest k l:=by
 simp only[rest,List.filter_cons,mM]
 by_cases h:p.k=k<;>simp[h]
def jD (l:List Pr) (k:Bs):List Pr:=if oL l k=0 then rest k l else l
def yO (l:List Pr) (k:Bs):Nat:=oL l k
theorem tO (l:List Pr) (k:Bs):oL l k=0∨oL l k=7:=by
 unfold oL;split<;>simp
set_option maxHeartbeats 2000000 in
theorem AJ (l:List Pr) (hl:l.length≤1000000) (k:Bs):aA Tryz.prog 117 [.sl 2 (prs l) .any,.str k] (.tup [.sl 2 (prs (jD l k)) .any,.int .i64 (yO l k)]):=by
 refine f117.aD (by simp) (by simp[al,av,aG,dV]) (by simp[av,al,aG,dV]) ?_
 unfold Cp
 simp only[C.zz]
 have hg:=C4 l (by omega) k
 rcases tO l k with h0|h7
 ·have hd:jD l k=rest k l:=by rw[jD,if_pos h0]
  have he:yO l k=0:=h0
  rw[hd,he]
  rw[h0] at hg
  have z:decide (((0:Nat):Int)=0)=true:=by decide
  refine an1 z hg ?_
  refine Wp.le (aU.tok _ _) ?_
  refine Wp.fD [0,1] xA7 (fun (j:Nat × List Pr) tk=>[(8,.sl 2 (prs j.2) (.own tk)),(9,.int .i64 j.1)]) (fun j=>j.1≤l.length∧j.2++rest k (l.drop j.1)=rest k l∧j.2.length≤j.1) (fun j=>l.length - j.1) (0,[]) _ ⟨Nat.zero_le _,by simp,Nat.le_refl _⟩ rfl ?_ ?_
  ·simp only[aC,go_sem,reduceIte,Nat.reduceEqDiff,Nat.reduceAdd,bx];and_intros<;>first|exact trivial|exact ab.refl _|exact ab.any _|exact ab.eL rfl|(refine ab.int ?_;omega)
  ·rintro ⟨j,o⟩ tk m ⟨hj,ho,hol⟩
   simp only at hj ho hol
   by_cases hc:j<l.length
   ·have d1:decide ((j:Int)<(l.length:Int))=true:=decide_eq_true (by omega)
    have h2:(0:Int)≤(j:Int):=by omega
    have h3:(j:Int)<(l.length:Int):=by omega
    have e1:IntKind.i64.wrap ((j:Int)+1)=((j+1:Nat):Int):=by rw[IntWalk.i64_in _ (by omega)];omega
    rw[qe hc,wE] at ho
    have g0:(o.length+1)*32≤140737488355328:=by omega
    have g0':o.length+1<4611686018427387904:=by omega
    by_cases hk:(l.getD j default).k=k
    ·have d2:decide ((l.getD j default).k=k)=true:=decide_eq_true hk
     rw[if_pos hk,List.nil_append] at ho
     refine an0 (cj9 @aN d1 d2 h2 h3 e1 @Int.toNat_natCast (fun d=>cg _ _ d hc) @bV.eq_1) ?_
     refine ⟨(j+1,o),tk,m,⟨by simp only;omega,ho,by simp only;omega⟩,by simp only;omega,?_⟩
     exact xSu
    ·have d2:decide ((l.getD j default).k=k)=false:=decide_eq_false hk
     rw[if_neg hk] at ho
     refine an0 (bD @aN d1 d2 h2 h3 e1 @Int.toNat_natCast (fun d=>cg _ _ d hc) @bV.eq_1 @List.length_cons.{0} @List.length_nil.{0} (cj3 @Nat.zero_add g0 g0')) ?_
     refine ⟨(j+1,o++[l.getD j default]),m,m+1,⟨by simp only;omega,by rw[←ho];simp,by simp;omega⟩,by simp only;omega,?_⟩
     refine aU.tm (by simp only[aC,go_sem,reduceIte,Nat.reduceEqDiff,Nat.reduceAdd,bx];and_intros<;>first|exact trivial|exact ab.refl _|exact ab.any _|exact ab.of_eq (by rw[←gL])|(refine ab.int ?_;omega))
   ·obtain rfl:j=l.length:=by omega
    have d1:decide ((l.length:Int)<(l.length:Int))=false:=decide_eq_false (by omega)
    rw[List.drop_length] at ho
    have ho':o=rest k l:=by rw[←ho];simp[rest]
    refine an0 (cj2 @aN d1) ?_
    refine aJ ?_
    rw[ho']
    exact ab.tup (af.cons ab.own (af.refl _))
 ·have hd:jD l k=l:=by rw[jD,if_neg (by omega)]
  have he:yO l k=7:=h7
  rw[hd,he]
  rw[h7] at hg
  have z:decide (((7:Nat):Int)=0)=false:=by decide
  refine an1 z hg ?_
  refine aJ ?_
  exact ab.refl _
def shut (k v:Bs):Bool:=decide (128<k.length)||decide (200<v.length)
def gX (k v:Bs):Bool→List Pr→List Pr
 |laid,[]=>if laid then [] else [⟨k,v⟩]
 |laid,p::l=>(if laid=false∧Op.bytesLess p.k k=false then [⟨k,v⟩] else [])++((if p.k=k then [] else [p])++gX k v (laid|| !Op.bytesLess p.k k) l)
def gZ (l:List Pr) (k v:Bs):List Pr:=if shut k v then l else gX k v false l
def uX (k v:Bs):Nat:=if shut k v then 2 else 0
theorem l7 (k v:Bs):∀(l:List Pr) (b:Bool),(gX k v b l).length≤l.length+(if b then 0 else 1)
 |[],b=>by cases b<;>simp[gX]
 |p::l,b=>by
  have h1:=l7 k v l true
  have h2:=l7 k v l false
  simp only[if_true,if_false,Bool.false_eq_true,Nat.add_zero] at h1 h2
  rw[gX]
  cases b<;>cases Op.bytesLess p.k k<;>by_cases hk:p.k=k<;>simp[hk] <;>omega
theorem yP (l:List Pr) (k v:Bs):(gZ l k v).length≤l.length+1:=by
 unfold gZ;split
 ·omega
 ·exact l7 k v l false
theorem Bm {n:Nat} (h:n≤2000000):(n+1)*32≤140737488355328∧n+1<4611686018427387904∧(n+1+1)*32≤140737488355328∧n+1+1<4611686018427387904:=by omega
set_option maxHeartbeats 1000000 in
theorem B2 (l:List Pr) (hl:l.length≤1000000) (lk:∀p∈l,Ls p.k) (k v:Bs) (hkk:Ls k):aA Tryz.prog 118 [.sl 2 (prs l) .any,.str k,.str v] (.tup [.sl 2 (prs (gZ l k v)) .any,.int .i64 (uX k v)]):=by
 refine f118.aD (by simp) (by simp[al,av,aG,dV]) (by simp[av,al,aG,dV]) ?_
 unfold Cq
 simp only[C.zz]
 by_cases h1:128<k.length
 ·have d1:decide ((128:Int)<(k.length:Int))=true:=decide_eq_true (by omega)
  have hs:shut k v=true:=by simp[shut,h1]
  refine an0 d1 ?_
  refine aJ ?_
  rw[gZ,if_pos hs,uX,if_pos hs]
  exact ab.refl _
 ·have d1:decide ((128:Int)<(k.length:Int))=false:=decide_eq_false (by omega)
  by_cases h2:200<v.length
  ·have d2:decide ((200:Int)<(v.length:Int))=true:=decide_eq_true (by omega)
   have hs:shut k v=true:=by simp[shut,h2]
   refine an0 (cj2 d1 d2) ?_
   refine aJ ?_
   rw[gZ,if_pos hs,uX,if_pos hs]
   exact ab.refl _
  ·have d2:decide ((200:Int)<(v.length:Int))=false:=decide_eq_false (by omega)
   have hs:¬shut k v=true:=by simp[shut];omega
   rw[gZ,if_neg hs,uX,if_neg hs]
   refine an0 (cj2 d1 d2) ?_
   refine Wp.le (aU.tok _ _) ?_
   refine Wp.fD [0,1,2] xA7 (fun (j:Nat × List Pr × Bool) tk=>[(8,.sl 2 (prs j.2.1) (.own tk)),(9,.bool j.2.2),(10,.int .i64 j.1)]) (fun j=>j.1≤l.length∧j.2.1++gX k v j.2.2 (l.drop j.1)=gX k v false l∧j.2.1.length≤2*j.1) (fun j=>l.length - j.1) (0,[],false) _ ⟨Nat.zero_le _,by simp,Nat.le_refl _⟩ rfl ?_ ?_
   ·simp only[aC,go_sem,reduceIte,Nat.reduceEqDiff,Nat.reduceAdd,bx];and_intros<;>first|exact trivial|exact ab.refl _|exact ab.any _|exact ab.eL rfl|(refine ab.int ?_;omega)
   ·rintro ⟨j,o,b⟩ tk m ⟨hj,ho,hol⟩
    simp only at hj ho hol
    obtain ⟨g0,g0',g1,g1'⟩:=Bm (show o.length≤2000000 by omega)
    by_cases hc:j<l.length
    ·have q1:decide ((j:Int)<(l.length:Int))=true:=decide_eq_true (by omega)
     have q2:(0:Int)≤(j:Int):=by omega
     have q3:(j:Int)<(l.length:Int):=by omega
     have e1:IntKind.i64.wrap ((j:Int)+1)=((j+1:Nat):Int):=by rw[IntWalk.i64_in _ (by omega)];omega
     rw[qe hc,gX] at ho
     have hls:=CZ lk j
     have hbel:=cI (l.getD j default).k k hls hkk
     by_cases hk:(l.getD j default).k=k
     ·have q4:decide ((l.getD j default).k=k)=true:=decide_eq_true hk
      rw[if_pos hk,List.nil_append] at ho
      cases b with
      |true=>
       simp only[Bool.true_eq_false,false_and,if_false,List.nil_append,Bool.true_or] at ho
       refine an0 (cj9 @aN q1 q2 q3 q4 e1 @Int.toNat_natCast (fun d=>cg _ _ d hc) @bV.eq_1) ?_
       refine ⟨(j+1,o,true),tk,m,⟨by simp only;omega,ho,by simp only;omega⟩,by simp only;omega,?_⟩
       exact xSu
      |false=>
       cases hb:Op.bytesLess (l.getD j default).k k with
       |true=>
        rw[hb] at hbel ho
        simp only[Bool.true_eq_false,and_false,if_false,List.nil_append,Bool.not_true,Bool.or_self] at ho
        refine an1 (cj9 @aN q1 q2 q3 q4 e1 @Int.toNat_natCast (fun d=>cg _ _ d hc) @bV.eq_1) hbel ?_
        refine ⟨(j+1,o,false),tk,m,⟨by simp only;omega,ho,by simp only;omega⟩,by simp only;omega,?_⟩
        exact xSu
       |false=>
        rw[hb] at hbel ho
        simp only[true_and,and_self,if_true,Bool.not_false,Bool.or_true] at ho
        refine an1 (bD @aN q1 q2 q3 q4 e1 @Int.toNat_natCast (fun d=>cg _ _ d hc) @bV.eq_1 @List.length_cons.{0} @List.length_nil.{0} (cj3 @Nat.zero_add g0 g0')) hbel ?_
        refine ⟨(j+1,o++[⟨k,v⟩],true),m,m+1,⟨by simp only;omega,by rw[←ho];simp,by simp;omega⟩,by simp only;omega,?_⟩
        refine aU.tm (by simp only[aC,go_sem,reduceIte,Nat.reduceEqDiff,Nat.reduceAdd,bx];and_intros<;>first|exact trivial|exact ab.refl _|exact ab.any _|exact ab.of_eq (by rw[←gL])|(refine ab.int ?_;omega))
     ·have q4:decide ((l.getD j default).k=k)=false:=decide_eq_false hk
      rw[if_neg hk] at ho
      cases b with
      |true=>
       simp only[Bool.true_eq_false,false_and,if_false,List.nil_append,Bool.true_or] at ho
       refine an0 (bD @aN q1 q2 q3 q4 e1 @Int.toNat_natCast (fun d=>cg _ _ d hc) @bV.eq_1 @List.length_cons.{0} @List.length_nil.{0} (cj3 @Nat.zero_add g0 g0')) ?_
       refine ⟨(j+1,o++[l.getD j default],true),m,m+1,⟨by simp only;omega,by rw[←ho];simp,by simp;omega⟩,by simp only;omega,?_⟩
       refine aU.tm (by simp only[aC,go_sem,reduceIte,Nat.reduceEqDiff,Nat.reduceAdd,bx];and_intros<;>first|exact trivial|exact ab.refl _|exact ab.any _|exact ab.of_eq (by rw[←gL])|(refine ab.int ?_;omega))
      |false=>
       cases hb:Op.bytesLess (l.getD j default).k k with
       |true=>
        rw[hb] at hbel ho
        simp only[Bool.true_eq_false,and_false,if_false,List.nil_append,Bool.not_true,Bool.or_self] at ho
        refine an1 (bD @aN q1 q2 q3 q4 e1 @Int.toNat_natCast (fun d=>cg _ _ d hc) @bV.eq_1 @List.length_cons.{0} @List.length_nil.{0} (cj3 @Nat.zero_add g0 g0')) hbel ?_
        refine ⟨(j+1,o++[l.getD j default],false),m,m+1,⟨by simp only;omega,by rw[←ho];simp,by simp;omega⟩,by simp only;omega,?_⟩
        refine aU.tm (by simp only[aC,go_sem,reduceIte,Nat.reduceEqDiff,Nat.reduceAdd,bx];and_intros<;>first|exact trivial|exact ab.refl _|exact ab.any _|exact ab.of_eq (by rw[←gL])|(refine ab.int ?_;omega))
       |false=>
        rw[hb] at hbel ho
        simp only[true_and,and_self,if_true,Bool.not_false,Bool.or_true] at ho
        refine an1 (bD @aN q1 q2 q3 q4 e1 @Int.toNat_natCast (fun d=>cg _ _ d hc) @bV.eq_1 @List.length_cons.{0} @List.length_nil.{0} (cj5 @Nat.zero_add g0 g0' g1 g1')) hbel ?_
        refine ⟨(j+1,o++[⟨k,v⟩]++[l.getD j default],true),m+1,m+2,⟨by simp only;omega,by rw[←ho];simp,by simp;omega⟩,by simp only;omega,?_⟩
        refine aU.tm (by simp only[aC,go_sem,reduceIte,Nat.reduceEqDiff,Nat.reduceAdd,bx];and_intros<;>first|exact trivial|exact ab.refl _|exact ab.any _|exact ab.of_eq (by rw[←gL,←gL])|(refine ab.int ?_;omega))
    ·obtain rfl:j=l.length:=by omega
     have q1:decide ((l.length:Int)<(l.length:Int))=false:=decide_eq_false (by omega)
     rw[List.drop_length,gX] at ho
     cases b with
     |true=>
      simp only[if_true,List.append_nil] at ho
      refine an0 (cj2 @aN q1) ?_
      refine aJ ?_
      rw[←ho]
      exact ab.tup (af.cons ab.own (af.refl _))
     |false=>
      simp only[Bool.false_eq_true,if_false] at ho
      refine an0 (cj7 @aN q1 @List.length_cons.{0} @List.length_nil.{0} @Nat.zero_add g0 g0') ?_
      refine aJ ?_
      rw[←ho,←gL]
      exact ab.tup (af.cons ab.own (af.refl _))
def oz (l:List Pr) (c:Ch):List Pr:=if c.d then jD l c.k else gZ l c.k c.v
theorem bJ {α:Type} [Inhabited α] {l:List α} {i:Nat} (h:i<l.length):l.take (i+1)=l.take i++[l.getD i default]:=by
 rw[List.take_succ_eq_append_getElem h,uW h]
theorem pR (k v:Bs):∀(l:List Pr) (b:Bool) (x:Pr),x∈gX k v b l→x=⟨k,v⟩∨x∈l
 |[],b,x,h=>by cases b<;>simp[gX] at h;exact .inl h
 |p::l,b,x,h=>by
  rw[gX,List.mem_append,List.mem_append] at h
  rcases h with h|h|h
  ·split at h
   ·left;simpa using h
   ·simp at h
  ·split at h
   ·simp at h
   ·right;simp at h;simp[h]
  ·rcases pR k v l _ x h with h|h
   ·exact .inl h
   ·right;simp[h]
theorem yQ {l:List Pr} {k v:Bs} {x:Pr} (h:x∈gZ l k v):x=⟨k,v⟩∧shut k v=false∨x∈l:=by
 unfold gZ at h
 split at h
 ·exact .inr h
 ·rename_i hs
  rcases pR k v l false x h with h|h
  ·exact .inl ⟨h,by simpa using hs⟩
  ·exact .inr h
theorem AK {l:List Pr} {c:Ch} (h:∀p∈l,Ls p.k) (hc:Ls c.k):∀p∈oz l c,Ls p.k:=by
 intro p hp
 unfold oz at hp
 split at hp
 ·unfold jD at hp
  split at hp
  ·exact h p (List.mem_filter.1 hp).1
  ·exact h p hp
 ·rcases yQ hp with ⟨rfl,-⟩|hp
  ·exact hc
  ·exact h p hp
theorem yR (l:List Pr) (c:Ch):(oz l c).length≤l.length+1:=by
 unfold oz
 split
 ·unfold jD
  split
  ·exact Nat.le_trans (List.length_filter_le _ _) (by omega)
  ·omega
 ·exact yP _ _ _
end Go.Proofs.YtpehfflehebmbaaGreat.Batch
end
