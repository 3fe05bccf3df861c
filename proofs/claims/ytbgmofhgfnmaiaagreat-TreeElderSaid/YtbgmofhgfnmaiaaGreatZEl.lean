/- TreeElder: the statement 'TreeElderSaid', closed by the law that the walk shows. No condition. -/
import Derived.Deep.CondSized
import Derived.Defers
import Derived.IntWalk
import Derived.KernelRfl
import Derived.Laws.Append
import Derived.Laws.AppendOwn
import Derived.Laws.BytesArg
import Derived.Laws.ComplexArith
import Derived.Laws.Cover3
import Derived.Laws.Entries
import Derived.Laws.IdiomCopy
import Derived.Laws.IdiomStrings
import Derived.Laws.Pointers
import Derived.Laws.Small
import Derived.Laws.Strings
import Derived.Laws.StructEq
import Derived.MapKept
import Derived.OpenShut
import Derived.Orders
import Derived.OrdersIn
import Derived.ProofKit
import Derived.RangeFuncRecord
import Derived.RangeFuncSeq
import Derived.ReadAgain
import Derived.Recover
import Derived.Scope
import Derived.Shelf.Slices.Cells
import Derived.Shelf.Slices.Clone
import Derived.Shelf.Slices.Delete
import Derived.Shelf.Spec.SlicesInsertGrow
import Derived.SizedLaws
import Derived.Tactics
import Derived.Tactics2
import Derived.Test.YtbgmofhgfnmaiaaGreatProg
import Derived.Test.YtbgmofhgfnmaiaaGreatRows
import Derived.WalkSmall
import Derived.Test.YtbgmofhgfnmaiaaGreatZElE
set_option linter.unusedSimpArgs false
set_option linter.unusedVariables false
section
set_option maxRecDepth 100000
namespace Go.Proofs.YtbgmofhgfnmaiaaGreat.Tree
open Go Go.Av Go.Proofs Go.Proofs.YtbgmofhgfnmaiaaGreat.C Go.Proofs.YtbgmofhgfnmaiaaGreat.Page
open Go.Proofs.YtbgmofhgfnmaiaaGreat.Batch (Bs Pr prs aW)
def fI (s:PgS) (B:Nat):Rt→Prop
 |none=>True
 |some ⟨L,t⟩=>On s L t∧WF L [] none t∧(bc L t).Nodup∧Bnd L t B
theorem fI.congr {s s':PgS} {B:Nat} {R:Rt} (h:fI s B R) (e:∀j∈cQ R,bts s' j=bts s j):fI s' B R:=by
 cases R with
 |none=>trivial
 |some r=>
  obtain ⟨L,t⟩:=r
  exact ⟨h.1.congr e,h.2⟩
theorem fI.more {s:PgS} {B B':Nat} {R:Rt} (h:fI s B R) (hB:B≤B'):fI s B' R:=by
 cases R with
 |none=>trivial
 |some r=>
  obtain ⟨L,t⟩:=r
  obtain ⟨a,b,c,f,h0,h1,h2⟩:=h
  exact ⟨a,b,c,f,ab,h1,h2⟩
theorem iq {s:PgS} {B:Nat} {R:Rt} (h:ROk s B R):fI s B R:=by
 cases R with
 |none=>trivial
 |some r=>
  obtain ⟨L,t⟩:=r
  exact ⟨h.1.on,h.1.wf,h.1.nd,h.2⟩
theorem Da {s:PgS} {B:Nat} {R:Rt} (h:fI s B R) (hs:∀j∈cQ R,(stt s j=1∨stt s j=2)∧j<s.np):ROk s B R:=by
 cases R with
 |none=>trivial
 |some r=>
  obtain ⟨L,t⟩:=r
  exact ⟨⟨h.1,h.2.1,h.2.2.1,hs⟩,h.2.2.2⟩
theorem fI.FH {s:PgS} {B:Nat} {R:Rt} (h:fI s B R):(aE R).Pairwise kLt:=by
 cases R with
 |none=>exact List.Pairwise.nil
 |some r=>
  obtain ⟨L,t⟩:=r
  exact (jo L _ _ t h.2.1).2.2
theorem fI.lev {s:PgS} {B:Nat} {R:Rt} (h:fI s B R) (hB:B≤121):∀L t,R=some ⟨L,t⟩→L≤6:=fun L t e=>by
 subst e;exact Ep h.2.2.2 hB
theorem fI.bc {s:PgS} {B:Nat} {R:Rt} (h:fI s B R):(cQ R).length≤2*B:=by
 cases R with
 |none=>exact Nat.zero_le _
 |some r=>
  obtain ⟨L,t⟩:=r
  exact AA h.2.2.2
theorem ox:∀(L:Nat) (lo:Bs) (hi:Option Bs) (t:Tr L),WF L lo hi t→∀p∈aN L t,p.k.length≤128
 |0,lo,hi,t,h,p,hp=>by
  obtain ⟨i,ks,vs'⟩:=t
  obtain ⟨vs,hvs⟩:∃vs:List Bs,vs=vs':=⟨vs',rfl⟩
  subst hvs
  have hr:right (aB ks vs)=true:=h.1
  obtain ⟨r1,-⟩:=(bq (n:=aB ks vs) rfl).1 hr
  exact r1.1 _ (eC hp)
 |L+1,lo,hi,t,h,p,hp=>by
  obtain ⟨i,ks,us'⟩:=t
  obtain ⟨us,hus⟩:∃us:List (Tr L),us=us':=⟨us',rfl⟩
  subst hus
  have hw:bF (WF L) lo hi ks us:=h.2.2
  have hp:p∈(us.map (aN L)).flatten:=hp
  obtain ⟨l,hl,hpl⟩:=List.mem_flatten.1 hp
  obtain ⟨u,hu,rfl⟩:=List.mem_map.1 hl
  obtain ⟨j,hj,rfl⟩:=List.mem_iff_getElem.1 hu
  have:=hw.len
  obtain ⟨u',hu',wu,-⟩:=hw.at (j:=j) ab
  rw[List.getElem?_eq_getElem hj] at hu'
  cases hu'
  exact ox L _ _ _ wu p hpl
theorem fI.short {s:PgS} {B:Nat} {R:Rt} (h:fI s B R):∀p∈aE R,p.k.length≤128:=by
 cases R with
 |none=>intro p hp;cases hp
 |some r=>
  obtain ⟨L,t⟩:=r
  exact ox L _ _ t h.2.1
theorem tC:∀(n:Nat) (f:Nat→Bool) (l:List Nat),(∀j,j<n→f j=true→j∈l)→dQ f n≤l.length
 |0,_,_,_=>Nat.zero_le _
 |n+1,f,l,h=>by
  rw[dQ]
  cases hf:f n with
  |false=>
   have:=tC n f l fun j hj=>h j ab
   simpa using this
  |true=>
   have hm:=h n (Nat.lt_succ_self _) hf
   have h1:=tC n f (l.erase n) fun j hj hfj=>(List.mem_erase_of_ne ab).2 (h j ab hfj)
   have h2:=List.length_erase_of_mem hm
   have h3:=List.length_pos_of_mem hm
   simp only[Bool.toNat_true]
   omega
theorem yu (f:Nat→Bool):∀n,dQ f n+dQ (fun j=> !f j) n=n
 |0=>rfl
 |n+1=>by
  have:=yu f n
  simp only[dQ]
  cases f n<;>simp<;>omega
structure jQ (s:PgS) (R Rw:Rt):Prop where
 cur:∀j,(stt s j=1∨stt s j=2)↔j∈cQ R
 old:∀j,(stt s j=1∨stt s j=3)↔j∈cQ Rw
theorem room {s:PgS} {R Rw:Rt} {B W:Nat} (ok:cd s) (p:jQ s R Rw) (h1:(cQ R).length≤2*B) (h2:(cQ Rw).length≤2*W):s.np≤free s+2*B+2*W:=by
 have a:=yu (fun j=>decide (stt s j=0)) s.np
 have b:=tC s.np (fun j=> !decide (stt s j=0)) (cQ R++cQ Rw) fun j hj hf=>by
  have h3:stt s j≤3:=ok.st3 j
  have hf:stt s j≠0:=by simpa using hf
  rw[List.mem_append]
  rcases (by omega:stt s j=1∨stt s j=2∨stt s j=3) with e|e|e
  ·exact .inl ((p.cur j).1 (.inl e))
  ·exact .inl ((p.cur j).1 (.inr e))
  ·exact .inr ((p.old j).1 (.inr e))
 rw[List.length_append] at b
 unfold free
 omega
theorem jQ.mv {s s':PgS} {R R' Rw:Rt} (p:jQ s R Rw) (m:Mv s s' (fun j=>j∈cQ R) (fun j=>j∈cQ R')):jQ s' R' Rw where
 cur j:=by
  by_cases a:j∈cQ R<;>by_cases b:j∈cQ R'
  ·have:=m.stay j b a
   have c:=(p.cur j).2 a
   rw[this];simp[b,c]
  ·have c:=m.gone j a b
   simp only[b,iff_false]
   omega
  ·have c:=m.new j b a
   simp only[b,iff_true]
   omega
  ·have c:=m.off j a b
   have e:=p.cur j
   rw[c.1]
   simp only[a,iff_false,b] at e ⊢
   exact e
 old j:=(m.k13 j).trans (p.old j)
def Ey (s:PgS):Prop:=∀w∈s.p,stt s (w.1/8)≠1∧stt s (w.1/8)≠3
theorem Ey.mv {s s':PgS} {P P':Nat→Prop} (h:Ey s) (m:Mv s s' P P'):Ey s':=fun w hw=>by
 have k:=m.k13 (w.1/8)
 rcases m.pend w hw with a|a
 ·have:=h w a;omega
 ·omega
theorem vc {s:PgS} {a b:Nat} {ws:List W} (ok:cd s) (ha:a≠0) (hb:b≠0) (j:Nat):stt {s with ws:=ws,st:=eW a b s.st s.np} j=gB a b (stt s j):=by
 have hl:=ok.st
 unfold stt eW
 simp only
 rw[List.take_of_length_le ab,List.drop_eq_nil_of_le ab,List.append_nil,List.getD_eq_getElem?_getD,List.getElem?_map,List.getD_eq_getElem?_getD]
 cases s.st[j]? with
 |some z=>rfl
 |none=>simp[gB,ha.symm,hb.symm]
theorem qq {s:PgS} (ok:cd s) {j:Nat} (h:stt s j≠0):j<s.np:=by
 rcases Nat.lt_or_ge j s.np with e|e
 ·exact e
 ·exfalso
  apply h
  unfold stt
  rw[List.getD_eq_getElem?_getD,List.getElem?_eq_none (by rw[ok.st];exact e)]
  rfl
end Go.Proofs.YtbgmofhgfnmaiaaGreat.Tree
end
section
set_option maxRecDepth 100000
namespace Go.Proofs.YtbgmofhgfnmaiaaGreat.Tree
open Go Go.Av Go.Proofs Go.Proofs.YtbgmofhgfnmaiaaGreat.C Go.Proofs.YtbgmofhgfnmaiaaGreat.Page
open Go.Proofs.YtbgmofhgfnmaiaaGreat.Batch (Bs Pr prs aW Ls)
open Go.Proofs.YtbgmofhgfnmaiaaGreat.R10 (gC iR iK shut fj js AJ ma rY inR C8 l9 rest yo C7 C5 kS)
def stO (x:PgI) (tid:Nat) (l:List Pr) (root:Int) (was:List Pr):Av.Obj:= .cells [.ptr tid 0,.ptr x.P 0,.ptr x.D 0,.sl 2 (prs l) .any,.int .i64 root,.sl 2 (prs was) .any]
structure dx (x:PgI) (T:List Nat) (sid tid:Nat) (s:PgS) (R Rw:Rt) (C W:Nat) (h:H):Prop where
 ts:Ts x T tid s R C h
 os:h.objs sid=some (stO x tid (aE R) (rpg Rw) (aE Rw))
 sx:Tid x sid
 ne:sid≠tid
 np:s.np=500
 pg:jQ s R Rw
 old:fI s W Rw
 pe:Ey s
 pl:s.p.length≤200*C
 ll:(aE R).length≤C
 lw:(aE Rw).length≤W
 wc:W≤C
section
variable {x:PgI} {s:PgS} {T:List Nat} {h:H} {sid tid C W:Nat} {R Rw:Rt}
theorem dx.free (g:dx x T sid tid s R Rw C W h) (hc:C+W≤240):20≤free s:=by
 have:=room g.ts.ok g.pg (iq g.ts.rk).bc g.old.bc
 have:=g.np
 omega
theorem dx.lev (g:dx x T sid tid s R Rw C W h) (hc:C≤121):∀L t,R=some ⟨L,t⟩→L≤6:=(iq g.ts.rk).lev hc
theorem dx.fU (g:dx x T sid tid s R Rw C W h):sid<h.n:=g.ts.pg.ltn (by rw[g.os];rfl)
theorem r7 {h1 h':H} {s':PgS} {R':Rt} (g:dx x T sid tid s R Rw C W h) (h1o:h1.objs sid=some (stO x tid (aE R') (rpg Rw) (aE Rw))) (m:eD x T tid s R h1 (C+1) s' R' h') (ls:sid<h1.n) (hl:(aE R').length≤C+1):dx x T sid tid s' R' Rw (C+1) W h' where
 ts:=m.ts
 os:=(m.sm sid ls g.sx g.ne).trans h1o
 sx:=g.sx
 ne:=g.ne
 np:=m.mv.np.trans g.np
 pg:=g.pg.mv m.mv
 old:=g.old.congr fun j hj=>m.mv.keep j ((g.pg.old j).2 hj)
 pe:=g.pe.mv m.mv
 pl:=by have:=m.pl;have:=g.pl;omega
 ll:=hl
 lw:=g.lw
 wc:=Nat.le_succ_of_le g.wc
theorem eD.more {B B':Nat} {s':PgS} {R':Rt} {h':H} (m:eD x T tid s R h B s' R' h') (hB:B≤B'):eD x T tid s R h B' s' R' h':=
 ⟨m.ts.keep m.ts.pg rfl hB,m.mv,m.pl,m.sm,m.no,m.ln⟩
theorem dx.FI {l:List Pr} {root:Int} {was:List Pr} (g:dx x T sid tid s R Rw C W h):Ts x T tid s R C {h with objs:=upd h.objs sid (some (stO x tid l root was))}:=
 g.ts.keep (g.ts.pg.qg g.sx g.fU _) (by simp only[upd];rw[if_neg g.ne.symm]) (Nat.le_refl _)
theorem dx.new (g:dx x T sid tid s R Rw C W h) (o:Av.Obj):dx x T sid tid s R Rw C W (H.new h o):=
 ⟨g.ts.keep (g.ts.pg.new o) (aL g.ts.lt) (Nat.le_refl _),(aL g.fU).trans g.os,g.sx,g.ne,g.np,g.pg,g.old,g.pe,g.pl,g.ll,g.lw,g.wc⟩
def r8 (x:PgI) (T:List Nat) (sid:Nat) (Rw:Rt) (C W:Nat) (k:Int) (h:H) (q:AV) (h':H):Prop:=q= .bool true∧∃tid' s' R' Rw' W',dx x T sid tid' s' R' Rw' (C+1) W' h'∧((k<2∨4<k)→Rw'=Rw∧W'=W)∧aq h h'
set_option maxHeartbeats 2000000 in
theorem step_drop (g:dx x T sid tid s R Rw C W h) (hc:C≤120) (hw:C+W≤240) (key vl:Bs):aI Tryz.prog 11 [.ptr sid 0,.agg [.int .i64 1,.str key,.str vl]] h (r8 x T sid Rw C W 1 h):=by
 refine f11.bu af ?_
 unfold c11 zz
 have hdp:=yo (aE R) (by have:=g.ll;omega) key
 obtain ⟨h1,hh1⟩:∃h1,h1=H.new h (.cells [.int .i64 1,.str key,.str vl]):=⟨_,rfl⟩
 have g1:dx x T sid tid s R Rw C W h1:=hh1▸g.new _
 have hb1:h1.objs h.n=some (.cells [.int .i64 1,.str key,.str vl]):=hh1▸bU
 have no1:aq h h1:=hh1▸bN
 have ln1:h1.n=h.n+1:=hh1▸rfl
 have hnb:h.n≠sid:=by have:=g.fU;omega
 refine Wp.seq ?_
 refine Wp.da (xAd @and_self) ?_
 refine an.nil ?_
 refine Wp.le (s':=⟨tm [(0,.ptr sid 0),(3,.ptr h.n 0)],h1⟩) (aK.of (bp ?_) (by rw[hh1];exact OLe.refl _) (fun y hy=>by rw[hh1] at hy;exact hy) (by rw[hh1];exact Nat.le_refl _) (by rw[hh1];exact Nat.le_refl _)) ?_
 ·exact xSb
 clear hh1
 have d1:decide ((1:Int)=1)=true:=by decide
 have os:=g1.os
 unfold stO at os
 refine rf0 (cj3 hb1 os d1) ?_
 refine Wp.reg ?_
 refine ao.part 6 (xAe (cj2 hb1 os)) ?_
 simp only[List.drop_succ_cons,List.drop_zero,List.drop_nil]
 refine ao.bW xA2 xAb (hdp) ?_
 refine ao.part 5 xA1 ?_
 simp only[List.drop_succ_cons,List.drop_zero,List.drop_nil]
 refine ao.nil ⟨by simp[bg,aS,apart,aV],?_⟩
 refine rf0 os ?_
 refine Wp.le (s':=⟨tm [(0,.ptr sid 0),(3,.ptr h.n 0),(6,.int .i64 (js (aE R) key:Nat))],⟨upd h1.objs sid (some (stO x tid (fj (aE R) key) (rpg Rw) (aE Rw))),h1.n,h1.toks,h1.m⟩⟩) (aK.of (bp ?_) (OLe.refl _) (fun y hy=>hy) (Nat.le_refl _) (Nat.le_refl _)) ?_
 ·exact xSb
 have t2:Ts x T tid s R C ⟨upd h1.objs sid (some (stO x tid (fj (aE R) key) (rpg Rw) (aE Rw))),h1.n,h1.toks,h1.m⟩:=g1.FI
 have o2:(⟨upd h1.objs sid (some (stO x tid (fj (aE R) key) (rpg Rw) (aE Rw))),h1.n,h1.toks,h1.m⟩:H).objs sid=some (stO x tid (fj (aE R) key) (rpg Rw) (aE Rw)):=by simp only[upd,if_true]
 have hb2:(⟨upd h1.objs sid (some (stO x tid (fj (aE R) key) (rpg Rw) (aE Rw))),h1.n,h1.toks,h1.m⟩:H).objs h.n=some (.cells [.int .i64 1,.str key,.str vl]):=by simp only[upd];rw[if_neg hnb];exact hb1
 have no2:aq h1 ⟨upd h1.objs sid (some (stO x tid (fj (aE R) key) (rpg Rw) (aE Rw))),h1.n,h1.toks,h1.m⟩:=aq.set os
 have ls:sid<h1.n:=g1.fU
 have ln2:(⟨upd h1.objs sid (some (stO x tid (fj (aE R) key) (rpg Rw) (aE Rw))),h1.n,h1.toks,h1.m⟩:H).n=h1.n:=rfl
 generalize (⟨upd h1.objs sid (some (stO x tid (fj (aE R) key) (rpg Rw) (aE Rw))),h1.n,h1.toks,h1.m⟩:H)=h2 at*
 have hD:aI Tryz.prog 20 [.ptr tid 0,.str key] h2 fun q h'=>aq h2 h'∧q= .int .i64 (js (aE R) key:Nat)∧∃s' R',eD x T tid s R h2 (C+1) s' R' h'∧aE R'=fj (aE R) key:=by
  refine (CS t2 (g1.lev ab) (fun L t e=>by have:=g1.free hw;have:=g1.lev ab L t e;omega) (by have:=g1.pl;omega)).mono ?_
  rintro q h' ⟨s',R',m,c⟩
  refine ⟨m.no,?_,s',R',m.more (Nat.le_succ _),?_⟩
  ·rcases c with ⟨a,b,-⟩|⟨a,b,-⟩
   ·rw[b,(vb a).2];rfl
   ·rw[b,(yq a).2];rfl
  ·rcases c with ⟨a,-,b⟩|⟨a,-,b,-⟩
   ·rw[b,(vb a).1]
   ·rw[b,(yq a).1]
 have o2':=o2
 unfold stO at o2'
 refine Wp.reg ?_
 refine ao.part 6 (xAe (cj2 hb2 o2')) ?_
 simp only[List.drop_succ_cons,List.drop_zero,List.drop_nil]
 refine ao.aT (vals:=[.ptr tid 0,.str key]) ae xA4 (fun j hj=>t2.pg.ltn hj) hD (fun r h' a=>a.1) fun q h3 ⟨no3,hq,s',R',m,hR⟩ n3 _=>?_
 subst hq
 have dq:decide ((((js (aE R) key:Nat):Int))=((js (aE R) key:Nat):Int))=true:=decide_eq_true rfl
 refine ao.part 3 (xAe dq) ?_
 simp only[List.drop_succ_cons,List.drop_zero,List.drop_nil]
 refine ao.nil ⟨by simp[bg,aS,apart,aV],?_⟩
 have nn:aq h h3:=aq.trans no1 (aq.trans no2 no3 ab n3) ab ab
 refine Wp.ret ?_
 refine ⟨trivial,.bool true,?_,rfl,tid,s',R',Rw,W,r7 g (hR▸o2) m ab (by rw[hR];have:=g.ll;unfold fj;split;exact Nat.le_trans (List.length_filter_le _ _) (Nat.le_succ_of_le this);omega),fun _=>⟨rfl,rfl⟩,nn⟩
 simp only[go_sem]
 exact rfl
set_option maxHeartbeats 2000000 in
theorem Db (g:dx x T sid tid s R Rw C W h) (hc:C≤120) (hw:C+W≤240) (kd:Int) (hk:kd≠1∧kd≠2∧kd≠3∧kd≠4) (key vl:Bs) (lk:key.length≤1000):aI Tryz.prog 11 [.ptr sid 0,.agg [(.int .i64 kd),.str key,.str vl]] h (r8 x T sid Rw C W kd h):=by
 refine f11.bu af ?_
 unfold c11 zz
 have hsh:=(iq g.ts.rk).short
 have hrr:=(iq g.ts.rk).FH
 have hdp:=C7 (aE R) (by have:=g.ll;omega) (fun p hp=>by have:=hsh p hp;unfold Batch.Ls;omega) key vl (by unfold Batch.Ls;omega)
 obtain ⟨h1,hh1⟩:∃h1,h1=H.new h (.cells [(.int .i64 kd),.str key,.str vl]):=⟨_,rfl⟩
 have g1:dx x T sid tid s R Rw C W h1:=hh1▸g.new _
 have hb1:h1.objs h.n=some (.cells [(.int .i64 kd),.str key,.str vl]):=hh1▸bU
 have no1:aq h h1:=hh1▸bN
 have ln1:h1.n=h.n+1:=hh1▸rfl
 have hnb:h.n≠sid:=by have:=g.fU;omega
 refine Wp.seq ?_
 refine Wp.da (xAd @and_self) ?_
 refine an.nil ?_
 refine Wp.le (s':=⟨tm [(0,.ptr sid 0),(3,.ptr h.n 0)],h1⟩) (aK.of (bp ?_) (by rw[hh1];exact OLe.refl _) (fun y hy=>by rw[hh1] at hy;exact hy) (by rw[hh1];exact Nat.le_refl _) (by rw[hh1];exact Nat.le_refl _)) ?_
 ·exact xSb
 clear hh1
 have d1:decide (kd=1)=false:=decide_eq_false hk.1
 have d2:decide (kd=2)=false:=decide_eq_false hk.2.1
 have d3:decide (kd=3)=false:=decide_eq_false hk.2.2.1
 have d4:decide (kd=4)=false:=decide_eq_false hk.2.2.2
 have os:=g1.os
 unfold stO at os
 refine rf0 (cj6 hb1 os d1 d2 d3 d4) ?_
 refine Wp.reg ?_
 refine ao.part 8 (xAe (cj2 hb1 os)) ?_
 simp only[List.drop_succ_cons,List.drop_zero,List.drop_nil]
 refine ao.bW xA2 xAb (hdp) ?_
 refine ao.part 5 xA1 ?_
 simp only[List.drop_succ_cons,List.drop_zero,List.drop_nil]
 refine ao.nil ⟨by simp[bg,aS,apart,aV],?_⟩
 refine rf0 os ?_
 refine Wp.le (s':=⟨tm [(0,.ptr sid 0),(3,.ptr h.n 0),(12,.int .i64 (iK key vl:Nat))],⟨upd h1.objs sid (some (stO x tid (iR (aE R) key vl) (rpg Rw) (aE Rw))),h1.n,h1.toks,h1.m⟩⟩) (aK.of (bp ?_) (OLe.refl _) (fun y hy=>hy) (Nat.le_refl _) (Nat.le_refl _)) ?_
 ·exact xSb
 have t2:Ts x T tid s R C ⟨upd h1.objs sid (some (stO x tid (iR (aE R) key vl) (rpg Rw) (aE Rw))),h1.n,h1.toks,h1.m⟩:=g1.FI
 have o2:(⟨upd h1.objs sid (some (stO x tid (iR (aE R) key vl) (rpg Rw) (aE Rw))),h1.n,h1.toks,h1.m⟩:H).objs sid=some (stO x tid (iR (aE R) key vl) (rpg Rw) (aE Rw)):=by simp only[upd,if_true]
 have hb2:(⟨upd h1.objs sid (some (stO x tid (iR (aE R) key vl) (rpg Rw) (aE Rw))),h1.n,h1.toks,h1.m⟩:H).objs h.n=some (.cells [(.int .i64 kd),.str key,.str vl]):=by simp only[upd];rw[if_neg hnb];exact hb1
 have no2:aq h1 ⟨upd h1.objs sid (some (stO x tid (iR (aE R) key vl) (rpg Rw) (aE Rw))),h1.n,h1.toks,h1.m⟩:=aq.set os
 have ls:sid<h1.n:=g1.fU
 have ln2:(⟨upd h1.objs sid (some (stO x tid (iR (aE R) key vl) (rpg Rw) (aE Rw))),h1.n,h1.toks,h1.m⟩:H).n=h1.n:=rfl
 generalize (⟨upd h1.objs sid (some (stO x tid (iR (aE R) key vl) (rpg Rw) (aE Rw))),h1.n,h1.toks,h1.m⟩:H)=h2 at*
 have hD:aI Tryz.prog 24 [.ptr tid 0,.str key,.str vl] h2 fun q h'=>aq h2 h'∧q= .int .i64 (iK key vl:Nat)∧∃s' R',eD x T tid s R h2 (C+1) s' R' h'∧aE R'=iR (aE R) key vl:=by
  refine (EM t2 (g1.lev ab) ⟨by have:=g1.free hw;omega,fun L t e=>by have:=g1.free hw;have:=g1.lev ab L t e;omega⟩ (by have:=g1.pl;omega)).mono ?_
  rintro q h' ⟨s',R',m,c⟩
  refine ⟨m.no,?_,s',R',m,?_⟩
  ·rcases c with ⟨a,b,e,-⟩|⟨a,e,-⟩
   ·rw[e,(put_eq hrr a b).2];rfl
   ·rw[e,(u9 (l:=aE R) a).2];rfl
  ·rcases c with ⟨a,b,-,e⟩|⟨a,-,e,-⟩
   ·rw[e,(put_eq hrr a b).1]
   ·rw[e,(u9 a).1]
 have o2':=o2
 unfold stO at o2'
 refine Wp.reg ?_
 refine ao.part 8 (xAe (cj2 hb2 o2')) ?_
 simp only[List.drop_succ_cons,List.drop_zero,List.drop_nil]
 refine ao.aT (vals:=[.ptr tid 0,.str key,.str vl]) ae xA4 (fun j hj=>t2.pg.ltn hj) hD (fun r h' a=>a.1) fun q h3 ⟨no3,hq,s',R',m,hR⟩ n3 _=>?_
 subst hq
 have dq:decide ((((iK key vl:Nat):Int))=((iK key vl:Nat):Int))=true:=decide_eq_true rfl
 refine ao.part 3 (xAe dq) ?_
 simp only[List.drop_succ_cons,List.drop_zero,List.drop_nil]
 refine ao.nil ⟨by simp[bg,aS,apart,aV],?_⟩
 have nn:aq h h3:=aq.trans no1 (aq.trans no2 no3 ab n3) ab ab
 refine Wp.ret ?_
 refine ⟨trivial,.bool true,?_,rfl,tid,s',R',Rw,W,r7 g (hR▸o2) m ab (by rw[hR];have:=g.ll;exact Nat.le_trans (R10.C6 _ _ _) ab),fun _=>⟨rfl,rfl⟩,nn⟩
 simp only[go_sem]
 exact rfl
end
end Go.Proofs.YtbgmofhgfnmaiaaGreat.Tree
end
section
set_option maxRecDepth 100000
namespace Go.Proofs.YtbgmofhgfnmaiaaGreat.Tree
open Go Go.Av Go.Proofs Go.Proofs.YtbgmofhgfnmaiaaGreat.C Go.Proofs.YtbgmofhgfnmaiaaGreat.Page
open Go.Proofs.YtbgmofhgfnmaiaaGreat.Batch (Bs Pr prs aW)
section
variable {x:PgI} {s:PgS} {T:List Nat} {h:H} {sid tid C W:Nat} {R Rw:Rt}
theorem Dc (tid:Nat) (r:Int):iM Tryz.prog 18 [.ptr tid 0] (fun j=>if j=tid then some (trO x r) else none) (.int .i64 r):=fun n m=>by
 have ot:(H.only (fun j=>if j=tid then some (trO x r) else none) [] n m).objs tid=some (.cells [.ptr x.P 0,.int .i64 r]):=by simp[H.only,trO]
 have co:=uL (h:=H.only (fun j=>if j=tid then some (trO x r) else none) [] n m) (id:=tid) ⟨_,_,_,ot⟩
 generalize H.only (fun j=>if j=tid then some (trO x r) else none) [] n m=h at*
 refine f18.bP af ?_
 unfold c18 zz
 refine rg1 (cj2 ot @Bool.not_true) co ?_
 refine Wp.ret ⟨trivial,_,?_,av.refl _,rfl⟩
 simp only[go_sem]
 exact rfl
theorem vd {h':H} {s':PgS} {ws:List (BitVec 64)} (g:dx x T sid tid s R Rw C W h) (h1:s'= {s with p:=[],d:=kd (fun _=>true) s.p s.d s.p.length,tk:=none,ws:=ws,st:=eW 3 2 s.st s.np}) (ok:cd s') (g':PgH x s' T h') (ot:h'.objs tid=some (trO x (rpg R))) (os:h'.objs sid=some (stO x tid (aE R) (rpg R) (aE R))):dx x T sid tid s' R R (C+1) C h':=by
 have hs:∀j,stt s' j=gB 3 2 (stt s j):=fun j=>by rw[h1];exact vc (s:=s) (ws:=ws) g.ts.ok ah ah j
 have hb:∀j,bts s' j=bts s j:=fun j=>by rw[h1];exact wN j
 have hnp:s'.np=s.np:=by rw[h1]
 have st:=(iq g.ts.rk).congr (s':=s') fun j _=>hb j
 have cur:∀j,(stt s' j=1∨stt s' j=2)↔j∈cQ R:=fun j=>by
  rw[←g.pg.cur j,hs]
  have:=g.ts.ok.st3 j
  have:stt s j≤3:=this
  unfold gB
  split
  ·omega
  ·split<;>omega
 have old:∀j,(stt s' j=1∨stt s' j=3)↔j∈cQ R:=fun j=>by
  rw[←g.pg.cur j,hs]
  have:stt s j≤3:=g.ts.ok.st3 j
  unfold gB
  split
  ·omega
  ·split<;>omega
 exact {ts:=⟨g',ok,ot,g.ts.tx,Da (st.more (Nat.le_succ _)) fun j hj=>⟨(cur j).2 hj,qq ok (by have:=(cur j).2 hj;omega)⟩⟩,os:=os,sx:=g.sx,ne:=g.ne,np:=hnp.trans g.np,pg:=⟨cur,old⟩,old:=st,pe:=(fun w hw=>by rw[h1] at hw;cases hw),pl:=by rw[h1];exact Nat.zero_le _,ll:=Nat.le_succ_of_le g.ll,lw:=g.ll,wc:=Nat.le_succ _}
set_option maxHeartbeats 2000000 in
theorem ve (g:dx x T sid tid s R Rw C W h) (hc:C≤120) (key vl:Bs):aI Tryz.prog 11 [.ptr sid 0,.agg [.int .i64 2,.str key,.str vl]] h (r8 x T sid Rw C W 2 h):=by
 refine f11.bu af ?_
 unfold c11 zz
 obtain ⟨h1,hh1⟩:∃h1,h1=H.new h (.cells [.int .i64 2,.str key,.str vl]):=⟨_,rfl⟩
 have g1:dx x T sid tid s R Rw C W h1:=hh1▸g.new _
 have hb1:h1.objs h.n=some (.cells [.int .i64 2,.str key,.str vl]):=hh1▸bU
 have no1:aq h h1:=hh1▸bN
 have ln1:h1.n=h.n+1:=hh1▸rfl
 have hnb:h.n≠sid:=by have:=g.fU;omega
 refine Wp.seq ?_
 refine Wp.da (xAd @and_self) ?_
 refine an.nil ?_
 refine Wp.le (s':=⟨tm [(0,.ptr sid 0),(3,.ptr h.n 0)],h1⟩) (aK.of (bp ?_) (by rw[hh1];exact OLe.refl _) (fun y hy=>by rw[hh1] at hy;exact hy) (by rw[hh1];exact Nat.le_refl _) (by rw[hh1];exact Nat.le_refl _)) ?_
 ·exact xSb
 clear hh1
 have d1:decide ((2:Int)=1)=false:=by decide
 have d2:decide ((2:Int)=2)=true:=by decide
 have os:=g1.os
 unfold stO at os
 have hr:=Dc (x:=x) tid (rpg R)
 refine rf0 (cj4 hb1 os d1 d2) ?_
 refine Wp.reg ?_
 refine ao.part 6 (xAe (cj2 hb1 os)) ?_
 simp only[List.drop_succ_cons,List.drop_zero,List.drop_nil]
 refine ao.ue [tid] (vals:=[.ptr tid 0]) ae xA4 (fun j o hj=>by
  by_cases e:j=tid
  ·subst e;simp at hj;subst hj;exact g1.ts.ot
  ·simp[e] at hj) (fun j hj=>by
  by_cases e:j=tid
  ·simp[e]
  ·simp[e] at hj) hr ?_
 refine ao.part 10 (xAd (cj2 os @and_self)) ?_
 simp only[List.drop_succ_cons,List.drop_zero,List.drop_nil]
 refine ao.nil ⟨by simp[bg,aS,apart,aV],?_⟩
 show Wp Tryz.prog _ _ _ _
 refine Wp.le (s':=⟨tm [(0,.ptr sid 0)],⟨upd h1.objs sid (some (stO x tid (aE R) (rpg R) (aE R))),h1.n,h1.toks,h1.m⟩⟩) (aK.of (bp ?_) (by rw[cH];exact OLe.refl _) (fun y hy=>hy) (Nat.le_refl _) (Nat.le_refl _)) ?_
 ·exact xSb
 have t2:Ts x T tid s R C ⟨upd h1.objs sid (some (stO x tid (aE R) (rpg R) (aE R))),h1.n,h1.toks,h1.m⟩:=g1.FI
 have o2:(⟨upd h1.objs sid (some (stO x tid (aE R) (rpg R) (aE R))),h1.n,h1.toks,h1.m⟩:H).objs sid=some (stO x tid (aE R) (rpg R) (aE R)):=by simp only[upd,if_true]
 have no2:aq h1 ⟨upd h1.objs sid (some (stO x tid (aE R) (rpg R) (aE R))),h1.n,h1.toks,h1.m⟩:=aq.set os
 have ls:sid<h1.n:=g1.fU
 have ln2:(⟨upd h1.objs sid (some (stO x tid (aE R) (rpg R) (aE R))),h1.n,h1.toks,h1.m⟩:H).n=h1.n:=rfl
 generalize (⟨upd h1.objs sid (some (stO x tid (aE R) (rpg R) (aE R))),h1.n,h1.toks,h1.m⟩:H)=h2 at*
 have hf:=Eb t2.pg t2.ok (by have:=g1.pl;omega)
 have o2':=o2
 unfold stO at o2'
 refine rf0 o2' ?_
 refine an.aT (vals:=[.ptr x.D 0]) ae xA4 hf fun q h3 ⟨hq,g3,sm3,no3⟩ n3 _=>?_
 subst hq
 have o3:=(cx sm3 ab g.sx).trans o2
 have ot3:=(cx sm3 t2.lt t2.tx).trans t2.ot
 have hs:=Ci g3 (t2.ok.kept)
 have o3':=o3
 unfold stO at o3'
 have d0:decide ((0:Int)=0)=true:=by decide
 refine an.evF (xAd (cj2 d0 o3')) ?_
 refine an.aT (vals:=[.ptr x.P 0]) al xA4 hs fun q h4 ⟨hq,tu⟩ n4 _=>?_
 subst hq
 obtain ⟨-,⟨ws,g4,ok4⟩,sm4,no4,-⟩:=tu
 have o4:=(cx sm4 ab g.sx).trans o3
 have ot4:=(cx sm4 (by have:=t2.lt;omega) t2.tx).trans ot3
 refine an.evF (xAd d0) ?_
 refine an.nil ?_
 have lw:=vd g rfl ok4 g4 ot4 o4
 have nn:aq h h4:=aq.trans no1 (aq.trans no2 (aq.trans no3 no4 n3 n4) ab ab) ab ab
 refine Wp.ret ?_
 refine ⟨trivial,.bool true,?_,rfl,tid,_,R,R,C,lw,fun hk=>by omega,nn⟩
 simp only[go_sem]
 exact rfl
theorem xe (R:Rt): -1≤rpg R:=by
 cases R with
 |none=>exact Int.le_refl _
 |some r=>obtain ⟨L,t⟩:=r;show (-1:Int)≤((t.pg:Nat):Int);omega
theorem Dd {R:Rt} (hn:0<s.np) (h:∀j∈cQ R,j<s.np):rpg R<s.np:=by
 cases R with
 |none=>show (-1:Int)<_;omega
 |some r=>
  obtain ⟨L,t⟩:=r
  have:=h t.pg (by simp[cQ,bc])
  show ((t.pg:Nat):Int)<_
  omega
theorem xf {h':H} {s':PgS} {t:Nat} {ws:List (BitVec 64)} (g:dx x T sid tid s R Rw C W h) (h1:s'= {s with ws:=ws,st:=eW 2 3 s.st s.np}) (ok:cd s') (g':PgH x s' T h') (tx:Tid x t) (ne:sid≠t) (ot:h'.objs t=some (trO x (rpg Rw))) (os:h'.objs sid=some (stO x t (aE Rw) (rpg Rw) (aE Rw))):dx x T sid t s' Rw Rw (C+1) W h':=by
 have hs:∀j,stt s' j=gB 2 3 (stt s j):=fun j=>by rw[h1];exact vc (s:=s) (ws:=ws) g.ts.ok ah ah j
 have hb:∀j,bts s' j=bts s j:=fun j=>by rw[h1];rfl
 have hnp:s'.np=s.np:=by rw[h1]
 have st:=g.old.congr (s':=s') fun j _=>hb j
 have cur:∀j,(stt s' j=1∨stt s' j=2)↔j∈cQ Rw:=fun j=>by
  rw[←g.pg.old j,hs]
  have:stt s j≤3:=g.ts.ok.st3 j
  unfold gB
  split
  ·omega
  ·split<;>omega
 have old:∀j,(stt s' j=1∨stt s' j=3)↔j∈cQ Rw:=fun j=>by
  rw[←g.pg.old j,hs]
  have:stt s j≤3:=g.ts.ok.st3 j
  unfold gB
  split
  ·omega
  ·split<;>omega
 exact {ts:=⟨g',ok,ot,tx,Da (st.more (Nat.le_succ_of_le g.wc)) fun j hj=>⟨(cur j).2 hj,qq ok (by have:=(cur j).2 hj;omega)⟩⟩,os:=os,sx:=g.sx,ne:=ne,np:=hnp.trans g.np,pg:=⟨cur,old⟩,old:=st,pe:=(fun w hw=>by
  rw[h1] at hw
  have hp:=g.pe w hw
  rw[hs]
  unfold gB
  split
  ·omega
  ·split<;>omega),pl:=by rw[h1];exact Nat.le_trans g.pl ab,ll:=Nat.le_trans g.lw (Nat.le_succ_of_le g.wc),lw:=g.lw,wc:=Nat.le_succ_of_le g.wc}
theorem xg {h':H} {t:Nat} (g:dx x T sid tid s R Rw C W h) (g':PgH x s T h') (tx:Tid x t) (ne:sid≠t) (ot:h'.objs t=some (trO x (rpg R))) (os:h'.objs sid=some (stO x t (aE R) (rpg Rw) (aE Rw))):dx x T sid t s R Rw (C+1) W h':=
 {ts:=⟨g',g.ts.ok,ot,tx,g.ts.rk.more (Nat.le_succ _)⟩,os:=os,sx:=g.sx,ne:=ne,np:=g.np,pg:=g.pg,old:=g.old,pe:=g.pe,pl:=Nat.le_trans g.pl ab,ll:=Nat.le_succ_of_le g.ll,lw:=g.lw,wc:=Nat.le_succ_of_le g.wc}
theorem dx.Ez (g:dx x T sid tid s R Rw C W h):rpg R<s.np:=Dd g.ts.ok.np0 fun j hj=>qq g.ts.ok (by have:=(g.pg.cur j).2 hj;omega)
theorem dx.De (g:dx x T sid tid s R Rw C W h):rpg Rw<s.np:=Dd g.ts.ok.np0 fun j hj=>qq g.ts.ok (by have:=(g.pg.old j).2 hj;omega)
set_option maxHeartbeats 2000000 in
theorem AM (g:dx x T sid tid s R Rw C W h) (key vl:Bs):aI Tryz.prog 11 [.ptr sid 0,.agg [.int .i64 3,.str key,.str vl]] h (r8 x T sid Rw C W 3 h):=by
 refine f11.bu af ?_
 unfold c11 zz
 obtain ⟨h1,hh1⟩:∃h1,h1=H.new h (.cells [.int .i64 3,.str key,.str vl]):=⟨_,rfl⟩
 have g1:dx x T sid tid s R Rw C W h1:=hh1▸g.new _
 have hb1:h1.objs h.n=some (.cells [.int .i64 3,.str key,.str vl]):=hh1▸bU
 have no1:aq h h1:=hh1▸bN
 have ln1:h1.n=h.n+1:=hh1▸rfl
 have hnb:h.n≠sid:=by have:=g.fU;omega
 refine Wp.seq ?_
 refine Wp.da (xAd @and_self) ?_
 refine an.nil ?_
 refine Wp.le (s':=⟨tm [(0,.ptr sid 0),(3,.ptr h.n 0)],h1⟩) (aK.of (bp ?_) (by rw[hh1];exact OLe.refl _) (fun y hy=>by rw[hh1] at hy;exact hy) (by rw[hh1];exact Nat.le_refl _) (by rw[hh1];exact Nat.le_refl _)) ?_
 ·exact xSb
 clear hh1
 have d1:decide ((3:Int)=1)=false:=by decide
 have d2:decide ((3:Int)=2)=false:=by decide
 have d3:decide ((3:Int)=3)=true:=by decide
 have os:=g1.os
 have ls:sid<h1.n:=g1.fU
 have os':=os
 unfold stO at os'
 have hu:=Fx g1.ts.pg g1.ts.ok
 refine rf0 (cj5 hb1 os' d1 d2 d3) ?_
 refine an.aT (vals:=[.ptr x.P 0]) ae xA4 hu fun q h2 ⟨hq,tu⟩ n2 _=>?_
 subst hq
 obtain ⟨-,⟨ws,g2,ok2⟩,sm2,no2,-⟩:=tu
 have o2:=(cx sm2 ab g.sx).trans os
 refine an.evF xAc ?_
 refine an.nil ?_
 have ho:=th g2 ok2 (xe Rw) g1.De
 have o2':=o2
 unfold stO at o2'
 refine Wp.seq ?_
 refine Wp.reg ?_
 refine ao.part 8 (xAe o2') ?_
 simp only[List.drop_succ_cons,List.drop_zero,List.drop_nil]
 refine ao.aT (vals:=[.ptr x.P 0,.int .i64 (rpg Rw)]) ae xA4 (fun j hj=>g2.ltn hj) ho (fun r h' ⟨t,e,a,b,c,d,e2,f⟩=>f) fun q h3 ⟨t,hq,t1,t2,ot3,g3,k3,no3⟩ n3 _=>?_
 subst hq
 have o3:=(k3 sid ab).trans o2
 have o3':=o3
 unfold stO at o3'
 refine ao.part 5 xA1 ?_
 simp only[List.drop_succ_cons,List.drop_zero,List.drop_nil]
 refine ao.nil ⟨by simp[bg,aS,apart,aV],?_⟩
 have d0:decide ((0:Int)=0)=true:=by decide
 refine rf0 (cj2 o3' d0) ?_
 refine Wp.le (s':=⟨tm [(4,.bool true)],⟨upd h3.objs sid (some (stO x t (aE Rw) (rpg Rw) (aE Rw))),h3.n,h3.toks,h3.m⟩⟩) (aK.of (bp ?_) (by rw[cH];exact OLe.refl _) (fun y hy=>hy) (Nat.le_refl _) (Nat.le_refl _)) ?_
 ·exact xSb
 have tx:=dJ g2 t1
 have g4:=g3.qg g.sx (show sid<h3.n by omega) (stO x t (aE Rw) (rpg Rw) (aE Rw))
 have nt:sid≠t:=by omega
 have lw:=xf g rfl ok2 g4 tx nt (by simp only[upd];rw[if_neg nt.symm];exact ot3) (by simp only[upd,if_true])
 have nn:aq h ⟨upd h3.objs sid (some (stO x t (aE Rw) (rpg Rw) (aE Rw))),h3.n,h3.toks,h3.m⟩:=aq.trans no1 (aq.trans no2 (aq.trans no3 (aq.set o3) n3 (Nat.le_refl _)) n2 (by exact n3)) ab (by exact Nat.le_trans n2 n3)
 refine Wp.ret ⟨trivial,.bool true,?_,rfl,t,_,Rw,Rw,W,lw,fun _=>⟨rfl,rfl⟩,nn⟩
 simp only[go_sem]
 exact rfl
set_option maxHeartbeats 2000000 in
theorem AN (g:dx x T sid tid s R Rw C W h) (key vl:Bs):aI Tryz.prog 11 [.ptr sid 0,.agg [.int .i64 4,.str key,.str vl]] h (r8 x T sid Rw C W 4 h):=by
 refine f11.bu af ?_
 unfold c11 zz
 obtain ⟨h1,hh1⟩:∃h1,h1=H.new h (.cells [.int .i64 4,.str key,.str vl]):=⟨_,rfl⟩
 have g1:dx x T sid tid s R Rw C W h1:=hh1▸g.new _
 have hb1:h1.objs h.n=some (.cells [.int .i64 4,.str key,.str vl]):=hh1▸bU
 have no1:aq h h1:=hh1▸bN
 have ln1:h1.n=h.n+1:=hh1▸rfl
 have hnb:h.n≠sid:=by have:=g.fU;omega
 refine Wp.seq ?_
 refine Wp.da (xAd @and_self) ?_
 refine an.nil ?_
 refine Wp.le (s':=⟨tm [(0,.ptr sid 0),(3,.ptr h.n 0)],h1⟩) (aK.of (bp ?_) (by rw[hh1];exact OLe.refl _) (fun y hy=>by rw[hh1] at hy;exact hy) (by rw[hh1];exact Nat.le_refl _) (by rw[hh1];exact Nat.le_refl _)) ?_
 ·exact xSb
 clear hh1
 have d1:decide ((4:Int)=1)=false:=by decide
 have d2:decide ((4:Int)=2)=false:=by decide
 have d3:decide ((4:Int)=3)=false:=by decide
 have d4:decide ((4:Int)=4)=true:=by decide
 have os:=g1.os
 have ls:sid<h1.n:=g1.fU
 have os':=os
 unfold stO at os'
 have hr:=Dc (x:=x) tid (rpg R)
 have ho:=th g1.ts.pg g1.ts.ok (xe R) g1.Ez
 refine rf0 (cj6 hb1 os' d1 d2 d3 d4) ?_
 refine Wp.reg ?_
 refine ao.part 8 (xAe os') ?_
 simp only[List.drop_succ_cons,List.drop_zero,List.drop_nil]
 refine ao.ue [tid] (vals:=[.ptr tid 0]) ae xA4 (fun j o hj=>by
  by_cases e:j=tid
  ·subst e;simp at hj;subst hj;exact g1.ts.ot
  ·simp[e] at hj) (fun j hj=>by
  by_cases e:j=tid
  ·simp[e]
  ·simp[e] at hj) hr ?_
 refine ao.aT (vals:=[.ptr x.P 0,.int .i64 (rpg R)]) ae xA4 (fun j hj=>g1.ts.pg.ltn hj) ho (fun r h' ⟨t,e,a,b,c,d,e2,f⟩=>f) fun q h3 ⟨t,hq,t1,t2,ot3,g3,k3,no3⟩ n3 _=>?_
 subst hq
 have o3:=(k3 sid ab).trans os
 have o3':=o3
 unfold stO at o3'
 refine ao.part 5 xA1 ?_
 simp only[List.drop_succ_cons,List.drop_zero,List.drop_nil]
 refine ao.nil ⟨by simp[bg,aS,apart,aV],?_⟩
 have d0:decide ((0:Int)=0)=true:=by decide
 refine rf0 (cj2 o3' d0) ?_
 refine Wp.le (s':=⟨tm [(4,.bool true)],⟨upd h3.objs sid (some (stO x t (aE R) (rpg Rw) (aE Rw))),h3.n,h3.toks,h3.m⟩⟩) (aK.of (bp ?_) (by exact OLe.refl _) (fun y hy=>hy) (Nat.le_refl _) (Nat.le_refl _)) ?_
 ·exact xSb
 have tx:=dJ g1.ts.pg t1
 have g4:=g3.qg g.sx (show sid<h3.n by omega) (stO x t (aE R) (rpg Rw) (aE Rw))
 have nt:sid≠t:=by omega
 have lw:=xg g g4 tx nt (by simp only[upd];rw[if_neg nt.symm];exact ot3) (by simp only[upd,if_true])
 have nn:aq h ⟨upd h3.objs sid (some (stO x t (aE R) (rpg Rw) (aE Rw))),h3.n,h3.toks,h3.m⟩:=aq.trans no1 (aq.trans no3 (aq.set o3) n3 (Nat.le_refl _)) ab (by exact n3)
 refine Wp.ret ⟨trivial,.bool true,?_,rfl,t,s,R,Rw,W,lw,fun _=>⟨rfl,rfl⟩,nn⟩
 simp only[go_sem]
 exact rfl
end
end Go.Proofs.YtbgmofhgfnmaiaaGreat.Tree
end
section
set_option maxRecDepth 100000
namespace Go.Proofs.YtbgmofhgfnmaiaaGreat.Tree
open Go Go.Av Go.Proofs Go.Proofs.YtbgmofhgfnmaiaaGreat.C Go.Proofs.YtbgmofhgfnmaiaaGreat.Page
open Go.Proofs.YtbgmofhgfnmaiaaGreat.Batch (Bs Pr prs aW)
structure Act where
 kd:Int
 k:Bs
 v:Bs
deriving Inhabited
def oB (a:Act):AV:= .agg [.int .i64 a.kd,.str a.k,.str a.v]
def nL (l:List Act):List AV:=l.map oB
theorem cY (l:List Act):(nL l).length=l.length:=by simp[nL]
theorem nM (l:List Act) (j:Nat) (d:AV) (h:j<l.length):(nL l).getD j d=oB (l.getD j default):=by
 simp[nL,List.getD,List.getElem?_map,List.getElem?_eq_getElem h]
theorem nN (l:List Act):aR (nL l)=true:=Batch.cW (fun x=>by simp[oB,bf,aR]) l
def iw (l:List Act):Bool:=decide (l.length≤60)&&l.all fun a=>decide (a.k.length≤1000)&&decide (a.v.length≤1000)
section
variable {x:PgI} {s:PgS} {T:List Nat} {h:H} {sid tid C W:Nat} {R Rw:Rt}
theorem xh (g:dx x T sid tid s R Rw C W h) (hc:C≤120) (hw:C+W≤240) (a:Act) (lk:a.k.length≤1000):aI Tryz.prog 11 [.ptr sid 0,oB a] h (r8 x T sid Rw C W a.kd h):=by
 obtain ⟨kd,k,v⟩:=a
 by_cases h1:kd=1
 ·subst h1;exact step_drop g hc hw k v
 by_cases h2:kd=2
 ·subst h2;exact ve g hc k v
 by_cases h3:kd=3
 ·subst h3;exact AM g k v
 by_cases h4:kd=4
 ·subst h4;exact AN g k v
 exact Db g hc hw kd ⟨h1,h2,h3,h4⟩ k v lk
set_option maxHeartbeats 1000000 in
theorem yv (l:List Act) (hl:l.length≤4611686018427387904):aZ Tryz.prog 8 [.sl 3 (nL l) .any] (.bool (iw l)):=by
 refine f8.dw af (by simp[aR,bf,cG,nN]) (by simp[bf]) ?_
 unfold c8 zz
 by_cases h60:l.length≤60
 ·have d1:decide ((60:Int)<(l.length:Int))=false:=decide_eq_false ab
  refine an0 (cj2 @cY d1) ?_
  refine Wp.kZ [0] xA6 (fun j:Nat=>[(3,.int .i64 j)]) (fun j=>j≤l.length∧(l.take j).all (fun a=>decide (a.k.length≤1000)&&decide (a.v.length≤1000))=true) (fun j=>l.length - j) 0 ⟨Nat.zero_le _,rfl⟩ ?_ ?_
  ·exact xSb
  rintro j ⟨hj,hpre⟩
  by_cases hc:j<l.length
  ·obtain ⟨g1,h2,h3,e1⟩:=ixF (j:=j) (n:=l.length) ab ab
   have hat:=nM l j .any hc
   have hel:l.getD j default=l[j]:=by simp[List.getD,List.getElem?_eq_getElem hc]
   by_cases hk:l[j].k.length≤1000∧l[j].v.length≤1000
   ·have hnext:(l.take (j+1)).all (fun a=>decide (a.k.length≤1000)&&decide (a.v.length≤1000))=true:=by
     rw[List.take_succ_eq_append_getElem hc,List.all_append,hpre]
     simp[hk]
    rw[←hel] at hk
    generalize l.getD j default=a at*
    have d2:decide ((1000:Int)<(a.k.length:Int))=false:=decide_eq_false ab
    have d3:decide ((1000:Int)<(a.v.length:Int))=false:=decide_eq_false ab
    refine an0 (oz @cY g1 h2 h3 e1 @Int.toNat_natCast hat @oB.eq_1 d2 d3) ?_
    refine ⟨j+1,⟨ab,hnext⟩,ab,?_⟩
    exact xSu
   ·have hno:iw l=false:=by
     unfold iw
     rw[Bool.and_eq_false_iff]
     refine .inr ?_
     rw[Bool.eq_false_iff]
     intro ha
     have:=List.all_eq_true.1 ha l[j] (List.getElem_mem hc)
     simp at this
     exact hk this
    rw[hno,←hel] at*
    generalize l.getD j default=a at*
    by_cases hk1:a.k.length≤1000
    ·have d2:decide ((1000:Int)<(a.k.length:Int))=false:=decide_eq_false ab
     have d3:decide ((1000:Int)<(a.v.length:Int))=true:=decide_eq_true ab
     refine an0 (oz @cY g1 h2 h3 e1 @Int.toNat_natCast hat @oB.eq_1 d2 d3) ?_
     refine cI ?_
     exact av.refl _
    ·have d2:decide ((1000:Int)<(a.k.length:Int))=true:=decide_eq_true ab
     refine an0 (cj9 @cY g1 h2 h3 e1 @Int.toNat_natCast hat @oB.eq_1 d2) ?_
     refine cI ?_
     exact av.refl _
  ·obtain rfl:j=l.length:=by omega
   have hyes:iw l=true:=by
    unfold iw
    rw[List.take_length] at hpre
    rw[hpre,decide_eq_true h60];rfl
   rw[hyes]
   have g1:=ixE (l.length)
   refine an0 (cj2 @cY g1) ?_
   refine cI ?_
   exact av.refl _
 ·have d1:decide ((60:Int)<(l.length:Int))=true:=decide_eq_true ab
  have hno:iw l=false:=by unfold iw;rw[decide_eq_false h60];rfl
  rw[hno]
  refine an0 (cj2 @cY d1) ?_
  refine cI ?_
  exact av.refl _
set_option maxHeartbeats 2000000 in
theorem yw {F:Nat→Option Av.Obj} {n m k:Nat} (hf:∀j,n≤j→F j=none) (hT:∀t∈T,t<m) (h0:0<k) (h1:k≤500):
  aI Tryz.prog 10 [.int .i64 (k:Nat)] ⟨F,n,T,m⟩ fun q h'=>∃x t,q= .tup [.ptr t 0,.ptr x.P 0,.ptr x.D 0]∧Tid x t∧h'.objs t=some (trO x (-1))∧PgH x (pg0 k) T h'∧aq ⟨F,n,T,m⟩ h':=by
 refine f10.bu af ?_
 unfold c10 zz
 have e1:IntKind.i64.wrap (8*(k:Int))=((8*k:Nat):Int):=by rw[IntWalk.i64_in _ ab];omega
 have c1:=Ak (F:=F) (n:=n) (m:=m) (T:=T) (k:=8*k) ab ab
 have c2:=wL (F:=upd (upd F n (some (.bk ⟨8*k,[]⟩))) (n+1) (some (dkO n (8*k) (cC [] none)))) (n:=n+1+1) (m:=m) (T:=T) (D:=n+1) (K:=n) (k:=k) (pa:=cC [] none) (by simp[upd]) h0 h1
 have g:=GG (F:=F) (n:=n) (m:=m) (T:=T) (k:=k) hf hT
 have no:aq ⟨F,n,T,m⟩ ⟨mS (upd (upd F n (some (.bk ⟨8*k,[]⟩))) (n+1) (some (dkO n (8*k) (cC [] none)))) (n+1+1) (n+1) k,n+1+1+1+1+1+1,T,m⟩:=fun j hj=>by
  by_cases hn:n≤j
  ·refine .inr ⟨hn,?_⟩
   rcases Nat.lt_or_ge j (n+1+1+1+1+1+1) with q|q
   ·exact q
   ·rw[g.fresh j q] at hj;cases hj
  ·left
   simp only[mS,upd] at hj ⊢
   simpa [show ¬j=n+1+1+1+1+1 by omega,show ¬j=n+1+1+1+1 by omega,show ¬j=n+1+1+1 by omega,show ¬j=n+1+1 by omega,show ¬j=n+1 by omega,show ¬j=n by omega] using hj
 have hn6:(⟨mS (upd (upd F n (some (.bk ⟨8*k,[]⟩))) (n+1) (some (dkO n (8*k) (cC [] none)))) (n+1+1) (n+1) k,n+1+1+1+1+1+1,T,m⟩:H).n=n+1+1+1+1+1+1:=rfl
 generalize hF2:mS (upd (upd F n (some (.bk ⟨8*k,[]⟩))) (n+1) (some (dkO n (8*k) (cC [] none)))) (n+1+1) (n+1) k=F2 at*
 generalize upd (upd F n (some (.bk ⟨8*k,[]⟩))) (n+1) (some (dkO n (8*k) (cC [] none)))=F1 at*
 have d0:decide ((0:Int)=0)=true:=by decide
 refine rf0 e1 ?_
 refine an.cF xA2 xAb (by exact ⟨Nat.le_add_right _ 2,Nat.le_refl _⟩) (c1) ?_
 refine an.evF xAc ?_
 refine an.nil ?_
 refine rf0 (cj2 d0 @Bool.not_true) ?_
 refine an.cF xA2 xAb (by exact ⟨Nat.le_add_right _ 4,Nat.le_refl _⟩) (c2) ?_
 refine an.evF xAc ?_
 refine an.nil ?_
 have ho:=th g (wM h0 h1) (r:= -1) (Int.le_refl _) (by show (-1:Int)<(k:Nat);omega)
 refine rf0 @and_self ?_
 refine an.aT (vals:=[.ptr (n+1+1+1+1+1) 0,.int .i64 (-1)]) ae xA4 ho fun q h3 ⟨t,hq,t1,t2,ot3,g3,k3,no3⟩ n3 _=>?_
 subst hq
 refine an.evF xAc ?_
 refine an.nil ?_
 refine rf0 (cj2 d0 @Bool.not_true) ?_
 refine Wp.ret ⟨trivial,.tup [.ptr t 0,.ptr (n+1+1+1+1+1) 0,.ptr (n+1) 0],?_,_,t,rfl,dJ g t1,ot3,g3,aq.trans no no3 (by exact Nat.le_add_right _ 6) n3⟩
 simp only[go_sem]
 exact rfl
end
end Go.Proofs.YtbgmofhgfnmaiaaGreat.Tree
end
section
set_option maxRecDepth 100000
namespace Go.Proofs.YtbgmofhgfnmaiaaGreat.Tree
open Go Go.Av Go.Proofs Go.Proofs.YtbgmofhgfnmaiaaGreat.C Go.Proofs.YtbgmofhgfnmaiaaGreat.Page
open Go.Proofs.YtbgmofhgfnmaiaaGreat.Batch (Bs Pr prs aW)
open Go.Proofs.YtbgmofhgfnmaiaaGreat.R10 (kS)
structure Tn (x:PgI) (T:List Nat) (tid:Nat) (s:PgS) (R:Rt) (C:Nat) (l:List Pr) (h:H):Prop where
 ts:Ts x T tid s R C h
 pg:jQ s R none
 np:s.np=10
 pl:s.p.length≤2000
 eq:aE R=l
section
variable {x:PgI} {s:PgS} {T:List Nat} {h:H} {tid C:Nat} {R:Rt} {l:List Pr}
theorem Tn.room (g:Tn x T tid s R C l h):10≤free s+2*C:=by
 have:=Tree.room (W:=0) g.ts.ok g.pg (iq g.ts.rk).bc (Nat.zero_le _)
 have:=g.np
 omega
theorem Tn.low (g:Tn x T tid s R C l h):∀L t,R=some ⟨L,t⟩→2^L≤C:=fun L t e=>by
 have:=g.ts.rk
 rw[e] at this
 exact yh this.2
theorem Tn.EN {s':PgS} {R':Rt} {h':H} {C':Nat} {l':List Pr} (g:Tn x T tid s R C l h) (m:eD x T tid s R h C' s' R' h') (hp:s.p.length≤1800) (e:aE R'=l'):Tn x T tid s' R' C' l' h':=
 ⟨m.ts,g.pg.mv m.mv,m.mv.np.trans g.np,by have:=m.pl;omega,e⟩
theorem mZ {L C:Nat} (h:2^L≤C) (hC:C≤3):L≤1:=by
 rcases Nat.lt_or_ge L 2 with e|e
 ·omega
 ·have:=Nat.pow_le_pow_right (n:=2) ah e
  omega
theorem pow_zero {L C:Nat} (h:2^L≤C) (hC:C≤1):L=0:=by
 rcases Nat.lt_or_ge L 1 with e|e
 ·omega
 ·have:=Nat.pow_le_pow_right (n:=2) ah e
  omega
theorem Tn.put {k v:Bs} (g:Tn x T tid s R C l h) (hC:C≤2) (hp:s.p.length≤200*C) (hk:k.length≤128) (hv:v.length≤200):aI Tryz.prog 24 [.ptr tid 0,.str k,.str v] h fun q h'=>q= .int .i64 0∧∃s' R',Tn x T tid s' R' (C+1) (fS l k v) h'∧s'.p.length≤200*(C+1):=by
 have hr:=g.room
 refine (EM g.ts (fun L t e=>by have:=mZ (g.low L t e) ab;omega) ⟨ab,fun L t e=>?_⟩ ab).mono ?_
 ·have h2:=g.low L t e
  have:=mZ h2 ab
  by_cases h1:C≤1
  ·have:=pow_zero h2 h1;omega
  ·omega
 ·rintro q h' ⟨s',R',m,c⟩
  rcases c with ⟨-,-,e,b⟩|⟨a,-⟩
  ·exact ⟨e,s',R',g.EN m ab (by rw[b,g.eq]),by have:=m.pl;omega⟩
  ·omega
theorem Tn.drop {k:Bs} (g:Tn x T tid s R 3 l h) (hp:s.p.length≤1600) (hk:∃p∈l,p.k=k):aI Tryz.prog 20 [.ptr tid 0,.str k] h fun q h'=>q= .int .i64 0∧∃s' R',Tn x T tid s' R' 3 (ep l k) h'∧s'.p.length≤s.p.length+200:=by
 have hr:=g.room
 have he:=g.eq
 refine (CS g.ts (fun L t e=>by have:=mZ (g.low L t e) ab;omega) (fun L t e=>by have:=mZ (g.low L t e) ab;omega) ab).mono ?_
 rintro q h' ⟨s',R',m,c⟩
 rcases c with ⟨-,e,b⟩|⟨a,-⟩
 ·exact ⟨e,s',R',g.EN m ab (by rw[b,he]),m.pl⟩
 ·obtain ⟨p,hp,e⟩:=hk
  exact absurd e (a p (he▸hp))
theorem Tn.box {h':H} (g:Tn x T tid s R C l h) (b:fH x T tid s R C h h'):Tn x T tid s R C l h':=⟨b.ts,g.pg,g.np,g.pl,g.eq⟩
theorem Tn.lev (g:Tn x T tid s R C l h) (hC:C≤3):∀L t,R=some ⟨L,t⟩→L≤6:=fun L t e=>by have:=mZ (g.low L t e) hC;omega
theorem Tn.scan (g:Tn x T tid s R C l h) (hC:C≤3) (hl:l.length≤1000):aI Tryz.prog 13 [.ptr tid 0,.str [],.str [],.int .i64 (-1)] h fun q h'=>q= .tup [.sl 2 (prs l) .any,.int .i64 0]∧Tn x T tid s R C l h':=by
 have he:=g.eq
 refine (FC g.ts (g.lev hC) (by have:=g.pl;omega) (by rw[he];omega)).mono ?_
 rintro q h' ⟨b,e⟩
 rw[qp (iq g.ts.rk).FH,he] at e
 exact ⟨e,g.box b⟩
theorem Tn.check (g:Tn x T tid s R C l h) (hC:C≤3) (hl:l.length≤1000):aI Tryz.prog 12 [.ptr tid 0] h fun q h'=>q= .tup [.int .i64 (l.length:Nat),.int .i64 0]∧Tn x T tid s R C l h':=by
 have he:=g.eq
 refine (Eu g.ts (g.lev hC) (by have:=g.pl;omega) (by rw[he];omega)).mono ?_
 rintro q h' ⟨b,e⟩
 rw[he] at e
 exact ⟨e,g.box b⟩
theorem Tn.get {k:Bs} (g:Tn x T tid s R C [] h) (hC:C≤3):aI Tryz.prog 14 [.ptr tid 0,.str k] h fun q h'=>q= .tup [.str [],.int .i64 7]∧Tn x T tid s R C [] h':=by
 have he:=g.eq
 refine (GL g.ts (g.lev hC) (by have:=g.pl;omega)).mono ?_
 rintro q h' ⟨b,e⟩
 rw[he] at e
 exact ⟨e,g.box b⟩
theorem r9 (k:Nat):jQ (pg0 k) none none:=by
 have h0:∀j,stt (pg0 k) j=0:=fun j=>by
  unfold stt pg0
  simp only[List.getD_eq_getElem?_getD,List.getElem?_replicate]
  split<;>rfl
 exact ⟨fun j=>by rw[h0];simp[cQ],fun j=>by rw[h0];simp[cQ]⟩
set_option maxHeartbeats 4000000 in
theorem yy:aZ Tryz.prog 9 [] (.bool true):=by
 refine f9.dw af rfl rfl ?_
 unfold c9 zz
 have hb:aI Tryz.prog 10 [.int .i64 10] ⟨az,0,[],0⟩ fun q h'=>∃x t,q= .tup [.ptr t 0,.ptr x.P 0,.ptr x.D 0]∧Tid x t∧h'.objs t=some (trO x (-1))∧PgH x (pg0 10) [] h'∧aq ⟨az,0,[],0⟩ h':=yw (k:=10) (fun _ _=>rfl) (fun t ht=>by cases ht) ah ah
 refine rf0 @and_self ?_
 refine an.aT (vals:=[.int .i64 10]) ae xA4 hb fun q h0 ⟨x,tid,hq,tx,ot,g,_⟩ _ _=>?_
 subst hq
 refine an.evF xAc ?_
 refine an.nil ?_
 have t0:Tn x [] tid (pg0 10) none 0 [] h0:=⟨⟨g,wM ah ah,ot,tx,trivial⟩,r9 10,rfl,Nat.zero_le _,rfl⟩
 refine rf0 @and_self ?_
 refine an.aT (vals:=[.ptr tid 0,.str [98],.str [49]]) ae xA4 (t0.put (k:=[98]) (v:=[49]) ah (Nat.zero_le _) ah ah) fun q h1 ⟨hq,s1,R1,t1,p1⟩ _ _=>?_
 subst hq
 refine an.evF xAc ?_
 refine an.nil ?_
 refine rf0 @and_self ?_
 refine an.aT (vals:=[.ptr tid 0,.str [97],.str [50]]) ae xA4 (t1.put (k:=[97]) (v:=[50]) ah p1 ah ah) fun q h2 ⟨hq,s2,R2,t2,p2⟩ _ _=>?_
 subst hq
 refine an.evF xAc ?_
 refine an.nil ?_
 refine rf0 @and_self ?_
 refine an.aT (vals:=[.ptr tid 0,.str [98],.str [51]]) ae xA4 (t2.put (k:=[98]) (v:=[51]) ah p2 ah ah) fun q h3 ⟨hq,s3,R3,t3,p3⟩ _ _=>?_
 subst hq
 refine an.evF xAc ?_
 refine an.nil ?_
 have e3:fS (fS (fS [] [98] [49]) [97] [50]) [98] [51]=[⟨[97],[50]⟩,⟨[98],[51]⟩]:=by decide
 rw[e3] at t3
 refine rf0 @and_self ?_
 refine an.aT (vals:=[.ptr tid 0,.str [],.str [],.int .i64 (-1)]) ae xA4 (t3.scan ah ah) fun q h4 ⟨hq,t4⟩ _ _=>?_
 subst hq
 refine an.evF xAc ?_
 refine an.nil ?_
 refine rf0 @and_self ?_
 refine an.aT (vals:=[.ptr tid 0]) ae xA4 (t4.check ah ah) fun q h5 ⟨hq,t5⟩ _ _=>?_
 subst hq
 refine an.evF xAc ?_
 refine an.nil ?_
 refine rf0 @and_self ?_
 refine an.aT (vals:=[.ptr tid 0,.str [97]]) ae xA4 (t5.drop (k:=[97]) ab ⟨_,List.mem_cons_self,rfl⟩) fun q h6 ⟨hq,s6,R6,t6,p6⟩ _ _=>?_
 subst hq
 refine an.evF xAc ?_
 refine an.nil ?_
 have e6:ep [⟨[97],[50]⟩,⟨[98],[51]⟩] [97]=[⟨[98],[51]⟩]:=by decide
 rw[e6] at t6
 refine rf0 @and_self ?_
 refine an.aT (vals:=[.ptr tid 0,.str [98]]) ae xA4 (t6.drop (k:=[98]) ab ⟨_,List.mem_cons_self,rfl⟩) fun q h7 ⟨hq,s7,R7,t7,p7⟩ _ _=>?_
 subst hq
 refine an.evF xAc ?_
 refine an.nil ?_
 have e7:ep [⟨[98],[51]⟩] [98]=[]:=by decide
 rw[e7] at t7
 refine rf0 @and_self ?_
 refine an.aT (vals:=[.ptr tid 0]) ae xA4 (t7.check ah ah) fun q h8 ⟨hq,t8⟩ _ _=>?_
 subst hq
 refine an.evF xAc ?_
 refine an.nil ?_
 refine rf0 @and_self ?_
 refine an.aT (vals:=[.ptr tid 0,.str [97]]) ae xA4 (t8.get (k:=[97]) ah) fun q h9 ⟨hq,t9⟩ _ _=>?_
 subst hq
 refine an.evF xAc ?_
 refine an.nil ?_
 have hr:rpg R7= -1:=by
  have e:=t9.eq
  cases R7 with
  |none=>rfl
  |some r=>
   obtain ⟨L,t⟩:=r
   exact absurd e (jo L _ _ t t9.ts.rk.1.wf).2.1
 have cr:=FF t9.ts
 rw[hr] at cr
 have cs:=kS [⟨[97],[50]⟩,⟨[98],[51]⟩] [⟨[97],[50]⟩,⟨[98],[51]⟩] ah ah
 rw[decide_eq_true rfl] at cs
 have cs2:aZ Tryz.prog 16 [.sl 2 (prs [⟨[97],[50]⟩,⟨[98],[51]⟩]) .any,.sl 2 [.agg [.str [97],.str [50]],.agg [.str [98],.str [51]]] .any] (.bool true):=cs
 clear cs
 generalize prs [⟨[97],[50]⟩,⟨[98],[51]⟩]=L0 at*
 have d0:decide ((0:Int)=0)=true:=by decide
 have d7:decide ((7:Int)=7)=true:=by decide
 have dm:decide ((-1:Int)= -1)=true:=by decide
 have dl:decide (((([⟨[97],[50]⟩,⟨[98],[51]⟩]:List Pr).length:Nat):Int)=2)=true:=by decide
 have dn:decide (((([]:List Pr).length:Nat):Int)=0)=true:=by decide
 generalize ((([⟨[97],[50]⟩,⟨[98],[51]⟩]:List Pr).length:Nat):Int)=N2 at*
 generalize ((([]:List Pr).length:Nat):Int)=N0 at*
 refine rf0 d0 ?_
 refine an.bW al (by simp only[go_sem,reduceIte,Nat.reduceEqDiff,List.map];exact ay.cons (av.refl _) (ay.cons av.cap ay.nil)) cs2 ?_
 refine an.evF (xAd (cj2 d0 dl)) ?_
 refine an.cF al xA4 ⟨Nat.le_refl _,Nat.le_refl _⟩ cr ?_
 refine an.evF (xAd (cj4 d0 dm dn d7)) ?_
 refine an.nil ?_
 refine Wp.ret ⟨trivial,.bool true,?_,av.refl _⟩
 simp only[go_sem]
 exact rfl
end
end Go.Proofs.YtbgmofhgfnmaiaaGreat.Tree
end
section
set_option maxRecDepth 100000
namespace Go.Proofs.YtbgmofhgfnmaiaaGreat.Tree
open Go Go.Av Go.Proofs Go.Proofs.YtbgmofhgfnmaiaaGreat.C Go.Proofs.YtbgmofhgfnmaiaaGreat.Page
open Go.Proofs.YtbgmofhgfnmaiaaGreat.Batch (Bs Pr prs aW)
open Go.Proofs.YtbgmofhgfnmaiaaGreat.R10 (kS C5 rY AJ ma)
theorem qt {l:List Act} (h:iw l=true):l.length≤60:=by
 simp only[iw,Bool.and_eq_true,decide_eq_true_eq] at h;exact h.1
theorem yz {l:List Act} (h:iw l=true) {j:Nat} (hj:j<l.length):(l.getD j default).k.length≤1000:=by
 simp only[iw,Bool.and_eq_true,decide_eq_true_eq,List.all_eq_true] at h
 have e:l.getD j default=l[j]:=by simp[List.getD,List.getElem?_eq_getElem hj]
 rw[e]
 exact (h.2 _ (List.getElem_mem hj)).1
section
variable {x:PgI} {s:PgS} {T:List Nat} {h:H} {sid tid C W:Nat} {R Rw:Rt}
theorem Hb {h1:H} (g:PgH x (pg0 500) T h) (ot:h.objs tid=some (trO x (-1))) (tx:Tid x tid):dx x T h.n tid (pg0 500) none none 0 0 (H.new h (stO x tid [] (-1) [])):=
 ⟨⟨g.new _,wM ah ah,(aL (g.ltn (by rw[ot];rfl))).trans ot,tx,trivial⟩,bU,dJ g (Nat.le_refl _),by have:=g.ltn (j:=tid) (by rw[ot];rfl);omega,rfl,r9 500,trivial,fun w hw=>(by cases hw),Nat.zero_le _,Nat.zero_le _,Nat.zero_le _,Nat.le_refl _⟩
end
end Go.Proofs.YtbgmofhgfnmaiaaGreat.Tree
end
section
set_option maxRecDepth 100000
namespace Go.Proofs.YtbgmofhgfnmaiaaGreat.Tree
open Go Go.Av Go.Proofs Go.Proofs.YtbgmofhgfnmaiaaGreat.C Go.Proofs.YtbgmofhgfnmaiaaGreat.Page
open Go.Proofs.YtbgmofhgfnmaiaaGreat.Batch (Bs Pr prs aW)
set_option maxHeartbeats 2000000 in
theorem FJ (l:List Act) (hf:iw l=true):aI Tryz.prog 27 [.sl 3 (nL l) .any] ⟨az,0,[],0⟩ fun q h'=>∃x sid tid s R Rw W,q= .ptr sid 0∧dx x [] sid tid s R Rw l.length W h':=by
 have hl60:=qt hf
 refine f27.bu af ?_
 unfold c27 zz
 have hb:aI Tryz.prog 10 [.int .i64 500] ⟨az,0,[],0⟩ fun q h'=>∃x t,q= .tup [.ptr t 0,.ptr x.P 0,.ptr x.D 0]∧Tid x t∧h'.objs t=some (trO x (-1))∧PgH x (pg0 500) [] h'∧aq ⟨az,0,[],0⟩ h':=yw (k:=500) (fun _ _=>rfl) (fun t ht=>by cases ht) ah ah
 refine rf0 @and_self ?_
 refine an.aT (vals:=[.int .i64 500]) ae xA4 hb fun q h0 ⟨x,tid,hq,tx,ot,g,_⟩ _ _=>?_
 subst hq
 refine an.evF xAc ?_
 refine an.nil ?_
 refine rf0 @and_self ?_
 have g0:=Hb (h1:=h0) g ot tx
 refine Wp.le (s':=⟨tm [(0,.sl 3 (nL l) .any),(6,.ptr h0.n 0),(7,.int .i64 0)],H.new h0 (stO x tid [] (-1) [])⟩) (aK.of (bp ?_) (OLe.upd (OLe.refl _) ?_) (fun y hy=>hy) (Nat.le_refl _) (Nat.le_refl _)) ?_
 ·exact xSb
 ·exact ay.cons (av.refl _) (ay.cons (av.refl _) (ay.cons (av.refl _) (ay.cons av.cap (ay.cons (av.refl _) (ay.cons av.cap ay.nil)))))
 generalize H.new h0 (stO x tid [] (-1) [])=h1 at*
 generalize h0.n=sid at*
 refine Wp.eH [0,6] xA7 (fun b:Nat × H=>[(7,.int .i64 (b.1:Nat))]) (fun b=>b.2) (fun b=>b.1≤l.length∧∃tid s R Rw W,dx x [] sid tid s R Rw b.1 W b.2) (fun b=>l.length - b.1) (0,h1) ⟨Nat.zero_le _,_,_,_,_,_,g0⟩ rfl ?_ ?_
 ·exact xSb
 clear g0 ot g tx
 rintro ⟨j,hp⟩ ⟨hj,tid2,s,R,Rw,W,g⟩
 simp only at hj g
 have hW:=g.wc
 by_cases hc:j<l.length
 ·obtain ⟨g1,h2,h3,e1⟩:=ixF (j:=j) (n:=l.length) ab ab
  have hat:=nM l j .any hc
  have hk:=yz hf hc
  generalize l.getD j default=a at*
  have hs:=xh g ab ab a hk
  unfold oB at hs hat
  refine rf0 (cj8 @cY g1 h2 h3 @and_self e1 @Int.toNat_natCast hat) ?_
  refine an.aT (vals:=[.ptr sid 0,.agg [.int .i64 a.kd,.str a.k,.str a.v]]) ae xA4 hs fun q h4 ⟨hq,tid3,s3,R3,Rw3,W3,g3,_,_⟩ _ _=>?_
  subst hq
  refine an.evF xAc ?_
  refine an.nil ?_
  refine rf0 (cj2 @Bool.not_true e1) ?_
  refine ⟨(j+1,h4),⟨by simp only;omega,_,_,_,_,_,g3⟩,by simp only;omega,aK.tm ?_⟩
  exact xSb
 ·obtain rfl:j=l.length:=by omega
  have g1:=ixE (l.length)
  refine rf0 (cj2 @cY g1) ?_
  refine Wp.ret ⟨trivial,.ptr sid 0,?_,x,sid,tid2,s,R,Rw,W,rfl,g⟩
  simp only[go_sem]
  exact rfl
def EO (a:Act):Prop:=(Lit.int .i64 a.kd).wf=true∧a.k.length≤reachBytes∧a.v.length≤reachBytes
theorem Df {k:Nat} {cs:List AV} (h:Fits Tryz.prog (k+4) 36 cs):∃p:Act,fg Tryz.prog 36 cs=oB p∧EO p:=by
 have hw:∀cs,fg Tryz.prog 36 cs= .agg cs:=fun cs=>by
  unfold fg;rw[if_pos (by kernel_rfl)]
 rw[hw]
 unfold Fits at h
 rw[Tryz.underlying36] at h
 obtain ⟨xss,rfl,h⟩:=h
 cases h with|cons h0 h=>cases h with|cons h1 h=>cases h with|cons h2 h=>
 cases h
 unfold Fits at h0 h1 h2
 simp only at h0 h1 h2
 rw[Tryz.underlying3] at h0
 rw[Tryz.underlying9] at h1 h2
 obtain ⟨n,rfl,hn⟩:=h0
 obtain ⟨v,rfl,hv⟩:=h1
 obtain ⟨w,rfl,hw⟩:=h2
 exact ⟨⟨n,v,w⟩,rfl,hn,hv,hw⟩
theorem xi {α:Type} {t:TypeId} {k:Nat} {enc:α→AV} {Q:α→Prop} (h1:∀cs,Fits Tryz.prog k t cs→∃x,fg Tryz.prog t cs=enc x∧Q x):∀{ys:List AV},(∀y∈ys,∃cs,Fits Tryz.prog k t cs∧y=fg Tryz.prog t cs)→∃l:List α,ys=l.map enc∧∀x∈l,Q x
 |[],_=>⟨[],rfl,by simp⟩
 |y::ys,h=>by
  obtain ⟨l,rfl,hl⟩:=xi h1 (ys:=ys) (fun z hz=>h z (by simp[hz]))
  obtain ⟨cs,g1,g2⟩:=h y af
  obtain ⟨x,e,q⟩:=h1 cs g1
  refine ⟨x::l,by simp[g2,e],fun z hz=>?_⟩
  rcases List.mem_cons.1 hz with rfl|hz
  ·exact q
  ·exact hl z hz
theorem yA {n b:Nat} (hb:4≤b) (h:n*b≤reachBytes):n≤35184372088832:=by
 have:n*4≤n*b:=Nat.mul_le_mul_left n hb
 have e:reachBytes=140737488351232:=rfl
 omega
theorem sa {a:AV} (h:mQ Tryz.prog 5 22 a):∃l:List Act,a= .sl 3 (l.map oB) .any∧l.length≤35184372088832∧∀p∈l,EO p:=by
 obtain ⟨cs,h,rfl⟩:=h
 unfold Fits at h
 rw[Tryz.underlying22] at h
 obtain ⟨xs,rfl,hlx,hx⟩:=h
 obtain ⟨l,rfl,hl⟩:=xi (fun cs h=>Df h) hx
 have c1:Tryz.prog.cellsOf 36=3:=by kernel_rfl
 have c2:Tryz.prog.bytesOf 36=40:=by kernel_rfl
 rw[List.length_map,c2] at hlx
 refine ⟨l,?_,yA ah hlx,hl⟩
 unfold fg;rw[if_neg (by rw[show bZ Tryz.prog 22=false by kernel_rfl];simp),c1];rfl
end Go.Proofs.YtbgmofhgfnmaiaaGreat.Tree
end
section
set_option maxRecDepth 100000
namespace Go.Proofs.YtbgmofhgfnmaiaaGreat.Tree
open Go Go.Av Go.Proofs Go.Proofs.YtbgmofhgfnmaiaaGreat.C Go.Proofs.YtbgmofhgfnmaiaaGreat.Page
open Go.Proofs.YtbgmofhgfnmaiaaGreat.Batch (Bs Pr prs aW)
open Go.Proofs.YtbgmofhgfnmaiaaGreat.R10 (kS)
section
variable {x:PgI} {s:PgS} {T:List Nat} {h:H} {sid tid C W:Nat} {R Rw:Rt}
def qu (s:PgS) (ks:List Int):PgS:={s with p:=[],d:=kd (fun k=>ks.contains (k:Int)) s.p s.d s.p.length,tk:=none}
theorem dx.EP (g:dx x T sid tid s R Rw C W h) (ks:List Int):fI (qu s ks) W Rw:=g.old.congr fun j hj=>wO fun w hw=>by
 have a:=(g.pg.old j).2 hj
 have b:=g.pe w hw
 by_cases e:w.1/8=j
 ·rw[e] at b;omega
 ·omega
theorem dx.look (g:dx x T sid tid s R Rw C W h) (ks:List Int):∀L t,Rw=some ⟨L,t⟩→iJ (qu s ks) L [] none t:=fun L t e=>by
 have c:=g.EP ks
 subst e
 exact ⟨c.1,c.2.1,c.2.2.1,fun j hj=>⟨by have:=(g.pg.old j).2 hj;show stt s j≠0;omega,qq g.ts.ok (by have:=(g.pg.old j).2 hj;omega)⟩⟩
theorem dx.more (g:dx x T sid tid s R Rw C W h):dx x T sid tid s R Rw (C+1) W h:=
 ⟨g.ts.keep g.ts.pg rfl (Nat.le_succ _),g.os,g.sx,g.ne,g.np,g.pg,g.old,g.pe,Nat.le_trans g.pl ab,Nat.le_succ_of_le g.ll,g.lw,Nat.le_succ_of_le g.wc⟩
end
set_option maxHeartbeats 4000000 in
theorem xj (l more:List Act) (ks:List Int) (hf:iw l=true) (hm:iw more=true) (hk:ks.length≤100):aZ Tryz.prog 6 [.sl 3 (nL l) .any,.sl 3 (nL more) .any,.sl 1 (ints ks) .any] (.bool true):=by
 have hl60:=qt hf
 have hm60:=qt hm
 refine f6.dw af (by simp[aR,bf,cG,nN,kE]) rfl ?_
 unfold c6 zz
 have cf:=yv l ab
 rw[hf] at cf
 have cm:=yv more ab
 rw[hm] at cm
 have dk:decide ((100:Int)<(ks.length:Int))=false:=decide_eq_false ab
 have hd:=FJ l hf
 have clv:=yy
 have d0:decide ((0:Int)=0)=true:=by decide
 refine rf2 (cj3 @Bool.not_true dk @gg) cf cm ?_
 refine an.aT (vals:=[.sl 3 (nL l) .any]) ae xA4 hd fun q h0 ⟨x,sid,tid,s,R,Rw0,W0,hq,g⟩ _ _=>?_
 subst hq
 have hW:=g.wc
 have hs:=xh g ab ab ⟨2,[],[]⟩ (Nat.zero_le _)
 unfold oB at hs
 refine an.evF xAc ?_
 refine an.nil ?_
 refine rf0 @and_self ?_
 refine an.aT (vals:=[.ptr sid 0,.agg [.int .i64 2,.str [],.str []]]) al xA4 hs fun q h1 ⟨hq,tid1,s1,R1,Rw,W,g1,_,_⟩ _ _=>?_
 subst hq
 clear g hW hs
 have os:=g1.os
 unfold stO at os
 refine an.evF xAc ?_
 refine an.nil ?_
 refine rf0 (cj2 os @Bool.not_true) ?_
 refine Wp.reg ?_
 refine ao.part 10 (xAe os) ?_
 simp only[List.drop_succ_cons,List.drop_zero,List.drop_nil]
 refine ao.nil ⟨by simp[bg,aS,apart,aV],?_⟩
 refine rf0 @and_self ?_
 refine Wp.eH [0,1,2,7,8,9] xA7 (fun b:Nat × H=>[(10,.int .i64 (b.1:Nat))]) (fun b=>b.2) (fun b=>b.1≤more.length∧∃tid s R,dx x [] sid tid s R Rw (l.length+1+b.1) W b.2) (fun b=>more.length - b.1) (0,h1) ⟨Nat.zero_le _,_,_,_,g1⟩ rfl ?_ ?_
 ·exact xSb
 clear g1 os tid1 s1 R1
 rintro ⟨j,hp⟩ ⟨hj,tid2,s,R,g⟩
 simp only at hj g
 have hW:=g.wc
 by_cases hc:j<more.length
 ·obtain ⟨g1,h2,h3,e1⟩:=ixF (j:=j) (n:=more.length) ab ab
  have hat:=nM more j .any hc
  have hk:=yz hm hc
  generalize more.getD j default=a at*
  have hs:=xh g ab ab a hk
  unfold oB at hs hat
  by_cases k1:a.kd<2
  ·have dk1:=decide_eq_true k1
   refine rf0 (cj9 @cY g1 h2 h3 @and_self e1 @Int.toNat_natCast hat dk1) ?_
   refine an.aT (vals:=[.ptr sid 0,.agg [.int .i64 a.kd,.str a.k,.str a.v]]) ae xA4 hs fun q h4 ⟨hq,tid3,s3,R3,Rw3,W3,g3,hw3,_⟩ _ _=>?_
   subst hq
   obtain ⟨rfl,rfl⟩:=hw3 (by show a.kd<2∨4<a.kd;omega)
   refine an.evF xAc ?_
   refine an.nil ?_
   refine rf0 e1 ?_
   refine ⟨(j+1,h4),⟨by simp only;omega,tid3,s3,R3,g3⟩,by simp only;omega,aK.tm ?_⟩
   exact xSb
  ·have dk1:=decide_eq_false k1
   by_cases k2:4<a.kd
   ·have dk2:=decide_eq_true k2
    refine rf0 (oz @cY g1 h2 h3 @and_self e1 @Int.toNat_natCast hat dk1 dk2) ?_
    refine an.aT (vals:=[.ptr sid 0,.agg [.int .i64 a.kd,.str a.k,.str a.v]]) ae xA4 hs fun q h4 ⟨hq,tid3,s3,R3,Rw3,W3,g3,hw3,_⟩ _ _=>?_
    subst hq
    obtain ⟨rfl,rfl⟩:=hw3 (by show a.kd<2∨4<a.kd;omega)
    refine an.evF xAc ?_
    refine an.nil ?_
    refine rf0 e1 ?_
    refine ⟨(j+1,h4),⟨by simp only;omega,tid3,s3,R3,g3⟩,by simp only;omega,aK.tm ?_⟩
    exact xSb
   ·have dk2:=decide_eq_false k2
    refine rf0 (oz @cY g1 h2 h3 @and_self e1 @Int.toNat_natCast hat dk1 dk2) ?_
    refine ⟨(j+1,hp),⟨by simp only;omega,tid2,s,R,?_⟩,by simp only;omega,aK.tm ?_⟩
    ·exact g.more
    exact xSb
 ·obtain rfl:j=more.length:=by omega
  have g1:=ixE (more.length)
  have os:=g.os
  unfold stO at os
  have hcr:=Ec g.ts.pg g.ts.ok (by have:=g.pl;omega) (zs:=ks) ab
  have st:=g.EP ks
  have lk:=g.look ks
  have ok:=g.ts.ok.kept (pick:=fun k=>ks.contains (k:Int))
  have wl:=g.De
  have hlw:=g.lw
  refine rf0 (cj3 @cY g1 os) ?_
  refine an.aT (vals:=[.ptr x.D 0,.sl 1 (ints ks) .any]) ae xA4 hcr fun q h2 ⟨hq,g2,sm2,no2⟩ n2 _=>?_
  subst hq
  have os2:=(cx sm2 g.fU g.sx).trans os
  have hpl:(qu s ks).p.length<900000:=by show 0<900000;decide
  have wl2:rpg Rw<(qu s ks).np:=wl
  change PgH x (qu s ks) [] h2 at g2
  change cd (qu s ks) at ok
  generalize qu s ks=s2 at*
  have ho:=th g2 ok (xe Rw) wl2
  refine an.evF xAc ?_
  refine an.nil ?_
  refine rf0 os2 ?_
  refine an.aT (vals:=[.ptr x.P 0,.int .i64 (rpg Rw)]) ae xA4 ho fun q h3 ⟨t,hq,t1,t2,ot3,g3,k3,no3⟩ n3 _=>?_
  subst hq
  have z3:Ts0 x [] t s2 Rw h3:=⟨g3,ok,ot3,dJ g2 t1,lk⟩
  have hlev:=st.lev (by have:=g.wc;omega)
  have hs:=CY (key:=[]) (to:=[]) (most:= -1) z3 hlev hpl ab
  rw[qp st.FH] at hs
  refine an.evF xAc ?_
  refine an.nil ?_
  refine rf0 d0 ?_
  refine an.aT (vals:=[.ptr t 0,.str [],.str [],.int .i64 (-1)]) ae xA4 hs fun q h4 ⟨b4,hq⟩ _ _=>?_
  subst hq
  have hch:=yn b4.ts hlev hpl ab
  refine an.evF xAc ?_
  refine an.nil ?_
  refine rf0 d0 ?_
  refine an.aT (vals:=[.ptr t 0]) ae xA4 hch fun q h5 ⟨b5,hq⟩ _ _=>?_
  subst hq
  have c1:=kS (aE Rw) (aE Rw) ab ab
  rw[decide_eq_true rfl] at c1
  have dl:decide ((((aE Rw).length:Nat):Int)=(((aE Rw).length:Nat):Int))=true:=decide_eq_true rfl
  have hpr:=Batch.cB (aE Rw)
  refine an.evF xAc ?_
  refine an.nil ?_
  refine rf2 (cj3 d0 dl hpr) c1 clv ?_
  refine Wp.ret ⟨trivial,.bool true,?_,av.refl _⟩
  simp only[go_sem]
  exact rfl
end Go.Proofs.YtbgmofhgfnmaiaaGreat.Tree
end
section
set_option maxRecDepth 100000
namespace Go.Proofs.YtbgmofhgfnmaiaaGreat.Tree
open Go Go.Av Go.Proofs Go.Proofs.YtbgmofhgfnmaiaaGreat.C Go.Proofs.YtbgmofhgfnmaiaaGreat.Page
open Go.Proofs.YtbgmofhgfnmaiaaGreat.Batch (Bs Pr prs aW)
theorem Dg {k:Nat} {cs:List AV} (h:Fits Tryz.prog (k+3) 3 cs):∃n:Int,fg Tryz.prog 3 cs= .int .i64 n∧True:=by
 unfold Fits at h
 rw[Tryz.underlying3] at h
 obtain ⟨l,rfl,hl⟩:=h
 refine ⟨l,?_,trivial⟩
 unfold fg;rw[if_neg (by rw[show bZ Tryz.prog 3=false by kernel_rfl];simp)];rfl
theorem open_ints {a:AV} (h:mQ Tryz.prog 5 61 a):∃l:List Int,a= .sl 1 (ints l) .any∧l.length≤35184372088832:=by
 obtain ⟨cs,h,rfl⟩:=h
 unfold Fits at h
 rw[Tryz.underlying61] at h
 obtain ⟨xs,rfl,hlx,hx⟩:=h
 obtain ⟨l,rfl,-⟩:=xi (fun cs h=>Dg h) hx
 have c1:Tryz.prog.cellsOf 3=1:=by kernel_rfl
 have c2:Tryz.prog.bytesOf 3=8:=by kernel_rfl
 rw[List.length_map,c2] at hlx
 refine ⟨l,?_,yA ah hlx⟩
 unfold fg;rw[if_neg (by rw[show bZ Tryz.prog 61=false by kernel_rfl];simp),c1];rfl
theorem xk (l more:List Act) (ks:List Int) (hl:l.length≤4611686018427387904) (hm:more.length≤4611686018427387904) (h:iw l=true→iw more=true→100<ks.length):aZ Tryz.prog 6 [.sl 3 (nL l) .any,.sl 3 (nL more) .any,.sl 1 (ints ks) .any] (.bool true):=by
 refine f6.dw af (by simp[aR,bf,cG,nN,kE]) rfl ?_
 unfold c6 zz
 have cf:=yv l hl
 have cm:=yv more hm
 have clv:=yy
 by_cases hf:iw l=true
 ·rw[hf] at cf
  by_cases hg:iw more=true
  ·rw[hg] at cm
   have dk:decide ((100:Int)<(ks.length:Int))=true:=decide_eq_true (by have:=h hf hg;omega)
   refine rf3 (cj3 @Bool.not_true dk @gg) cf cm clv ?_
   refine Wp.ret ⟨trivial,.bool true,?_,av.refl _⟩
   simp only[go_sem]
   exact rfl
  ·have hg:iw more=false:=by simpa using hg
   rw[hg] at cm
   refine rf3 (cj2 @Bool.not_true @Bool.not_false) cf cm clv ?_
   refine Wp.ret ⟨trivial,.bool true,?_,av.refl _⟩
   simp only[go_sem]
   exact rfl
 ·have hf:iw l=false:=by simpa using hf
  rw[hf] at cf
  refine rf2 @Bool.not_false cf clv ?_
  refine Wp.ret ⟨trivial,.bool true,?_,av.refl _⟩
  simp only[go_sem]
  exact rfl
theorem qD {b:Nat} (avs:List AV) (h:uF (mQ Tryz.prog 5) Tryz.f6.params.toList avs) (_:cV avs≤b):aZ Tryz.prog 6 avs (.bool true):=by
 rw[Tryz.params6] at h
 cases h with|cons h0 h=>cases h with|cons h1 h=>cases h with|cons h2 h=>
 cases h
 obtain ⟨l,rfl,hl,-⟩:=sa h0
 obtain ⟨more,rfl,hm,-⟩:=sa h1
 obtain ⟨ks,rfl,-⟩:=open_ints h2
 by_cases hf:iw l=true∧iw more=true∧ks.length≤100
 ·exact xj l more ks hf.1 hf.2.1 hf.2.2
 ·refine xk l more ks ab ab fun a b=>?_
  rcases Nat.lt_or_ge 100 ks.length with c|c
  ·exact c
  ·exact absurd ⟨a,b,c⟩ hf
end Go.Proofs.YtbgmofhgfnmaiaaGreat.Tree
end
section
namespace Go.Proofs.YtbgmofhgfnmaiaaGreat.Tree
open Go Go.Av Go.Proofs Go.Proofs.YtbgmofhgfnmaiaaGreat.C
open Go.ChangeShapes Go.WideShapes Go.ChangeAt Go.RowKit
set_option maxRecDepth 100000 in
theorem nP (os:Os) (started:os.Started) (H:Type) (enc:TypeId × Value→H):
  ReturnsInHanded {} Tryz.checked os 6 .any (Rows.treeElderSpec.pre6 enc Tryz.prog Tryz.f6 Rows.treeElderRow.domain false) (Rows.treeElderSpec.post enc Tryz.prog Tryz.f6 false true false false):=by
 refine returnsInHanded_of_change_sized (C:=Tryz.checked) own started (by kernel_rfl) Tryz.func6
  (ChangeSpec.witness6 (enc:=enc) (C:=Tryz.checked) false ⟨#[],#[.slice none 0 0,.slice none 0 0,.slice none 0 0],[]⟩ 8 (by kernel_rfl) (by kernel_rfl) (by kernel_rfl) (by kernel_rfl)) ?_
 intro W base args ds gs before hval hW _ hwt _
 exact Af laid G8 Gy full rfl (fun l hl=>by match l,hl with|[_,_,_],_=>rfl) rfl Tryz.underlying4 (by kernel_rfl) (by kernel_rfl) hval hW hwt (fun avs h hb=>qD avs h hb)
theorem qE:(Rows.treeElderRow.inPlace == Tryz.pinned.checked.prog.inPlace 6)=true:=by kernel_rfl
theorem qF:(Rows.treeElderRow.unfollowed == Tryz.pinned.checked.prog.unfollowed 6)=true:=by kernel_rfl
theorem qG:(Rows.treeElderRow.recurses == Tryz.pinned.checked.prog.recurses 6)=true:=by kernel_rfl
theorem qH:(Rows.treeElderRow.named == Tryz.pinned.checked.prog.varsNamed 6)=true:=by kernel_rfl
theorem nQ:joinedFacts Tryz.pinned.checked.prog 6 Tryz.f6 Rows.treeElderSpec Rows.treeElderRow=true:=by
 unfold joinedFacts
 rw[qE,qF,qG,qH]
 kernel_rfl
theorem oC:Tryz.pinned.checked.prog.funcNamed Rows.treeElderRow.func=some 6:=by kernel_rfl
theorem said_TreeElder:Rows.TreeElderSaid:=
 OpenClaim.holds_of_wide 6 Tryz.f6 rfl rfl rfl rfl rfl rfl rfl ⟨rfl,rfl,rfl,rfl,rfl⟩ rfl rfl rfl rfl rfl oC Tryz.func6 nQ
  (of_decide_eq_true (by kernel_rfl)) (by unfold Func.isWrapper;first|(rw [if_pos (by decide+kernel)];kernel_rfl)|(rw [if_neg (by decide+kernel)];exact ⟨rfl,rfl⟩))
  (fun os started H enc _=>nP os started H enc)
#print axioms said_TreeElder
end Go.Proofs.YtbgmofhgfnmaiaaGreat.Tree
end
