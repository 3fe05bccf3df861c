/- Parts of a proof: a layer of abstract values over the model, the functions' walks, plain laws. -/
import Derived.Test.YtjnoobmaedgooaaGreatZReB
set_option linter.unusedSimpArgs false
set_option linter.unusedVariables false
section
namespace Go.Av
section
variable{P:Program}{N:Nat}{Q:aO->St->Prop}
theorem mK{G:aT}{f:Nat->Option Obj}{n m:Nat}(B:Nat):¬(H.only f [] n m).T G B:=λ⟨t,ht,_⟩=>by simp[H.only] at ht
end
abbrev Dd:=Nat->Option Obj
structure Fr where
 o:Dd
 k:List Nat
def lay:List Fr->Dd
 |[]=>aB
 |F::l=>λj=>(F.o j).or (lay l j)
def ks(l:List Fr):List Nat:=l.flatMap (·.k)
def ob(i:Nat)(o:Obj):Fr:=⟨upd aB i (some o),[]⟩
def fr0:Fr:=⟨aB,[]⟩
structure Ok(l:List Fr)(n:Nat)(T:List Nat)(m:Nat):Prop where
 bd:∀F∈l,∀j,n<=j->F.o j=none
 dj:l.Pairwise λF F'=>∀j,F.o j=none\/F'.o j=none
 tk:∀t∈ks l,t∈T
 td:l.Pairwise λF F'=>∀t∈F.k,t∉F'.k
 tb:∀t∈T,t<m
section
variable{P:Program}{N:Nat}
theorem Wp.nm{c:AC}{s:St}{Q:aO->St->Prop}(h:Wp P N c s Q):Wp P N c s λe s'=>Q e s'/\s.h.n<=s'.h.n/\s.h.m<=s'.h.m:=by
 intro code hc;obtain ⟨e,s',r,q⟩:=h code hc;exact ⟨e,s',r,q,r.1⟩
structure Ends(l:List Fr)(n m:Nat)(Q:AV->List Fr->Prop)(q:AV)(h:H)(r:AV)(l':List Fr):Prop where
 sub:ay q r
 ole:OLe h.objs (lay l')
 tk:∀t∈ks l',t∈h.toks
 ok:Ok l' h.n (Go.Av.ks l') h.m
 new:∀j,n<=j\/(lay l j).isSome=true\/lay l' j=none
 knew:∀t∈Go.Av.ks l',t∈Go.Av.ks l\/m<=t
 q:Q r l'
def fin(h:H)(ids toks:List Nat):Ent:=⟨[],ids,toks⟩
def Wi(l0:List Fr)(n0:Nat)(l:List Fr):Prop:=∀j,n0<=j\/(lay l0 j).isSome=true\/lay l j=none
def Ki(l0:List Fr)(m0:Nat)(l:List Fr):Prop:=∀t∈ks l,t∈ks l0\/m0<=t
end
section
variable{P:Program}{N:Nat}{s:St}{Q:aO->St->Prop}
def pq(F:Fence)(n:Nat)(P:Program)(c:Code)(Q:Exit->Act->World->Prop)(a:Act)(w:World):Prop:=
 ∀(b:Frame)(k:List Item)(cs:List Frame),b.roundOf=F.round->F.fn b.fn->F.room (cs.length+1+n)->
  ∃e a' w',Q e a' w'/\ArrivesIn (Machine.fenced P F) P (lone (b.atR a (.code c:: .inLoop c::k)) cs w) b k cs e a' w'
theorem pq.start{F:Fence}{n:Nat}{c:Code}{Q:Exit->Act->World->Prop}{a:Act}{w:World}(h:pq F n P c Q a w):(Code.loop c).wpIn F n P Q a w:=by
 intro b k cs hro hb hr;obtain ⟨e,a₁,w₁,hq,harr⟩:=h b k cs hro hb hr;exact ⟨e,a₁,w₁,hq,.of_steps (.one (fenced_calm hb hr rfl) stepR_loop) harr⟩
theorem pq.step{F:Fence}{n:Nat}{c:Code}{Q:Exit->Act->World->Prop}{a:Act}{w:World}(h:c.wpIn F n P (Exit.then (pq F n P c Q) Q) a w):pq F n P c Q a w:=by
 intro b k cs hro hb hr;obtain ⟨e,a₁,w₁,hq,harr⟩:=h b (.inLoop c::k) cs hro hb hr;cases e with
 |normal=>
  obtain ⟨e₂,a₂,w₂,hq₂,harr₂⟩:=hq b k cs hro hb hr;exact ⟨e₂,a₂,w₂,hq₂,.of_steps (StepsIn.trans harr (.one (fenced_calm hb hr rfl) stepR_inLoop)) harr₂⟩
 |exit id=>exact ⟨_,a₁,w₁,hq,.pass (x:= .inLoop c) rfl (λ_ _=> .inl ah) harr⟩
 |goto l=>exact ⟨_,a₁,w₁,hq,.pass (x:= .inLoop c) rfl (λ_ _=> .inl ah) harr⟩
 |ret=>exact ⟨_,a₁,w₁,hq,.pass (x:= .inLoop c) rfl (λ_ _=> .inl ah) harr⟩
 |panic ch=>exact ⟨_,a₁,w₁,hq,.pass (x:= .inLoop c) rfl (λ_ _=> .inl ah) harr⟩
 |outgrown=>exact ⟨_,a₁,w₁,hq,.pass (x:= .inLoop c) rfl (λ_ _=> .inl ah) harr⟩
def NN(P:Program)(N:Nat)(c:Code)(s:St)(e:aO)(s':St):Prop:=
 (s.h.n<=s'.h.n/\s.h.m<=s'.h.m)/\∀ro,okR c ro->∀G w a,Rel N s G w a->cB G s.h s'.h->pq (rd ro) 0 P c (λe' a' w'=>e.eZ e'/\lX w a.defers a'.defers/\∃G',Trans G w s.h G' w' s'.h/\Rel N s' G' w' a') a w
def WpL(P:Program)(N:Nat)(c:AC)(s:St)(Q:aO->St->Prop):Prop:=
 ∀code,cCode P N code=some c->∃e s',NN P N code s e s'/\Q e s'
theorem Wp.JJ{c:AC}(h:WpL P N c s Q):Wp P N (.loop c) s Q:=by
 intro code hc;obtain ⟨x,rfl,hx⟩:=tV hc;obtain ⟨e,s',r,q⟩:=h x hx;exact ⟨e,s',⟨r.1,λro okc G w a rel F=>(r.2 ro okc.loop G w a rel F).start⟩,q⟩
theorem WpL.next{c:AC}(h:Wp P N c s (aO.andThen (λs'=>WpL P N c s' Q) Q)):WpL P N c s Q:=by
 intro x hx;obtain ⟨e,s1,r1,q1⟩:=h x hx;cases e with
 |normal=>
  obtain ⟨e2,s2,r2,q2⟩:=q1 x hx;obtain ⟨⟨l1,l2⟩,r1⟩:=r1;obtain ⟨⟨l3,l4⟩,r2⟩:=r2;refine ⟨e2,s2,⟨⟨ae,ae⟩,λro okc G w ac r F=> .step (wpIn_mono (r1 ro okc G w ac r (F.sub (N4 _) l3 (N4 _) l4)) ?_)⟩,q2⟩;rintro e' a' w' ⟨h1,h2,G',T1,r'⟩;cases e'<;>simp only[aO.eZ] at h1;intro b k cs hro hb hr;obtain ⟨e'',a'',w'',⟨k1,k2,G'',T2,r''⟩,harr⟩:=r2 ro okc G' w' a' r' (F.step T1) b k cs hro hb hr;exact ⟨e'',a'',w'',⟨k1,h2.trans T1.size_le k2,G'',T1.trans r.h r'.h T2,r''⟩,harr⟩
 |exit id=>
  refine ⟨.exit id,s1,⟨r1.1,λro okc G w ac r F=> .step (wpIn_mono (r1.2 ro okc G w ac r F) ?_)⟩,q1⟩;rintro e' a' w' ⟨h1,h2⟩;cases e'<;>simp only[aO.eZ] at h1;exact ⟨h1,h2⟩
 |goto l=>
  refine ⟨.goto l,s1,⟨r1.1,λro okc G w ac r F=> .step (wpIn_mono (r1.2 ro okc G w ac r F) ?_)⟩,q1⟩;rintro e' a' w' ⟨h1,h2⟩;cases e'<;>simp only[aO.eZ] at h1;exact ⟨h1,h2⟩
 |ret=>
  refine ⟨.ret,s1,⟨r1.1,λro okc G w ac r F=> .step (wpIn_mono (r1.2 ro okc G w ac r F) ?_)⟩,q1⟩;rintro e' a' w' ⟨h1,h2⟩;cases e'<;>simp only[aO.eZ] at h1;exact ⟨trivial,h2⟩
 |panic v=>
  refine ⟨.panic v,s1,⟨r1.1,λro okc G w ac r F=> .step (wpIn_mono (r1.2 ro okc G w ac r F) ?_)⟩,q1⟩;rintro e' a' w' ⟨h1,h2⟩;cases e'<;>simp only[aO.eZ] at h1;exact ⟨h1,h2⟩
def iI:List aX->Tm->H->List Ent->Option (List aX × Tm × H × List Ent)
 |[],t,h,l=>some ([],t,h,l)
 |it::its,t,h,l=>match guardOf t it.guard with
  |some true=>(match aop (ev t) h it.op with
   |some (x,h',en)=>iI its (bL t it.dst x) h' (en::l)
   |none=>some (it::its,t,h,l))
  |some false=>iI its (bL t it.dst (.sc undef)) h (aU::l)
  |none=>some (it::its,t,h,l)
theorem bJ:∀{items:List aX}{t:Tm}{h:H}{l:List Ent}{r:List aX × Tm × H × List Ent},iI items t h l=some r->cK items t h l=r
 |[],t,h,l,r,he=>by simpa [iI,cK] using he
 |it::its,t,h,l,r,he=>by
  simp only[iI] at he;simp only[cK];cases hg:guardOf t it.guard with
  |none=>rw[hg] at he;simpa using he
  |some g=>
   rw[hg] at he;cases g with
   |false=>exact bJ he
   |true=>
    simp only at he |-;cases hx:aop (ev t) h it.op with
    |none=>rw[hx] at he;simpa using he
    |some p=>
     obtain ⟨x,h',en⟩:=p;rw[hx] at he;exact bJ he
theorem az.evR{items its:List aX}{t t':Tm}{h h':H}{log log':List Ent}{K:Tm->H->List Ent->Prop}(he:iI items t h log=some (its,t',h',log'))(hw:az P N its t' h' log' K):az P N items t h log K:=az.eval (bJ he) hw
theorem Wp.bq{items its:List aX}{p:Option (List (Nat × Nat))}{y:AC}{t':Tm}{h':H}{log:List Ent}(he:iI items s.t s.h []=some (its,t',h',log))(h:az P N its t' h' log λt h l=>bg p l/\Wp P N y ⟨t,h⟩ Q):Wp P N (.seq (.reg items p) y) s Q:=Wp.seqItems (bJ he) h
theorem Wp.gS{items its:List aX}{p:Option (List (Nat × Nat))}{t':Tm}{h':H}{log:List Ent}(he:iI items s.t s.h []=some (its,t',h',log))(h:az P N its t' h' log λt h l=>bg p l/\Q .normal ⟨t,h⟩):Wp P N (.reg items p) s Q:=Wp.items (bJ he) h
def JK:List aX->Tm->H->List Ent->List aX × Tm × H × List Ent
 |[],t,h,l=>([],t,h,l)
 |it::its,t,h,l=>match it.guard with
  |some _=>(it::its,t,h,l)
  |none=>(match aop (ev t) h it.op with
   |some (x,h',en)=>JK its (bL t it.dst x) h' (en::l)
   |none=>(it::its,t,h,l))
end
attribute [go_sem] JK iI
def oE:List AV->List AV->Prop
 |[],[]=>True
 |x::xs,y::ys=>ay x y/\oE xs ys
 |_,_=>False
theorem oE.len:∀{xs ys:List AV},oE xs ys->xs.length=ys.length
 |[],[],_=>rfl
 |_::_,_::_,h=>by simp[oE.len h.2]
 |[],_::_,h=>h.elim
 |_::_,[],h=>h.elim
theorem oE.els{G:aT}{w:World}{sz:Nat}:∀{xs ys:List AV}{vs:List Value},oE xs ys->aL G w sz xs vs->aL G w sz ys vs
 |[],[],_,_,h=>h
 |x::xs,y::ys,vs,h,hv=>by
  simp only[aL] at hv |-;obtain ⟨v,us,e,h1,h2,h3⟩:=hv;exact ⟨v,us,e,h1,h.1 G w v h2,oE.els h.2 h3⟩
 |[],_::_,_,h,_=>h.elim
 |_::_,[],_,h,_=>h.elim
theorem ay.sl{sz:Nat}{xs ys:List AV}{c:Cap}(h:oE xs ys):ay (.sl sz xs c) (.sl sz ys .any):=by
 intro G w v hv;have hl:=h.len;simp only[aC] at hv |-;rcases hv with ⟨rfl,a,_⟩|⟨B,off,C,vs,h1,h2,h3,h4,h5,h6⟩
 ·cases ys with
  |nil=>exact .inl ⟨rfl,a,by simp[kI]⟩
  |cons y ys=>simp at hl
 ·exact .inr ⟨B,off,C,vs,by rw[<-hl];exact h1,by rw[<-hl];exact h2,by rw[<-hl];exact h3,h.els h4,h5,by simp[dc]⟩
theorem ay.slc{sz:Nat}{xs ys:List AV}{c:Cap}(h:oE xs ys):ay (.sl sz xs c) (.sl sz ys c):=by
 intro G w v hv;have hl:=h.len;simp only[aC] at hv |-;rcases hv with ⟨rfl,a,b⟩|⟨B,off,C,vs,h1,h2,h3,h4,h5,h6⟩
 ·cases ys with
  |nil=>exact .inl ⟨rfl,a,b⟩
  |cons y ys=>simp at hl
 ·exact .inr ⟨B,off,C,vs,by rw[<-hl];exact h1,by rw[<-hl];exact h2,by rw[<-hl];exact h3,h.els h4,h5,by rw[<-hl];exact h6⟩
theorem gA{α:Type}{l:List α}{i:Nat}{d:α}(h:i<l.length):l.getD i d=l[i]:=by
 rw[OF,N5 h];rfl
theorem iT{α:Type}{l:List α}{j:Nat}(d:α)(h:j<l.length):l.take (j+1)=l.take j++[l.getD j d]:=by
 rw[OD h,gA h]
theorem EY{α:Type}[Inhabited α](f:α->AV)(l:List α)(k:Nat)(d:AV)(h:k<l.length):(l.map f).getD k d=f (l.getD k default):=by
 simp[List.getD,Qo,N5 h]
section
variable{P:Program}{N:Nat}
def zg(P:Program)(id:Nat)(args:List AV)(h:H)(r:AV)(h':H):Prop:=
 ∀G w vs,G.dom id->aE G w args vs->bj G h w->cB G h h'->YieldAt Fence.wide 0 P (G.ι id) vs.toArray w λe w'=>∃v G',e= .returned v/\Trans G w h G' w' h'/\bj G' h' w'/\aC G' w' r v
theorem zh{ro:Option Nat}{n l:Nat}{f:FuncId}{tmps:Array Value}{assign body:Code}{w:World}{R:Ending->World->Prop}(h:RoundIn Fence.wide n P l f tmps assign body w R):RoundIn (rd ro) n P l f tmps assign body w R:=h
theorem wX{ops:Array Oper}{i:Nat}{o:Oper}{it:aX}{t:Tm}{id:Nat}{y:Opd}{l:List Opd}{vals:List AV}{h1 h1':H}{r:AV}(ho:ops[i]? =some o)(hit:bP P N ops o=some it)(hg:guardOf t it.guard=some true)(hop:it.op= .callv y l)
  (hy:ev t y= .yld id) (hs:aA (l.map (ev t)) vals) (hc:zg P id vals h1 r h1'):iH P ops i o t h1 r h1':=by
 unfold bP at hit;split at hit
 ·rename_i op g hcop hgd;split at hit<;>cases hit;rename_i hcond;simp only[Oh] at hcond;simp only at hop;subst hop;have hcop:=gY hcop ah rfl;obtain ⟨c,z,e1,e2,e3,e4⟩:=tW hcop;intro G w a ht R F K Q hK ro;unfold wpOpIn;rw[ho];simp only[cN hgd ht hg,Of];have rr:=iv (P:=P) (fO ht) e4;have rz:=aK (P:=P) e3 (fO ht);have hcut:=jN (t:=t) hcond.2;have el:l.map (ev (jD (names ops o) t))=l.map (ev t):=Pb λx hx=>hcut x (by simp[bI,hx]);rw[el] at rr;rw[hcut y (by simp[bI]),hy] at rz;simp only[aC] at rz;obtain ⟨rdom,rz⟩:=rz;refine ⟨λ_ _=>trivial,?_⟩;obtain ⟨fn,tmps,asg,body,q1,q2⟩:=hc G w _ rdom (hs G w _ rr) R F;have hargs:(c.args.map a.eval)=(c.args.toList.map a.eval).toArray:=by cases c.args;simp
  have hrun:(execOp a.eval o).run P w= .ok (.round (G.ι id) fn tmps asg body) w:=by
   simp[execOp,e1,resolve,e2,rz,Deferred.ofValue,invoke,hargs];exact q1
  rw[Oper.semAt_eq _ _ _ (eS hcop),hrun,Oper.uponIn_round];refine ⟨λh=>by simp[rd,Fence.wide] at h,zh (q2.mono ?_)⟩;rintro e w' ⟨v,G',rfl,T,R',V⟩;exact hK G' w' v T R' V
 ·cases hit
def kh(t:Tm):List Nat->List AV->Tm
 |p::ps,x::xs=>kh (upd t p x) ps xs
 |_,_=>t
theorem ua{G:aT}{w:World}:∀{ps:List Nat}{xs:List AV}{vs:List Value}{t:Tm}{tmps:Array Value},aE G w xs vs->(∀p∈ps,p<tmps.size)->(∀i,aC G w (t i) (tmps.getD i undef))->
  (∀i,aC G w (kh t ps xs i) (((ps.zip vs).foldl (λtm (p:Nat × Value)=>tm.setIfInBounds p.1 p.2) tmps).getD i undef))/\((ps.zip vs).foldl (λtm (p:Nat × Value)=>tm.setIfInBounds p.1 p.2) tmps).size=tmps.size
 |[],xs,vs,t,tmps,_,_,h=>by simpa [kh] using h
 |p::ps,[],vs,t,tmps,hv,_,h=>by
  simp only[aE] at hv;subst hv;simpa [kh] using h
 |p::ps,x::xs,vs,t,tmps,hv,hp,h=>by
  simp only[aE] at hv;obtain ⟨v,us,rfl,h1,h2⟩:=hv;have hk:=hp p ah;have:=ua (ps:=ps) (t:=upd t p x) (tmps:=tmps.setIfInBounds p v) h2 (λq hq=>by simpa using hp q (by simp[hq])) (λi=>by
   simp only[upd];by_cases e:i=p
   ·subst e;simp[QJ,hk];exact h1
   ·have e2:(tmps.setIfInBounds p v).getD i undef=tmps.getD i undef:=by simp[QJ,Ql e]
    rw[Ob e,e2];exact h i)
  simp only[kh,List.zip_cons_cons,List.foldl_cons];exact ⟨this.1,by rw[this.2];simp⟩
inductive kj:aO->Bool->LoopState->Option Code->Prop where
 |normal:kj .normal true .ready none
 |ret:kj .ret false .done (some .ret)
 |exit (i:Nat):kj (.exit i) false .done (some (.exit i))
 |goto (l:Nat):kj (.goto l) false .done (some (.goto l))
theorem uc{G:aT}{w:World}{f:Dd}{n m id M:Nat}{T:List Nat}{t:Nat->AV}{ps:List Nat}{asg body:Code}{st:LoopState}{pend:Option Code}(R:bj G ⟨f,n,T,m⟩ w)(ho:f id=some (.loop M t ps asg body st pend)){r:Loop}
  (hr:w.heap[G.ι id]? =some (.loop r)) (st':LoopState) (pend':Option Code):
  Trans G w ⟨f,n,T,m⟩ G (w.putObj (G.ι id) (.loop {r with state:=st',pending:=pend'})) ⟨upd f id (some (.loop M t ps asg body st' pend')),n,T,m⟩/\
  bj G ⟨upd f id (some (.loop M t ps asg body st' pend')),n,T,m⟩ (w.putObj (G.ι id) (.loop {r with state:=st',pending:=pend'})):=by
 obtain ⟨d1,d2,d3,r0,e0,d4⟩:=R.obj id _ ho;have hrr:r0=r:=by
  have:=hr;rw[e0] at this;cases this;rfl
 subst hrr;have tu:eC (G.ι id) w (w.putObj (G.ι id) (.loop {r0 with state:=st',pending:=pend'})):=
  ⟨by simp,λB hB=>World.putObj_heap_other hB,λc T fr e=>absurd (hr.symm.trans e) ah,rfl,rfl⟩
 have hO:∀B,H.O ⟨f,n,T,m⟩ G B↔H.O ⟨upd f id (some (.loop M t ps asg body st' pend')),n,T,m⟩ G B:=by
  intro B;constructor
  ·rintro ⟨j,o,h1,h2⟩;by_cases e:j=id
   ·exact ⟨id,.loop M t ps asg body st' pend',by simp[upd],by rw[<-h2,e]⟩
   ·exact ⟨j,o,by simpa [upd,e] using h1,h2⟩
  ·rintro ⟨j,o,h1,h2⟩;by_cases e:j=id
   ·exact ⟨id,_,ho,by rw[<-h2,e]⟩
   ·exact ⟨j,o,by simpa [upd,e] using h1,h2⟩
 have hne:∀B,¬H.O ⟨f,n,T,m⟩ G B->B≠G.ι id:=λB h e=>h ⟨id,_,ho,e.symm⟩;have Tr:Trans G w ⟨f,n,T,m⟩ G (w.putObj (G.ι id) (.loop {r0 with state:=st',pending:=pend'})) ⟨upd f id (some (.loop M t ps asg body st' pend')),n,T,m⟩:=by
  constructor
  ·exact λ_ x=>x
  ·exact λ_=> .inl
  ·exact λ_ _=>rfl
  ·exact λ_ x=>x
  ·exact λ_=> .inl
  ·exact λ_ _=>rfl
  ·exact N4 _
  ·exact N4 _
  ·rw[tu.size];exact N4 _
  ·exact tu.os
  ·exact tu.out
  ·intro B hB;by_cases e:B=G.ι id
   ·subst e;rw[hr,World.putObj_heap_same d3];exact ⟨_,rfl⟩
   ·rw[tu.same B e];exact bS.refl _
  ·exact λB hB h1 _=>tu.same B (hne B h1)
  ·exact λ_ _ _=>QL
  ·exact λ_ _ _ _=>rfl
  ·intro B hB h1 h2 e he;refine ⟨λj hj=>?_,λe' he'=>by rw[he] at he';cases he';exact N4 _⟩;have:=tu.same B (hne B h2);unfold World.cell?;simp only[this]
  ·exact λB _ h=>(hO B).2 h
  ·exact λB _ h=>h
  ·intro j o h;by_cases e:j=id
   ·exact .inl ⟨_,by rw[e];exact ho⟩
   ·exact .inl ⟨o,by simpa [upd,e] using h⟩
  ·exact λ_=> .inl
 refine ⟨Tr,⟨λj o hj=>?_,λi j o o' h1 h2=>?_,λt ht=>⟨(R.tok t ht).1,λB e he=>by rw[tu.size];exact (R.tok t ht).2 B e he⟩,R.tinj⟩⟩
 ·by_cases e:j=id
  ·subst e;have:o= .loop M t ps asg body st' pend':=by simpa [upd] using hj.symm
   subst this;refine ⟨d1,d2,by rw[tu.size];exact d3,_,World.putObj_heap_same d3,d4.1,λi=>aC.dP tu _ _ (d4.2.1 i),d4.2.2.1,d4.2.2.2.1,d4.2.2.2.2.1,rfl,rfl⟩
  ·have hj':f j=some o:=by simpa [upd,e] using hj
   obtain ⟨a1,a2,a3,a4⟩:=R.obj j o hj';refine ⟨a1,a2,by rw[tu.size];exact a3,?_⟩;have hb:G.ι j≠G.ι id:=λe'=>e (R.inj j id o _ hj' ho e');rw[tu.same _ hb];exact a4.dP tu
 ·have get:∀k p,upd f id (some (.loop M t ps asg body st' pend')) k=some p->∃p',f k=some p':=by
   intro k p hk;by_cases e:k=id
   ·exact ⟨_,by rw[e];exact ho⟩
   ·exact ⟨p,by simpa [upd,e] using hk⟩
  obtain ⟨p,hp⟩:=get i o h1;obtain ⟨p',hp'⟩:=get j o' h2;exact R.inj i j p p' hp hp'
theorem De{id M n m:Nat}{f:Dd}{T:List Nat}{t:Tm}{ps:List Nat}{asg body:Code}{x y:AC}{args:List AV}{Q:AV->H->Prop}(ho:f id=some (.loop M t ps asg body .ready none))(ha:cCode P M asg=some x)(hb:cCode P M body=some y)(hna:fu asg=true)(hnb:fu body=true)
  (hl:args.length=ps.length) (hps:∀p∈ps,p<M)
  (hw:Wp P M x ⟨kh t ps args,⟨f,n,T,m⟩⟩ λe s=>e= .normal/\∃t1,s.h.objs id=some (.loop M t1 ps asg body .ready none)/\
   Wp P M y ⟨s.t,{s.h with objs:=upd s.h.objs id (some (.loop M t1 ps asg body .busy none))}⟩ λe2 s2=>∃t2 b st pend,s2.h.objs id=some (.loop M t2 ps asg body .busy none)/\kj e2 b st pend/\
    Q (.bool b) {s2.h with objs:=upd s2.h.objs id (some (.loop M t2 ps asg body st pend))}):
  ∃r h',zg P id args ⟨f,n,T,m⟩ r h'/\Q r h':=by
 obtain ⟨e,s,run,rfl,t1,ho1,hw2⟩:=hw asg ha;obtain ⟨e2,s2,run2,t2,b,st,pend,ho2,hre,hq⟩:=hw2 body hb;refine ⟨_,_,?_,hq⟩;have nm1:=run.1;have nm2:=run2.1;simp only at nm1 nm2;intro G w vs hdom hv R F;obtain ⟨d1,d2,d3,r,e0,d4,d5,d6,d7,d8,d9,d10⟩:=R.obj id _ ho;have hsz:vs.toArray.size=r.params.size:=by
  have h1:=hv.length;have h2:r.params.toList.length=ps.length:=by rw[d6]
  simp at h2 |-;omega
 refine ⟨r.fn,_,r.assign,r.body,run_yield e0 hsz,?_⟩;refine roundIn_of_wpIn (F:=Fence.wide) trivial ?_;have hzip:(r.params.zip vs.toArray).foldl (λtmps (p:Tmp × Value)=>tmps.setIfInBounds p.1 p.2) r.tmps=(ps.zip vs).foldl (λtm (p:Nat × Value)=>tm.setIfInBounds p.1 p.2) r.tmps:=by
  rw[<-Array.foldl_toList,Array.toList_zip,d6]
 have hput:=ua (ps:=ps) (t:=t) (tmps:=r.tmps) hv (λp hp=>by rw[d4];exact hps p hp) d5;have F1:cB G ⟨f,n,T,m⟩ s.h:=F.sub (N4 _) nm2.1 (N4 _) nm2.2;have rel0:Rel M ⟨kh t ps args,⟨f,n,T,m⟩⟩ G w {tmps:=(r.params.zip vs.toArray).foldl (λtmps (p:Tmp × Value)=>tmps.setIfInBounds p.1 p.2) r.tmps,defers:=[]}:=by
  rw[hzip];exact ⟨hput.2.trans d4,hput.1,R,by simp,by simp⟩
 have w1:=run.2 (some (G.ι id)) (.inr hna) G w _ rel0 F1;rw[d7,d8];refine wpIn_mono w1 ?_;rintro e' a1 w1' ⟨h1,-,G1,T1,r1⟩;cases e'<;>simp only[aO.eZ] at h1;have hι:G1.ι id=G.ι id:=T1.ι_eq id d1;obtain ⟨k1,k2,k3,r',k4,k5,k6,k7,k8,k9,k10,k11⟩:=r1.h.obj id _ ho1;rw[hι] at k3 k4;have hbr:=run_beginRound (P:=P) k4 k10;refine ⟨_,hbr,?_⟩;have k4':w1'.heap[G1.ι id]? =some (.loop r'):=by rw[hι];exact k4
 obtain ⟨T2,R2⟩:=uc (n:=s.h.n) (m:=s.h.m) (T:=s.h.toks) (f:=s.h.objs) r1.h ho1 k4' .busy none;rw[hι] at T2 R2;have hrec:{r' with state:=LoopState.busy,pending:=(none:Option Code)}= {r' with state:= .busy}:=by rw[<-k11]
 rw[hrec] at T2 R2;have rel1:Rel M ⟨s.t,{s.h with objs:=upd s.h.objs id (some (.loop M t1 ps asg body .busy none))}⟩ G1 (w1'.putObj (G.ι id) (.loop {r' with state:= .busy})) a1:=
  ⟨r1.size,λi=>aC.mono r1.h T2 _ _ (r1.t i),R2,r1.df.mono T2⟩
 have F2:cB G1 {s.h with objs:=upd s.h.objs id (some (.loop M t1 ps asg body .busy none))} s2.h:=by
  have:=(F.step (h':={s2.h with objs:=upd s2.h.objs id (some (.loop M t2 ps asg body st pend))}) T1);exact this
 refine wpIn_mono (run2.2 (some (G.ι id)) (.inr hnb) G1 _ a1 rel1 F2) ?_;rintro e' a2 w2 ⟨q1,-,G2,T3,r2⟩;have hι2:G2.ι id=G.ι id:=(T3.ι_eq id k1).trans hι;obtain ⟨j1,j2,j3,r'',j4,j5,j6,j7,j8,j9,j10,j11⟩:=r2.h.obj id _ ho2;have j4':w2.heap[G.ι id]? =some (.loop r''):=by rw[<-hι2];exact j4
 obtain ⟨T4,R4⟩:=uc (n:=s2.h.n) (m:=s2.h.m) (T:=s2.h.toks) (f:=s2.h.objs) r2.h ho2 j4 st pend;rw[hι2] at T4 R4;have Tall:=((T1.trans R r1.h T2).trans R R2 T3).trans R r2.h T4;cases hre;all_goals
  cases e'<;>simp only[aO.eZ] at q1;try subst q1
  have hend:=λj=>run_endRound (P:=P) j j4';refine ⟨_,_,hend _,_,G2,rfl,Tall,R4,?_⟩;simp only[aC,Option.isNone_none,Option.isNone_some]
theorem ud{code:Code}{g:Opd}{ps:List Nat}{x y:AC}(h:cCode P N code=some (.tv g ps x y)):∃z qs a b,code= .rangeFunc z qs a b/\opd P 0 z=some g/\qs.toList=ps/\cCode P N a=some x/\cCode P N b=some y/\fu a=true/\fu b=true:=by
 cases code with
 |rangeFunc z qs a b=>
  simp only[cCode] at h;split at h
  ·rename_i g' x' y' h1 h2 h3;split at h
   ·rename_i hcc;cases h;have hcc':fu a=true/\fu b=true:=by simpa using hcc
    exact ⟨_,_,_,_,rfl,h1,rfl,h2,h3,hcc'.1,hcc'.2⟩
   ·cases h
  ·cases h
 |_=>
  simp only[cCode] at h;first|(simp at h;done)|(cases h;done)|((repeat' split at h)<;>cases h;done)
inductive mL:Option Code->aO->Prop where
 |none:mL none .normal
 |ret:mL (some .ret) .ret
 |exit (i:Nat):mL (some (.exit i)) (.exit i)
 |goto (l:Nat):mL (some (.goto l)) (.goto l)
theorem Wp.tv{g:Opd}{ps:List Nat}{x y:AC}{t:Tm}{f:Dd}{n m:Nat}{T:List Nat}{Q:aO->St->Prop}{fi:FuncId}{fn:Func}{first caps:List AV}(hg:ev t g= .clo (.func fi) first caps)(hf:P.funcs[fi]? =some fn)(hfb:fn.body.isSome=true)(hfn:fn.name≠ "runtime.NumGoroutine")
  (hfresh:f n=none)
  (hw:∀asg body,cCode P N asg=some x->cCode P N body=some y->fu asg=true->fu body=true->∃r f2 n2 T2 m2 t2 st pend e,
   bB P fi (first++[.yld n]++caps) ⟨upd f n (some (.loop N t ps asg body .ready none)),n+1,T,m⟩ r ⟨f2,n2,T2,m2⟩/\n+1<=n2/\m<=m2/\f2 n=some (.loop N t2 ps asg body st pend)/\st≠ .busy/\mL pend e/\
   Q e ⟨t,⟨λj=>if j=n then none else f2 j,n2,T2,m2⟩⟩):Wp P N (.tv g ps x y) ⟨t,⟨f,n,T,m⟩⟩ Q:=by
 intro code hc;obtain ⟨z,qs,asg,body,rfl,c1,c2,c3,c4,c5,c6⟩:=ud hc;obtain ⟨r,f2,n2,T2,m2,t2,st,pend,e,cI,hn2,hm2,ho2,hst,hle,hq⟩:=hw asg body c3 c4 c5 c6;refine ⟨e,_,⟨⟨by simp only;omega,by simp only;omega⟩,λro okc G w a rel F=>?_⟩,hq⟩;obtain rfl:ro=none:=by
  rcases okc with h|h
  ·exact h
  ·simp[fu] at h
 have hz:aC G w (.clo (.func fi) first caps) (a.eval z):=by rw[<-hg];exact aK c1 rel.t
 simp only[aC] at hz;obtain ⟨vs,us,hz,hv1,hv2⟩:=hz;refine wpIn_rangeFunc (F:=rd none) (n:=0) λfid _=>?_;let D:=w.heap.size
 let cZ:Loop:={state:= .ready,pending:=none,fn:=fid,tmps:=a.tmps,params:=qs,assign:=asg,body:=body,defers:=w.heap.size}
 let w1:=(w.alloc (.deferred (some []))).alloc (.loop cZ)
 have hD1:w1.heap[D]? =some (.deferred (some [])):=by
  show ((w.heap.push (.deferred (some []))).push (.loop cZ))[w.heap.size]? =_;rw[PO,Ob ah,PO,Oi rfl]
 have hL1:w1.heap[D+1]? =some (.loop cZ):=by
  show ((w.heap.push (.deferred (some []))).push (.loop cZ))[w.heap.size+1]? =_;rw[PO,Oi ah]
 have hsz1:w1.heap.size=w.heap.size+2:=by show ((w.heap.push (.deferred (some []))).push (.loop cZ)).size=_;simp
 have hold:∀B,B<w.heap.size->w1.heap[B]? =w.heap[B]? :=by
  intro B hB;show ((w.heap.push (.deferred (some []))).push (.loop cZ))[B]? =_;rw[PO,Ob (by rw[Array.size_push];omega),PO,Ob ae]
 have hndom:¬G.dom n:=F.1 n (N4 _) (by simp only;omega);let G1:aT:={G with dom:=λj=>G.dom j\/j=n,ι:=upd G.ι n (D+1),own:=λB=>G.own B\/B=D+1}
 have hι1:∀j,G.dom j->G1.ι j=G.ι j:=λj hj=>by
  simp only[G1,upd];rw[Ob];rintro rfl;exact hndom hj
 have hιn:G1.ι n=D+1:=by simp[G1,upd]
 have hne:∀j o,f j=some o->j≠n:=λj o h e=>by subst e;rw[hfresh] at h;cases h
 have hO:∀B,B<w.heap.size->H.O ⟨upd f n (some (.loop N t ps asg body .ready none)),n+1,T,m⟩ G1 B->H.O ⟨f,n,T,m⟩ G B:=by
  rintro B hB ⟨j,o,h1,h2⟩;by_cases e':j=n
  ·subst e';rw[hιn] at h2;omega
  ·have h1':f j=some o:=by simpa [upd,e'] using h1
   exact ⟨j,o,h1',by rw[<-hι1 j (rel.h.obj j o h1').1];exact h2⟩
 have Tr1:Trans G w ⟨f,n,T,m⟩ G1 w1 ⟨upd f n (some (.loop N t ps asg body .ready none)),n+1,T,m⟩:=by
  constructor
  ·exact λ_ x=> .inl x
  ·rintro j (h|rfl)
   ·exact .inl h
   ·exact .inr ⟨N4 _,OL _⟩
  ·exact hι1
  ·exact λ_ x=>x
  ·exact λ_=> .inl
  ·exact λ_ _=>rfl
  ·exact Nat.le_succ _
  ·exact N4 _
  ·rw[hsz1];omega
  ·rfl
  ·rfl
  ·intro B hB;rw[hold B hB];exact bS.refl _
  ·exact λB hB _ _=>hold B hB
  ·intro B hB _;exact ⟨λh=>h.resolve_right ae,.inl⟩
  ·exact λ_ _ _ _=>rfl
  ·intro B hB h1 h2 e' he';refine ⟨λj hj=>?_,λe'' he''=>?_⟩
   ·have:=hold B hB;unfold World.cell?;simp only[this]
   ·have he2:G.lim B=some e'':=he'';rw[he'] at he2;cases he2;exact N4 _
  ·exact hO
  ·exact λ_ _ h=>h
  ·intro j o h;by_cases e':j=n
   ·subst e';exact .inr ⟨N4 _,OL _⟩
   ·exact .inl ⟨o,by simpa [upd,e'] using h⟩
  ·exact λ_=> .inl
 have R1:bj G1 ⟨upd f n (some (.loop N t ps asg body .ready none)),n+1,T,m⟩ w1:=by
  refine ⟨λj o h=>?_,λi j o o' h1 h2 h3=>?_,λk hk=>⟨(rel.h.tok k hk).1,λB e' he'=>?_⟩,rel.h.tinj⟩
  ·by_cases e':j=n
   ·subst e';have:o= .loop N t ps asg body .ready none:=by simpa [upd] using h.symm
    subst this;refine ⟨.inr rfl,by rw[hιn];exact .inr rfl,by rw[hιn,hsz1];show w.heap.size+1<_;omega,cZ,by rw[hιn];exact hL1,rel.size,λi=>aC.mono rel.h Tr1 _ _ (rel.t i),c2,rfl,rfl,rfl,rfl⟩
   ·have h':f j=some o:=by simpa [upd,e'] using h
    obtain ⟨a1,a2,a3,a4⟩:=rel.h.obj j o h';refine ⟨.inl a1,by rw[hι1 j a1];exact .inl a2,by rw[hι1 j a1,hsz1];omega,?_⟩;rw[hι1 j a1,hold _ a3];exact a4.mono rel.h Tr1
  ·have low:∀k p,f k=some p->G1.ι k<w.heap.size:=λk p hk=>by rw[hι1 k (rel.h.obj k p hk).1];exact (rel.h.obj k p hk).2.2.1
   by_cases e1:i=n
   ·by_cases e2:j=n
    ·rw[e1,e2]
    ·have:=low j o' (by simpa [upd,e2] using h2);rw[<-h3,e1,hιn] at this;omega
   ·have hi:f i=some o:=by simpa [upd,e1] using h1
    by_cases e2:j=n
    ·have:=low i o hi;rw[h3,e2,hιn] at this;omega
    ·have hj:f j=some o':=by simpa [upd,e2] using h2
     exact rel.h.inj i j o o' hi hj (by rw[<-hι1 i (rel.h.obj i o hi).1,<-hι1 j (rel.h.obj j o' hj).1];exact h3)
  ·obtain ⟨b1,b2,b3⟩:=(rel.h.tok k hk).2 B e' he';refine ⟨b1,?_,by rw[hsz1];omega⟩;rintro (h|h)
   ·exact b2 h
   ·omega
 have F1:cB G1 ⟨upd f n (some (.loop N t ps asg body .ready none)),n+1,T,m⟩ ⟨f2,n2,T2,m2⟩:=F.step Tr1;have hargs:aE G1 w1 (first++[.yld n]++caps) (vs++[Value.func (.yield (D+1)) #[] #[]]++us):=by
  refine aE.append (aE.append (aE.mono rel.h Tr1 _ _ hv1) ?_) (aE.mono rel.h Tr1 _ _ hv2);simp only[aE,aC];exact ⟨_,[],rfl,⟨.inr rfl,by rw[hιn]⟩,rfl⟩
 refine ⟨D+1,[{target:= .collected D,args:= #[]}],w1,{target:= .fn (.func fi) us.toArray,args:=vs.toArray++ #[Value.func (.yield (D+1)) #[] #[]]},w1,fi,(vs++[Value.func (.yield (D+1)) #[] #[]]++us).toArray,w1,?_,?_,λ_ _=>trivial,?_,λh=>by simp[rd,Fence.wide] at h,kT ?_⟩
 ·exact run_enterLoop_outer fid a.tmps qs asg body
 ·have he:∀v,a.eval (.const v)=v:=λ_=>rfl;simp[resolve,rangeCall,hz,Deferred.ofValue,he]
 ·simp[invoke,eF w1 hf hfb hfn]
 ·refine (cI G1 w1 _ hargs R1 F1).mono ?_;rintro e' w3 ⟨v,G3,rfl,T3,R3,V3⟩;obtain ⟨b1,b2,b3,⟨st3,pend3,fn3,tmps3,params3,asg3,body3,df3⟩,b4,b5,b6,b7,b8,b9,b10,b11⟩:=R3.obj n _ ho2;simp only at b10 b11;subst b11;have hι3:G3.ι n=D+1:=(T3.ι_eq n (.inr rfl)).trans hιn;rw[hι3] at b3 b4;have hDO1:¬H.O ⟨upd f n (some (.loop N t ps asg body .ready none)),n+1,T,m⟩ G1 D:=by
   rintro ⟨j,o,h1,h2⟩;by_cases e':j=n
   ·subst e';rw[hιn] at h2;omega
   ·have h1':f j=some o:=by simpa [upd,e'] using h1
    have:=(rel.h.obj j o h1').2.2.1;rw[hι1 j (rel.h.obj j o h1').1] at h2;omega
  have hDT1:¬H.T ⟨upd f n (some (.loop N t ps asg body .ready none)),n+1,T,m⟩ G1 D:=by
   rintro ⟨k,hk,e',he'⟩;have:=((rel.h.tok k hk).2 D e' he').2.2;omega
  have hDlt:D<w1.heap.size:=by rw[hsz1];show w.heap.size<_;omega
  have hD3:w3.heap[D]? =some (.deferred (some [])):=(T3.keep D hDlt hDO1 hDT1).trans hD1;have hDO3:¬H.O ⟨f2,n2,T2,m2⟩ G3 D:=λh=>hDO1 (T3.O_new D hDlt h);have hDT3:¬H.T ⟨f2,n2,T2,m2⟩ G3 D:=λh=>hDT1 (T3.T_new D hDlt h);refine ⟨pend3,_,run_endLoop b4 (by simp only;rw[b10];exact hst),?_⟩;let w4:=w3.putObj (D+1) (.loop ⟨.exhausted,pend3,fn3,tmps3,params3,asg3,body3,df3⟩)
  have tu:eC (D+1) w3 w4:=⟨by simp[w4],λB hB=>World.putObj_heap_other hB,λc T fr e=>absurd (b4.symm.trans e) ah,rfl,rfl⟩;have hle3:HLe ⟨f2,n2,T2,m2⟩ ⟨λj=>if j=n then none else f2 j,n2,T2,m2⟩:=by
   refine ⟨λj o' hj=>?_,λt h=>h⟩;simp only at hj;split at hj
   ·cases hj
   ·exact ⟨o',hj,cm.refl _⟩
  have T03:Trans G w ⟨f,n,T,m⟩ G3 w3 ⟨λj=>if j=n then none else f2 j,n2,T2,m2⟩:=(Tr1.trans rel.h R1 T3).trans rel.h R3 (Trans.le hle3 (N4 _) (N4 _));have R03:=R3.le hle3;have hLO:¬H.O ⟨λj=>if j=n then none else f2 j,n2,T2,m2⟩ G3 (D+1):=by
   rintro ⟨j,o,h1,h2⟩;simp only at h1;split at h1
   ·cases h1
   ·rename_i hjn;exact hjn (R3.inj j n o _ h1 ho2 (by rw[h2,hι3]))
  have T04:=T03.dP tu (by show w.heap.size<=w.heap.size+1;omega);have R04:=R03.dP tu hLO;have hD4:w4.heap[D]? =some (.deferred (some [])):=by rw[tu.same D ae];exact hD3
  have relEnd:Rel N ⟨t,⟨λj=>if j=n then none else f2 j,n2,T2,m2⟩⟩ G3 w4 {a with defers:=[({target:= .collected D,args:= #[]}:Deferred)]++a.defers}:=by
   refine ⟨rel.size,λi=>aC.dP tu _ _ (aC.mono rel.h T03 _ _ (rel.t i)),R04,?_,?_⟩
   ·show ([({target:= .collected D,args:= #[]}:Deferred)]++a.defers).Nodup;rw[List.singleton_append,List.nodup_cons];refine ⟨λhm=>?_,rel.df.1⟩;obtain ⟨D',e',h1,-⟩:=rel.df.2 _ hm;simp only[Deferred.mk.injEq,Target.collected.injEq,Qk] at e';have:=uY h1;rw[<-e'] at this;exact absurd this (Nat.lt_irrefl _)
   ·intro d hd;rcases OS.1 hd with hd|hd
    ·rw[Oj.1 hd];exact ⟨D,rfl,hD4,λ⟨j,o,h1,h2⟩=>by
      simp only at h1;split at h1
      ·cases h1
      ·exact hDO3 ⟨j,o,h1,h2⟩,hDT3⟩
    ·exact (rel.df.mono T04).2 d hd
  have hnew:lX w a.defers ([({target:= .collected D,args:= #[]}:Deferred)]++a.defers):=by
   intro d hd;rcases OS.1 hd with hd|hd
   ·rw[Oj.1 hd];exact .inr ⟨D,N4 _,rfl⟩
   ·exact .inl hd
  cases hle with
  |none=>exact ⟨trivial,hnew,G3,T04,relEnd⟩
  |ret=>exact wpIn_ret ⟨trivial,hnew,G3,T04,relEnd⟩
  |exit i=>exact wpIn_exit ⟨rfl,hnew,G3,T04,relEnd⟩
  |goto l=>exact wpIn_goto ⟨rfl,hnew,G3,T04,relEnd⟩
end
section
variable{P:Program}{N:Nat}{o:Oper}{t:Tm}{h:H}{en:Ent}{G:aT}{w:World}
theorem EZ{w':World}{cs:List AV}{vs rest:List Value}{T:TypeId}{n m sz len C:Nat}(hp:dw w w' (.cells (vs++rest).toArray T (0,0)))(hr:aE G w cs vs)(h1:∀v∈vs,One v)(hf:¬G.dom n)(hC:len<=C/\C<=9223372036854775807)(hroom:C*sz<=vs.length+rest.length):
  ∃G',Trans G w (.only aB [] n m) G' w' (.only (upd aB n (some (.cells cs))) [] (n+1) m)/\bj G' (.only (upd aB n (some (.cells cs))) [] (n+1) m) w'/\aC G' w' (.tsl sz n 0 len (some C)) (.slice (some ⟨w.heap.size,0,none⟩) len C):=by
 obtain ⟨G',T1,R1,V⟩:=rC (n:=n) (m:=m) hp hr h1 hf;refine ⟨G',T1,R1,?_⟩;simp only[aC] at V;obtain ⟨hd,hv⟩:=V;simp only[Value.pointer.injEq,Om,Addr.mk.injEq,Qk] at hv;unfold aC;refine ⟨hd,.inl ⟨C,(vs++rest).toArray,T,(0,0),by rw[hv],hC,(λ_ h=>by cases h;rfl),?_,by simpa using hroom⟩⟩;rw[<-hv];exact hp.new
theorem vf{ty e:TypeId}{len:Nat}{parts:Array (Nat × Operand)}{ys:List Opd}{z:Value}(hop:o.op= .buildSlice ty len parts)(hu:P.underlying ty=some (.slice e))(hi:(P.info? e).isSome=true)(hn:parts.size=len)(hpos:0<P.cellsOf e)
  (hz:(P.info? e).bind (·.zero)=some z) (hzs:z.cells.size=P.cellsOf e)
  (hys:iL P e 0 parts.toList=some ys) (hs:∀y∈ys,(cellsOf (ev t y)).length=P.cellsOf e/\shaped (ev t y)=true) (hle:ys.length*P.cellsOf e<=16777216):
  Loc P o t h (.tsl (P.cellsOf e) h.n 0 ys.length (some ys.length)) {h with objs:=upd h.objs h.n (some (.cells ((ys.map (ev t)).flatMap cellsOf))),n:=h.n+1} ⟨[],[h.n],[]⟩:=by
 refine ⟨_,_,gP h _,λG w a ht R F=>?_⟩;obtain ⟨r1,r2,r3⟩:=jA ht hys;simp only[Array.length_toList,hn] at r2 r3;have hsz:∀v∈parts.toList.map (λp=>a.eval p.2),v.cells.size=P.cellsOf e/\∀u∈v.cells.toList,One u:=by
  intro v hv;obtain ⟨k,hk⟩:=List.getElem?_of_mem hv;have hlt:k<(parts.toList.map (λp=>a.eval p.2)).length:=by
   rcases Py k (parts.toList.map (λp=>a.eval p.2)).length with h|h
   ·exact h
   ·rw[Pq h] at hk;cases hk
  have hlt':k<ys.length:=by simp at hlt;omega
  obtain ⟨u,hu1,hu2⟩:=r1.get (i:=k) (x:=ev t ys[k]) (by simp[N5 hlt']);have e:u=v:=Rh (hu1.symm.trans hk);subst e;obtain ⟨s1,s2⟩:=hs ys[k] (Pk hlt');obtain ⟨c1,c2⟩:=eE hu2 s2;have:=c1.length;exact ⟨by simpa [s1] using this,cells_one c1 c2⟩
 generalize hV:parts.toList.map (λp=>a.eval p.2)=vals at*
 have hvl:vals.length=len:=by rw[<-hV];simp[hn]
 have he:=eR r1 λv hv=>(hsz v hv).1;have hfl:(vals.flatMap (·.cells.toList)).length=len*P.cellsOf e:=by
  have:=he.length;rw[this];simp[r3]
 have hfill:∀cells:Array Value,cells.size=len*P.cellsOf e->Instr.fill (λi=>some (i*P.cellsOf e,P.cellsOf e)) cells ((parts.map λ(i,x)=>(i,a.eval x)).toList)=some (vals.flatMap (·.cells.toList)).toArray:=by
  intro cells hc;have hz:(parts.map λ(i,x)=>(i,a.eval x)).toList=(List.range' 0 vals.length).zip vals:=by
   have:∀l:List (Nat × Operand),l.map (λ(i,x)=>(i,a.eval x))=(l.map (·.1)).zip (l.map λp=>a.eval p.2):=by
    intro l;induction l with
    |nil=>rfl
    |cons p l ih=>simp[ih]
   rw[Array.toList_map,this,r2,hV,hvl]
  rw[hz];have:=kM (sz:=P.cellsOf e) (cells:=cells) vals 0 [] cells ah ah (by rw[hc,hvl];simp) (λv hv=>(hsz v hv).1);simpa using this
 have hle':¬(len*P.cellsOf e>16777216):=by rw[<-r3];omega
 obtain ⟨G',T1,R1,V⟩:=EZ (m:=h.m) (sz:=P.cellsOf e) (len:=len) (C:=len) (rest:=[]) (vs:=vals.flatMap λv:Value=>v.cells.toList) (eD w (.cells ((vals.flatMap λv:Value=>v.cells.toList)++[]).toArray e (0,0))) (fI he (by
  rw[List.all_map];exact OK.2 λy hy=>(hs y hy).2)) (by
  intro u hu;obtain ⟨v,hv,hu'⟩:=QT.1 hu;exact (hsz v hv).2 u hu') (kL F (by simp[H.only])) ⟨N4 _,by
  have:=Nat.le_mul_of_pos_right len hpos;omega⟩ (by rw[hfl];simp)
 rw[OR] at T1 R1 V;refine ⟨.value (.slice (some ⟨w.heap.size,0,none⟩) len len),_,_,G',?_,.inl rfl,T1,R1,by rw[r3];exact V⟩;obtain ⟨i,hi1,hi2⟩:=Oe.1 hz;have hle2:¬(16777216<len*P.cellsOf e):=by omega
 have hmap:∀(zc:Array Value),((Array.range (len*P.cellsOf e)).map (zc[· %zc.size]!)).size=len*P.cellsOf e:=by intro zc;simp
 have hrz:(zeroValue e).run P w= .ok z w:=by simp[zeroValue,typeInfo,hi1,hi2]
 simp only[execOp,hop,Sem.run_bind,Instr.buildSlice,run_underlying hu,Result.andThen_ok,cH P w e hi,Ob hle2,Sem.run_pure,Sem.run_ite,hrz,hfill _ (hmap _)];by_cases h0:len*P.cellsOf e=0
 ·rw[Oi h0];simp[newRow]
 ·rw[Ob h0];simp[newRow]
theorem Df{w:World}{B:Nat}{c:Array Value}{T:TypeId}{fr:Nat × Nat}(h:w.heap[B]? =some (.cells c T fr))(hfr:fr.1=fr.2)(k:Nat):
  (w.freeze ⟨B,k,none⟩ 1).heap[B]? =some (.cells c T (k,k+1))/\(∀b,b≠B->(w.freeze ⟨B,k,none⟩ 1).heap[b]? =w.heap[b]?)/\(w.freeze ⟨B,k,none⟩ 1).heap.size=w.heap.size/\(w.freeze ⟨B,k,none⟩ 1).os=w.os/\(w.freeze ⟨B,k,none⟩ 1).output=w.output:=by
 obtain ⟨lo,hi⟩:=fr;simp only at hfr;subst hfr;have hB:B<w.heap.size:=(O5.1 h).1;refine ⟨?_,λb hb=>?_,?_,rfl,rfl⟩
 ·simp[World.freeze,PZ,h]
 ·simp[World.freeze,PZ,Ql hb]
 ·simp[World.freeze]
theorem HO{ty e:TypeId}{z:Operand}{y:Opd}{id k:Nat}{cs:List AV}(hop:o.op= .convert ty ty z)(hu:P.underlying ty=some (.slice e))(he:P.underlying e=some (.int .u8))(hy:opd P ty z=some y)
  (hx:ev t y= .tsl 1 id 0 cs.length (some k)) (ho:h.objs id=some (.cells cs)) (hl:0<cs.length):Loc P o t h (.sl 1 cs (.exact k)) {h with objs:=λj=>if j=id then none else h.objs j} ⟨[],[id],[]⟩:=by
 refine ⟨_,_,zf h ho,λG w a ht R F=>?_⟩;have r:=aK hy ht;rw[hx] at r;simp only[aC] at r;obtain ⟨hd,⟨C,c,T1,fr1,hv,⟨hC,-⟩,hk,hg1,hroom⟩|⟨h0,-⟩⟩:=r
 ·have hCk:=hk k rfl;have hob:(H.only (upd aB id (some (.cells cs))) [] h.n h.m).objs id=some (.cells cs):=by simp[H.only,upd]
  obtain ⟨q1,q2,q3,vs,rest,T,fr,y1,y2,y3,y4⟩:=R.obj id _ hob;have hlen:=aE.length y2;obtain ⟨f1,f2,f3,f4,f5⟩:=Df y1 y3 (vs++rest).toArray.size;generalize hB:G.ι id=B at*
  generalize hw':w.freeze ⟨B,(vs++rest).toArray.size,none⟩ 1=w' at*
  let G':aT:={G with own:=λb=>G.own b/\b≠B,lim:=λb=>if b=B then none else G.lim b}
  have hO:(H.only (upd aB id (some (.cells cs))) [] h.n h.m).O G B:=⟨id,_,hob,hB⟩;have hne:∀b,¬(H.only (upd aB id (some (.cells cs))) [] h.n h.m).O G b->b≠B:=λb h1 e=>h1 (e▸hO);have T1':Trans G w (.only (upd aB id (some (.cells cs))) [] h.n h.m) G' w' (H0 h.n h.m):=by
   constructor
   ·exact λ_ x=>x
   ·exact λ_=> .inl
   ·exact λ_ _=>rfl
   ·exact λ_ x=>x
   ·exact λ_=> .inl
   ·exact λ_ _=>rfl
   ·exact N4 _
   ·exact N4 _
   ·rw[f3];exact N4 _
   ·exact f4
   ·exact f5
   ·intro b hb;by_cases e:b=B
    ·subst e;rw[y1,f1];exact ⟨_,_,rfl,rfl,λj hj h1=>by simp only at h1;omega⟩
    ·rw[f2 b e];exact bS.refl _
   ·exact λb hb h1 _=>f2 b (hne b h1)
   ·exact λb hb h1=>⟨λx=>x.1,λx=>⟨x,hne b h1⟩⟩
   ·intro b hb h1 _;show (if b=B then none else G.lim b)=_;rw[Ob (hne b h1)]
   ·exact λb hb x=>absurd x (mK b)
   ·exact λb _ x=>absurd x (gw b)
   ·exact λb _ x=>absurd x (mK b)
   ·exact λj o x=>by simp[H0,H.only,aB] at x
   ·exact λt x=>by simp[H0,H.only] at x
  have hvs:=aE.mono R T1' _ _ y2;have hel:=eR (sz:=1) hvs (λv hv=>by rw[mJ (y4 v hv)];rfl);have hfl:vs.flatMap (·.cells.toList)=vs:=by
   have:∀l:List Value,(∀v∈l,One v)->l.flatMap (·.cells.toList)=l:=by
    intro l;induction l with
    |nil=>intro _;rfl
    |cons x l ih=>intro hl;rw[PS,mJ (hl x ah),ih (λv hv=>hl v (by simp[hv]))];rfl
   exact this _ y4
  rw[hfl] at hel;refine ⟨.value (a.eval z),_,w',G',?_,.inl rfl,T1',iZ,?_⟩
  ·rw[hv];have hbeq:(ty == ty)=true:=by simp
   have hsh:w.shape? B=some (T,(vs++rest).toArray.size):=by simp[World.shape?,y1]
   simp only[execOp,hop,hv,convert,Sem.run_bind,run_underlying hu,Result.andThen_ok,hbeq,run_underlying he,markStringish,run_shape,hsh,run_freeze,hw',Sem.run_pure]
  ·rw[hv];unfold aC;refine .inr ⟨B,0,C,vs,rfl,hC,ae,hel,λi v hi=>?_,hCk⟩;have hi':=(Pu.1 hi).1;refine ⟨?_,y4 v (PY hi),λx=>x.2 rfl,λe he'=>by simp[G'] at he'⟩;unfold World.cell?;simp only[f1];simp[OW hi',hi]
 ·omega
def mS(ρ:Opd->AV)(h:H):AOp->Option (AV × H × Ent)
 | .buildSl sz parts=>if parts.all (λx=>(cellsOf (ρ x)).length=sz/\shaped (ρ x))=true/\parts.length*sz<=16777216 then
   some (.tsl sz h.n 0 parts.length (some parts.length),{h with objs:=upd h.objs h.n (some (.cells ((parts.map ρ).flatMap cellsOf))),n:=h.n+1},⟨[],[h.n],[]⟩) else none
 | .conv .s2s x=>match ρ x with
  | .tsl 1 id 0 len (some k)=>match h.objs id with
   |some (.cells cs)=>if len=cs.length/\0<cs.length then some (.sl 1 cs (.exact k),{h with objs:=λj=>if j=id then none else h.objs j},⟨[],[id],[]⟩) else none
   |_=>none
  |_=>none
 |_=>none
theorem HP{y:Opd}(h:cOp P o=some (.conv .s2s y)):∃ty e z,o.op= .convert ty ty z/\P.underlying ty=some (.slice e)/\P.underlying e=some (.int .u8)/\opd P ty z=some y:=by
 unfold cOp at h;split at h
 case h_12 src dst z hop=>
  split at h
  ·cases h
  ·split at h<;>cases h
  ·split at h<;>cases h
  ·cases h
  ·split at h
   ·rename_i hq;cases h;obtain ⟨rfl,hq,-⟩:=hq;exact ⟨_,_,z,hop,‹_›,ot hq,‹_›⟩
   ·cases h
  ·cases h
 all_goals first
  |(cases h;done)
  |(simp at h;done)
  |((repeat' split at h)<;>(try cases h)<;>(try simp at h);done)
  |skip
theorem E0{op:AOp}{x:AV}{h':H}(hc:cOp P o=some op)(hx:mS (ev t) h op=some (x,h',en)):Loc P o t h x h' en:=by
 cases op<;>(try (simp [mS] at hx;done))
 case buildSl sz parts=>
  obtain ⟨ty,e,len,ps,z,hop,hu,hi,hn,hpos,hz,hzs,hys,rfl⟩:=qo hc;simp only[mS] at hx;split at hx
  ·rename_i hq;cases hx;exact vf hop hu hi hn hpos hz hzs hys (λy hy=>by simpa using OK.1 hq.1 y hy) hq.2
  ·cases hx
 case conv k x0=>
  cases k<;>(try (simp [mS] at hx;done));obtain ⟨ty,e,z,hop,hu,he,hy⟩:=HP hc;simp only[mS] at hx;split at hx
  ·rename_i e1;split at hx
   ·rename_i e2;split at hx
    ·rename_i hq;obtain ⟨rfl,hq⟩:=hq;cases hx;exact HO hop hu he hy e1 e2 hq
    ·cases hx
   ·cases hx
  ·cases hx
theorem zj{ρ ρ':Opd->AV}{op:AOp}(hx:∀y∈bI op,ρ y=ρ' y):mS ρ h op=mS ρ' h op:=by
 cases op<;>(try rfl)
 case buildSl sz parts=>
  have e1:parts.map ρ=parts.map ρ':=Pb λy hy=>hx y (by simpa [bI] using hy);have e2:parts.all (λx=>(cellsOf (ρ x)).length=sz/\shaped (ρ x))=parts.all (λx=>(cellsOf (ρ' x)).length=sz/\shaped (ρ' x)):=by
   refine Q5.2 ?_;simp only[OK];exact ⟨λh y hy=>by rw[<-hx y (by simpa [bI] using hy)];exact h y hy,λh y hy=>by rw[hx y (by simpa [bI] using hy)];exact h y hy⟩
  simp only[mS,e1,e2]
 case conv k x0=>
  cases k<;>(try rfl);simp only[mS,hx x0 (by simp[bI])]
theorem Dg{ops:Array Oper}{i:Nat}{o:Oper}{it:aX}{t:Tm}{h h':H}{x:AV}{en:Ent}(ho:ops[i]? =some o)(hit:bP P N ops o=some it)(hg:guardOf t it.guard=some true)(hx:mS (ev t) h it.op=some (x,h',en)):
  ∃h1 h1',Touch h h1 h1' h' en/\iH P ops i o t h1 x h1':=by
 unfold bP at hit;split at hit
 ·rename_i op g hop hgd;split at hit<;>cases hit;rename_i hcond;simp only[Oh] at hcond;have hop:=gY hop (by rintro rfl;simp[mS] at hx) (by cases op<;>first|rfl|(simp [mS] at hx));have hx':mS (ev (jD (names ops o) t)) h op=some (x,h',en):=by
   rw[zj (jN hcond.2)];exact hx
  obtain ⟨h1,h1',tc,loc⟩:=E0 hop hx';refine ⟨h1,h1',tc,λG w a ht R F K Q hK ro=>?_⟩;obtain ⟨nx,v,w',G',e1,e2,T1,R1,V⟩:=loc G w a (fO ht) R F;unfold wpOpIn;rw[ho];simp only[cN hgd ht hg,Of];refine ⟨λ_ _=>trivial,?_⟩;rw[Oper.semAt_eq _ _ _ (eS hop),e1];rcases e2 with rfl|⟨rfl,rfl⟩
  ·rw[Oper.uponIn_value];exact hK G' w' v T1 R1 V
  ·rw[Oper.uponIn_skip];exact hK G' w' undef T1 R1 V
 ·cases hit
theorem az.opV{dst:Option Nat}{g:Option (Nat × Bool)}{op:AOp}{its:List aX}{t:Tm}{h h':H}{log:List Ent}{en:Ent}{K:Tm->H->List Ent->Prop}{x:AV}(hg:guardOf t g=some true)(hx:mS (ev t) h op=some (x,h',en))(ht:bN op=true)
  (rest:az P N its (bL t dst x) h' (en::log) K):az P N (⟨dst,g,op⟩::its) t h log K:=by
 intro ops i hi hc;obtain ⟨o,ho,hit,hi',hc'⟩:=cD hi hc;obtain ⟨h1,h1',tc,run⟩:=Dg ho hit hg hx;obtain ⟨recs,t',hh',ch,hk,hen⟩:=rest ops (i+1) hi' hc';have hdst:dst=o.dst:=by
  unfold bP at hit;split at hit
  ·split at hit<;>cases hit;rfl
  ·cases hit
 refine ⟨⟨t,h,h1,h1',h',x,en⟩::recs,t',hh',.cons ho rfl rfl tc (λ_=>run) (by rw[<-hdst];exact ch),by simpa using hk,?_⟩;intro k r it' hr hit' ht';cases k with
 |zero=>
  simp at hr hit';subst hr hit';rw[ht] at ht';cases ht'
 |succ k=>simp at hr hit';exact hen k r it' hr hit' ht'
end
section
variable{P:Program}{N:Nat}{o:Oper}{t:Tm}{h:H}{en:Ent}{G:aT}{w:World}
theorem ue{id n m:Nat}{c:Obj}{j:Nat}{o:Obj}(ho:(H.only (upd aB id (some c)) [] n m).objs j=some o):j=id/\o=c:=by
 simp only[H.only,upd,aB] at ho;split at ho
 ·cases ho;exact ⟨‹_›,rfl⟩
 ·cases ho
theorem rU{id n m:Nat}{cs xs:List AV}{us:List Value}(R:bj G (.only (upd aB id (some (.cells cs))) [] n m) w)(hn:¬G.dom n)(hr:aE G w xs us)(h1:∀v∈us,One v)
  {c:Array Value} {T0:TypeId} {fr0:Nat × Nat} (hc0:w.heap[G.ι id]? =some (.cells c T0 fr0)) (hl:cs.length+xs.length<=c.size):
  ∃w' G',(storeCells ⟨G.ι id,cs.length,none⟩ us 0).run P w= .ok () w'/\Trans G w (.only (upd aB id (some (.cells cs))) [] n m) G' w' (.only (upd aB n (some (.cells (cs++xs)))) [] (n+1) m)/\bj G' (.only (upd aB n (some (.cells (cs++xs)))) [] (n+1) m) w'/\
   G'.dom n/\G'.ι n=G.ι id/\∃c' T' fr',w'.heap[G.ι id]? =some (.cells c' T' fr')/\c'.size=c.size:=by
 have hme:(H.only (upd aB id (some (.cells cs))) [] n m).objs id=some (.cells cs):=by simp[H.only,upd]
 obtain ⟨d1,d2,d3,-⟩:=R.obj id _ hme;obtain ⟨vs,rest,T,fr,hg,hvs,hfr,hone⟩:=jZ R hme;have hlen:=hvs.length;have hul:=hr.length;have hcs:c.size=vs.length+rest.length:=by
  rw[hg] at hc0;cases hc0;simp
 have hc:∀j,w.cell? ⟨G.ι id,j,none⟩=(vs++rest)[j]? :=by
  intro j;unfold World.cell?;simp only[hg];simp
 have hcell:∀j,j<us.length->(w.cell? ⟨G.ι id,cs.length+0+j,none⟩).isSome=true:=λj hj=>by rw[hc];simp;omega
 have hfrz:∀j,j<us.length->w.frozen? ⟨G.ι id,cs.length+0+j,none⟩=false:=λj hj=>by
  unfold World.frozen?;simp only[hg];have:¬(fr.1<=cs.length+0+j/\cs.length+0+j<fr.2):=λh=>by omega
  simpa using this
 have honec:∀v∈us,v.oneCell'=true:=λv hv=>by
  obtain ⟨k1,k2⟩:=h1 v hv;cases v with
  |agg a=>exact absurd rfl (k1 a)
  |tuple a=>exact absurd rfl (k2 a)
  |_=>rfl
 have hrun:=run_storeCells_cells (P:=P) (G.ι id) cs.length us 0 w hcell hfrz honec;rw[Nat.add_zero] at hrun;obtain ⟨a1,a2,a3,a4,a5⟩:=fG (G.ι id) T fr us cs.length (vs++rest) w hg ar;have ecur:(vs++rest).take cs.length++us++(vs++rest).drop (cs.length+us.length)=(vs++us)++rest.drop us.length:=by
  rw[Qy ae,O8 ae,List.drop_append,List.drop_of_length_le ae,hlen,List.nil_append];congr 2;omega
 rw[ecur] at a1;clear hcell hfrz honec;generalize w.setCells (G.ι id) cs.length us=w1 at*
 let G':aT:={G with dom:=λj=>G.dom j\/j=n,ι:=upd G.ι n (G.ι id)}
 have hιn:G'.ι n=G.ι id:=by simp[G',upd]
 have hι:∀j,G.dom j->G'.ι j=G.ι j:=λj hj=>by
  simp only[G',upd];rw[Ob];rintro rfl;exact hn hj
 refine ⟨w1,G',hrun,?_⟩;have T1:Trans G w (.only (upd aB id (some (.cells cs))) [] n m) G' w1 (.only (upd aB n (some (.cells (cs++xs)))) [] (n+1) m):=by
  constructor
  ·exact λ_ x=> .inl x
  ·rintro j (x|rfl)
   ·exact .inl x
   ·exact .inr ⟨by simp[H.only],by simp[H.only]⟩
  ·exact hι
  ·exact λ_ x=>x
  ·exact λ_=> .inl
  ·exact λ_ _=>rfl
  ·simp[H.only]
  ·exact N4 _
  ·rw[a3];exact N4 _
  ·exact a4
  ·exact a5
  ·intro B hB;by_cases hBi:B=G.ι id
   ·subst hBi;rw[a1,hg];exact ⟨_,_,rfl,by simp;omega,λ_ _ h=>h⟩
   ·rw[a2 B hBi];exact bS.refl _
  ·intro B hB hO _;exact a2 B λe=>hO ⟨id,_,hme,e.symm⟩
  ·exact λ_ _ _=>QL
  ·exact λ_ _ _ _=>rfl
  ·rintro B hB ⟨t,ht,_⟩;simp[H.only] at ht
  ·rintro B hB ⟨j,o,ho,e⟩;obtain ⟨rfl,rfl⟩:=ue ho;exact ⟨id,_,hme,by rw[<-e,hιn]⟩
  ·rintro B hB ⟨t,ht,_⟩;simp[H.only] at ht
  ·intro j o ho;obtain ⟨rfl,rfl⟩:=ue ho;exact .inr ⟨by simp[H.only],by simp[H.only]⟩
  ·intro t ht;simp[H.only] at ht
 refine ⟨T1,⟨?_,?_,?_,?_⟩,.inr rfl,hιn,_,T,fr,a1,?_⟩
 ·intro j o ho;obtain ⟨rfl,rfl⟩:=ue ho;refine ⟨.inr rfl,by rw[hιn];exact d2,by rw[hιn,a3];exact d3,?_⟩;rw[hιn,a1];refine ⟨_,_,T,fr,rfl,(aE.mono R T1 _ _ hvs).append (aE.mono R T1 _ _ hr),hfr,?_⟩;intro v hv;rcases OS.1 hv with hv|hv
  ·exact hone v hv
  ·exact h1 v hv
 ·intro j j' o o' ho ho' _;rw[(ue ho).1,(ue ho').1]
 ·intro t ht;simp[H.only] at ht
 ·intro t ht;simp[H.only] at ht
 ·simp;omega
theorem Trans.JL{id n m:Nat}{c:Obj}{G':aT}{w':World}{h':H}(T:Trans G w (.only aB [] n m) G' w' h'):Trans G w (.only (upd aB id (some c)) [] n m) G' w' h':=by
 constructor
 ·exact T.dom_le
 ·exact T.dom_new
 ·exact T.ι_eq
 ·exact T.tdom_le
 ·exact T.tdom_new
 ·exact T.τ_eq
 ·exact T.n_le
 ·exact T.m_le
 ·exact T.size_le
 ·exact T.os
 ·exact T.output
 ·exact T.form
 ·exact λB hB _ _=>T.keep B hB (gw B) (mK B)
 ·exact λB hB _=>T.own_keep B hB (gw B)
 ·exact λB hB _ _=>T.lim_keep B hB (gw B) (mK B)
 ·exact λB hB x=>absurd x (mK B)
 ·exact λB hB x=>absurd (T.O_new B hB x) (gw B)
 ·exact λB hB x=>absurd (T.T_new B hB x) (mK B)
 ·intro j o ho;rcases T.objs_new j o ho with ⟨o',x⟩|x
  ·simp[H.only,aB] at x
  ·exact .inr x
 ·exact T.toks_new
theorem zm(h:H){id:Nat}{ob ob':Obj}(ho:h.objs id=some ob):Touch h (.only (upd aB id (some ob)) [] h.n h.m) (.only (upd aB h.n (some ob')) [] (h.n+1) h.m) {h with objs:=upd (λj=>if j=id then none else h.objs j) h.n (some ob'),n:=h.n+1} ⟨[],[id,h.n],[]⟩ where
 sub:=⟨λj o hj=>by obtain ⟨rfl,rfl⟩:=ue hj;exact ho,λt ht=>by simp[H.only] at ht⟩
 n:=rfl
 m:=rfl
 eq:=by
  refine H.ext (λj=>?_) rfl (by simp[H.patch,H.only];exact (List.filter_eq_self.2 λ_ _=>rfl).symm) rfl;simp only[H.patch,H.only,upd,aB];by_cases e1:j=h.n
  ·subst e1;simp
  ·by_cases e2:j=id
   ·subst e2;simp[e1]
   ·have:¬(h.n<=j/\j<h.n+1):=by omega
    simp[e1,e2,this]
 rd j x:=by
  right;simp only[H.only,upd,aB] at x;split at x
  ·rename_i e;simp[e]
  ·simp at x
 wr j a b:=by simp only[H.only] at a b;simp;omega
 chg j x hx:=by
  simp only[H.only,upd,aB] at x;split at x
  ·rename_i e;subst e;simp at hx
  ·simp at x
 tk t x:=by simp[H.only] at x
 tn t x:=by simp[H.only] at x
 le:=by simp[H.only]
 lem:=N4 _
theorem E1{c:Call}{zs zx:Operand}{ys yx:Opd}{T U e:TypeId}{d:TypeDesc}{i:TypeInfo}{id len:Nat}{cap:Option Nat}{cs els:List AV}(hop:o.op= .call c)(hc:c.callee= .builtin .append)(ha:c.args.toList=[zs,zx])(hta:c.argTypes.toList=[T,U])
  (hT:P.underlying T=some (.slice e)) (hU:P.underlying U=some d) (hd:(∃e',d= .slice e')\/d= .string) (hi:P.info? e=some i) (hz:i.zero.any (λz=>z.cells.size == i.size)=true) (hsz:0<i.size)
  (hys:opd P T zs=some ys) (hyx:opd P U zx=some yx) (hs:ev t ys= .tsl i.size id 0 len cap) (ho:h.objs id=some (.cells cs)) (hcl:cs.length=len*i.size) (hx:∃s' c',ev t yx= .sl s' els c'/\s'=i.size) (hsh:els.all shaped=true)
  (hb:(len+els.length)*i.bytes<=140737488355328) (hlen:len+els.length<4611686018427387904):
  Loc P o t h (.tsl i.size h.n 0 (len+els.length) none) {h with objs:=upd (λj=>if j=id then none else h.objs j) h.n (some (.cells (cs++els.flatMap cellsOf))),n:=h.n+1} ⟨[],[id,h.n],[]⟩:=by
 have ha':c.args= #[zs,zx]:=by rw[<-Array.toArray_toList (xs:=c.args),ha]
 have hta':c.argTypes= #[T,U]:=by rw[<-Array.toArray_toList (xs:=c.argTypes),hta]
 obtain ⟨z,hz1,hz2⟩:∃z,i.zero=some z/\z.cells.size=i.size:=by
  cases hzz:i.zero with
  |none=>rw[hzz] at hz;simp at hz
  |some z=>rw[hzz] at hz;exact ⟨z,rfl,by simpa using hz⟩
 refine ⟨_,_,zm h ho,λG w a ht R F=>?_⟩;have r1:=aK hys ht;have r2:=aK hyx ht;rw[hs] at r1;obtain ⟨s',c',hx,hs'⟩:=hx;rw[hx] at r2;obtain ⟨news,n1,n2,n3⟩:=ka (P:=P) (.inl hs') r2;have hnl:=n2.length;have hnr:=fI n2 hsh;have hnrl:=hnr.length;have hdn:¬G.dom h.n:=F.1 h.n (by simp[H.only]) (by simp[H.only]);have hme:(H.only (upd aB id (some (.cells cs))) [] h.n h.m).objs id=some (.cells cs):=by simp[H.only,upd]
 obtain ⟨d1,d2,d3,-⟩:=R.obj id _ hme;obtain ⟨vs,rest,T0,fr,hg,hvs,hfr,hone⟩:=jZ R hme;have hvl:=hvs.length;have hmul:(len+els.length)*i.size=len*i.size+els.length*i.size:=Pz _ _ _;have fin:∀v w' G',(execOp a.eval o).run P w= .ok (.value v) w'->Trans G w (.only (upd aB id (some (.cells cs))) [] h.n h.m) G' w' (.only (upd aB h.n (some (.cells (cs++els.flatMap cellsOf)))) [] (h.n+1) h.m)->bj G' (.only (upd aB h.n (some (.cells (cs++els.flatMap cellsOf)))) [] (h.n+1) h.m) w'->aC G' w' (.tsl i.size h.n 0 (len+els.length) none) v->
   ∃nx v w' G',(execOp a.eval o).run P w= .ok nx w'/\(nx= .value v\/nx= .skip/\v=undef)/\Trans G w (.only (upd aB id (some (.cells cs))) [] h.n h.m) G' w' (.only (upd aB h.n (some (.cells (cs++els.flatMap cellsOf)))) [] (h.n+1) h.m)/\bj G' (.only (upd aB h.n (some (.cells (cs++els.flatMap cellsOf)))) [] (h.n+1) h.m) w'/\aC G' w' (.tsl i.size h.n 0 (len+els.length) none) v:=
  λv w' G' a b c d=>⟨_,v,w',G',a,.inl rfl,b,c,d⟩
 have hex:∀{va vx r:Value}{w':World},a.eval zs=va->(Builtin.append_ #[T,U] o.type #[va,a.eval zx]).run P w= .ok r w'->(execOp a.eval o).run P w= .ok (.value r) w':=by
  intro va vx r w' h1 h2;simp[execOp,hop,resolve,hc,ha',hta',invoke,builtin,h1,h2]
 simp only[aC] at r1;obtain ⟨-,⟨C,c1,T1,fr1,hv,⟨hC,hC2⟩,-,hg1,hroom⟩|⟨rfl,⟨a0,hv⟩,-⟩⟩:=r1
 ·have hc1:c1.size=vs.length+rest.length:=by rw[hg] at hg1;cases hg1;simp
  by_cases hfit:len+els.length<=C
  ·have hCs:(len+els.length)*i.size<=C*i.size:=PD _ hfit;obtain ⟨w',G',q1,q2,q3,q4,q5,c',T',fr',q6,q7⟩:=rU (P:=P) R hdn hnr n3 hg1 ae;have hst:(storeCells ((⟨G.ι id,0,none⟩:Addr).add (len*i.size)) news).run P w= .ok () w':=by
    have e:(⟨G.ι id,0,none⟩:Addr).add (len*i.size)=⟨G.ι id,cs.length,none⟩:=by rw[add_plain,hcl,Oo]
    rw[e];exact q1
   refine fin _ w' G' (hex (vx:= .nilIface) hv (run_append_fits (ty:=o.type) hT hU hd hi n1 hfit hst)) q2 q3 ?_;unfold aC;refine ⟨q4,.inl ⟨C,c',T',fr',by rw[q5],⟨hfit,hC2⟩,(λ_ h=>by cases h),by rw[q5];exact q6,ae⟩⟩
  ·have hsrc:Src P w i.size (.slice (some ⟨G.ι id,0,none⟩) len C) len vs:=by
    refine ⟨by simp[Builtin.lenOf],λw' hw=>?_⟩;have:=run_loadCells_list (P:=P) w' ⟨G.ι id,0,none⟩ vs (λj u hu=>by
     rw[add_plain,cell_of_heap hw];unfold World.cell?;simp only[hg];have hj:=(Pu.1 hu).1;simp[OW hj,hu])
    simp only[Builtin.firstCells];rw[<-hcl,<-hvl];exact this
   obtain ⟨w',C',rest',e1,e2,e3,e4⟩:=fq (ty:=o.type) hT hU hd hi hz1 hz2 hsz n1 hsrc hfit hC hb hlen;obtain ⟨G',T2,R2,V⟩:=qH (m:=h.m) (sz:=i.size) (cs:=cs++els.flatMap cellsOf) e2 (hvs.append hnr) (λu hu=>by
    rcases OS.1 hu with h|h
    ·exact hone u h
    ·exact n3 u h) hdn e3 (by simp only[Og];omega)
   exact fin _ w' G' (hex (vx:= .nilIface) hv e1) T2.JL R2 V
 ·by_cases hk:els=[]
  ·subst hk;have hnn:news=[]:=by simpa [aL] using n2
   subst hnn;have hcs0:cs=[]:=by
    cases cs with
    |nil=>rfl
    |cons x l=>simp at hcl
   subst hcs0;obtain ⟨w',G',q1,q2,q3,q4,q5,-⟩:=rU (P:=P) (xs:=[]) (us:=[]) R hdn .nil ah hg ah;have hw':w'=w:=by simpa [storeCells] using q1.symm
   subst hw';refine fin _ w' G' (hex (vx:= .nilIface) hv (run_append_fits (ty:=o.type) hT hU hd hi n1 (N4 _) (w':=w') (by cases a0<;>rfl))) q2 q3 ?_;unfold aC;exact ⟨q4,.inr ⟨rfl,⟨a0,rfl⟩,λ_ h=>by cases h⟩⟩
  ·have hpos:0<els.length:=Qn.2 hk;have hcs0:cs=[]:=by
    cases cs with
    |nil=>rfl
    |cons x l=>simp at hcl
   subst hcs0;obtain ⟨w',C',rest',e1,e2,e3,e4⟩:=fq (ty:=o.type) hT hU hd hi hz1 hz2 hsz n1 (od (some a0)) ae (N4 _) (by simpa using hb) (by simpa using hlen);rw[List.nil_append] at e2;obtain ⟨G',T2,R2,V⟩:=qH (m:=h.m) (sz:=i.size) e2 hnr n3 hdn e3 ae;exact fin _ w' G' (hex (vx:= .nilIface) hv e1) T2.JL R2 V
def mT(ρ:Opd->AV)(h:H):AOp->Option (AV × H × Ent)
 | .app false sz bytes s x=>match ρ s,ρ x with
  | .tsl z id 0 len _,.sl s' els _=>match h.objs id with
   |some (.cells cs)=>if z=sz/\s'=sz/\cs.length=len*sz/\els.all shaped=true/\(len+els.length)*bytes<=140737488355328/\len+els.length<4611686018427387904 then
     some (.tsl sz h.n 0 (len+els.length) none,{h with objs:=upd (λj=>if j=id then none else h.objs j) h.n (some (.cells (cs++els.flatMap cellsOf))),n:=h.n+1},⟨[],[id,h.n],[]⟩) else none
   |_=>none
  |_,_=>none
 |_=>none
theorem E2{op:AOp}{x:AV}{h':H}(hc:cOp P o=some op)(hx:mT (ev t) h op=some (x,h',en)):Loc P o t h x h' en:=by
 cases op<;>(try (simp [mT] at hx;done))
 case app str sz bytes s x0=>
  cases str<;>(try (simp [mT] at hx;done));obtain ⟨c,zs,zx,T,U,e,e',i,hop,hcal,ha,hta,hys,hyx,hT,hU,hi,hs1,hs2,rfl,rfl⟩:=Bl hc;simp only[mT] at hx;split at hx
  ·split at hx
   ·split at hx
    ·rename_i hq;obtain ⟨q1,q2,q3,q4,q5,q6⟩:=hq;subst q1;cases hx;exact E1 hop hcal ha hta hT hU (.inl ⟨_,rfl⟩) hi hs2 hs1 hys hyx ‹_› ‹_› q3 ⟨_,_,‹_›,q2⟩ q4 q5 q6
    ·cases hx
   ·cases hx
  ·cases hx
theorem zn{ρ ρ':Opd->AV}{op:AOp}(hx:∀y∈bI op,ρ y=ρ' y):mT ρ h op=mT ρ' h op:=by
 cases op<;>(try rfl)
 case app str sz bytes s x0=>
  cases str
  ·simp only[mT,hx s (by simp[bI]),hx x0 (by simp[bI])]
  ·rfl
theorem uf{ops:Array Oper}{i:Nat}{o:Oper}{it:aX}{t:Tm}{h h':H}{x:AV}{en:Ent}(ho:ops[i]? =some o)(hit:bP P N ops o=some it)(hg:guardOf t it.guard=some true)(hx:mT (ev t) h it.op=some (x,h',en)):
  ∃h1 h1',Touch h h1 h1' h' en/\iH P ops i o t h1 x h1':=by
 unfold bP at hit;split at hit
 ·rename_i op g hop hgd;split at hit<;>cases hit;rename_i hcond;simp only[Oh] at hcond;have hop:=gY hop (by rintro rfl;simp[mT] at hx) (by cases op<;>first|rfl|(simp [mT] at hx));have hx':mT (ev (jD (names ops o) t)) h op=some (x,h',en):=by
   rw[zn (jN hcond.2)];exact hx
  obtain ⟨h1,h1',tc,loc⟩:=E2 hop hx';refine ⟨h1,h1',tc,λG w a ht R F K Q hK ro=>?_⟩;obtain ⟨nx,v,w',G',e1,e2,T1,R1,V⟩:=loc G w a (fO ht) R F;unfold wpOpIn;rw[ho];simp only[cN hgd ht hg,Of];refine ⟨λ_ _=>trivial,?_⟩;rw[Oper.semAt_eq _ _ _ (eS hop),e1];rcases e2 with rfl|⟨rfl,rfl⟩
  ·rw[Oper.uponIn_value];exact hK G' w' v T1 R1 V
  ·rw[Oper.uponIn_skip];exact hK G' w' undef T1 R1 V
 ·cases hit
theorem az.opK{dst:Option Nat}{g:Option (Nat × Bool)}{op:AOp}{its:List aX}{t:Tm}{h h':H}{log:List Ent}{en:Ent}{K:Tm->H->List Ent->Prop}{x:AV}(hg:guardOf t g=some true)(hx:mT (ev t) h op=some (x,h',en))(ht:bN op=true)
  (rest:az P N its (bL t dst x) h' (en::log) K):az P N (⟨dst,g,op⟩::its) t h log K:=by
 intro ops i hi hc;obtain ⟨o,ho,hit,hi',hc'⟩:=cD hi hc;obtain ⟨h1,h1',tc,run⟩:=uf ho hit hg hx;obtain ⟨recs,t',hh',ch,hk,hen⟩:=rest ops (i+1) hi' hc';have hdst:dst=o.dst:=by
  unfold bP at hit;split at hit
  ·split at hit<;>cases hit;rfl
  ·cases hit
 refine ⟨⟨t,h,h1,h1',h',x,en⟩::recs,t',hh',.cons ho rfl rfl tc (λ_=>run) (by rw[<-hdst];exact ch),by simpa using hk,?_⟩;intro k r it' hr hit' ht';cases k with
 |zero=>
  simp at hr hit';subst hr hit';rw[ht] at ht';cases ht'
 |succ k=>simp at hr hit';exact hen k r it' hr hit' ht'
end
section
variable{P:Program}{N:Nat}{o:Oper}{t:Tm}{h:H}{en:Ent}
end
section
variable{P:Program}{N:Nat}{o:Oper}{t:Tm}{h:H}
end
section
variable{P:Program}{N:Nat}{o:Oper}{t:Tm}{h:H}{en:Ent}{G:aT}{w:World}{a:Act}
end
section
variable{P:Program}{T:FT}
end
structure Hid(p:Prop):Prop where
 o:p
theorem cj2{A0 A1:Prop}(a0:A0)(a1:A1):A0/\A1:=⟨a0,a1⟩
theorem cj3{A0 A1 A2:Prop}(a0:A0)(a1:A1)(a2:A2):A0/\A1/\A2:=⟨a0,a1,a2⟩
theorem cj4{A0 A1 A2 A3:Prop}(a0:A0)(a1:A1)(a2:A2)(a3:A3):A0/\A1/\A2/\A3:=⟨a0,a1,a2,a3⟩
theorem cj5{A0 A1 A2 A3 A4:Prop}(a0:A0)(a1:A1)(a2:A2)(a3:A3)(a4:A4):A0/\A1/\A2/\A3/\A4:=⟨a0,a1,a2,a3,a4⟩
theorem cj6{A0 A1 A2 A3 A4 A5:Prop}(a0:A0)(a1:A1)(a2:A2)(a3:A3)(a4:A4)(a5:A5):A0/\A1/\A2/\A3/\A4/\A5:=⟨a0,a1,a2,a3,a4,a5⟩
theorem cj7{A0 A1 A2 A3 A4 A5 A6:Prop}(a0:A0)(a1:A1)(a2:A2)(a3:A3)(a4:A4)(a5:A5)(a6:A6):A0/\A1/\A2/\A3/\A4/\A5/\A6:=⟨a0,a1,a2,a3,a4,a5,a6⟩
theorem cj8{A0 A1 A2 A3 A4 A5 A6 A7:Prop}(a0:A0)(a1:A1)(a2:A2)(a3:A3)(a4:A4)(a5:A5)(a6:A6)(a7:A7):A0/\A1/\A2/\A3/\A4/\A5/\A6/\A7:=⟨a0,a1,a2,a3,a4,a5,a6,a7⟩
theorem cj9{A0 A1 A2 A3 A4 A5 A6 A7 A8:Prop}(a0:A0)(a1:A1)(a2:A2)(a3:A3)(a4:A4)(a5:A5)(a6:A6)(a7:A7)(a8:A8):A0/\A1/\A2/\A3/\A4/\A5/\A6/\A7/\A8:=⟨a0,a1,a2,a3,a4,a5,a6,a7,a8⟩
theorem iw{A0 A1 A2 A3 A4 A5 A6 A7 A8 A9:Prop}(a0:A0)(a1:A1)(a2:A2)(a3:A3)(a4:A4)(a5:A5)(a6:A6)(a7:A7)(a8:A8)(a9:A9):A0/\A1/\A2/\A3/\A4/\A5/\A6/\A7/\A8/\A9:=⟨a0,a1,a2,a3,a4,a5,a6,a7,a8,a9⟩
theorem fD{A0 A1 A2 A3 A4 A5 A6 A7 A8 A9 A10:Prop}(a0:A0)(a1:A1)(a2:A2)(a3:A3)(a4:A4)(a5:A5)(a6:A6)(a7:A7)(a8:A8)(a9:A9)(a10:A10):A0/\A1/\A2/\A3/\A4/\A5/\A6/\A7/\A8/\A9/\A10:=⟨a0,a1,a2,a3,a4,a5,a6,a7,a8,a9,a10⟩
theorem bf{A0 A1 A2 A3 A4 A5 A6 A7 A8 A9 A10 A11:Prop}(a0:A0)(a1:A1)(a2:A2)(a3:A3)(a4:A4)(a5:A5)(a6:A6)(a7:A7)(a8:A8)(a9:A9)(a10:A10)(a11:A11):A0/\A1/\A2/\A3/\A4/\A5/\A6/\A7/\A8/\A9/\A10/\A11:=⟨a0,a1,a2,a3,a4,a5,a6,a7,a8,a9,a10,a11⟩
theorem rn0{F X Y:Prop}(f:F)(y:Y)(h:F->Hid Y->X:=by
 intro f y;repeat (first
  |((first|apply Wp.bq|apply Wp.gS);(· simp only[go_sem,reduceIte,Nat.reduceEqDiff,Nat.reduceAdd,bx,ax,Of,Od,Nat.reduceMul,Nat.reduceLeDiff,f];exact rfl))
  |(refine az.nil ⟨?_,?_⟩;(· first|trivial|simp[bg,aN,apart,aU]))
  |(apply Wp.cy;(· simp only[go_sem,reduceIte,Nat.reduceEqDiff,Nat.reduceAdd,bx,ax,Of,Od,Nat.reduceMul,Nat.reduceLeDiff,f];exact rfl);(· rfl))
  |refine Wp.skip ?_
  |refine Wp.label ?_
  |refine Wp.block ?_
  |refine Wp.exit ?_
  |refine Wp.seq ?_
  |exact y.1)):X:=h f ⟨y⟩
theorem rW{X Y:Prop}(y:Y)(h:Hid Y->X:=by
 intro y;repeat (first
  |((first|apply Wp.bq|apply Wp.gS);(· simp only[go_sem,reduceIte,Nat.reduceEqDiff,Nat.reduceAdd,bx,ax,Of,Od,Nat.reduceMul,Nat.reduceLeDiff];exact rfl))
  |(refine az.nil ⟨?_,?_⟩;(· first|trivial|simp[bg,aN,apart,aU]))
  |(apply Wp.cy;(· simp only[go_sem,reduceIte,Nat.reduceEqDiff,Nat.reduceAdd,bx,ax,Of,Od,Nat.reduceMul,Nat.reduceLeDiff];exact rfl);(· rfl))
  |refine Wp.skip ?_
  |refine Wp.label ?_
  |refine Wp.block ?_
  |refine Wp.exit ?_
  |refine Wp.seq ?_
  |exact y.1)):X:=h ⟨y⟩
theorem rn1{F C0 X Y:Prop}(f:F)(c0:C0)(y:Y)(h:F->C0->Hid Y->X:=by
 intro f c0 y;repeat (first
  |((first|apply Wp.bq|apply Wp.gS|((first
   |(refine az.bO ?_ ?_ c0 ?_;(· simp only[go_sem,reduceIte,Nat.reduceEqDiff,Nat.reduceAdd,bx]);(· simp only[go_sem,reduceIte,Nat.reduceEqDiff,Nat.reduceAdd,bx,List.map];first|exact aA.refl _|assumption|(repeat (first|exact aA.nil|refine aA.cons (by first|exact ay.refl _|assumption|exact ay.cap|exact ay.any _) ?_)))));apply az.evR));(· simp only[go_sem,reduceIte,Nat.reduceEqDiff,Nat.reduceAdd,bx,ax,Of,Od,Nat.reduceMul,Nat.reduceLeDiff,f];exact rfl))
  |(refine az.nil ⟨?_,?_⟩;(· first|trivial|simp[bg,aN,apart,aU]))
  |(apply Wp.cy;(· simp only[go_sem,reduceIte,Nat.reduceEqDiff,Nat.reduceAdd,bx,ax,Of,Od,Nat.reduceMul,Nat.reduceLeDiff,f];exact rfl);(· rfl))
  |refine Wp.skip ?_
  |refine Wp.label ?_
  |refine Wp.block ?_
  |refine Wp.exit ?_
  |refine Wp.seq ?_
  |exact y.1)):X:=h f c0 ⟨y⟩
theorem Dh{C0 X Y:Prop}(c0:C0)(y:Y)(h:C0->Hid Y->X:=by
 intro c0 y;repeat (first
  |((first|apply Wp.bq|apply Wp.gS|((first
   |(refine az.bO ?_ ?_ c0 ?_;(· simp only[go_sem,reduceIte,Nat.reduceEqDiff,Nat.reduceAdd,bx]);(· simp only[go_sem,reduceIte,Nat.reduceEqDiff,Nat.reduceAdd,bx,List.map];first|exact aA.refl _|assumption|(repeat (first|exact aA.nil|refine aA.cons (by first|exact ay.refl _|assumption|exact ay.cap|exact ay.any _) ?_)))));apply az.evR));(· simp only[go_sem,reduceIte,Nat.reduceEqDiff,Nat.reduceAdd,bx,ax,Of,Od,Nat.reduceMul,Nat.reduceLeDiff];exact rfl))
  |(refine az.nil ⟨?_,?_⟩;(· first|trivial|simp[bg,aN,apart,aU]))
  |(apply Wp.cy;(· simp only[go_sem,reduceIte,Nat.reduceEqDiff,Nat.reduceAdd,bx,ax,Of,Od,Nat.reduceMul,Nat.reduceLeDiff];exact rfl);(· rfl))
  |refine Wp.skip ?_
  |refine Wp.label ?_
  |refine Wp.block ?_
  |refine Wp.exit ?_
  |refine Wp.seq ?_
  |exact y.1)):X:=h c0 ⟨y⟩
theorem rn2{F C0 C1 X Y:Prop}(f:F)(c0:C0)(c1:C1)(y:Y)(h:F->C0->C1->Hid Y->X:=by
 intro f c0 c1 y;repeat (first
  |((first|apply Wp.bq|apply Wp.gS|((first
   |(refine az.bO ?_ ?_ c0 ?_;(· simp only[go_sem,reduceIte,Nat.reduceEqDiff,Nat.reduceAdd,bx]);(· simp only[go_sem,reduceIte,Nat.reduceEqDiff,Nat.reduceAdd,bx,List.map];first|exact aA.refl _|assumption|(repeat (first|exact aA.nil|refine aA.cons (by first|exact ay.refl _|assumption|exact ay.cap|exact ay.any _) ?_))))
   |(refine az.bO ?_ ?_ c1 ?_;(· simp only[go_sem,reduceIte,Nat.reduceEqDiff,Nat.reduceAdd,bx]);(· simp only[go_sem,reduceIte,Nat.reduceEqDiff,Nat.reduceAdd,bx,List.map];first|exact aA.refl _|assumption|(repeat (first|exact aA.nil|refine aA.cons (by first|exact ay.refl _|assumption|exact ay.cap|exact ay.any _) ?_)))));apply az.evR));(· simp only[go_sem,reduceIte,Nat.reduceEqDiff,Nat.reduceAdd,bx,ax,Of,Od,Nat.reduceMul,Nat.reduceLeDiff,f];exact rfl))
  |(refine az.nil ⟨?_,?_⟩;(· first|trivial|simp[bg,aN,apart,aU]))
  |(apply Wp.cy;(· simp only[go_sem,reduceIte,Nat.reduceEqDiff,Nat.reduceAdd,bx,ax,Of,Od,Nat.reduceMul,Nat.reduceLeDiff,f];exact rfl);(· rfl))
  |refine Wp.skip ?_
  |refine Wp.label ?_
  |refine Wp.block ?_
  |refine Wp.exit ?_
  |refine Wp.seq ?_
  |exact y.1)):X:=h f c0 c1 ⟨y⟩
theorem Lu{C0 C1 X Y:Prop}(c0:C0)(c1:C1)(y:Y)(h:C0->C1->Hid Y->X:=by
 intro c0 c1 y;repeat (first
  |((first|apply Wp.bq|apply Wp.gS|((first
   |(refine az.bO ?_ ?_ c0 ?_;(· simp only[go_sem,reduceIte,Nat.reduceEqDiff,Nat.reduceAdd,bx]);(· simp only[go_sem,reduceIte,Nat.reduceEqDiff,Nat.reduceAdd,bx,List.map];first|exact aA.refl _|assumption|(repeat (first|exact aA.nil|refine aA.cons (by first|exact ay.refl _|assumption|exact ay.cap|exact ay.any _) ?_))))
   |(refine az.bO ?_ ?_ c1 ?_;(· simp only[go_sem,reduceIte,Nat.reduceEqDiff,Nat.reduceAdd,bx]);(· simp only[go_sem,reduceIte,Nat.reduceEqDiff,Nat.reduceAdd,bx,List.map];first|exact aA.refl _|assumption|(repeat (first|exact aA.nil|refine aA.cons (by first|exact ay.refl _|assumption|exact ay.cap|exact ay.any _) ?_)))));apply az.evR));(· simp only[go_sem,reduceIte,Nat.reduceEqDiff,Nat.reduceAdd,bx,ax,Of,Od,Nat.reduceMul,Nat.reduceLeDiff];exact rfl))
  |(refine az.nil ⟨?_,?_⟩;(· first|trivial|simp[bg,aN,apart,aU]))
  |(apply Wp.cy;(· simp only[go_sem,reduceIte,Nat.reduceEqDiff,Nat.reduceAdd,bx,ax,Of,Od,Nat.reduceMul,Nat.reduceLeDiff];exact rfl);(· rfl))
  |refine Wp.skip ?_
  |refine Wp.label ?_
  |refine Wp.block ?_
  |refine Wp.exit ?_
  |refine Wp.seq ?_
  |exact y.1)):X:=h c0 c1 ⟨y⟩
theorem rn3{F C0 C1 C2 X Y:Prop}(f:F)(c0:C0)(c1:C1)(c2:C2)(y:Y)(h:F->C0->C1->C2->Hid Y->X:=by
 intro f c0 c1 c2 y;repeat (first
  |((first|apply Wp.bq|apply Wp.gS|((first
   |(refine az.bO ?_ ?_ c0 ?_;(· simp only[go_sem,reduceIte,Nat.reduceEqDiff,Nat.reduceAdd,bx]);(· simp only[go_sem,reduceIte,Nat.reduceEqDiff,Nat.reduceAdd,bx,List.map];first|exact aA.refl _|assumption|(repeat (first|exact aA.nil|refine aA.cons (by first|exact ay.refl _|assumption|exact ay.cap|exact ay.any _) ?_))))
   |(refine az.bO ?_ ?_ c1 ?_;(· simp only[go_sem,reduceIte,Nat.reduceEqDiff,Nat.reduceAdd,bx]);(· simp only[go_sem,reduceIte,Nat.reduceEqDiff,Nat.reduceAdd,bx,List.map];first|exact aA.refl _|assumption|(repeat (first|exact aA.nil|refine aA.cons (by first|exact ay.refl _|assumption|exact ay.cap|exact ay.any _) ?_))))
   |(refine az.bO ?_ ?_ c2 ?_;(· simp only[go_sem,reduceIte,Nat.reduceEqDiff,Nat.reduceAdd,bx]);(· simp only[go_sem,reduceIte,Nat.reduceEqDiff,Nat.reduceAdd,bx,List.map];first|exact aA.refl _|assumption|(repeat (first|exact aA.nil|refine aA.cons (by first|exact ay.refl _|assumption|exact ay.cap|exact ay.any _) ?_)))));apply az.evR));(· simp only[go_sem,reduceIte,Nat.reduceEqDiff,Nat.reduceAdd,bx,ax,Of,Od,Nat.reduceMul,Nat.reduceLeDiff,f];exact rfl))
  |(refine az.nil ⟨?_,?_⟩;(· first|trivial|simp[bg,aN,apart,aU]))
  |(apply Wp.cy;(· simp only[go_sem,reduceIte,Nat.reduceEqDiff,Nat.reduceAdd,bx,ax,Of,Od,Nat.reduceMul,Nat.reduceLeDiff,f];exact rfl);(· rfl))
  |refine Wp.skip ?_
  |refine Wp.label ?_
  |refine Wp.block ?_
  |refine Wp.exit ?_
  |refine Wp.seq ?_
  |exact y.1)):X:=h f c0 c1 c2 ⟨y⟩
theorem rn4{F C0 C1 C2 C3 X Y:Prop}(f:F)(c0:C0)(c1:C1)(c2:C2)(c3:C3)(y:Y)(h:F->C0->C1->C2->C3->Hid Y->X:=by
 intro f c0 c1 c2 c3 y;repeat (first
  |((first|apply Wp.bq|apply Wp.gS|((first
   |(refine az.bO ?_ ?_ c0 ?_;(· simp only[go_sem,reduceIte,Nat.reduceEqDiff,Nat.reduceAdd,bx]);(· simp only[go_sem,reduceIte,Nat.reduceEqDiff,Nat.reduceAdd,bx,List.map];first|exact aA.refl _|assumption|(repeat (first|exact aA.nil|refine aA.cons (by first|exact ay.refl _|assumption|exact ay.cap|exact ay.any _) ?_))))
   |(refine az.bO ?_ ?_ c1 ?_;(· simp only[go_sem,reduceIte,Nat.reduceEqDiff,Nat.reduceAdd,bx]);(· simp only[go_sem,reduceIte,Nat.reduceEqDiff,Nat.reduceAdd,bx,List.map];first|exact aA.refl _|assumption|(repeat (first|exact aA.nil|refine aA.cons (by first|exact ay.refl _|assumption|exact ay.cap|exact ay.any _) ?_))))
   |(refine az.bO ?_ ?_ c2 ?_;(· simp only[go_sem,reduceIte,Nat.reduceEqDiff,Nat.reduceAdd,bx]);(· simp only[go_sem,reduceIte,Nat.reduceEqDiff,Nat.reduceAdd,bx,List.map];first|exact aA.refl _|assumption|(repeat (first|exact aA.nil|refine aA.cons (by first|exact ay.refl _|assumption|exact ay.cap|exact ay.any _) ?_))))
   |(refine az.bO ?_ ?_ c3 ?_;(· simp only[go_sem,reduceIte,Nat.reduceEqDiff,Nat.reduceAdd,bx]);(· simp only[go_sem,reduceIte,Nat.reduceEqDiff,Nat.reduceAdd,bx,List.map];first|exact aA.refl _|assumption|(repeat (first|exact aA.nil|refine aA.cons (by first|exact ay.refl _|assumption|exact ay.cap|exact ay.any _) ?_)))));apply az.evR));(· simp only[go_sem,reduceIte,Nat.reduceEqDiff,Nat.reduceAdd,bx,ax,Of,Od,Nat.reduceMul,Nat.reduceLeDiff,f];exact rfl))
  |(refine az.nil ⟨?_,?_⟩;(· first|trivial|simp[bg,aN,apart,aU]))
  |(apply Wp.cy;(· simp only[go_sem,reduceIte,Nat.reduceEqDiff,Nat.reduceAdd,bx,ax,Of,Od,Nat.reduceMul,Nat.reduceLeDiff,f];exact rfl);(· rfl))
  |refine Wp.skip ?_
  |refine Wp.label ?_
  |refine Wp.block ?_
  |refine Wp.exit ?_
  |refine Wp.seq ?_
  |exact y.1)):X:=h f c0 c1 c2 c3 ⟨y⟩
theorem an0{F X Y:Prop}(f:F)(y:Y)(h:F->Hid Y->X:=by
 intro f y;repeat (first
  |((first|apply Wp.seqItems|apply Wp.items);(· simp only[go_sem,reduceIte,Nat.reduceEqDiff,Nat.reduceAdd,bx,ax,Of,Od,Nat.reduceMul,Nat.reduceLeDiff,f];exact rfl))
  |(refine az.nil ⟨?_,?_⟩;(· first|trivial|simp[bg,aN,apart,aU]))
  |(apply Wp.cy;(· simp only[go_sem,reduceIte,Nat.reduceEqDiff,Nat.reduceAdd,bx,ax,Of,Od,Nat.reduceMul,Nat.reduceLeDiff,f];exact rfl);(· rfl))
  |refine Wp.skip ?_
  |refine Wp.label ?_
  |refine Wp.block ?_
  |refine Wp.exit ?_
  |refine Wp.seq ?_
  |exact y.1)):X:=h f ⟨y⟩
theorem Lv{X Y:Prop}(y:Y)(h:Hid Y->X:=by
 intro y;repeat (first
  |((first|apply Wp.seqItems|apply Wp.items);(· simp only[go_sem,reduceIte,Nat.reduceEqDiff,Nat.reduceAdd,bx,ax,Of,Od,Nat.reduceMul,Nat.reduceLeDiff];exact rfl))
  |(refine az.nil ⟨?_,?_⟩;(· first|trivial|simp[bg,aN,apart,aU]))
  |(apply Wp.cy;(· simp only[go_sem,reduceIte,Nat.reduceEqDiff,Nat.reduceAdd,bx,ax,Of,Od,Nat.reduceMul,Nat.reduceLeDiff];exact rfl);(· rfl))
  |refine Wp.skip ?_
  |refine Wp.label ?_
  |refine Wp.block ?_
  |refine Wp.exit ?_
  |refine Wp.seq ?_
  |exact y.1)):X:=h ⟨y⟩
theorem an1{F C0 X Y:Prop}(f:F)(c0:C0)(y:Y)(h:F->C0->Hid Y->X:=by
 intro f c0 y;repeat (first
  |((first|apply Wp.seqItems|apply Wp.items|((first
   |(refine az.bO ?_ ?_ c0 ?_;(· simp only[go_sem,reduceIte,Nat.reduceEqDiff,Nat.reduceAdd,bx]);(· simp only[go_sem,reduceIte,Nat.reduceEqDiff,Nat.reduceAdd,bx,List.map];first|exact aA.refl _|assumption|(repeat (first|exact aA.nil|refine aA.cons (by first|exact ay.refl _|assumption|exact ay.cap|exact ay.any _) ?_)))));apply az.eval));(· simp only[go_sem,reduceIte,Nat.reduceEqDiff,Nat.reduceAdd,bx,ax,Of,Od,Nat.reduceMul,Nat.reduceLeDiff,f];exact rfl))
  |(refine az.nil ⟨?_,?_⟩;(· first|trivial|simp[bg,aN,apart,aU]))
  |(apply Wp.cy;(· simp only[go_sem,reduceIte,Nat.reduceEqDiff,Nat.reduceAdd,bx,ax,Of,Od,Nat.reduceMul,Nat.reduceLeDiff,f];exact rfl);(· rfl))
  |refine Wp.skip ?_
  |refine Wp.label ?_
  |refine Wp.block ?_
  |refine Wp.exit ?_
  |refine Wp.seq ?_
  |exact y.1)):X:=h f c0 ⟨y⟩
theorem an2{F C0 C1 X Y:Prop}(f:F)(c0:C0)(c1:C1)(y:Y)(h:F->C0->C1->Hid Y->X:=by
 intro f c0 c1 y;repeat (first
  |((first|apply Wp.seqItems|apply Wp.items|((first
   |(refine az.bO ?_ ?_ c0 ?_;(· simp only[go_sem,reduceIte,Nat.reduceEqDiff,Nat.reduceAdd,bx]);(· simp only[go_sem,reduceIte,Nat.reduceEqDiff,Nat.reduceAdd,bx,List.map];first|exact aA.refl _|assumption|(repeat (first|exact aA.nil|refine aA.cons (by first|exact ay.refl _|assumption|exact ay.cap|exact ay.any _) ?_))))
   |(refine az.bO ?_ ?_ c1 ?_;(· simp only[go_sem,reduceIte,Nat.reduceEqDiff,Nat.reduceAdd,bx]);(· simp only[go_sem,reduceIte,Nat.reduceEqDiff,Nat.reduceAdd,bx,List.map];first|exact aA.refl _|assumption|(repeat (first|exact aA.nil|refine aA.cons (by first|exact ay.refl _|assumption|exact ay.cap|exact ay.any _) ?_)))));apply az.eval));(· simp only[go_sem,reduceIte,Nat.reduceEqDiff,Nat.reduceAdd,bx,ax,Of,Od,Nat.reduceMul,Nat.reduceLeDiff,f];exact rfl))
  |(refine az.nil ⟨?_,?_⟩;(· first|trivial|simp[bg,aN,apart,aU]))
  |(apply Wp.cy;(· simp only[go_sem,reduceIte,Nat.reduceEqDiff,Nat.reduceAdd,bx,ax,Of,Od,Nat.reduceMul,Nat.reduceLeDiff,f];exact rfl);(· rfl))
  |refine Wp.skip ?_
  |refine Wp.label ?_
  |refine Wp.block ?_
  |refine Wp.exit ?_
  |refine Wp.seq ?_
  |exact y.1)):X:=h f c0 c1 ⟨y⟩
section
variable{P:Program}{N:Nat}
end
section
variable{P:Program}{N:Nat}{Q:aO->St->Prop}
structure On(l0:List Fr)(n0 m0:Nat)(l:List Fr)(n:Nat)(T:List Nat)(m:Nat):Prop where
 gn:n0<=n
 gm:m0<=m
 ok:Ok l n T m
 wi:Wi l0 n0 l
 ki:Ki l0 m0 l
end
section
variable{P:Program}
end
section
variable{P:Program}{N:Nat}
end
theorem aG{Y X:Prop}(y:Y)(h:Hid Y->X:=by
 intro y;refine Wp.ret ⟨trivial,_,rfl,?_⟩;simp only[go_sem,reduceIte,Nat.reduceEqDiff,Nat.reduceAdd,bx];exact y.1):X:=h ⟨y⟩
theorem xSu{X:Prop}(h:X:=by
 refine aM.tm (by simp only[aQ,go_sem,reduceIte,Nat.reduceEqDiff,Nat.reduceAdd,bx];and_intros<;>first|exact trivial|exact ay.refl _|exact ay.any _|(refine ay.int ?_;omega))):X:=h
theorem xSb{X:Prop}(h:X:=by
 simp only[aQ,go_sem,reduceIte,Nat.reduceEqDiff,Nat.reduceAdd,bx];and_intros<;>first|exact trivial|exact ay.refl _|exact ay.any _|(refine ay.int ?_;omega)):X:=h
theorem xA1{X:Prop}(h:X:=by simp only[go_sem,reduceIte,Nat.reduceEqDiff,Nat.reduceAdd,bx];exact rfl):X:=h
theorem xA2{X:Prop}(h:X:=by simp only[go_sem,reduceIte,Nat.reduceEqDiff,Nat.reduceAdd,bx]):X:=h
theorem xA4{X:Prop}(h:X:=by simp only[go_sem,reduceIte,Nat.reduceEqDiff,List.map];exact aA.refl _):X:=h
theorem xA5{X:Prop}(h:X:=by first|exact ay.refl _|assumption|exact ay.cap|exact ay.any _):X:=h
theorem xA6{X:Prop}(h:X:=by simp only[go_sem,reduceIte,Nat.reduceEqDiff,Nat.reduceAdd,bx,List.map];exact rfl):X:=h
theorem xA7{X:Prop}(h:X:=by simp only[go_sem,reduceIte,Nat.reduceEqDiff,List.map];exact rfl):X:=h
theorem xAb{X:Prop}(h:X:=by simp only[go_sem,reduceIte,Nat.reduceEqDiff,Nat.reduceAdd,bx,List.map];exact aA.refl _):X:=h
theorem xAc{X:Prop}(h:X:=by simp only[go_sem,reduceIte,Nat.reduceEqDiff,Nat.reduceAdd,bx,ax,Of,Od,Nat.reduceMul,Nat.reduceLeDiff];exact rfl):X:=h
theorem xAd{F X:Prop}(f:F)(h:F->X:=by intro f;simp only[go_sem,reduceIte,Nat.reduceEqDiff,Nat.reduceAdd,bx,ax,Of,Od,Nat.reduceMul,Nat.reduceLeDiff,f];exact rfl):X:=h f
theorem xAe{F X:Prop}(f:F)(h:F->X:=by intro f;simp only[go_sem,reduceIte,Nat.reduceEqDiff,Nat.reduceAdd,bx,f];exact rfl):X:=h f
theorem ixF{j n:Nat}(h:j<n)(hn:n<=9223372036854775806):decide ((j:Int)<(n:Int))=true/\(0:Int)<=(j:Int)/\(j:Int)<(n:Int)/\IntKind.i64.wrap ((j:Int)+1)=((j+1:Nat):Int):=
 ⟨N9 ae,ae,ae,by rw[IntWalk.i64_in _ ae];omega⟩
theorem ixE(n:Nat):decide ((n:Int)<(n:Int))=false:=N6 ae
theorem HQ{G:aT}{h:H}{w w':World}{id:Nat}{cs xs:List AV}{vs rest:List Value}{T0:TypeId}{fr:Nat × Nat}(R:bj G h w)(ho:h.objs id=some (.cells cs))(ht:h.toks=[])(hs:w.heap.size<=w'.heap.size)(hos:w'.os=w.os)(hou:w'.output=w.output)
  (hk:∀b,b<w.heap.size->b≠G.ι id->w'.heap[b]? =w.heap[b]?) (hf:bS w.heap[G.ι id]? w'.heap[G.ι id]?) (hl:vs.length=xs.length) (hE:∀G w,aE G w xs vs)
  (h1:∀v∈vs,One v) (hg:w'.heap[G.ι id]? =some (.cells (vs++rest).toArray T0 fr)) (hfr:fr.1=fr.2):
  Trans G w h G w' {h with objs:=upd h.objs id (some (.cells xs))}/\bj G {h with objs:=upd h.objs id (some (.cells xs))} w':=by
 obtain ⟨i1,i2,i3,i4⟩:=R.obj id _ ho;have hO:∀b,¬h.O G b->b≠G.ι id:=λb hh e=>hh ⟨id,_,ho,e.symm⟩;have hd:∀{j o},upd h.objs id (some (Obj.cells xs)) j=some o->(j=id/\o= .cells xs)\/(j≠id/\h.objs j=some o):=by
  intro j o a;simp only[upd] at a;split at a
  ·cases a;exact .inl ⟨by assumption,rfl⟩
  ·exact .inr ⟨‹_›,a⟩
 have T:Trans G w h G w' {h with objs:=upd h.objs id (some (.cells xs))}:=by
  constructor
  ·exact λ_ x=>x
  ·exact λ_ x=> .inl x
  ·exact λ_ _=>rfl
  ·exact λ_ x=>x
  ·exact λ_=> .inl
  ·exact λ_ _=>rfl
  ·exact N4 _
  ·exact N4 _
  ·exact hs
  ·exact hos
  ·exact hou
  ·intro b hb;by_cases e:b=G.ι id
   ·subst e;exact hf
   ·rw[hk b hb e];exact bS.refl _
  ·exact λb hb h _=>hk b hb (hO b h)
  ·exact λ_ _ _=>QL
  ·exact λ_ _ _ _=>rfl
  ·rintro b hb ⟨t,htt,_⟩;simp[ht] at htt
  ·rintro b hb ⟨j,o,a,e⟩;rcases hd a with ⟨rfl,-⟩|⟨x1,x2⟩
   ·exact ⟨_,_,ho,e⟩
   ·exact ⟨j,o,x2,e⟩
  ·rintro b _ ⟨t,htt,_⟩;simp[ht] at htt
  ·intro j o a;rcases hd a with ⟨rfl,-⟩|⟨x1,x2⟩
   ·exact .inl ⟨_,ho⟩
   ·exact .inl ⟨o,x2⟩
  ·exact λt x=> .inl x
 refine ⟨T,?_⟩;constructor
 ·intro j o a;rcases hd a with ⟨rfl,rfl⟩|⟨x1,x2⟩
  ·exact ⟨i1,i2,OT i3 hs,vs,rest,T0,fr,hg,hE _ _,hfr,h1⟩
  ·obtain ⟨r1,r2,r3,r4⟩:=R.obj j o x2;have hne:G.ι j≠G.ι id:=λe=>x1 (R.inj _ _ _ _ x2 ho e);refine ⟨r1,r2,OT r3 hs,?_⟩;rw[hk _ r3 hne];cases o with
   |cells cs=>
    obtain ⟨vs,rest,T',fr,y1,y2,y3⟩:=r4;exact ⟨vs,rest,T',fr,y1,aE.mono R T _ _ y2,y3⟩
   |map es=>
    obtain ⟨en,clock,y1,y2⟩:=r4;exact ⟨en,clock,y1,Entries.mono R T _ _ y2⟩
   |loop N t ps asg body st pend=>
    obtain ⟨r,y1,y2,y3,y4⟩:=r4;exact ⟨r,y1,y2,λi=>aC.mono R T _ _ (y3 i),y4⟩
   |raw c=>exact r4
   |bk c=>exact r4
 ·intro i j o o' a b e;have ha:∃p,h.objs i=some p:=by
   rcases hd a with ⟨rfl,-⟩|⟨-,x⟩
   ·exact ⟨_,ho⟩
   ·exact ⟨_,x⟩
  have hb:∃p,h.objs j=some p:=by
   rcases hd b with ⟨rfl,-⟩|⟨-,x⟩
   ·exact ⟨_,ho⟩
   ·exact ⟨_,x⟩
  obtain ⟨p,hp⟩:=ha;obtain ⟨q,hq⟩:=hb;exact R.inj _ _ _ _ hp hq e
 ·exact λt x=>by simp[ht] at x
 ·exact λt x=>by simp[ht] at x
section
variable{P:Program}{N:Nat}{Q:aO->St->Prop}
end
section
variable{P:Program}{N:Nat}{Q:aO->St->Prop}
def Lw(id:Nat)(cs:List AV)(q args:List AV):Prop:=∀(G:aT)(h:H)(w:World)(vs:List Value),bj G h w->h.objs id=some (.cells cs)->aE G w q vs->aE (G.frz h λ_=>true) w args vs
def UpF(h:H)(q r:AV):Prop:=ay q r\/∃(id:Nat)(cs:List AV),h.objs id=some (.cells cs)/\Lw id cs [q] [r]
theorem bB.upF{f:FuncId}{args:List AV}{h h':H}{q r:AV}(hc:bB P f args h q h')(u:UpF h' q r):bB P f args h r (h'.drop λ_=>true):=by
 intro G w vs hv R F;refine (hc G w vs hv R F).mono ?_;rintro e w' ⟨v,G',rfl,T,R',V⟩;refine ⟨v,G'.frz h' λ_=>true,rfl,T.trans R R' (bC _),mI R' _,?_⟩;rcases u with hs|⟨id,cs,ho,hl⟩
 ·exact hs _ _ _ (aC.mono R' (bC _) _ _ V)
 ·have:=hl G' h' w' [v] R' ho (by simp only[aE];exact ⟨v,[],rfl,V,rfl⟩);simp only[aE] at this;obtain ⟨v',us,e,h1,-⟩:=this;have:v=v':=by simpa using (List.cons.inj e).1
  rw[this];exact h1
theorem aV.vi{f:FuncId}{N:Nat}{ac:AC}{args:List AV}{ds:List RV}{r:AV}(hF:aV P f N ac ds)(hl:args.length<=N)(ha:aJ args=true)(hp:aW r=true)(hw:Wp P N ac ⟨fH args,H0 0 0⟩ λe s'=>jf e/\∃q,je ds s'.t s'.h=some q/\UpF s'.h q r):aI P f args r:=by
 obtain ⟨r',h',cI,hs⟩:=hF.fe (Q:=λr' h'=>UpF h' r' r) hl hw;exact (cI.upF hs).Bi (cP _ ha) (ay.refl _) (dV _ hp)
theorem Trans.JM{G G':aT}{w w':World}{h h':H}(T:Trans G w h G' w' h'){f:Nat->Option Obj}(hf:∀j o,f j=some o->∃o',h'.objs j=some o'):Trans G w h G' w' {h' with objs:=f}:=
 {T with
  O_new:=λB hB x=>T.O_new B hB (by obtain ⟨id,o,ho,e⟩:=x;obtain ⟨o',ho'⟩:=hf _ _ ho;exact ⟨id,o',ho',e⟩)
  T_new:=λB hB x=>T.T_new B hB x
  objs_new:=λj o hj=>by obtain ⟨o',ho'⟩:=hf _ _ hj;exact T.objs_new j o' ho'
  n_le:=T.n_le
  m_le:=T.m_le
  dom_new:=T.dom_new
  tdom_new:=T.tdom_new
  toks_new:=T.toks_new}
theorem aM.NO(t:Tm)(h:H)(id o1:Nat){rows:List (List AV)}{sz:Nat}{c:Option Nat}(hr:∀x∈rows,x.length=sz)(hne:o1≠id)(ho:h.objs id=some (.cells rows.flatten))(h1:h.objs o1=some (.cells [.tsl sz id 0 rows.length c])):
  aM ⟨t,h⟩ ⟨λj=>unT h (λk=>decide (k=id)) (t j),{h.drop (λk=>decide (k=id)) with objs:=upd (h.drop λk=>decide (k=id)).objs o1 (some (.cells [.sl sz (rows.map .agg) .any]))}⟩ where
 n:=N4 _
 m:=N4 _
 go:=λN G w a r _=>by
  have R:=mI r.h (λk=>decide (k=id));have hd1:(h.drop λk=>decide (k=id)).objs o1=some (.cells [.tsl sz id 0 rows.length c]):=by
   simp only[H.drop];rw[Ob (by simpa using hne)];exact h1
  have hex:∀j o,upd (h.drop λk=>decide (k=id)).objs o1 (some (.cells [.sl sz (rows.map .agg) .any])) j=some o->∃o',(h.drop λk=>decide (k=id)).objs j=some o':=λj o hj=>by
   simp only[upd] at hj;by_cases e:j=o1
   ·subst e;exact ⟨_,hd1⟩
   ·rw[Ob e] at hj;exact ⟨o,hj⟩
  have T2:=Trans.JM (bC (G:=G) (h:=h) (w:=w) (λk=>decide (k=id))) hex;refine ⟨G.frz h _,T2,⟨r.size,λj=>oC r.h _ _ _ (r.t j),⟨λj o hj=>?_,λi j o o' a b e=>?_,R.tok,R.tinj⟩,r.df.mono T2⟩⟩
  ·simp only[upd] at hj;by_cases e:j=o1
   ·subst e;rw[Oi rfl] at hj;cases hj;obtain ⟨p1,p2,p3,p4⟩:=R.obj _ _ hd1;refine ⟨p1,p2,p3,?_⟩;obtain ⟨-,-,-,vs,rest,T,fr,y1,y2,y3,y4⟩:=r.h.obj _ _ h1;refine ⟨vs,rest,T,fr,y1,?_,y3,y4⟩;simp only[aE] at y2 |-;obtain ⟨v,us,e1,e2,e3⟩:=y2;exact ⟨v,us,e1,rT r.h hr ho ah e2,e3⟩
   ·rw[Ob e] at hj;exact R.obj j o hj
  ·obtain ⟨o2,a2⟩:=hex _ _ a;obtain ⟨o3,b2⟩:=hex _ _ b;exact R.inj _ _ _ _ a2 b2 e
end
end Go.Av
end
section
namespace Go.Av
namespace TR
variable{α:Type}
end TR
end Go.Av
end
section
namespace Go.Av
section
variable{P:Program}{N:Nat}{ops:Array Oper}
def pt(P:Program)(ops:Array Oper)(i:Nat)(o:Oper)(t:Tm)(h:H)(x:AV)(h':H):Prop:=
 (h.n<=h'.n/\h.m<=h'.m)/\∀G w a,cG G w t a->bj G h w->cB G h h'->∀(K:Act->World->Prop) Q,
  (∀G' w' v,Trans G w h G' w' h'->bj G' h' w'->aC G' w' x v->K (a.put o.dst v) w')->∀ro,wpOpIn (rd ro) 0 P ops Q i K a w
theorem pt.of{i:Nat}{o:Oper}{t:Tm}{h h1 h1' h':H}{x:AV}{en:Ent}(tc:Touch h h1 h1' h' en)(run:iH P ops i o t h1 x h1'):pt P ops i o t h x h':=by
 have e3:h'.n=h1'.n:=by rw[tc.eq];rfl
 have e4:h'.m=h1'.m:=by rw[tc.eq];rfl
 have e1:=tc.n;have e2:=tc.m;have l1:=tc.le;have l2:=tc.lem;refine ⟨⟨ae,ae⟩,λG w a ht R U K Q hK ro=>?_⟩;have F:cB G h1 h1':=U.sub ae ae ae ae;refine run G w a (λk _=>ht k) (R.sub tc.sub) F _ Q (λG' w' v T1 R1 V=>?_) ro;obtain ⟨R2,T2⟩:=frame R tc.sub tc.n tc.m R1 T1 F;rw[<-tc.eq] at R2 T2;exact hK G' w' v T2 R2 V
theorem pt.full{i:Nat}{o:Oper}{t:Tm}{h h':H}{x:AV}(hn:h.n<=h'.n/\h.m<=h'.m)(run:iH P ops i o t h x h'):pt P ops i o t h x h':=
 ⟨hn,λG w a ht R U K Q hK ro=>run G w a (λk _=>ht k) R U K Q hK ro⟩
inductive nI(P:Program)(ops:Array Oper):Nat->Tm->H->Tm->H->Prop where
 |nil {i:Nat} {t:Tm} {h:H} (hi:i=ops.size):nI P ops i t h t h
 |cons {i:Nat} {o:Oper} {t t':Tm} {h h2 h':H} {x:AV} (ho:ops[i]? =some o) (run:pt P ops i o t h x h2) (rest:nI P ops (i+1) (bL t o.dst x) h2 t' h'):nI P ops i t h t' h'
theorem nI.nm{i:Nat}{t t':Tm}{h h':H}(c:nI P ops i t h t' h'):h.n<=h'.n/\h.m<=h'.m:=by
 induction c with
 |nil _=>exact ⟨N4 _,N4 _⟩
 |cons ho run rest ih=>have:=run.1;omega
theorem zo(ro:Option Nat){Q:Exit->Act->World->Prop}(hN:∀(i:Nat) o d,ops[i]? =some o->o.dst=some d->d<N):∀{i:Nat}{t t':Tm}{h h':H},nI P ops i t h t' h'->
  ∀(G:aT)(w:World)(a:Act),a.tmps.size=N->cG G w t a->bj G h w->cB G h h'->
   (∀G' w' a',Trans G w h G' w' h'->cG G' w' t' a'->bj G' h' w'->a'.tmps.size=N->a'.defers=a.defers->Q .normal a' w')->wpOpsIn (rd ro) 0 P ops Q (List.range' i (ops.size - i)) a w:=by
 intro i t t' h h' hc;induction hc with
 |nil hi=>
  intro G w a hs ht R U hq;subst hi;simp only[Nat.sub_self,List.range'_zero,wpOpsIn];exact hq G w a (Trans.refl _ _ _) ht R hs rfl
 | @cons i o t t' h h2 h' x ho run rest ih=>
  intro G w a hs ht R U hq;have hi:i<ops.size:=(O5.1 ho).1;have:ops.size - i=(ops.size - (i+1))+1:=by omega
  rw[this,Qz,wpOpsIn_cons];have nm:=rest.nm;have nm2:=run.1;refine run.2 G w a ht R (U.sub (N4 _) nm.1 (N4 _) nm.2) _ Q (λG' w' v T2 R2 V=>?_) ro;refine ih G' w' _ (by rw[lS];exact hs) (ow (ht.mono R T2) V λk hk=>by rw[hs];exact hN i o k ho hk) R2 (U.step T2) λG'' w'' a'' T3 h1 h2 h3 h4=>?_;exact hq G'' w'' a'' (T2.trans R R2 T3) h1 h2 h3 (h4.trans (put_defers _ _ _))
def aw(P:Program)(N:Nat)(items:List aX)(t:Tm)(h:H)(K:Tm->H->Prop):Prop:=
 ∀ops i,i<=ops.size->dL P N ops (ops.toList.drop i)=some items->∃t' h',nI P ops i t h t' h'/\K t' h'
theorem aw.nil{t:Tm}{h:H}{K:Tm->H->Prop}(hk:K t h):aw P N [] t h K:=by
 intro ops i hi hc;have:i=ops.size:=by
  cases hd:ops.toList.drop i with
  |nil=>have:=List.drop_eq_nil_iff.1 hd;simp at this;omega
  |cons a l=>rw[hd] at hc;simp only[dL] at hc;split at hc<;>cases hc
 exact ⟨t,h,.nil this,hk⟩
theorem ug{it:aX}{o:Oper}(hit:bP P N ops o=some it):it.dst=o.dst:=by
 unfold bP at hit;split at hit
 ·split at hit<;>cases hit;rfl
 ·cases hit
theorem aw.step{it:aX}{its:List aX}{t:Tm}{h h':H}{x:AV}{K:Tm->H->Prop}
  (run:∀(ops:Array Oper) i o,ops[i]? =some o->bP P N ops o=some it->pt P ops i o t h x h') (rest:aw P N its (bL t it.dst x) h' K):aw P N (it::its) t h K:=by
 intro ops i hi hc;obtain ⟨o,ho,hit,hi',hc'⟩:=cD hi hc;obtain ⟨t',hh',ch,hk⟩:=rest ops (i+1) hi' hc';exact ⟨t',hh',.cons ho (run ops i o ho hit) (by rw[<-ug hit];exact ch),hk⟩
theorem Wp.zp{items:List aX}{s:St}{Q:aO->St->Prop}(h:aw P N items s.t s.h λt' h'=>Q .normal ⟨t',h'⟩):Wp P N (.reg items none) s Q:=by
 intro code hc;obtain ⟨id,ops,draw,rfl,hi,hd⟩:=ox hc;obtain ⟨t',h',ch,hq⟩:=h ops 0 (Ot _) (by simpa using hi);have nm:=ch.nm;obtain ⟨cl,ci⟩:=jc hi;have hN:∀(i:Nat) o d,ops[i]? =some o->o.dst=some d->d<N:=by
  intro i o d ho hdd;have hlt:i<ops.size:=(O5.1 ho).1;have hit:i<items.length:=by rw[cl];simpa using hlt
  have:=ci i o items[i] (by simpa using ho) (N5 hit);generalize items[i]=it at this;unfold bP at this;split at this
  ·split at this<;>cases this;rename_i hcond;simp only[Oh] at hcond;have:=hcond.1;rw[hdd] at this;simpa using this
  ·cases this
 refine ⟨.normal,⟨t',h'⟩,⟨nm,λro okc G w a r F=>?_⟩,hq⟩;rcases hd with ⟨rfl,-⟩|⟨-,-,-,hn⟩
 ·refine wpIn_region ?_;rw[List.range_eq_range'];have:=zo ro (Q:=λe' a' w'=>aO.normal.eZ e'/\lX w a.defers a'.defers/\∃G',Trans G w s.h G' w' h'/\Rel N ⟨t',h'⟩ G' w' a') hN ch G w a r.size r.t r.h F
   (λG' w' a' T1 t1 R1 s1 d1=>⟨trivial,by rw[d1];exact .refl,G',T1,⟨s1,t1,R1,by rw[d1];exact r.df.mono T1⟩⟩)
  simpa using this
 ·cases hn
end
section
variable{P:Program}{T:FT}
def mU(full:Bool)(h h1 h1' h':H)(en:Ent):Prop:=Touch h h1 h1' h' en\/(full=true/\h1=h/\h1'=h'/\h.n<=h'.n/\h.m<=h'.m)
theorem mU.oF{N:Nat}{ops:Array Oper}{full:Bool}{i:Nat}{o:Oper}{t:Tm}{h h1 h1' h':H}{x:AV}{en:Ent}(hn:mU full h h1 h1' h' en)(run:iH P ops i o t h1 x h1'):pt P ops i o t h x h':=by
 rcases hn with tc|⟨-,rfl,rfl,a,b⟩
 ·exact pt.of tc run
 ·exact pt.full ⟨a,b⟩ run
end
section
variable{P:Program}{N:Nat}
theorem aw.evA:∀{items its:List aX}{t t':Tm}{h h':H}{log log':List Ent}{K:Tm->H->Prop},cK items t h log=(its,t',h',log')->aw P N its t' h' K->aw P N items t h K
 |[],its,t,t',h,h',log,log',K,he,hw=>by simp only[cK,Ow] at he;obtain ⟨rfl,rfl,rfl,rfl⟩:=he;exact hw
 |it::items,its,t,t',h,h',log,log',K,he,hw=>by
  simp only[cK] at he;split at he
  ·rename_i hg;split at he
   ·rename_i x h2 en hx;refine aw.step (λops i o ho hit=>?_) (aw.evA he hw);obtain ⟨h1,h1',tc,run⟩:=ja ho hit hg hx;exact (mU.oF (N:=N) (full:=false) (.inl tc) run)
   ·simp only[Ow] at he;obtain ⟨rfl,rfl,rfl,rfl⟩:=he;exact hw
  ·rename_i hg;exact aw.step (λops i o ho hit=>mU.oF (N:=N) (full:=false) (.inl (bF h)) (gR ho hit hg)) (aw.evA he hw)
  ·simp only[Ow] at he;obtain ⟨rfl,rfl,rfl,rfl⟩:=he;exact hw
theorem aw.evF{items its:List aX}{t t':Tm}{h h':H}{log:List Ent}{K:Tm->H->Prop}(he:iI items t h []=some (its,t',h',log))(hw:aw P N its t' h' K):aw P N items t h K:=aw.evA (bJ he) hw
theorem Wp.cA{items its:List aX}{s:St}{Q:aO->St->Prop}{t':Tm}{h':H}{log:List Ent}(he:iI items s.t s.h []=some (its,t',h',log))(h:aw P N its t' h' λt h=>Q .normal ⟨t,h⟩):Wp P N (.reg items none) s Q:=Wp.zp (aw.evF he h)
theorem Wp.aH{items its:List aX}{y:AC}{s:St}{Q:aO->St->Prop}{t':Tm}{h':H}{log:List Ent}(he:iI items s.t s.h []=some (its,t',h',log))(h:aw P N its t' h' λt h=>Wp P N y ⟨t,h⟩ Q):Wp P N (.seq (.reg items none) y) s Q:=Wp.seq (Wp.cA he h)
theorem aw.jb{dst:Option Nat}{g:Option (Nat × Bool)}{f:FuncId}{l:List Opd}{its:List aX}{t:Tm}{h h':H}{K:Tm->H->Prop}{vals:List AV}{r:AV}(hg:guardOf t g=some true)(hs:aA (l.map (ev t)) vals)(hn:h.n<=h'.n/\h.m<=h'.m)(hc:bB P f vals h r h')
  (rest:aw P N its (bL t dst r) h' K):aw P N (⟨dst,g,.call f l⟩::its) t h K:=
 aw.step (λops i o ho hit=>pt.full hn (eG ho hit hg rfl hs hc)) rest
theorem aw.bO{dst:Option Nat}{g:Option (Nat × Bool)}{f:FuncId}{l:List Opd}{its:List aX}{t:Tm}{h:H}{K:Tm->H->Prop}{vals:List AV}{r:AV}(hg:guardOf t g=some true)(hs:aA (l.map (ev t)) vals)(hc:aI P f vals r)
  (rest:aw P N its (bL t dst r) h K):aw P N (⟨dst,g,.call f l⟩::its) t h K:=
 aw.step (λops i o ho hit=>mU.oF (N:=N) (full:=false) (.inl (bF h)) (eG ho hit hg rfl hs (hc h.n h.m))) rest
theorem bB.frame{f:FuncId}{args:List AV}{h h1 h1':H}{r:AV}(hs:h1.sub h)(hn:h1.n=h.n)(hm:h1.m=h.m)(ln:h1.n<=h1'.n)(lm:h1.m<=h1'.m)(hc:bB P f args h1 r h1'):bB P f args h r (h.patch h1 h1'):=by
 intro G w vs hv R F;have F1:cB G h1 h1':=⟨λid a b=>F.1 id ae b,λt a b=>F.2 t ae b⟩;refine (hc G w vs hv (R.sub hs) F1).mono ?_;rintro e w' ⟨v,G',rfl,T,R',V⟩;obtain ⟨R2,T2⟩:=Av.frame R hs hn hm R' T F1;exact ⟨v,G',rfl,T2,R2,V⟩
theorem aV.kX{f:FuncId}{ac:AC}{args:List AV}{h h':H}{ds:List RV}{r:AV}(hF:aV P f N ac ds)(hl:args.length<=N)(hw:Wp P N ac ⟨fH args,h⟩ λe s'=>jf e/\∃q,je ds s'.t s'.h=some q/\ay q r/\s'.h=h'):bB P f args h r h':=by
 obtain ⟨q,h2,hc,hs,rfl⟩:=hF.fe (Q:=λq h2=>ay q r/\h2=h') hl hw;intro G w vs hv R F;refine (hc G w vs hv R F).mono ?_;rintro e w' ⟨v,G',rfl,T,R',V⟩;exact ⟨v,G',rfl,T,R',hs G' w' v V⟩
end
theorem rf0{F X Y:Prop}(f:F)(y:Y)(h:F->Hid Y->X:=by
 intro f y;repeat (first
  |refine aw.nil ?_
  |((first|apply Wp.aH|apply Wp.cA);(· simp only[go_sem,reduceIte,Nat.reduceEqDiff,Nat.reduceAdd,bx,ax,Of,Od,Nat.reduceMul,Nat.reduceLeDiff,f];exact rfl))
  |(apply Wp.cy;(· simp only[go_sem,reduceIte,Nat.reduceEqDiff,Nat.reduceAdd,bx,ax,Of,Od,Nat.reduceMul,Nat.reduceLeDiff,f];exact rfl);(· rfl))
  |refine Wp.skip ?_
  |refine Wp.label ?_
  |refine Wp.block ?_
  |refine Wp.exit ?_
  |refine Wp.seq ?_
  |exact y.1)):X:=h f ⟨y⟩
theorem dI{X Y:Prop}(y:Y)(h:Hid Y->X:=by
 intro y;repeat (first
  |refine aw.nil ?_
  |((first|apply Wp.aH|apply Wp.cA);(· simp only[go_sem,reduceIte,Nat.reduceEqDiff,Nat.reduceAdd,bx,ax,Of,Od,Nat.reduceMul,Nat.reduceLeDiff];exact rfl))
  |(apply Wp.cy;(· simp only[go_sem,reduceIte,Nat.reduceEqDiff,Nat.reduceAdd,bx,ax,Of,Od,Nat.reduceMul,Nat.reduceLeDiff];exact rfl);(· rfl))
  |refine Wp.skip ?_
  |refine Wp.label ?_
  |refine Wp.block ?_
  |refine Wp.exit ?_
  |refine Wp.seq ?_
  |exact y.1)):X:=h ⟨y⟩
theorem rf1{F C0 X Y:Prop}(f:F)(c0:C0)(y:Y)(h:F->C0->Hid Y->X:=by
 intro f c0 y;repeat (first
  |refine aw.nil ?_
  |((first|apply Wp.aH|apply Wp.cA|((first
   |(refine aw.bO ?_ ?_ c0 ?_;(· simp only[go_sem,reduceIte,Nat.reduceEqDiff,Nat.reduceAdd,bx]);(· simp only[go_sem,reduceIte,Nat.reduceEqDiff,Nat.reduceAdd,bx,List.map,go_sem,reduceIte,Nat.reduceEqDiff,Nat.reduceAdd,bx,ax,Of,Od,Nat.reduceMul,Nat.reduceLeDiff,f];first|exact aA.refl _|assumption|(repeat (first|exact aA.nil|refine aA.cons (by first|exact ay.refl _|assumption|exact ay.cap|exact ay.any _) ?_)))));apply aw.evF));(· simp only[go_sem,reduceIte,Nat.reduceEqDiff,Nat.reduceAdd,bx,ax,Of,Od,Nat.reduceMul,Nat.reduceLeDiff,f];exact rfl))
  |(apply Wp.cy;(· simp only[go_sem,reduceIte,Nat.reduceEqDiff,Nat.reduceAdd,bx,ax,Of,Od,Nat.reduceMul,Nat.reduceLeDiff,f];exact rfl);(· rfl))
  |refine Wp.skip ?_
  |refine Wp.label ?_
  |refine Wp.block ?_
  |refine Wp.exit ?_
  |refine Wp.seq ?_
  |exact y.1)):X:=h f c0 ⟨y⟩
theorem tA{C0 X Y:Prop}(c0:C0)(y:Y)(h:C0->Hid Y->X:=by
 intro c0 y;repeat (first
  |refine aw.nil ?_
  |((first|apply Wp.aH|apply Wp.cA|((first
   |(refine aw.bO ?_ ?_ c0 ?_;(· simp only[go_sem,reduceIte,Nat.reduceEqDiff,Nat.reduceAdd,bx]);(· simp only[go_sem,reduceIte,Nat.reduceEqDiff,Nat.reduceAdd,bx,List.map,go_sem,reduceIte,Nat.reduceEqDiff,Nat.reduceAdd,bx,ax,Of,Od,Nat.reduceMul,Nat.reduceLeDiff];first|exact aA.refl _|assumption|(repeat (first|exact aA.nil|refine aA.cons (by first|exact ay.refl _|assumption|exact ay.cap|exact ay.any _) ?_)))));apply aw.evF));(· simp only[go_sem,reduceIte,Nat.reduceEqDiff,Nat.reduceAdd,bx,ax,Of,Od,Nat.reduceMul,Nat.reduceLeDiff];exact rfl))
  |(apply Wp.cy;(· simp only[go_sem,reduceIte,Nat.reduceEqDiff,Nat.reduceAdd,bx,ax,Of,Od,Nat.reduceMul,Nat.reduceLeDiff];exact rfl);(· rfl))
  |refine Wp.skip ?_
  |refine Wp.label ?_
  |refine Wp.block ?_
  |refine Wp.exit ?_
  |refine Wp.seq ?_
  |exact y.1)):X:=h c0 ⟨y⟩
theorem rf2{F C0 C1 X Y:Prop}(f:F)(c0:C0)(c1:C1)(y:Y)(h:F->C0->C1->Hid Y->X:=by
 intro f c0 c1 y;repeat (first
  |refine aw.nil ?_
  |((first|apply Wp.aH|apply Wp.cA|((first
   |(refine aw.bO ?_ ?_ c0 ?_;(· simp only[go_sem,reduceIte,Nat.reduceEqDiff,Nat.reduceAdd,bx]);(· simp only[go_sem,reduceIte,Nat.reduceEqDiff,Nat.reduceAdd,bx,List.map,go_sem,reduceIte,Nat.reduceEqDiff,Nat.reduceAdd,bx,ax,Of,Od,Nat.reduceMul,Nat.reduceLeDiff,f];first|exact aA.refl _|assumption|(repeat (first|exact aA.nil|refine aA.cons (by first|exact ay.refl _|assumption|exact ay.cap|exact ay.any _) ?_))))
   |(refine aw.bO ?_ ?_ c1 ?_;(· simp only[go_sem,reduceIte,Nat.reduceEqDiff,Nat.reduceAdd,bx]);(· simp only[go_sem,reduceIte,Nat.reduceEqDiff,Nat.reduceAdd,bx,List.map,go_sem,reduceIte,Nat.reduceEqDiff,Nat.reduceAdd,bx,ax,Of,Od,Nat.reduceMul,Nat.reduceLeDiff,f];first|exact aA.refl _|assumption|(repeat (first|exact aA.nil|refine aA.cons (by first|exact ay.refl _|assumption|exact ay.cap|exact ay.any _) ?_)))));apply aw.evF));(· simp only[go_sem,reduceIte,Nat.reduceEqDiff,Nat.reduceAdd,bx,ax,Of,Od,Nat.reduceMul,Nat.reduceLeDiff,f];exact rfl))
  |(apply Wp.cy;(· simp only[go_sem,reduceIte,Nat.reduceEqDiff,Nat.reduceAdd,bx,ax,Of,Od,Nat.reduceMul,Nat.reduceLeDiff,f];exact rfl);(· rfl))
  |refine Wp.skip ?_
  |refine Wp.label ?_
  |refine Wp.block ?_
  |refine Wp.exit ?_
  |refine Wp.seq ?_
  |exact y.1)):X:=h f c0 c1 ⟨y⟩
theorem NP{C0 C1 X Y:Prop}(c0:C0)(c1:C1)(y:Y)(h:C0->C1->Hid Y->X:=by
 intro c0 c1 y;repeat (first
  |refine aw.nil ?_
  |((first|apply Wp.aH|apply Wp.cA|((first
   |(refine aw.bO ?_ ?_ c0 ?_;(· simp only[go_sem,reduceIte,Nat.reduceEqDiff,Nat.reduceAdd,bx]);(· simp only[go_sem,reduceIte,Nat.reduceEqDiff,Nat.reduceAdd,bx,List.map,go_sem,reduceIte,Nat.reduceEqDiff,Nat.reduceAdd,bx,ax,Of,Od,Nat.reduceMul,Nat.reduceLeDiff];first|exact aA.refl _|assumption|(repeat (first|exact aA.nil|refine aA.cons (by first|exact ay.refl _|assumption|exact ay.cap|exact ay.any _) ?_))))
   |(refine aw.bO ?_ ?_ c1 ?_;(· simp only[go_sem,reduceIte,Nat.reduceEqDiff,Nat.reduceAdd,bx]);(· simp only[go_sem,reduceIte,Nat.reduceEqDiff,Nat.reduceAdd,bx,List.map,go_sem,reduceIte,Nat.reduceEqDiff,Nat.reduceAdd,bx,ax,Of,Od,Nat.reduceMul,Nat.reduceLeDiff];first|exact aA.refl _|assumption|(repeat (first|exact aA.nil|refine aA.cons (by first|exact ay.refl _|assumption|exact ay.cap|exact ay.any _) ?_)))));apply aw.evF));(· simp only[go_sem,reduceIte,Nat.reduceEqDiff,Nat.reduceAdd,bx,ax,Of,Od,Nat.reduceMul,Nat.reduceLeDiff];exact rfl))
  |(apply Wp.cy;(· simp only[go_sem,reduceIte,Nat.reduceEqDiff,Nat.reduceAdd,bx,ax,Of,Od,Nat.reduceMul,Nat.reduceLeDiff];exact rfl);(· rfl))
  |refine Wp.skip ?_
  |refine Wp.label ?_
  |refine Wp.block ?_
  |refine Wp.exit ?_
  |refine Wp.seq ?_
  |exact y.1)):X:=h c0 c1 ⟨y⟩
theorem wY:IntKind.bits .u8=8/\IntKind.bits .u16=16/\IntKind.bits .u32=32/\IntKind.bits .u64=64/\IntKind.bits .i8=8/\IntKind.bits .i16=16/\IntKind.bits .i32=32/\IntKind.bits .i64=64:=⟨rfl,rfl,rfl,rfl,rfl,rfl,rfl,rfl⟩
theorem cM{F X:Prop}(f:F)(h:F->X:=by
 intro f;simp only[aQ,go_sem,reduceIte,Nat.reduceEqDiff,Nat.reduceAdd,bx,f];and_intros<;>first|exact trivial|exact ay.refl _|exact ay.any _|(refine ay.int ?_;omega)):X:=h f
theorem vj{F X:Prop}(f:F)(h:F->X:=by
 intro f;refine aM.tm (by simp only[aQ,go_sem,reduceIte,Nat.reduceEqDiff,Nat.reduceAdd,bx,f];and_intros<;>first|exact trivial|exact ay.refl _|exact ay.any _|(refine ay.int ?_;omega))):X:=h f
theorem Lx{X:Prop}(h:X:=by
 refine aM.tmN ae (OLe.none _) (by simp only[aQ,go_sem,reduceIte,Nat.reduceEqDiff,Nat.reduceAdd,bx];and_intros<;>first|exact trivial|exact ay.refl _|exact ay.any _|(refine ay.int ?_;omega))):X:=h
theorem rn8{F C0 C1 C2 C3 C4 C5 C6 C7 X Y:Prop}(f:F)(c0:C0)(c1:C1)(c2:C2)(c3:C3)(c4:C4)(c5:C5)(c6:C6)(c7:C7)(y:Y)(h:F->C0->C1->C2->C3->C4->C5->C6->C7->Hid Y->X:=by
 intro f c0 c1 c2 c3 c4 c5 c6 c7 y;repeat (first
  |((first|apply Wp.bq|apply Wp.gS|((first
   |(refine az.bO ?_ ?_ c0 ?_;(· simp only[go_sem,reduceIte,Nat.reduceEqDiff,Nat.reduceAdd,bx]);(· simp only[go_sem,reduceIte,Nat.reduceEqDiff,Nat.reduceAdd,bx,List.map];first|exact aA.refl _|assumption|(repeat (first|exact aA.nil|refine aA.cons (by first|exact ay.refl _|assumption|exact ay.cap|exact ay.any _) ?_))))
   |(refine az.bO ?_ ?_ c1 ?_;(· simp only[go_sem,reduceIte,Nat.reduceEqDiff,Nat.reduceAdd,bx]);(· simp only[go_sem,reduceIte,Nat.reduceEqDiff,Nat.reduceAdd,bx,List.map];first|exact aA.refl _|assumption|(repeat (first|exact aA.nil|refine aA.cons (by first|exact ay.refl _|assumption|exact ay.cap|exact ay.any _) ?_))))
   |(refine az.bO ?_ ?_ c2 ?_;(· simp only[go_sem,reduceIte,Nat.reduceEqDiff,Nat.reduceAdd,bx]);(· simp only[go_sem,reduceIte,Nat.reduceEqDiff,Nat.reduceAdd,bx,List.map];first|exact aA.refl _|assumption|(repeat (first|exact aA.nil|refine aA.cons (by first|exact ay.refl _|assumption|exact ay.cap|exact ay.any _) ?_))))
   |(refine az.bO ?_ ?_ c3 ?_;(· simp only[go_sem,reduceIte,Nat.reduceEqDiff,Nat.reduceAdd,bx]);(· simp only[go_sem,reduceIte,Nat.reduceEqDiff,Nat.reduceAdd,bx,List.map];first|exact aA.refl _|assumption|(repeat (first|exact aA.nil|refine aA.cons (by first|exact ay.refl _|assumption|exact ay.cap|exact ay.any _) ?_))))
   |(refine az.bO ?_ ?_ c4 ?_;(· simp only[go_sem,reduceIte,Nat.reduceEqDiff,Nat.reduceAdd,bx]);(· simp only[go_sem,reduceIte,Nat.reduceEqDiff,Nat.reduceAdd,bx,List.map];first|exact aA.refl _|assumption|(repeat (first|exact aA.nil|refine aA.cons (by first|exact ay.refl _|assumption|exact ay.cap|exact ay.any _) ?_))))
   |(refine az.bO ?_ ?_ c5 ?_;(· simp only[go_sem,reduceIte,Nat.reduceEqDiff,Nat.reduceAdd,bx]);(· simp only[go_sem,reduceIte,Nat.reduceEqDiff,Nat.reduceAdd,bx,List.map];first|exact aA.refl _|assumption|(repeat (first|exact aA.nil|refine aA.cons (by first|exact ay.refl _|assumption|exact ay.cap|exact ay.any _) ?_))))
   |(refine az.bO ?_ ?_ c6 ?_;(· simp only[go_sem,reduceIte,Nat.reduceEqDiff,Nat.reduceAdd,bx]);(· simp only[go_sem,reduceIte,Nat.reduceEqDiff,Nat.reduceAdd,bx,List.map];first|exact aA.refl _|assumption|(repeat (first|exact aA.nil|refine aA.cons (by first|exact ay.refl _|assumption|exact ay.cap|exact ay.any _) ?_))))
   |(refine az.bO ?_ ?_ c7 ?_;(· simp only[go_sem,reduceIte,Nat.reduceEqDiff,Nat.reduceAdd,bx]);(· simp only[go_sem,reduceIte,Nat.reduceEqDiff,Nat.reduceAdd,bx,List.map];first|exact aA.refl _|assumption|(repeat (first|exact aA.nil|refine aA.cons (by first|exact ay.refl _|assumption|exact ay.cap|exact ay.any _) ?_)))));apply az.evR));(· simp only[go_sem,reduceIte,Nat.reduceEqDiff,Nat.reduceAdd,bx,ax,Of,Od,Nat.reduceMul,Nat.reduceLeDiff,f];exact rfl))
  |(refine az.nil ⟨?_,?_⟩;(· first|trivial|simp[bg,aN,apart,aU]))
  |(apply Wp.cy;(· simp only[go_sem,reduceIte,Nat.reduceEqDiff,Nat.reduceAdd,bx,ax,Of,Od,Nat.reduceMul,Nat.reduceLeDiff,f];exact rfl);(· rfl))
  |refine Wp.skip ?_
  |refine Wp.label ?_
  |refine Wp.block ?_
  |refine Wp.exit ?_
  |refine Wp.seq ?_
  |exact y.1)):X:=h f c0 c1 c2 c3 c4 c5 c6 c7 ⟨y⟩
section
variable{P:Program}{N:Nat}
def Bm(P:Program)(f:FuncId)(args:Nat->List AV)(r:Nat->AV):Prop:=∀t n m,∃t' n' m',n<=n'/\m<=m'/\bB P f (args t) (.only aB [t] n m) (r t') (.only aB [t'] n' m')
theorem aw.Kj{dst:Option Nat}{g:Option (Nat × Bool)}{f:FuncId}{l:List Opd}{its:List aX}{t:Tm}{h:H}{K:Tm->H->Prop}{args:Nat->List AV}{r:Nat->AV}(tk:Nat)(hg:guardOf t g=some true)(hs:aA (l.map (ev t)) (args tk))(hk:tk∈h.toks)(hz:∀j,h.n<=j->h.objs j=none)(hc:Bm P f args r)
  (rest:∀tk' n' m',h.n<=n'->h.m<=m'->aw P N its (bL t dst (r tk')) {h with n:=n',toks:=tk'::h.toks.filter (· ≠tk),m:=m'} K):aw P N (⟨dst,g,.call f l⟩::its) t h K:=by
 obtain ⟨tk',n',m',hn,hm,ha⟩:=hc tk h.n h.m;have hsub:(H.only aB [tk] h.n h.m).sub h:=⟨λid o a=>absurd a (by simp[H.only,aB]),λt ht=>by
  have:t=tk:=by simpa [H.only] using ht
  subst this;exact hk⟩
 have hf:=bB.frame (h:=h) (h1':= .only aB [tk'] n' m') hsub rfl rfl hn hm ha;have e:h.patch (.only aB [tk] h.n h.m) (.only aB [tk'] n' m')= {h with n:=n',toks:=tk'::h.toks.filter (· ≠tk),m:=m'}:=by
  unfold H.patch;simp only[H.only];congr 1
  ·funext j;simp only[aB,Option.isSome_none,Oq,false_or];split
   ·rename_i hj;rw[hz j hj.1]
   ·rfl
  ·simp only[List.singleton_append,Pf,PC];congr 1;funext t;by_cases h:t=tk<;>simp[h]
 rw[e] at hf;exact aw.jb hg hs ⟨hn,hm⟩ hf (rest tk' n' m' hn hm)
end
section
variable{P:Program}{N:Nat}
end
section
variable{P:Program}{N:Nat}{o:Oper}{t:Tm}{h:H}{G:aT}{w:World}
def u8V(l:List UInt8):List Value:=l.map λb=>Value.int .u8 b.toNat
def E3(l:List UInt8)(x:Option Go.Obj):Prop:=∃rest T fr,x=some (.cells (u8V l++rest).toArray T fr)/\∀j,j<l.length+rest.length->¬(fr.1<=j/\j<fr.2)
def dx(l:List UInt8):Obj:= .raw (E3 l)
theorem rX(l:List UInt8):(u8V l).length=l.length:=by simp[u8V]
theorem HT(l:List UInt8):aE G w (aD l) (u8V l):=by
 induction l with
 |nil=>simp[aD,u8V,aE]
 |cons b l ih=>
  simp only[aD,u8V,OJ,aE];exact ⟨_,_,rfl,by simp[byte,aC],ih⟩
theorem HU{w':World}{ob:Go.Obj}{p:Option Go.Obj->Prop}{n m:Nat}(hp:dw w w' ob)(hr:p (some ob))(hf:¬G.dom n):
  ∃G',Trans G w (.only aB [] n m) G' w' (.only (upd aB n (some (.raw p))) [] (n+1) m)/\bj G' (.only (upd aB n (some (.raw p))) [] (n+1) m) w'/\G'.dom n/\G'.ι n=w.heap.size:=by
 let G':aT:={G with dom:=λid=>G.dom id\/id=n,ι:=upd G.ι n w.heap.size,own:=λB=>if B=w.heap.size then True else G.own B}
 have hi:G'.ι n=w.heap.size:=by simp[G',upd]
 have hO:∀B,¬(H.only aB [] n m).O G B:=λB ⟨id,o,ho,_⟩=>by simp[H.only,aB] at ho
 have hT:∀B,¬(H.only aB [] n m).T G B:=λB ⟨t,ht,_⟩=>by simp[H.only] at ht
 have hobj:∀{id o},(H.only (upd aB n (some (.raw p))) [] (n+1) m).objs id=some o->id=n/\o= .raw p:=by
  intro id o ho;simp only[H.only,upd,aB] at ho;split at ho
  ·cases ho;exact ⟨‹_›,rfl⟩
  ·cases ho
 have T:Trans G w (.only aB [] n m) G' w' (.only (upd aB n (some (.raw p))) [] (n+1) m):=by
  refine iY hp hO (λB ht=>absurd ht (hT B)) (λ_=> .inl) ?_ ?_ (λ_ x=>x) (λ_=> .inl) (λ_ _=>rfl) (by simp[H.only]) (by simp[H.only]) ?_ (λ_ _=>rfl) ?_ ?_ ?_ ?_
  ·rintro id (x|rfl)
   ·exact .inl x
   ·exact .inr ⟨by simp[H.only],by simp[H.only]⟩
  ·intro id hd;simp only[G',upd];split
   ·rename_i e;subst e;exact absurd hd hf
   ·rfl
  ·intro B hB;simp only[G'];rw[Ob ae]
  ·rintro B hB ⟨id,o,ho,e⟩;obtain ⟨rfl,rfl⟩:=hobj ho;rw[hi] at e;omega
  ·rintro B hB ⟨t,ht,_⟩;simp[H.only] at ht
  ·intro j o ho;obtain ⟨rfl,rfl⟩:=hobj ho;exact .inr ⟨by simp[H.only],by simp[H.only]⟩
  ·intro t ht;simp[H.only] at ht
 refine ⟨G',T,⟨?_,?_,?_,?_⟩,.inr rfl,hi⟩
 ·intro id o ho;obtain ⟨rfl,rfl⟩:=hobj ho;refine ⟨.inr rfl,by rw[hi];simp[G'],by rw[hi,hp.size];omega,?_⟩;rw[hi,hp.new];exact hr
 ·intro id id' o o' ho ho' _;rw[(hobj ho).1,(hobj ho').1]
 ·intro t ht;simp[H.only] at ht
 ·intro t ht;simp[H.only] at ht
theorem l9{id n m:Nat}{c:Obj}{j:Nat}{o:Obj}(ho:(H.only (upd aB id (some c)) [] n m).objs j=some o):j=id/\o=c:=by
 simp only[H.only,upd,aB] at ho;split at ho
 ·cases ho;exact ⟨‹_›,rfl⟩
 ·cases ho
theorem E4{src dst e:TypeId}{z:Operand}{y:Opd}{l:List UInt8}(hop:o.op= .convert src dst z)(hs:P.underlying src=some .string)(hd:P.underlying dst=some (.slice e))(he:P.underlying e=some (.int .u8))
  (hy:opd P src z=some y) (hx:ev t y= .str l) (hl:l.length<=1000000):Loc P o t h (.tsl 1 h.n 0 l.length none) {h with objs:=upd h.objs h.n (some (dx l)),n:=h.n+1} ⟨[],[h.n],[]⟩:=by
 refine ⟨_,_,gP h _,λG w a ht R F=>?_⟩;have r:=aK hy ht;rw[hx] at r;simp only[aC] at r;have hsz:(ByteArray.mk l.toArray).size=l.length:=by simp[ByteArray.size]
 have hrun:=run_bytes_of_string w src dst e ⟨l.toArray⟩ hs hd he;rw[hsz] at hrun;have hge:=grownCap_ge w l.length 0 e;have hle:=grownCap_le_maxLen w l.length 0 e (by unfold maxLen;omega);unfold maxLen at hle;generalize grownCap w l.length 0 e=C at*
 have hrow:bytesRow ⟨l.toArray⟩ C=(u8V l++List.replicate (C - l.length) (Value.int .u8 0)).toArray:=by
  simp[bytesRow,hsz,u8V]
 have hsz2:(u8V l++List.replicate (C - l.length) (Value.int .u8 0)).toArray.size=l.length+(C - l.length):=by simp[u8V]
 rw[hrow,hsz2] at hrun;have hp:dw w (w.drew.alloc (.cells (u8V l++List.replicate (C - l.length) (Value.int .u8 0)).toArray e (l.length+(C - l.length),l.length+(C - l.length)+1))) _:=⟨rfl,rfl,rfl⟩;obtain ⟨G',T1,R1,d1,i1⟩:=HU (n:=h.n) (m:=h.m) (p:=E3 l) hp ⟨_,_,_,rfl,by intro j hj;simp at hj |-;omega⟩ (kL F (by simp[H.only]));refine ⟨.value (.slice (some ⟨w.heap.size,0,none⟩) l.length C),_,_,G',?_,.inl rfl,T1,R1,?_⟩
 ·simp only[execOp,hop,r,Sem.run_bind,hrun,Result.andThen_ok,Sem.run_pure]
 ·unfold aC;refine ⟨d1,.inl ⟨C,_,_,_,by rw[i1],⟨hge,ae⟩,(λ_ h=>by cases h),by rw[i1];exact hp.new,by simp[u8V];omega⟩⟩
theorem Di{ty:TypeId}{z:Operand}{y:Opd}{id off:Nat}{l:List UInt8}(hop:o.op= .load ty z)(h1:(P.info? ty).isSome=true)(h2:(P.underlying ty).isSome=true)(hag:bQ P ty=false)(hy:opd P 0 z=some y)
  (hp:ev t y= .ptr id off) (ho:h.objs id=some (dx l)) (hl:off<l.length):Loc P o t h (.int .u8 (l.getD off 0).toNat) h ⟨[id],[],[]⟩:=by
 refine ⟨_,_,dp h ho,λG w a ht R F=>?_⟩;have r1:=aK hy ht;rw[hp] at r1;simp only[aC] at r1;obtain ⟨-,-,-,rest,T,fr,hg,-⟩:=R.obj id (dx l) (by simp[H.only,upd]);have hc:∀j v,(u8V l)[j]? =some v->w.cell? ⟨G.ι id,j,none⟩=some v:=by
  intro j v hj;have hj':j<(u8V l).length:=(Pu.1 hj).1;unfold World.cell?;simp only[hg];simpa [OW hj'] using hj
 have hx':part 0 (if bQ P ty then some (P.cellsOf ty) else none) ((aD l).drop off)=some (.int .u8 (l.getD off 0).toNat):=by
  rw[hag];simp[part,aD,byte,hl,List.getD,Qm,N5 hl]
 obtain ⟨v,e1,e2⟩:=nB hop h1 h2 hy ht r1.2 ((HT l).drop off) (λj v hj=>hc _ v (by simpa [Qm] using hj)) hx';exact ⟨_,v,w,G,e1,.inl rfl,Trans.refl _ _ _,R,e2⟩
theorem zq{ty:TypeId}{z1 z2:Operand}{y1 y2:Opd}{id off:Nat}{l:List UInt8}{b:UInt8}(hop:o.op= .store ty z1 z2)(h1:(P.info? ty).isSome=true)(hone:P.cellsOf ty=1)(hy1:opd P 0 z1=some y1)(hy2:opd P ty z2=some y2)
  (hp:ev t y1= .ptr id off) (ho:h.objs id=some (dx l)) (hv:ev t y2= .int .u8 b.toNat) (hl:off<l.length):
  Loc P o t h .any {h with objs:=upd h.objs id (some (dx (l.set off b)))} ⟨[],[id],[]⟩:=by
 refine ⟨_,_,fc h ho,λG w a ht R F=>?_⟩;have r1:=aK hy1 ht;have r2:=aK hy2 ht;rw[hp] at r1;rw[hv] at r2;simp only[aC] at r1 r2;have hme:∀{c:Obj},(H.only (upd aB id (some c)) [] h.n h.m).objs id=some c:=by intro c;simp[H.only,upd]
 obtain ⟨d1,d2,d3,rest,T,fr,hg,hfr⟩:=R.obj id (dx l) hme;have hul:=rX l;have hcell:∀j,j< [Value.int .u8 b.toNat].length->(w.cell? ⟨G.ι id,off+0+j,none⟩).isSome=true:=λj hj=>by
  simp only[List.length_cons,List.length_nil] at hj;unfold World.cell?;simp only[hg];simp;omega
 have hfrz:∀j,j< [Value.int .u8 b.toNat].length->w.frozen? ⟨G.ι id,off+0+j,none⟩=false:=λj hj=>by
  simp only[List.length_cons,List.length_nil] at hj;unfold World.frozen?;simp only[hg];simpa using hfr (off+0+j) ae
 have hrun:=run_storeCells_cells (P:=P) (G.ι id) off [Value.int .u8 b.toNat] 0 w hcell hfrz (λv hv=>by
  simp only[Oj] at hv;subst hv;rfl)
 rw[Nat.add_zero] at hrun;obtain ⟨a1,a2,a3,a4,a5⟩:=fG (G.ι id) T fr [Value.int .u8 b.toNat] off (u8V l++rest) w hg ar;have ecur:(u8V l++rest).take off++[Value.int .u8 b.toNat]++(u8V l++rest).drop (off+[Value.int .u8 b.toNat].length)=u8V (l.set off b)++rest:=by
  rw[Qy ae,List.drop_append_of_le_length ar];rw[<-OX];congr 1;simp only[u8V,List.length_cons,List.length_nil,<-List.map_take,<-List.map_drop,List.map_set];rw[List.set_eq_take_append_cons_drop,Oi (by simpa using hl)];simp[List.map_take,List.map_drop]
 rw[ecur] at a1;clear hcell hfrz;generalize w.setCells (G.ι id) off [Value.int .u8 b.toNat]=w1 at*
 have T1:Trans G w (.only (upd aB id (some (dx l))) [] h.n h.m) G w1 (.only (upd aB id (some (dx (l.set off b)))) [] h.n h.m):=by
  constructor
  ·exact λ_ x=>x
  ·exact λ_=> .inl
  ·exact λ_ _=>rfl
  ·exact λ_ x=>x
  ·exact λ_=> .inl
  ·exact λ_ _=>rfl
  ·exact N4 _
  ·exact N4 _
  ·rw[a3];exact N4 _
  ·exact a4
  ·exact a5
  ·intro B hB;by_cases hBi:B=G.ι id
   ·subst hBi;rw[a1,hg];exact ⟨_,_,rfl,by simp[u8V],λ_ _ h=>h⟩
   ·rw[a2 B hBi];exact bS.refl _
  ·intro B hB hO _;exact a2 B λe=>hO ⟨id,_,hme,e.symm⟩
  ·exact λ_ _ _=>QL
  ·exact λ_ _ _ _=>rfl
  ·rintro B hB ⟨t,ht,_⟩;simp[H.only] at ht
  ·rintro B hB ⟨j,o,ho,e⟩;obtain ⟨rfl,rfl⟩:=l9 ho;exact ⟨_,_,hme,e⟩
  ·rintro B hB ⟨t,ht,_⟩;simp[H.only] at ht
  ·intro j o ho;obtain ⟨rfl,rfl⟩:=l9 ho;exact .inl ⟨_,hme⟩
  ·intro t ht;simp[H.only] at ht
 refine ⟨.skip,undef,w1,G,?_,.inr ⟨rfl,rfl⟩,T1,⟨?_,?_,?_,?_⟩,by simp[aC]⟩
 ·simp[execOp,hop,Instr.storeAt,r1.2,Instr.sureAddr,storeVar,cH P w ty h1,hone,r2,Value.cells,hrun]
 ·intro j o ho;obtain ⟨rfl,rfl⟩:=l9 ho;refine ⟨d1,d2,by rw[a3];exact d3,?_⟩;rw[a1];exact ⟨rest,T,fr,rfl,λj hj=>hfr j (by simpa using hj)⟩
 ·intro j j' o o' ho ho' _;rw[(l9 ho).1,(l9 ho').1]
 ·intro t ht;simp[H.only] at ht
 ·intro t ht;simp[H.only] at ht
theorem E5{src dst e:TypeId}{z:Operand}{y:Opd}{id:Nat}{cp:Option Nat}{l:List UInt8}(hop:o.op= .convert src dst z)(hs:P.underlying src=some (.slice e))(he:P.underlying e=some (.int .u8))(hd:P.underlying dst=some .string)
  (hy:opd P src z=some y) (hx:ev t y= .tsl 1 id 0 l.length cp) (ho:h.objs id=some (dx l)) (hl:0<l.length):Loc P o t h (.str l) h ⟨[id],[],[]⟩:=by
 refine ⟨_,_,dp h ho,λG w a ht R F=>?_⟩;have r:=aK hy ht;rw[hx] at r;simp only[aC] at r;obtain ⟨hd1,⟨C,c,T1,fr1,hv,hC,hk,hg1,hroom⟩|⟨h0,-⟩⟩:=r
 ·obtain ⟨-,-,-,rest,T,fr,hg,-⟩:=R.obj id (dx l) (by simp[H.only,upd]);have hc:∀j v,(u8V l)[j]? =some v->w.cell? ⟨G.ι id,j,none⟩=some v:=by
   intro j v hj;have hj':j<(u8V l).length:=(Pu.1 hj).1;unfold World.cell?;simp only[hg];simpa [OW hj'] using hj
  have:=run_convert_bytes_arg w src e hs he (G.ι id) 0 l.length C (l.map λb=>(b.toNat:Int)) ah (λi hi=>by
   rw[Oo];refine hc i _ ?_;simp[u8V,N5 hi,List.getD]) dst hd
  refine ⟨.value (.string ⟨l.toArray⟩),_,w,G,?_,.inl rfl,Trans.refl _ _ _,R,by simp only[aC]⟩;have hstr:strOfNums (l.map λb=>(b.toNat:Int))=⟨l.toArray⟩:=by
   simp[strOfNums,Function.comp_def]
  rw[hstr] at this;simp[execOp,hop,hv,this]
 ·omega
theorem Dl{ops:Array Oper}{i:Nat}{o:Oper}{it:aX}{t:Tm}{h h':H}{x:AV}{en:Ent}(ho:ops[i]? =some o)(hit:bP P N ops o=some it)(hg:guardOf t it.guard=some true)(hn:it.op≠ .dead)(hr:tT it.op=false)
  (hx:∀t',(∀y∈bI it.op,ev t' y=ev t y)->cOp P o=some it.op->Loc P o t' h x h' en):
  ∃h1 h1',Touch h h1 h1' h' en/\iH P ops i o t h1 x h1':=by
 unfold bP at hit;split at hit
 ·rename_i op g hop hgd;split at hit<;>cases hit;rename_i hcond;simp only[Oh] at hcond;have hop:=gY hop hn hr;obtain ⟨h1,h1',tc,loc⟩:=hx (jD (names ops o) t) (jN hcond.2) hop;refine ⟨h1,h1',tc,λG w a ht R F K Q hK ro=>?_⟩;obtain ⟨nx,v,w',G',e1,e2,T1,R1,V⟩:=loc G w a (fO ht) R F;unfold wpOpIn;rw[ho];simp only[cN hgd ht hg,Of];refine ⟨λ_ _=>trivial,?_⟩;rw[Oper.semAt_eq _ _ _ (eS hop),e1];rcases e2 with rfl|⟨rfl,rfl⟩
  ·rw[Oper.uponIn_value];exact hK G' w' v T1 R1 V
  ·rw[Oper.uponIn_skip];exact hK G' w' undef T1 R1 V
 ·cases hit
theorem aw.loc{it:aX}{its:List aX}{t:Tm}{h h':H}{en:Ent}{K:Tm->H->Prop}{x:AV}(hg:guardOf t it.guard=some true)(hn:it.op≠ .dead)(hr:tT it.op=false)
  (hx:∀(o:Oper) t',(∀y∈bI it.op,ev t' y=ev t y)->cOp P o=some it.op->Loc P o t' h x h' en)
  (rest:aw P N its (bL t it.dst x) h' K):aw P N (it::its) t h K:=
 aw.step (it:=it) (λops i o ho hit=>by
  obtain ⟨h1,h1',tc,run⟩:=Dl ho hit hg hn hr (hx o);exact mU.oF (N:=N) (full:=false) (.inl tc) run) rest
theorem HV{y:Opd}(h:cOp P o=some (.conv .s2b y)):∃src dst e z,o.op= .convert src dst z/\P.underlying src=some .string/\P.underlying dst=some (.slice e)/\P.underlying e=some (.int .u8)/\opd P src z=some y:=by
 unfold cOp at h;split at h
 case h_12 src dst z hop=>
  split at h
  ·cases h
  ·split at h<;>cases h
  ·split at h
   ·rename_i hq;cases h;exact ⟨_,_,_,z,hop,‹_›,‹_›,ot hq.1,‹_›⟩
   ·cases h
  ·cases h
  ·split at h<;>cases h
  ·cases h
 all_goals first
  |(cases h;done)
  |(simp at h;done)
  |((repeat' split at h)<;>(try cases h)<;>(try simp at h);done)
  |skip
theorem HW{y:Opd}(h:cOp P o=some (.conv .b2s y)):∃src dst e z,o.op= .convert src dst z/\P.underlying src=some (.slice e)/\P.underlying dst=some .string/\P.underlying e=some (.int .u8)/\opd P src z=some y:=by
 unfold cOp at h;split at h
 case h_12 src dst z hop=>
  split at h
  ·cases h
  ·split at h
   ·rename_i hq;cases h;exact ⟨_,_,_,z,hop,‹_›,‹_›,ot hq.1,‹_›⟩
   ·cases h
  ·split at h<;>cases h
  ·cases h
  ·split at h<;>cases h
  ·cases h
 all_goals first
  |(cases h;done)
  |(simp at h;done)
  |((repeat' split at h)<;>(try cases h)<;>(try simp at h);done)
  |skip
theorem Dm{y:Opd}(h:cOp P o=some (.load none y)):∃ty z,o.op= .load ty z/\(P.info? ty).isSome=true/\(P.underlying ty).isSome=true/\bQ P ty=false/\opd P 0 z=some y:=by
 unfold cOp at h;split at h
 case h_8 ty z hop=>
  split at h
  ·rename_i hq;simp only[Oc] at h;obtain ⟨y',hy,h⟩:=h;simp only[AOp.load.injEq] at h;obtain ⟨h,rfl⟩:=h;refine ⟨ty,z,hop,hq.1,hq.2,?_,hy⟩;cases hh:bQ P ty
   ·rfl
   ·rw[hh] at h;cases h
  ·cases h
 all_goals first
  |(cases h;done)
  |(simp at h;done)
  |((repeat' split at h)<;>(try cases h)<;>(try simp at h);done)
  |skip
theorem zr{y x:Opd}(h:cOp P o=some (.store 1 y x)):∃ty z1 z2,o.op= .store ty z1 z2/\(P.info? ty).isSome=true/\P.cellsOf ty=1/\opd P 0 z1=some y/\opd P ty z2=some x:=by
 unfold cOp at h;split at h
 case h_9 ty z1 z2 hop=>
  split at h
  ·rename_i hq;split at h
   ·simp only[Om,AOp.store.injEq] at h;obtain ⟨h,rfl,rfl⟩:=h;exact ⟨ty,z1,z2,hop,hq.1,h,‹_›,‹_›⟩
   ·cases h
  ·cases h
 all_goals first
  |(cases h;done)
  |(simp at h;done)
  |((repeat' split at h)<;>(try cases h)<;>(try simp at h);done)
  |skip
theorem aw.op1{it:aX}{its:List aX}{t:Tm}{h h':H}{en:Ent}{K:Tm->H->Prop}{x:AV}(hg:guardOf t it.guard=some true)(hx:aop (ev t) h it.op=some (x,h',en))
  (rest:aw P N its (bL t it.dst x) h' K):aw P N (it::its) t h K:=
 aw.step (it:=it) (λops i o ho hit=>by
  obtain ⟨h1,h1',tc,run⟩:=ja ho hit hg hx;exact mU.oF (N:=N) (full:=false) (.inl tc) run) rest
variable{dst:Option Nat}{g:Option (Nat × Bool)}{its:List aX}{K:Tm->H->Prop}{y x:Opd}{l:List UInt8}{id off:Nat}
theorem aw.s2b(hg:guardOf t g=some true)(hx:ev t y= .str l)(hl:l.length<=1000000)
  (rest:aw P N its (bL t dst (.tsl 1 h.n 0 l.length none)) {h with objs:=upd h.objs h.n (some (dx l)),n:=h.n+1} K):aw P N (⟨dst,g,.conv .s2b y⟩::its) t h K:=
 aw.loc hg ah rfl (λo t' e hc=>by
  obtain ⟨src,ds,el,z,h1,h2,h3,h4,h5⟩:=HV hc;exact E4 h1 h2 h3 h4 h5 ((e y (by simp[bI])).trans hx) hl) rest
theorem aw.wZ(hg:guardOf t g=some true)(hx:ev t y= .ptr id off)(ho:h.objs id=some (dx l))(hl:off<l.length)
  (rest:aw P N its (bL t dst (.int .u8 (l.getD off 0).toNat)) h K):aw P N (⟨dst,g,.load none y⟩::its) t h K:=
 aw.loc hg ah rfl (λo t' e hc=>by
  obtain ⟨ty,z,h1,h2,h3,h4,h5⟩:=Dm hc;exact Di h1 h2 h3 h4 h5 ((e y (by simp[bI])).trans hx) ho hl) rest
theorem aw.rY{b:UInt8}(hg:guardOf t g=some true)(hx:ev t y= .ptr id off)(ho:h.objs id=some (dx l))(hv:ev t x= .int .u8 b.toNat)(hl:off<l.length)
  (rest:aw P N its (bL t dst .any) {h with objs:=upd h.objs id (some (dx (l.set off b)))} K):aw P N (⟨dst,g,.store 1 y x⟩::its) t h K:=
 aw.loc hg ah rfl (λo t' e hc=>by
  obtain ⟨ty,z1,z2,h1,h2,h3,h4,h5⟩:=zr hc;exact zq h1 h2 h3 h4 h5 ((e y (by simp[bI])).trans hx) ho ((e x (by simp[bI])).trans hv) hl) rest
theorem aw.b2s{cp:Option Nat}(hg:guardOf t g=some true)(hx:ev t y= .tsl 1 id 0 l.length cp)(ho:h.objs id=some (dx l))(hl:0<l.length)
  (rest:aw P N its (bL t dst (.str l)) h K):aw P N (⟨dst,g,.conv .b2s y⟩::its) t h K:=
 aw.loc hg ah rfl (λo t' e hc=>by
  obtain ⟨src,ds,el,z,h1,h2,h3,h4,h5⟩:=HW hc;exact E5 h1 h2 h4 h3 h5 ((e y (by simp[bI])).trans hx) ho hl) rest
end
section
variable{P:Program}{N:Nat}{h:H}{G:aT}{w:World}
theorem Dn(R:bj G h w){d:Nat->Bool}{id:Nat}{c:Option Nat}{l:List UInt8}{v:Value}(ho:h.objs id=some (dx l))(hd:d id=true)(r:aC G w (.tsl 1 id 0 l.length c) v):
  aC (G.frz h d) w (.sl 1 (aD l) .any) v:=by
 have hl:(aD l).length=l.length:=by simp[aD]
 simp only[aC] at r;obtain ⟨-,⟨C,cc,Tt,fr,rfl,⟨h2,-⟩,-⟩|⟨h0,⟨a,rfl⟩,-⟩⟩:=r
 ·obtain ⟨-,r2,r3,rest,T,fr',y1,y2⟩:=R.obj id _ ho;have hul:=rX l;unfold aC;refine .inr ⟨G.ι id,0,C,u8V l,by rw[hl],by rw[hl];exact h2,by rw[hl,hul,O4],lN l,?_,trivial⟩;intro i v hi;have hi':=(Pu.1 hi).1;refine ⟨?_,?_,?_,?_⟩
  ·unfold World.cell?;simp only[y1];simp only[Oo];simpa [OW hi'] using hi
  ·have:=PY hi;obtain ⟨b,-,rfl⟩:=OC.1 this;exact ⟨(λ_ e=>by cases e),(λ_ e=>by cases e)⟩
  ·exact λx=>x.2 ⟨id,_,hd,ho,rfl⟩
  ·intro e he';have:h.DO G d (G.ι id):=⟨id,_,hd,ho,rfl⟩;simp[aT.frz,this] at he'
 ·have:l=[]:=List.eq_nil_of_length_eq_zero h0;subst this;unfold aC;exact .inl ⟨by simp[aD],⟨_,rfl⟩,trivial⟩
theorem aM.Ly(t:Tm)(h:H)(id i:Nat){l:List UInt8}{c:Option Nat}(ho:h.objs id=some (dx l))(hi:t i= .tsl 1 id 0 l.length c):
  aM ⟨t,h⟩ ⟨upd (λj=>unT h (λk=>decide (k=id)) (t j)) i (.sl 1 (aD l) .any),h.drop λk=>decide (k=id)⟩ where
 n:=N4 _
 m:=N4 _
 go:=λN G w a r _=>⟨G.frz h _,bC _,⟨r.size,λj=>by
  simp only[upd];by_cases e:j=i
  ·subst e;rw[Oi rfl];have:=r.t j;simp only[hi] at this;exact Dn r.h ho ah this
  ·rw[Ob e];exact oC r.h _ _ _ (r.t j),mI r.h _,r.df.mono (bC _)⟩⟩
end
section
variable{P:Program}{N:Nat}
def kY(P:Program)(id:Nat)(args:List AV)(h:H)(Q:AV->H->Prop):Prop:=∃r h',zg P id args h r h'/\h.n<=h'.n/\h.m<=h'.m/\Q r h'
theorem aw.yield{dst:Option Nat}{g:Option (Nat × Bool)}{id:Nat}{y:Opd}{l:List Opd}{its:List aX}{t:Tm}{h:H}{K:Tm->H->Prop}{vals:List AV}{Q:AV->H->Prop}
  (hg:guardOf t g=some true) (hy:ev t y= .yld id) (hs:aA (l.map (ev t)) vals) (hc:kY P id vals h Q)
  (rest:∀r h',Q r h'->h.n<=h'.n->h.m<=h'.m->aw P N its (bL t dst r) h' K):aw P N (⟨dst,g,.callv y l⟩::its) t h K:=by
 obtain ⟨r,h',hc,hn,hm,hq⟩:=hc;exact aw.step (λops i o ho hit=>pt.full ⟨hn,hm⟩ (wX ho hit hg rfl hy hs hc)) (rest r h' hq hn hm)
def fE(P:Program)(f:FuncId)(args:List AV)(h:H)(Q:AV->H->Prop):Prop:=∃r h',bB P f args h r h'/\h.n<=h'.n/\h.m<=h'.m/\Q r h'
theorem aV.iF{f:FuncId}{ac:AC}{args:List AV}{ds:List RV}{h:H}{Q:AV->H->Prop}(hF:aV P f N ac ds)(hl:args.length<=N)
  (hw:Wp P N ac ⟨fH args,h⟩ λe s'=>jf e/\∃q,je ds s'.t s'.h=some q/\Q q s'.h):fE P f args h Q:=by
 obtain ⟨q,h',hc,hq,hn,hm⟩:=hF.fe (Q:=λq h'=>Q q h'/\h.n<=h'.n/\h.m<=h'.m) hl (hw.nm.mono λe s' ⟨⟨h1,q,h2,h3⟩,h4,h5⟩=>⟨h1,q,h2,h3,h4,h5⟩);exact ⟨q,h',hc,hn,hm,hq⟩
theorem fE.mono{f:FuncId}{args:List AV}{h:H}{Q Q':AV->H->Prop}(hc:fE P f args h Q)(hq:∀r h',Q r h'->Q' r h'):fE P f args h Q':=by
 obtain ⟨r,h',a,b,c,d⟩:=hc;exact ⟨r,h',a,b,c,hq _ _ d⟩
theorem aw.cI{dst:Option Nat}{g:Option (Nat × Bool)}{f:FuncId}{l:List Opd}{its:List aX}{t:Tm}{h:H}{K:Tm->H->Prop}{vals:List AV}{Q:AV->H->Prop}
  (hg:guardOf t g=some true) (hs:aA (l.map (ev t)) vals) (hc:fE P f vals h Q)
  (rest:∀r h',Q r h'->h.n<=h'.n->h.m<=h'.m->aw P N its (bL t dst r) h' K):aw P N (⟨dst,g,.call f l⟩::its) t h K:=by
 obtain ⟨r,h',hc,hn,hm,hq⟩:=hc;exact aw.jb hg hs ⟨hn,hm⟩ hc (rest r h' hq hn hm)
theorem Wp.E6{g:Opd}{ps:List Nat}{x y:AC}{t:Tm}{h:H}{Q:aO->St->Prop}{fi:FuncId}{fn:Func}{first caps:List AV}(hg:ev t g= .clo (.func fi) first caps)(hf:P.funcs[fi]? =some fn)(hfb:fn.body.isSome=true)(hfn:fn.name≠ "runtime.NumGoroutine")
  (hfresh:h.objs h.n=none)
  (hw:∀asg body,cCode P N asg=some x->cCode P N body=some y->fu asg=true->fu body=true->
   fE P fi (first++[.yld h.n]++caps) ⟨upd h.objs h.n (some (.loop N t ps asg body .ready none)),h.n+1,h.toks,h.m⟩ λr h'=>∃t2 st pend e,h'.objs h.n=some (.loop N t2 ps asg body st pend)/\st≠ .busy/\mL pend e/\
    Q e ⟨t,{h' with objs:=λj=>if j=h.n then none else h'.objs j}⟩):Wp P N (.tv g ps x y) ⟨t,h⟩ Q:=by
 obtain ⟨f,n,T,m⟩:=h;refine Wp.tv hg hf hfb hfn hfresh λasg body h1 h2 h3 h4=>?_;obtain ⟨r,⟨f2,n2,T2,m2⟩,k1,k2,k3,t2,st,pend,e,k4,k5,k6,k7⟩:=hw asg body h1 h2 h3 h4;exact ⟨r,f2,n2,T2,m2,t2,st,pend,e,k1,k2,k3,k4,k5,k6,k7⟩
theorem nJ{id M:Nat}{h:H}{t:Tm}{ps:List Nat}{asg body:Code}{x y:AC}{args:List AV}{Q:AV->H->Prop}(ho:h.objs id=some (.loop M t ps asg body .ready none))(ha:cCode P M asg=some x)(hb:cCode P M body=some y)(hna:fu asg=true)(hnb:fu body=true)
  (hl:args.length=ps.length) (hps:∀p∈ps,p<M)
  (hw:Wp P M x ⟨kh t ps args,h⟩ λe s=>e= .normal/\∃t1,s.h.objs id=some (.loop M t1 ps asg body .ready none)/\
   Wp P M y ⟨s.t,{s.h with objs:=upd s.h.objs id (some (.loop M t1 ps asg body .busy none))}⟩ λe2 s2=>∃t2 b st pend,s2.h.objs id=some (.loop M t2 ps asg body .busy none)/\kj e2 b st pend/\
    (h.n<=s2.h.n->h.m<=s2.h.m->Q (.bool b) {s2.h with objs:=upd s2.h.objs id (some (.loop M t2 ps asg body st pend))})):kY P id args h Q:=by
 obtain ⟨f,n,T,m⟩:=h;obtain ⟨r,h',hy,hn,hm,hq⟩:=De (P:=P) (Q:=λr h'=>n<=h'.n/\m<=h'.m/\Q r h') ho ha hb hna hnb hl hps (by
  refine hw.nm.mono ?_;rintro e s ⟨⟨rfl,t1,k1,k2⟩,k3,k4⟩;refine ⟨rfl,t1,k1,k2.nm.mono ?_⟩;rintro e2 s2 ⟨⟨t2,b,st,pend,q1,q2,q3⟩,q4,q5⟩;have e4:n<=s2.h.n:=OI k3 q4;have e5:m<=s2.h.m:=OI k4 q5;exact ⟨t2,b,st,pend,q1,q2,e4,e5,q3 e4 e5⟩)
 exact ⟨r,h',hy,hn,hm,hq⟩
end
section
variable{P:Program}{N:Nat}{ops:Array Oper}
def tB(P:Program)(ops:Array Oper)(i:Nat)(o:Oper)(t:Tm)(h:H)(v:Value)(h':H):Prop:=
 (h.n<=h'.n/\h.m<=h'.m)/\∀G w a,cG G w t a->bj G h w->cB G h h'->∀(K:Act->World->Prop) Q,
  (∀G' w',Trans G w h G' w' h'->bj G' h' w'->Q (.panic [{v:=v,recovered:=false}]) a w')->∀ro,wpOpIn (rd ro) 0 P ops Q i K a w
theorem tB.of{i:Nat}{o:Oper}{t:Tm}{h h1 h1' h':H}{v:Value}{en:Ent}(tc:Touch h h1 h1' h' en)(run:kO P ops i o t h1 v h1'):tB P ops i o t h v h':=by
 have e3:h'.n=h1'.n:=by rw[tc.eq];rfl
 have e4:h'.m=h1'.m:=by rw[tc.eq];rfl
 have e1:=tc.n;have e2:=tc.m;have l1:=tc.le;have l2:=tc.lem;refine ⟨⟨ae,ae⟩,λG w a ht R U K Q hK ro=>?_⟩;have F:cB G h1 h1':=U.sub ae ae ae ae;refine run G w a (λk _=>ht k) (R.sub tc.sub) F _ Q (λG' w' T1 R1=>?_) ro;obtain ⟨R2,T2⟩:=frame R tc.sub tc.n tc.m R1 T1 F;rw[<-tc.eq] at R2 T2;exact hK G' w' T2 R2
theorem tB.full{i:Nat}{o:Oper}{t:Tm}{h h':H}{v:Value}(hn:h.n<=h'.n/\h.m<=h'.m)(run:kO P ops i o t h v h'):tB P ops i o t h v h':=
 ⟨hn,λG w a ht R U K Q hK ro=>run G w a (λk _=>ht k) R U K Q hK ro⟩
inductive nK(P:Program)(ops:Array Oper):Nat->Tm->H->Value->H->Prop where
 |here {i:Nat} {o:Oper} {t:Tm} {h h':H} {v:Value} (ho:ops[i]? =some o) (run:tB P ops i o t h v h'):nK P ops i t h v h'
 |cons {i:Nat} {o:Oper} {t:Tm} {h h2 h':H} {x:AV} {v:Value} (ho:ops[i]? =some o) (run:pt P ops i o t h x h2) (rest:nK P ops (i+1) (bL t o.dst x) h2 v h'):nK P ops i t h v h'
theorem nK.nm{i:Nat}{t:Tm}{h h':H}{v:Value}(c:nK P ops i t h v h'):h.n<=h'.n/\h.m<=h'.m:=by
 induction c with
 |here ho run=>exact run.1
 |cons ho run rest ih=>have:=run.1;omega
theorem zt(ro:Option Nat){Q:Exit->Act->World->Prop}(hN:∀(i:Nat) o d,ops[i]? =some o->o.dst=some d->d<N):∀{i:Nat}{t:Tm}{h h':H}{v:Value},nK P ops i t h v h'->
  ∀(G:aT)(w:World)(a:Act),a.tmps.size=N->cG G w t a->bj G h w->cB G h h'->
   (∀G' w' a',Trans G w h G' w' h'->bj G' h' w'->a'.tmps.size=N->a'.defers=a.defers->Q (.panic [{v:=v,recovered:=false}]) a' w')->wpOpsIn (rd ro) 0 P ops Q (List.range' i (ops.size - i)) a w:=by
 intro i t h h' v hc;induction hc with
 | @here i o t h h' v ho run=>
  intro G w a hs ht R U hq;have hi:i<ops.size:=(O5.1 ho).1;have:ops.size - i=(ops.size - (i+1))+1:=by omega
  rw[this,Qz,wpOpsIn_cons];exact run.2 G w a ht R U _ Q (λG' w' T R'=>hq G' w' a T R' hs rfl) ro
 | @cons i o t h h2 h' x v ho run rest ih=>
  intro G w a hs ht R U hq;have hi:i<ops.size:=(O5.1 ho).1;have:ops.size - i=(ops.size - (i+1))+1:=by omega
  rw[this,Qz,wpOpsIn_cons];have nm:=rest.nm;have nm2:=run.1;refine run.2 G w a ht R (U.sub (N4 _) nm.1 (N4 _) nm.2) _ Q (λG' w' y T2 R2 V=>?_) ro;refine ih G' w' _ (by rw[lS];exact hs) (ow (ht.mono R T2) V λk hk=>by rw[hs];exact hN i o k ho hk) R2 (U.step T2) λG'' w'' a'' T3 h2 h3 h4=>?_;exact hq G'' w'' a'' (T2.trans R R2 T3) h2 h3 (h4.trans (put_defers _ _ _))
def bu(P:Program)(N:Nat)(items:List aX)(t:Tm)(h:H)(v:Value)(h':H):Prop:=
 ∀ops i,i<=ops.size->dL P N ops (ops.toList.drop i)=some items->nK P ops i t h v h'
theorem bu.step{it:aX}{its:List aX}{t:Tm}{h h2 h':H}{x:AV}{v:Value}
  (run:∀(ops:Array Oper) i o,ops[i]? =some o->bP P N ops o=some it->pt P ops i o t h x h2) (rest:bu P N its (bL t it.dst x) h2 v h'):bu P N (it::its) t h v h':=by
 intro ops i hi hc;obtain ⟨o,ho,hit,hi',hc'⟩:=cD hi hc;have ch:=rest ops (i+1) hi' hc';exact .cons ho (run ops i o ho hit) (by rw[<-ug hit];exact ch)
theorem bu.here{it:aX}{its:List aX}{t:Tm}{h h':H}{v:Value}
  (run:∀(ops:Array Oper) i o,ops[i]? =some o->bP P N ops o=some it->tB P ops i o t h v h'):bu P N (it::its) t h v h':=by
 intro ops i hi hc;obtain ⟨o,ho,hit,hi',hc'⟩:=cD hi hc;exact .here ho (run ops i o ho hit)
theorem Wp.Dp{items:List aX}{s:St}{Q:aO->St->Prop}{v:Value}{h':H}(h:bu P N items s.t s.h v h')(hq:Q (.panic v) ⟨λ_=> .any,h'⟩):Wp P N (.reg items none) s Q:=by
 intro code hc;obtain ⟨id,ops,draw,rfl,hi,hd⟩:=ox hc;have ch:=h ops 0 (Ot _) (by simpa using hi);have nm:=ch.nm;obtain ⟨cl,ci⟩:=jc hi;have hN:∀(i:Nat) o d,ops[i]? =some o->o.dst=some d->d<N:=by
  intro i o d ho hdd;have hlt:i<ops.size:=(O5.1 ho).1;have hit:i<items.length:=by rw[cl];simpa using hlt
  have:=ci i o items[i] (by simpa using ho) (N5 hit);generalize items[i]=it at this;unfold bP at this;split at this
  ·split at this<;>cases this;rename_i hcond;simp only[Oh] at hcond;have:=hcond.1;rw[hdd] at this;simpa using this
  ·cases this
 refine ⟨.panic v,⟨λ_=> .any,h'⟩,⟨nm,λro okc G w a r F=>?_⟩,hq⟩;rcases hd with ⟨rfl,-⟩|⟨-,-,-,hn⟩
 ·refine wpIn_region ?_;rw[List.range_eq_range'];have:=zt ro (Q:=λe' a' w'=>(aO.panic v).eZ e'/\lX w a.defers a'.defers/\∃G',Trans G w s.h G' w' h'/\Rel N ⟨λ_=> .any,h'⟩ G' w' a') hN ch G w a r.size r.t r.h F
   (λG' w' a' T1 R1 s1 d1=>⟨rfl,by rw[d1];exact .refl,G',T1,⟨s1,λ_=>by simp[aC],R1,by rw[d1];exact r.df.mono T1⟩⟩)
  simpa using this
 ·cases hn
end
section
variable{P:Program}{T:FT}
end
section
variable{P:Program}{N:Nat}
theorem aR.eval{p:Option (List (Nat × Nat))}:∀{items its:List aX}{t t':Tm}{h h':H}{log log':List Ent}{R:Value->H->Prop},cK items t h log=(its,t',h',log')->aR P N p its t' h' log' R->aR P N p items t h log R
 |[],its,t,t',h,h',log,log',R,he,hw=>by simp only[cK,Ow] at he;obtain ⟨rfl,rfl,rfl,rfl⟩:=he;exact hw
 |it::items,its,t,t',h,h',log,log',R,he,hw=>by
  simp only[cK] at he;split at he
  ·rename_i hg;split at he
   ·rename_i x h2 en hx;have rest:=aR.eval he hw;intro ops i hi hl hc;obtain ⟨o,ho,hit,hi',hc'⟩:=cD hi hc;obtain ⟨h1,h1',tc,run⟩:=ja ho hit hg hx;obtain ⟨D,recs,t',hh',j,rj,oj,itj,v,A,hR⟩:=rest ops (i+1) hi' (by simp[hl]) hc';have hdst:it.dst=o.dst:=by
     unfold bP at hit;split at hit
     ·split at hit<;>cases hit;rfl
     ·cases hit
    have hij:=A.ij;refine ⟨D,⟨t,h,h1,h1',h2,x,en⟩::recs,t',hh',j,rj,oj,itj,v,⟨.cons ho rfl rfl tc (λ_=>run) (by rw[<-hdst];exact A.ch),?_,ae,A.hoj,A.it,A.tj,A.run,A.Dj,A.Dk,?_,?_⟩,hR⟩
    ·have e:=A.hrj;rw[show j - i=(j - (i+1))+1 by omega];simpa using e
    ·intro k r it' hr hit' ht;cases k with
     |zero=>
      simp at hr hit';subst hr hit';rcases uZ ht hx with h|⟨n,y,h⟩
      ·exact h
      ·rw[h] at ht;simp[bN] at ht
     |succ k=>simp at hr hit';exact A.e0 k r it' hr hit' ht
    ·intro l hl';have:=A.pairs l hl';simpa using this
   ·simp only[Ow] at he;obtain ⟨rfl,rfl,rfl,rfl⟩:=he;exact hw
  ·rename_i hg;exact aR.step (bF h) (λops i o ho hit=>gR ho hit hg) (λ_=>rfl) (aR.eval he hw)
  ·simp only[Ow] at he;obtain ⟨rfl,rfl,rfl,rfl⟩:=he;exact hw
def LA(p:Option (List (Nat × Nat)))(log:List Ent):Prop:=match p with
 |none=>True
 |some l=>aN l (log.reverse++[aU])/\HI l log.length (log.reverse++[aU])=true
theorem Wp.vk{items:List aX}{p:Option (List (Nat × Nat))}{s:St}{Q:aO->St->Prop}{t':Tm}{h':H}{log:List Ent}{dst:Option Nat}{f:FuncId}{l:List Opd}{vals:List AV}{v:Value}
  (he:iI items s.t s.h []=some ([⟨dst,none,.call f l⟩],t',h',log)) (hs:aA (l.map (ev t')) vals) (hc:ER P f vals v) (hp:LA p log) (hq:Q (.panic v) ⟨λ_=> .any,h'⟩):Wp P N (.reg items p) s Q:=by
 refine Wp.nH (aR.eval (bJ he) ?_);refine aR.here (R:=λv h'=>Q (.panic v) ⟨λ_=> .any,h'⟩) (en:=aU) rfl (bF h') (λops i o ho hit=>ff ho hit rfl rfl hs (hc h'.n h'.m)) (λl hl=>?_) hq;subst hl;exact ⟨[],rfl,hp.1,hp.2⟩
theorem Wp.dD{items:List aX}{p:Option (List (Nat × Nat))}{y:AC}{s:St}{Q:aO->St->Prop}{t':Tm}{h':H}{log:List Ent}{dst:Option Nat}{f:FuncId}{l:List Opd}{vals:List AV}{v:Value}
  (he:iI items s.t s.h []=some ([⟨dst,none,.call f l⟩],t',h',log)) (hs:aA (l.map (ev t')) vals) (hc:ER P f vals v) (hp:LA p log) (hq:Q (.panic v) ⟨λ_=> .any,h'⟩):Wp P N (.seq (.reg items p) y) s Q:=
 Wp.seq (Wp.vk he hs hc hp (by simpa [aO.andThen] using hq))
theorem aw.u0{dst:Option Nat}{g:Option (Nat × Bool)}{f:FuncId}{fn:Func}{y:Opd}{l:List Opd}{its:List aX}{t:Tm}{h:H}{K:Tm->H->Prop}{first caps vals:List AV}{r:AV}(hg:guardOf t g=some true)(hy:ev t y= .clo (.func f) first caps)
  (hf:P.funcs[f]? =some fn) (hb:fn.body.isSome=true) (hn:fn.name≠ "runtime.NumGoroutine") (hs:aA (first++l.map (ev t)++caps) vals) (hc:aI P f vals r)
  (rest:aw P N its (bL t dst r) h K):aw P N (⟨dst,g,.callv y l⟩::its) t h K:=
 aw.step (λops i o ho hit=>mU.oF (N:=N) (full:=false) (.inl (bF h)) (ql ho hit hg rfl hy hf hb hn hs (hc h.n h.m))) rest
theorem bu.eval:∀{items its:List aX}{t t':Tm}{h h2 h':H}{log log':List Ent}{v:Value},cK items t h log=(its,t',h2,log')->bu P N its t' h2 v h'->bu P N items t h v h'
 |[],its,t,t',h,h2,h',log,log',v,he,hw=>by simp only[cK,Ow] at he;obtain ⟨rfl,rfl,rfl,rfl⟩:=he;exact hw
 |it::items,its,t,t',h,h2,h',log,log',v,he,hw=>by
  simp only[cK] at he;split at he
  ·rename_i hg;split at he
   ·rename_i x h3 en hx;have rest:=bu.eval he hw;refine bu.step (λops i o ho hit=>?_) rest;obtain ⟨h1,h1',tc,run⟩:=ja ho hit hg hx;exact mU.oF (N:=N) (full:=false) (.inl tc) run
   ·simp only[Ow] at he;obtain ⟨rfl,rfl,rfl,rfl⟩:=he;exact hw
  ·rename_i hg;exact bu.step (λops i o ho hit=>mU.oF (N:=N) (full:=false) (.inl (bF h)) (gR ho hit hg)) (bu.eval he hw)
  ·simp only[Ow] at he;obtain ⟨rfl,rfl,rfl,rfl⟩:=he;exact hw
theorem Wp.rZ{items its:List aX}{s:St}{Q:aO->St->Prop}{t':Tm}{h2 h':H}{log:List Ent}{dst:Option Nat}{f:FuncId}{l:List Opd}{vals:List AV}{v:Value}
  (he:iI items s.t s.h []=some (⟨dst,none,.call f l⟩::its,t',h2,log)) (hs:aA (l.map (ev t')) vals) (hn:h2.n<=h'.n/\h2.m<=h'.m) (hc:eN P f vals h2 v h') (hq:Q (.panic v) ⟨λ_=> .any,h'⟩):Wp P N (.reg items none) s Q:=
 Wp.Dp (bu.eval (bJ he) (bu.here λops i o ho hit=>tB.full hn (ff ho hit rfl rfl hs hc))) hq
theorem Wp.xc{items its:List aX}{y:AC}{s:St}{Q:aO->St->Prop}{t':Tm}{h2 h':H}{log:List Ent}{dst:Option Nat}{f:FuncId}{l:List Opd}{vals:List AV}{v:Value}
  (he:iI items s.t s.h []=some (⟨dst,none,.call f l⟩::its,t',h2,log)) (hs:aA (l.map (ev t')) vals) (hn:h2.n<=h'.n/\h2.m<=h'.m) (hc:eN P f vals h2 v h') (hq:Q (.panic v) ⟨λ_=> .any,h'⟩):Wp P N (.seq (.reg items none) y) s Q:=
 Wp.seq (Wp.rZ he hs hn hc (by simpa [aO.andThen] using hq))
theorem Wp.nmQ{c:AC}{s:St}{Q:aO->St->Prop}(h:Wp P N c s Q):Wp P N c s (λe s'=>(s.h.n<=s'.h.n/\s.h.m<=s'.h.m)/\Q e s'):=
 λcode hc=>let ⟨e,s',r,q⟩:=h code hc;⟨e,s',r,r.1,q⟩
theorem aV.xd{f:FuncId}{ac:AC}{args:List AV}{h:H}{ds:List RV}{Q:Value->H->Prop}(hF:aV P f N ac ds)(hl:args.length<=N)(hw:Wp P N ac ⟨fH args,h⟩ λe s'=>∃v,e= .panic v/\Q v s'.h):∃v h',eN P f args h v h'/\(h.n<=h'.n/\h.m<=h'.m)/\Q v h':=
 hF.HK (Q:=λv h'=>(h.n<=h'.n/\h.m<=h'.m)/\Q v h') hl (hw.nmQ.mono λe s' ⟨a,v,b,c⟩=>⟨v,b,a,c⟩)
theorem aV.vn{f:FuncId}{ac:AC}{args:List AV}{h:H}{ds:List RV}{Q:AV->H->Prop}(hF:aV P f N ac ds)(hl:args.length<=N)(hw:Wp P N ac ⟨fH args,h⟩ λe s'=>jf e/\∃r,je ds s'.t s'.h=some r/\Q r s'.h):∃r h',bB P f args h r h'/\(h.n<=h'.n/\h.m<=h'.m)/\Q r h':=
 hF.fe (Q:=λr h'=>(h.n<=h'.n/\h.m<=h'.m)/\Q r h') hl (hw.nmQ.mono λe s' ⟨a,b,r,c,d⟩=>⟨b,r,c,a,d⟩)
theorem aM.LB(t:Tm)(h:H)(id o1:Nat){rows:List (List AV)}{sz:Nat}{c:Option Nat}{rest:List AV}(hr:∀x∈rows,x.length=sz)(hne:o1≠id)(ho:h.objs id=some (.cells rows.flatten))(h1:h.objs o1=some (.cells (.tsl sz id 0 rows.length c::rest))):
  aM ⟨t,h⟩ ⟨λj=>unT h (λk=>decide (k=id)) (t j),{h.drop (λk=>decide (k=id)) with objs:=upd (h.drop λk=>decide (k=id)).objs o1 (some (.cells (.sl sz (rows.map .agg) .any::rest)))}⟩ where
 n:=N4 _
 m:=N4 _
 go:=λN G w a r _=>by
  have R:=mI r.h (λk=>decide (k=id));have hd1:(h.drop λk=>decide (k=id)).objs o1=some (.cells (.tsl sz id 0 rows.length c::rest)):=by
   simp only[H.drop];rw[Ob (by simpa using hne)];exact h1
  have hex:∀j o,upd (h.drop λk=>decide (k=id)).objs o1 (some (.cells (.sl sz (rows.map .agg) .any::rest))) j=some o->∃o',(h.drop λk=>decide (k=id)).objs j=some o':=λj o hj=>by
   simp only[upd] at hj;by_cases e:j=o1
   ·subst e;exact ⟨_,hd1⟩
   ·rw[Ob e] at hj;exact ⟨o,hj⟩
  have T2:=Trans.JM (bC (G:=G) (h:=h) (w:=w) (λk=>decide (k=id))) hex;refine ⟨G.frz h _,T2,⟨r.size,λj=>oC r.h _ _ _ (r.t j),⟨λj o hj=>?_,λi j o o' a b e=>?_,R.tok,R.tinj⟩,r.df.mono T2⟩⟩
  ·simp only[upd] at hj;by_cases e:j=o1
   ·subst e;rw[Oi rfl] at hj;cases hj;obtain ⟨p1,p2,p3,p4⟩:=R.obj _ _ hd1;refine ⟨p1,p2,p3,?_⟩;obtain ⟨-,-,-,vs,rst,T,fr,y1,y2,y3,y4⟩:=r.h.obj _ _ h1;refine ⟨vs,rst,T,fr,y1,?_,y3,y4⟩;simp only[aE] at y2 |-;obtain ⟨v,us,e1,e2,e3⟩:=y2;exact ⟨v,us,e1,rT r.h hr ho ah e2,aE.mono r.h (bC _) _ _ e3⟩
   ·rw[Ob e] at hj;exact R.obj j o hj
  ·obtain ⟨o2,a2⟩:=hex _ _ a;obtain ⟨o3,b2⟩:=hex _ _ b;exact R.inj _ _ _ _ a2 b2 e
theorem Wp.Bn{g:Opd}{ps:List Nat}{x y:AC}{t:Tm}{f:Dd}{n m:Nat}{T:List Nat}{Q:aO->St->Prop}{fi:FuncId}{fn:Func}{first caps:List AV}(hg:ev t g= .clo (.func fi) first caps)(hf:P.funcs[fi]? =some fn)(hfb:fn.body.isSome=true)(hfn:fn.name≠ "runtime.NumGoroutine")
  (hfresh:f n=none)
  (hw:∀asg body,cCode P N asg=some x->cCode P N body=some y->fu asg=true->fu body=true->∃v f2 n2 T2 m2,
   eN P fi (first++[.yld n]++caps) ⟨upd f n (some (.loop N t ps asg body .ready none)),n+1,T,m⟩ v ⟨f2,n2,T2,m2⟩/\n+1<=n2/\m<=m2/\Q (.panic v) ⟨λ_=> .any,⟨f2,n2,T2,m2⟩⟩):Wp P N (.tv g ps x y) ⟨t,⟨f,n,T,m⟩⟩ Q:=by
 intro code hc;obtain ⟨z,qs,asg,body,rfl,c1,c2,c3,c4,c5,c6⟩:=ud hc;obtain ⟨v,f2,n2,T2,m2,cI,hn2,hm2,hq⟩:=hw asg body c3 c4 c5 c6;refine ⟨.panic v,_,⟨⟨by simp only;omega,by simp only;omega⟩,λro okc G w a rel F=>?_⟩,hq⟩;obtain rfl:ro=none:=by
  rcases okc with h|h
  ·exact h
  ·simp[fu] at h
 have hz:aC G w (.clo (.func fi) first caps) (a.eval z):=by rw[<-hg];exact aK c1 rel.t
 simp only[aC] at hz;obtain ⟨vs,us,hz,hv1,hv2⟩:=hz;refine wpIn_rangeFunc (F:=rd none) (n:=0) λfid _=>?_;let D:=w.heap.size
 let cZ:Loop:={state:= .ready,pending:=none,fn:=fid,tmps:=a.tmps,params:=qs,assign:=asg,body:=body,defers:=w.heap.size}
 let w1:=(w.alloc (.deferred (some []))).alloc (.loop cZ)
 have hD1:w1.heap[D]? =some (.deferred (some [])):=by
  show ((w.heap.push (.deferred (some []))).push (.loop cZ))[w.heap.size]? =_;rw[PO,Ob ah,PO,Oi rfl]
 have hL1:w1.heap[D+1]? =some (.loop cZ):=by
  show ((w.heap.push (.deferred (some []))).push (.loop cZ))[w.heap.size+1]? =_;rw[PO,Oi ah]
 have hsz1:w1.heap.size=w.heap.size+2:=by show ((w.heap.push (.deferred (some []))).push (.loop cZ)).size=_;simp
 have hold:∀B,B<w.heap.size->w1.heap[B]? =w.heap[B]? :=by
  intro B hB;show ((w.heap.push (.deferred (some []))).push (.loop cZ))[B]? =_;rw[PO,Ob (by rw[Array.size_push];omega),PO,Ob ae]
 have hndom:¬G.dom n:=F.1 n (N4 _) (by simp only;omega);let G1:aT:={G with dom:=λj=>G.dom j\/j=n,ι:=upd G.ι n (D+1),own:=λB=>G.own B\/B=D+1}
 have hι1:∀j,G.dom j->G1.ι j=G.ι j:=λj hj=>by
  simp only[G1,upd];rw[Ob];rintro rfl;exact hndom hj
 have hιn:G1.ι n=D+1:=by simp[G1,upd]
 have hne:∀j o,f j=some o->j≠n:=λj o h e=>by subst e;rw[hfresh] at h;cases h
 have hO:∀B,B<w.heap.size->H.O ⟨upd f n (some (.loop N t ps asg body .ready none)),n+1,T,m⟩ G1 B->H.O ⟨f,n,T,m⟩ G B:=by
  rintro B hB ⟨j,o,h1,h2⟩;by_cases e':j=n
  ·subst e';rw[hιn] at h2;omega
  ·have h1':f j=some o:=by simpa [upd,e'] using h1
   exact ⟨j,o,h1',by rw[<-hι1 j (rel.h.obj j o h1').1];exact h2⟩
 have Tr1:Trans G w ⟨f,n,T,m⟩ G1 w1 ⟨upd f n (some (.loop N t ps asg body .ready none)),n+1,T,m⟩:=by
  constructor
  ·exact λ_ x=> .inl x
  ·rintro j (h|rfl)
   ·exact .inl h
   ·exact .inr ⟨N4 _,OL _⟩
  ·exact hι1
  ·exact λ_ x=>x
  ·exact λ_=> .inl
  ·exact λ_ _=>rfl
  ·exact Nat.le_succ _
  ·exact N4 _
  ·rw[hsz1];omega
  ·rfl
  ·rfl
  ·intro B hB;rw[hold B hB];exact bS.refl _
  ·exact λB hB _ _=>hold B hB
  ·intro B hB _;exact ⟨λh=>h.resolve_right ae,.inl⟩
  ·exact λ_ _ _ _=>rfl
  ·intro B hB h1 h2 e' he';refine ⟨λj hj=>?_,λe'' he''=>?_⟩
   ·have:=hold B hB;unfold World.cell?;simp only[this]
   ·have he2:G.lim B=some e'':=he'';rw[he'] at he2;cases he2;exact N4 _
  ·exact hO
  ·exact λ_ _ h=>h
  ·intro j o h;by_cases e':j=n
   ·subst e';exact .inr ⟨N4 _,OL _⟩
   ·exact .inl ⟨o,by simpa [upd,e'] using h⟩
  ·exact λ_=> .inl
 have R1:bj G1 ⟨upd f n (some (.loop N t ps asg body .ready none)),n+1,T,m⟩ w1:=by
  refine ⟨λj o h=>?_,λi j o o' h1 h2 h3=>?_,λk hk=>⟨(rel.h.tok k hk).1,λB e' he'=>?_⟩,rel.h.tinj⟩
  ·by_cases e':j=n
   ·subst e';have:o= .loop N t ps asg body .ready none:=by simpa [upd] using h.symm
    subst this;refine ⟨.inr rfl,by rw[hιn];exact .inr rfl,by rw[hιn,hsz1];show w.heap.size+1<_;omega,cZ,by rw[hιn];exact hL1,rel.size,λi=>aC.mono rel.h Tr1 _ _ (rel.t i),c2,rfl,rfl,rfl,rfl⟩
   ·have h':f j=some o:=by simpa [upd,e'] using h
    obtain ⟨a1,a2,a3,a4⟩:=rel.h.obj j o h';refine ⟨.inl a1,by rw[hι1 j a1];exact .inl a2,by rw[hι1 j a1,hsz1];omega,?_⟩;rw[hι1 j a1,hold _ a3];exact a4.mono rel.h Tr1
  ·have low:∀k p,f k=some p->G1.ι k<w.heap.size:=λk p hk=>by rw[hι1 k (rel.h.obj k p hk).1];exact (rel.h.obj k p hk).2.2.1
   by_cases e1:i=n
   ·by_cases e2:j=n
    ·rw[e1,e2]
    ·have:=low j o' (by simpa [upd,e2] using h2);rw[<-h3,e1,hιn] at this;omega
   ·have hi:f i=some o:=by simpa [upd,e1] using h1
    by_cases e2:j=n
    ·have:=low i o hi;rw[h3,e2,hιn] at this;omega
    ·have hj:f j=some o':=by simpa [upd,e2] using h2
     exact rel.h.inj i j o o' hi hj (by rw[<-hι1 i (rel.h.obj i o hi).1,<-hι1 j (rel.h.obj j o' hj).1];exact h3)
  ·obtain ⟨b1,b2,b3⟩:=(rel.h.tok k hk).2 B e' he';refine ⟨b1,?_,by rw[hsz1];omega⟩;rintro (h|h)
   ·exact b2 h
   ·omega
 have F1:cB G1 ⟨upd f n (some (.loop N t ps asg body .ready none)),n+1,T,m⟩ ⟨f2,n2,T2,m2⟩:=F.step Tr1;have hargs:aE G1 w1 (first++[.yld n]++caps) (vs++[Value.func (.yield (D+1)) #[] #[]]++us):=by
  refine aE.append (aE.append (aE.mono rel.h Tr1 _ _ hv1) ?_) (aE.mono rel.h Tr1 _ _ hv2);simp only[aE,aC];exact ⟨_,[],rfl,⟨.inr rfl,by rw[hιn]⟩,rfl⟩
 refine ⟨D+1,[{target:= .collected D,args:= #[]}],w1,{target:= .fn (.func fi) us.toArray,args:=vs.toArray++ #[Value.func (.yield (D+1)) #[] #[]]},w1,fi,(vs++[Value.func (.yield (D+1)) #[] #[]]++us).toArray,w1,?_,?_,λ_ _=>trivial,?_,λh=>by simp[rd,Fence.wide] at h,kT ?_⟩
 ·exact run_enterLoop_outer fid a.tmps qs asg body
 ·have he:∀v,a.eval (.const v)=v:=λ_=>rfl;simp[resolve,rangeCall,hz,Deferred.ofValue,he]
 ·simp[invoke,eF w1 hf hfb hfn]
 ·refine (cI G1 w1 _ hargs R1 F1).mono ?_;rintro e' w3 ⟨G3,rfl,T3,R3⟩;have hDO1:¬H.O ⟨upd f n (some (.loop N t ps asg body .ready none)),n+1,T,m⟩ G1 D:=by
   rintro ⟨j,o,h1,h2⟩;by_cases e':j=n
   ·subst e';rw[hιn] at h2;omega
   ·have h1':f j=some o:=by simpa [upd,e'] using h1
    have:=(rel.h.obj j o h1').2.2.1;rw[hι1 j (rel.h.obj j o h1').1] at h2;omega
  have hDT1:¬H.T ⟨upd f n (some (.loop N t ps asg body .ready none)),n+1,T,m⟩ G1 D:=by
   rintro ⟨k,hk,e',he'⟩;have:=((rel.h.tok k hk).2 D e' he').2.2;omega
  have hDlt:D<w1.heap.size:=by rw[hsz1];show w.heap.size<_;omega
  have hD3:w3.heap[D]? =some (.deferred (some [])):=(T3.keep D hDlt hDO1 hDT1).trans hD1;have hDO3:¬H.O ⟨f2,n2,T2,m2⟩ G3 D:=λh=>hDO1 (T3.O_new D hDlt h);have hDT3:¬H.T ⟨f2,n2,T2,m2⟩ G3 D:=λh=>hDT1 (T3.T_new D hDlt h);have T03:Trans G w ⟨f,n,T,m⟩ G3 w3 ⟨f2,n2,T2,m2⟩:=Tr1.trans rel.h R1 T3;have relEnd:Rel N ⟨λ_=> .any,⟨f2,n2,T2,m2⟩⟩ G3 w3 {a with defers:=[({target:= .collected D,args:= #[]}:Deferred)]++a.defers}:=by
   refine ⟨rel.size,λi=>by simp[aC],R3,?_,?_⟩
   ·show ([({target:= .collected D,args:= #[]}:Deferred)]++a.defers).Nodup;rw[List.singleton_append,List.nodup_cons];refine ⟨λhm=>?_,rel.df.1⟩;obtain ⟨D',e',h1,-⟩:=rel.df.2 _ hm;simp only[Deferred.mk.injEq,Target.collected.injEq,Qk] at e';have:=uY h1;rw[<-e'] at this;exact absurd this (Nat.lt_irrefl _)
   ·intro d hd;rcases OS.1 hd with hd|hd
    ·rw[Oj.1 hd];exact ⟨D,rfl,hD3,hDO3,hDT3⟩
    ·exact (rel.df.mono T03).2 d hd
  have hnew:lX w a.defers ([({target:= .collected D,args:= #[]}:Deferred)]++a.defers):=by
   intro d hd;rcases OS.1 hd with hd|hd
   ·rw[Oj.1 hd];exact .inr ⟨D,N4 _,rfl⟩
   ·exact .inl hd
  exact ⟨rfl,hnew,G3,T03,relEnd⟩
end
section
variable{P:Program}{N:Nat}
theorem aw.opT{dst:Option Nat}{g:Option (Nat × Bool)}{op:AOp}{its:List aX}{t:Tm}{h h':H}{en:Ent}{K:Tm->H->Prop}{x:AV}(hg:guardOf t g=some true)(hx:lF (ev t) h op=some (x,h',en))
  (rest:aw P N its (bL t dst x) h' K):aw P N (⟨dst,g,op⟩::its) t h K:=
 aw.step (it:=⟨dst,g,op⟩) (λops i o ho hit=>by
  obtain ⟨h1,h1',tc,run⟩:=tZ ho hit hg hx;exact mU.oF (N:=N) (full:=false) (.inl tc) run) rest
theorem aw.opK{dst:Option Nat}{g:Option (Nat × Bool)}{op:AOp}{its:List aX}{t:Tm}{h h':H}{en:Ent}{K:Tm->H->Prop}{x:AV}(hg:guardOf t g=some true)(hx:mT (ev t) h op=some (x,h',en))
  (rest:aw P N its (bL t dst x) h' K):aw P N (⟨dst,g,op⟩::its) t h K:=
 aw.step (it:=⟨dst,g,op⟩) (λops i o ho hit=>by
  obtain ⟨h1,h1',tc,run⟩:=uf ho hit hg hx;exact mU.oF (N:=N) (full:=false) (.inl tc) run) rest
end
section
variable{P:Program}{N:Nat}
theorem iM(h:H){id:Nat}{ob ob':Obj}{m':Nat}(ho:h.objs id=some ob)(hm:h.m<=m'):Touch h (.only (upd aB id (some ob)) [] h.n h.m) (.only (upd aB id (some ob')) [] h.n m') {h with objs:=upd h.objs id (some ob'),m:=m'} ⟨[],[id],[]⟩ where
 sub:=(dp h ho).sub
 n:=rfl
 m:=rfl
 eq:=H.ext (λj=>by
  simp only[H.patch,H.only,upd,aB];by_cases e:j=id
  ·subst e;simp
  ·simp[e];omega) rfl (by simp[H.patch,H.only,ft]) rfl
 rd j x:=by
  simp only[H.only,upd,aB] at x;split at x
  ·rename_i e;subst e;simp
  ·cases x
 wr id a b:=by simp only[H.only] at a b;omega
 chg j x hj:=by
  simp only[H.only,upd,aB] at x;split at x
  ·rename_i e;subst e;simp at hj
  ·cases x
 tk t x:=by simp[H.only] at x
 tn t x:=by simp[H.only] at x
 le:=N4 _
 lem:=hm
theorem r7(h:H)(ob ob2:Obj):Touch h (.only aB [] h.n h.m) (.only (upd (upd aB h.n (some ob)) (h.n+1) (some ob2)) [] (h.n+2) h.m) {h with objs:=upd (upd h.objs h.n (some ob)) (h.n+1) (some ob2),n:=h.n+2} ⟨[],[h.n,h.n+1],[]⟩ where
 sub:=(bF h).sub
 n:=rfl
 m:=rfl
 eq:=H.ext (λj=>by
  simp only[H.patch,H.only,upd,aB];by_cases e:j=h.n
  ·subst e;simp
  ·by_cases e2:j=h.n+1
   ·subst e2;simp
   ·simp[e,e2];intro a b;omega) rfl (by simp[H.patch,H.only,ft]) rfl
 rd j x:=by simp[H.only,aB] at x
 wr id a b:=by simp only[H.only] at a b;simp;omega
 chg j x hj:=by simp[H.only,aB] at x
 tk t x:=by simp[H.only] at x
 tn t x:=by simp[H.only] at x
 le:=by simp[H.only]
 lem:=N4 _
def mf(P:Program)(f:FuncId)(args:List AV)(id:Nat)(ob:Obj)(r:AV)(ob':Obj):Prop:=
 ∀n m,∃m',m<=m'/\bB P f args (.only (upd aB id (some ob)) [] n m) r (.only (upd aB id (some ob')) [] n m')
def HX(P:Program)(f:FuncId)(args:List AV)(id:Nat)(ob:Obj)(v:Value):Prop:=
 ∀n m,eN P f args (.only (upd aB id (some ob)) [] n m) v (.only (upd aB id (some ob)) [] n m)
theorem az.cV{dst:Option Nat}{g:Option (Nat × Bool)}{f:FuncId}{l:List Opd}{its:List aX}{t:Tm}{h:H}{log:List Ent}{K:Tm->H->List Ent->Prop}{vals:List AV}{r:AV}{id:Nat}{ob ob':Obj}(hg:guardOf t g=some true)(hs:aA (l.map (ev t)) vals)
  (ho:h.objs id=some ob) (hc:mf P f vals id ob r ob') (rest:∀m',h.m<=m'->az P N its (bL t dst r) {h with objs:=upd h.objs id (some ob'),m:=m'} (⟨[],[id],[]⟩::log) K):az P N (⟨dst,g,.call f l⟩::its) t h log K:=by
 obtain ⟨m',hm,hc⟩:=hc h.n h.m;exact az.jb hg hs hc (iM h ho hm) (rest m' hm)
theorem aw.cV{dst:Option Nat}{g:Option (Nat × Bool)}{f:FuncId}{l:List Opd}{its:List aX}{t:Tm}{h:H}{K:Tm->H->Prop}{vals:List AV}{r:AV}{id:Nat}{ob ob':Obj}(hg:guardOf t g=some true)(hs:aA (l.map (ev t)) vals)
  (ho:h.objs id=some ob) (hc:mf P f vals id ob r ob') (rest:∀m',h.m<=m'->aw P N its (bL t dst r) {h with objs:=upd h.objs id (some ob'),m:=m'} K):aw P N (⟨dst,g,.call f l⟩::its) t h K:=by
 obtain ⟨m',hm,hc⟩:=hc h.n h.m;exact aw.step (λops i o ho' hit=>mU.oF (N:=N) (full:=false) (.inl (iM h ho hm)) (eG ho' hit hg rfl hs hc)) (rest m' hm)
theorem aR.cV{p:Option (List (Nat × Nat))}{dst:Option Nat}{g:Option (Nat × Bool)}{f:FuncId}{l:List Opd}{its:List aX}{t:Tm}{h:H}{log:List Ent}{R:Value->H->Prop}{vals:List AV}{r:AV}{id:Nat}{ob ob':Obj}(hg:guardOf t g=some true)(hs:aA (l.map (ev t)) vals)
  (ho:h.objs id=some ob) (hc:mf P f vals id ob r ob') (rest:∀m',h.m<=m'->aR P N p its (bL t dst r) {h with objs:=upd h.objs id (some ob'),m:=m'} (⟨[],[id],[]⟩::log) R):aR P N p (⟨dst,g,.call f l⟩::its) t h log R:=by
 obtain ⟨m',hm,hc⟩:=hc h.n h.m;exact aR.step (iM h ho hm) (λops i o ho' hit=>eG ho' hit hg rfl hs hc) (λh=>by simp[bN] at h) (rest m' hm)
theorem aR.span{l:List (Nat × Nat)}{dst:Option Nat}{f:FuncId}{aa:List Opd}{its:List aX}{t:Tm}{h:H}{log:List Ent}{R:Value->H->Prop}{vals:List AV}{v:Value}{id:Nat}{ob:Obj}(hs:aA (aa.map (ev t)) vals)(ho:h.objs id=some ob)(hc:HX P f vals id ob v)
  {ents:List Ent} (hr:gd l log.length its (log.length+1) dst.toList (bL t dst .any) h=some ents) (hp:aN l (log.reverse++⟨[id],[],[]⟩::ents)) (hP:C8 l log.length (log.reverse++⟨[id],[],[]⟩::ents) h)
  (hq:∀n m,h.n<=n->h.m<=m->R v {h with n:=n,m:=m}):aR P N (some l) (⟨dst,none,.call f aa⟩::its) t h log R:=
 aR.JI rfl (dp h ho) (λops i o ho' hit=>ff ho' hit rfl rfl hs (hc h.n h.m)) ⟨ents,hr,hp,hP⟩ hq
theorem aR.E7{l:List (Nat × Nat)}{dst:Option Nat}{f:FuncId}{aa:List Opd}{its:List aX}{t:Tm}{h:H}{log:List Ent}{R:Value->H->Prop}{vals:List AV}{v:Value}(hs:aA (aa.map (ev t)) vals)(hc:ER P f vals v)
  {ents:List Ent} (hr:gd l log.length its (log.length+1) dst.toList (bL t dst .any) h=some ents) (hp:aN l (log.reverse++aU::ents)) (hP:C8 l log.length (log.reverse++aU::ents) h)
  (hq:∀n m,h.n<=n->h.m<=m->R v {h with n:=n,m:=m}):aR P N (some l) (⟨dst,none,.call f aa⟩::its) t h log R:=
 aR.JI rfl (bF h) (λops i o ho' hit=>ff ho' hit rfl rfl hs (hc h.n h.m)) ⟨ents,hr,hp,hP⟩ hq
def LC(l:List (Nat × Nat))(j:Nat)(log:List Ent):Bool:=l.all λ(a,b)=>(!Nat.beq a j||(Nat.blt a b&&(log.getD b aU).tk.isEmpty))&&(!Nat.beq b j||rR (log.getD a aU))
theorem fw{l:List (Nat × Nat)}{j:Nat}{log:List Ent}{h':H}(h1:LC l j log=true)(h2:∀e∈log.drop (j+1),∀id∈e.wr,h'.objs id=none):C8 l j log h':=by
 intro a b hab;unfold LC at h1;rw[OK] at h1;have:=h1 _ hab;simp only[Oh,OZ,Qv,rR,List.isEmpty_iff] at this;refine ⟨λe=>?_,λe=>?_⟩
 ·subst e;obtain ⟨q1,q2⟩:=this.1.resolve_left ah;have hlt:a<b:=by rw[Nat.blt_eq] at q1;exact q1
  refine ⟨q2,λid hid=>?_⟩;by_cases hb:b<log.length
  ·have e1:log.getD b aU=log[b]:=by simp[List.getD,N5 hb]
   rw[e1] at hid;refine h2 _ (List.mem_drop_iff_getElem.2 ⟨b - (a+1),ae,?_⟩) id hid;congr 1;omega
  ·have e1:log.getD b aU=aU:=by simp[List.getD,Pq (by omega:log.length<=b)]
   rw[e1] at hid;cases hid
 ·subst e;obtain ⟨q1,q2⟩:=this.2.resolve_left ah;exact ⟨q2,q1⟩
theorem bu.cV{dst:Option Nat}{g:Option (Nat × Bool)}{f:FuncId}{l:List Opd}{its:List aX}{t:Tm}{h h':H}{v:Value}{vals:List AV}{r:AV}{id:Nat}{ob ob':Obj}{m':Nat}(hg:guardOf t g=some true)(hs:aA (l.map (ev t)) vals)
  (ho:h.objs id=some ob) (hm:h.m<=m') (hc:bB P f vals (.only (upd aB id (some ob)) [] h.n h.m) r (.only (upd aB id (some ob')) [] h.n m')) (rest:bu P N its (bL t dst r) {h with objs:=upd h.objs id (some ob'),m:=m'} v h'):bu P N (⟨dst,g,.call f l⟩::its) t h v h':=
 bu.step (λops i o ho' hit=>mU.oF (N:=N) (full:=false) (.inl (iM h ho hm)) (eG ho' hit hg rfl hs hc)) rest
theorem bu.span{dst:Option Nat}{f:FuncId}{aa:List Opd}{its:List aX}{t:Tm}{h:H}{vals:List AV}{v:Value}{id:Nat}{ob:Obj}(hs:aA (aa.map (ev t)) vals)(ho:h.objs id=some ob)(hc:HX P f vals id ob v):bu P N (⟨dst,none,.call f aa⟩::its) t h v h:=
 bu.here λops i o ho' hit=>tB.of (dp h ho) (ff ho' hit rfl rfl hs (hc h.n h.m))
theorem bu.E7{dst:Option Nat}{f:FuncId}{aa:List Opd}{its:List aX}{t:Tm}{h:H}{vals:List AV}{v:Value}(hs:aA (aa.map (ev t)) vals)(hc:ER P f vals v):bu P N (⟨dst,none,.call f aa⟩::its) t h v h:=
 bu.here λops i o ho' hit=>tB.of (bF h) (ff ho' hit rfl rfl hs (hc h.n h.m))
end
end Go.Av
end
section
set_option maxRecDepth 100000
namespace Go.Proofs.YtjnoobmaedgooaaGreat.C
open Go.Av
def zi:Nat->Int|0=>0|1=>1|2=>2|3=>3|4=>4|5=>5|6=>6|7=>7|8=>8|9=>9|10=>10|n=>n
def zN(n:Nat):Nat×Nat:=match n%16 with|15=>(n/16%256,n/4096)|d=>(d,n/16)
def zO(c n:Nat)(x:List AOp):Opd×Nat×List AOp:=
 match n%16 with
 |7=>(.t (c-1-n/16%256),n/4096,x)
 |8=>(.t (n/16%256),n/4096,x)
 |13=>match zN (n/16) with|(k,n)=>(.c (.int .i64 (zi k)),n,x)
 |14=>match n/16%16 with|0=>(.c (.bool false),n/256,x)|1=>(.c (.bool true),n/256,x)|2=>(.c (.sc (.pointer none)),n/256,x)|_=>match x with|.mov o::x=>(o,n/256,x)|_=>(.t 0,0,x)
 |15=>(.t 4,n/16,x)
 |9=>(.t 0,n/16,x)|10=>(.t 1,n/16,x)|11=>(.t 2,n/16,x)|12=>(.t 3,n/16,x)
 |d=>(.t (c-1-d),n/16,x)
def zQ:Nat->Nat->Nat->List AOp->List Opd×Nat×List AOp
|0,_,n,x=>([],n,x)
|k+1,c,n,x=>match zO c n x with|(o,n,x)=>match zQ k c n x with|(l,n,x)=>(o::l,n,x)
def z1(f:Opd->AOp)(c n:Nat)(x:List AOp):AOp×Nat×List AOp:=match zO c n x with|(o,n,x)=>(f o,n,x)
def z2(f:Opd->Opd->AOp)(c n:Nat)(x:List AOp):AOp×Nat×List AOp:=match zO c n x with|(o,n,x)=>match zO c n x with|(p,n,x)=>(f o p,n,x)
def zk(f:Nat->Opd->AOp)(c n:Nat)(x:List AOp):AOp×Nat×List AOp:=match zN n with|(k,n)=>match zO c n x with|(o,n,x)=>(f k o,n,x)
def zk2(f:Nat->Opd->Opd->AOp)(c n:Nat)(x:List AOp):AOp×Nat×List AOp:=match zN n with|(k,n)=>z2 (f k) c n x
def zb:Nat->BinOp|0=>.add|1=>.sub|2=>.lss|3=>.gtr|4=>.eql|5=>.neq|6=>.leq|7=>.geq|8=>.mul|9=>.quo|10=>.rem|11=>.and|12=>.or|13=>.shl|_=>.shr
def zX(c n:Nat)(x:List AOp):AOp×Nat×List AOp:=
 match n%16 with
 |0=>z1 .mov c (n/16) x
 |1=>z1 (.load none) c (n/16) x
 |2=>zk .faddr c (n/16) x
 |3=>zk (λk o=>.ext o k) c (n/16) x
 |4=>z1 .nilck c (n/16) x
 |5=>zk (λk=>.load (some k)) c (n/16) x
 |6=>z2 (λa b=>.pick a b (.c (.bool false))) c (n/16) x
 |7=>z2 (λa b=>.pick a (.c (.bool true)) b) c (n/16) x
 |8=>match zN (n/16) with|(f,n)=>match zN n with|(k,n)=>match zQ k c n x with|(l,n,x)=>(.call f l,n,x)
 |9=>zk2 .store c (n/16) x
 |10=>z2 (.bin (zb (n/16%16))) c (n/256) x
 |11=>match n/16%16 with
  |0=>z1 (.un .not) c (n/256) x
  |1=>zk2 .iaddr c (n/256) x
  |2=>z1 (.len false) c (n/256) x
  |3=>z1 (.len true) c (n/256) x
  |4=>z1 .box c (n/256) x
  |5=>z1 .pan c (n/256) x
  |6=>z2 .idx c (n/256) x
  |_=>zk .ifc c (n/256) x
 |_=>match x with|o::x=>(o,n/16,x)|_=>(.dead,0,x)
def zI(c n:Nat)(x:List AOp)(g:Option (Nat×Bool)):aX×Nat×Nat×List AOp:=
 match n%16 with
 |14=>match zX c (n/16) x with|(o,n,x)=>(⟨none,g,o⟩,c,n,x)
 |9=>match zX c n x with|(o,n,x)=>(⟨none,g,o⟩,c,n,x)
 |15=>match zN (n/16) with|(c,n)=>match zX c n x with|(o,n,x)=>(⟨some c,g,o⟩,c+1,n,x)
 |_=>match zX c n x with|(o,n,x)=>(⟨some c,g,o⟩,c+1,n,x)
def zG(c n:Nat)(x:List AOp):aX×Nat×Nat×List AOp:=
 match n%16 with
 |13=>match zN (n/16) with|(k,n)=>zI c (n/16) x (some (c-1-k,match n%16 with|0=>false|_=>true))
 |_=>zI c n x none
def zL:Nat->Nat->Nat->List AOp->List aX×Nat×Nat×List AOp
|0,c,n,x=>([],c,n,x)
|k+1,c,n,x=>match zG c n x with|(i,c,n,x)=>match zL k c n x with|(l,c,n,x)=>(i::l,c,n,x)
def zR(c n:Nat)(x:List AOp):List aX×Nat×Nat×List AOp:=match zN n with|(k,n)=>zL k c n x
def zV:Nat->Nat->List (Nat×Nat)×Nat
|0,n=>([],n)
|k+1,n=>match zN n with|(a,n)=>match zN n with|(b,n)=>match zV k n with|(l,n)=>((a,b)::l,n)
def zP(n:Nat):List (Nat×Nat)×Nat:=match zN n with|(k,n)=>zV k n
def zC:Nat->Nat->Nat->List AOp->AC×Nat×Nat×List AOp
|0,c,n,x=>(.skip,c,n,x)
|f+1,c,n,x=>match n%16 with
 |0=>(.skip,c,n/16,x)
 |1=>match zC f c (n/16) x with|(a,c,n,x)=>match zC f c n x with|(b,c,n,x)=>(.seq a b,c,n,x)
 |2=>match zR c (n/16) x with|(l,c,n,x)=>(.reg l none,c,n,x)
 |3=>match zR c (n/16) x with|(l,c,n,x)=>match zC f c n x with|(b,c,n,x)=>(.seq (.reg l none) b,c,n,x)
 |4=>match zO c (n/16) x with|(o,n,x)=>match zC f c n x with|(a,c,n,x)=>match zC f c n x with|(b,c,n,x)=>(.cond o a b,c,n,x)
 |5=>match zN (n/16) with|(k,n)=>match zC f c n x with|(a,c,n,x)=>(.block k a,c,n,x)
 |6=>match zC f c (n/16) x with|(a,c,n,x)=>(.loop a,c,n,x)
 |7=>match zN (n/16) with|(k,n)=>(.exit k,c,n,x)
 |8=>(.ret,c,n/16,x)
 |9=>match zR c (n/16) x with|(l,c,n,x)=>(.seq (.reg l none) .ret,c,n,x)
 |10=>match zO c (n/16) x with|(o,n,x)=>match zC f c n x with|(a,c,n,x)=>(.cond o a .skip,c,n,x)
 |11=>match zC f c (n/16) x with|(a,c,n,x)=>(.scope a,c,n,x)
 |12=>match zN (n/16) with|(k,n)=>(.label k,c,n,x)
 |13=>match zN (n/16) with|(k,n)=>(.goto k,c,n,x)
 |14=>match zR c (n/16) x with|(l,c,n,x)=>match zP n with|(p,n)=>(.reg l (some p),c,n,x)
 |_=>(.skip,c,0,x)
def zz(n:Nat)(x:List AOp:=[]){a:AC}(_:(zC 999 0 n x).1=a:=by cbv):AC:=a
def c4:AC:=zz 0x43804f0160a810d00036014a12d317011d327010d0003601216f812d2d71511d2e71510d00036014a12d2b7011d2c7010d0001216f828715297152fff16f92e802d8019cbf3132032dff2c802aff0115f8a02bff832980288019c9f51340328ff278023ff0114f8ca0c24ffa32280218019c7f41330321ff20801dff0113f8c901eff931c801b8019c5f5134031bff1a8016ff0112f8c90c17ffa315804f0a8290a0373e03a02d02b01da000d003e03a02b90df8310e04f13 [.mov (.c (.int .i64 100000)),.mov (.c (.int .i64 100)),.buildSl 1 [],.app false 1 1 (.t 23) (.t 24),.alloc [.sl 3 [] (.exact 0)],.conv .b2s (.t 30),.alloc [.sl 3 [] (.exact 0)],.buildSl 2 [],.app false 2 32 (.t 36) (.t 37),.alloc [.sl 3 [] (.exact 0)],.alloc [.sl 3 [] (.exact 0)]]
theorem f4:aV Tryz.prog 4 68 c4 [.tmp 4]:=⟨_,Tryz.func4,rfl,by kernel_rfl,rfl⟩
def c10:AC:=zz 0x827f23f147800f0563e04a14d0113d01212d0d031b11d3c7010d0000976044a18d0117d00216d0d021b15dc014d0113d00212d0d031b11d317010d000260d04a11d2c7010d000361d04a12d02b11d287010d000260d04a11df010d000361d04a12d02b11dc010d000260d04a11db010d000463e04a13dc12dc11da010d00ad04a02ba017ff32fe1168015805f41330315ff148011ff01217f8023f8c12ff8310800f803f3132030fff0e80cf01d8023f8df730b800a801f313203af09807f01b8c8f730e013 [.build [.sl 3 [] (.exact 0)] [],.build [.sl 3 [] (.exact 0)] [],.slc false 1 (.t 27) none (some (.c (.int .i64 6))) none,.conv .b2s (.t 28),.mov (.c (.str [65,82,67,72,0,0])),.mov (.c (.str [48]))]
theorem f10:aV Tryz.prog 10 72 c10 [.tmp 0]:=⟨_,Tryz.func10,rfl,by kernel_rfl,rfl⟩
def c11:AC:=zz 0xd04c802f02225f8012af84470437049ff6948801aff1d2d70a48ff2247802cff1d1a70a47ff226462246805fc013a77203224f803b013677239703fff9e535223e805fc327002229f8013071202227f8012d702307036ffae135803480af41330334ff338030ff0128f80552772231ff832f8089c9f0851381b43351270041102a136250d002b012172229ff43868583825352628805f03225f802b011d72202226f8011a71202227f8011770218701effce11d8039c7f0351331b43151070041102a136050d002b01a0217ff43116805f03224f802b01a02cc11ff7310803e02ff0390a0d05af0ef230d804f010ff8a15cf3310d03e004b1f33 [.mov (.c (.sl 1 [] (.exact 0))),.mov (.c (.sl 1 [] (.exact 0))),.buildSl 1 [(.c (.int .u8 65)),(.c (.int .u8 82)),(.c (.int .u8 67)),(.c (.int .u8 72))],.conv .s2s (.t 17),.alloc [.str [],.int .i64 0,.sl 8 [] (.exact 0)],.alloc [.str [],.int .i64 0,.int .i64 0,.int .i64 0,.int .i64 0,.bool false,.bool false,.str []],.app true 1 1 (.t 60) (.t 61),.app true 1 1 (.t 67) (.t 69)]
theorem f11:aV Tryz.prog 11 77 c11 [.tmp 2,.tmp 3]:=⟨_,Tryz.func11,rfl,by kernel_rfl,rfl⟩
def c13:AC:=(.seq (.reg [⟨some 1,none,.box (.t 0)⟩,⟨some 2,none,.mov (.c (.sl 2 [] (.exact 0)))⟩,⟨some 3,none,.mov (.c (.int .i64 0))⟩] none)
 (.seq (.seq (.reg [⟨some 11,none,.load (some 1) (.t 1)⟩,⟨some 12,none,.call 15 [(.t 11)]⟩,⟨some 4,none,.mov (.t 12)⟩] none)
 (.seq (.reg [⟨some 13,none,.mov (.t 4)⟩,⟨some 14,none,.bin .neq (.t 13) (.c (.int .i64 0))⟩] none)
 (.cond (.t 14) (.seq (.reg [⟨some 15,none,.mov (.t 4)⟩,⟨some 2,none,.mov (.c (.sl 2 [] (.exact 0)))⟩,⟨some 3,none,.mov (.t 15)⟩] none)
 .ret) .skip)))
 (.seq (.reg [⟨some 5,none,.alloc [.sl 2 [] (.exact 0)]⟩] none)
 (.seq (.seq (.reg [⟨some 16,none,.faddr 0 (.t 1)⟩,⟨some 17,none,.load none (.t 16)⟩,⟨some 18,none,.len false (.t 17)⟩,⟨some 19,none,.mov (.c (.int .i64 0))⟩] none)
 (.block 0 (.loop (.seq (.reg [⟨some 20,none,.bin .lss (.t 19) (.t 18)⟩] none)
 (.seq (.cond (.t 20) .skip (.exit 0))
 (.seq (.block 1 (.seq (.reg [⟨some 21,none,.iaddr 3 (.t 17) (.t 19)⟩,⟨some 22,none,.load (some 3) (.t 21)⟩,⟨some 7,none,.alloc [.str [],.int .i64 0,.sl 8 [] (.exact 0)]⟩,⟨none,none,.store 3 (.t 7) (.t 22)⟩] none)
 (.seq (.reg [⟨some 23,none,.load (some 3) (.t 7)⟩,⟨some 24,none,.call 44 [(.t 23)]⟩] none)
 (.block 2 (.tv (.t 24) [25] (.reg [⟨some 8,none,.mov (.t 25)⟩] none)
 (.block 3 (.seq (.reg [⟨some 26,none,.mov (.t 8)⟩,⟨some 27,none,.len false (.t 26)⟩,⟨some 28,none,.mov (.c (.int .i64 0))⟩] none)
 (.block 4 (.loop (.seq (.reg [⟨some 29,none,.bin .lss (.t 28) (.t 27)⟩] none)
 (.seq (.cond (.t 29) .skip (.exit 4))
 (.seq (.block 5 (.seq (.reg [⟨some 30,none,.iaddr 3 (.t 26) (.t 28)⟩,⟨some 31,none,.load (some 3) (.t 30)⟩,⟨some 10,none,.alloc [.str [],.str [],.bool false]⟩,⟨none,none,.store 3 (.t 10) (.t 31)⟩] none)
 (.reg [⟨some 32,none,.load none (.t 5)⟩,⟨some 33,none,.faddr 0 (.t 10)⟩,⟨some 34,none,.load none (.t 33)⟩,⟨some 35,none,.faddr 1 (.t 10)⟩,⟨some 36,none,.load none (.t 35)⟩,⟨some 37,none,.build [.str [],.str []] [(0,1,(.t 34)),(1,1,(.t 36))]⟩,⟨some 38,none,.buildSl 2 [(.t 37)]⟩,⟨some 39,none,.app false 2 32 (.t 32) (.t 38)⟩,⟨none,none,.store 1 (.t 5) (.t 39)⟩] none)))
 (.reg [⟨some 40,none,.bin .add (.t 28) (.c (.int .i64 1))⟩,⟨some 28,none,.mov (.t 40)⟩] none)))))))))))))
 (.reg [⟨some 41,none,.bin .add (.t 19) (.c (.int .i64 1))⟩,⟨some 19,none,.mov (.t 41)⟩] none)))))))
 (.seq (.reg [⟨some 42,none,.load none (.t 5)⟩,⟨some 43,none,.call 45 [(.t 42),(.c (.clo (.func 46) [] []))]⟩] none)
 (.seq (.reg [⟨some 44,none,.load none (.t 5)⟩,⟨some 2,none,.mov (.t 44)⟩,⟨some 3,none,.mov (.c (.int .i64 0))⟩] none)
 .ret))))))
theorem f13:aV Tryz.prog 13 45 c13 [.tmp 2,.tmp 3]:=⟨_,Tryz.func13,rfl,by kernel_rfl,rfl⟩
def c14:AC:=zz 0xd040802f3a7040ff3915806f1d00a0d7014ff3221808f1d00a177020ff322a809f1d00a1f7029ff3210f810f4c8c443e805f13713127033eff3d802bff0087107330f8010120131b2f70010111b2d702d70010020131b2770010111b2570257026702cff16fe55147004052a02b010111b1b701b70187022ff7316450d09f1335127004022a02b157013701cff4316250d0131b807f012ff80350131b117001a0216ff7315107004032a02b01a0208700fff5316050d01313e05f130e803e02ff0390a0d05af0cf230b804f0110f8a15af3310d03e004b1f33 [.mov (.c (.sl 2 [] (.exact 0))),.mov (.c (.sl 2 [] (.exact 0))),.mov (.c (.sl 2 [] (.exact 0)))]
theorem f14:aV Tryz.prog 14 65 c14 [.tmp 2,.tmp 3]:=⟨_,Tryz.func14,rfl,by kernel_rfl,rfl⟩
def c15:AC:=zz 0xd02f193780ef1d2870a37ff224d02f190a14f12f14fd204700b03d0133f802d0101df2200d0000e7700a760dd027a19d0118df0217d0116d00215d0231b14d1d01a13dc012d0111da0210d0002d0d03a01dc000d000470d05a03d0132f802d0101df0200d000d05a127019ff1efe1188017805f41330317ff168013ff0131f801f1214ff83128f3910803fc4f0352431b1063151070041102a136050d002b01a02bf4314d02f190a3e03a02b015027f4310d004b1f23 [.mov (.c (.int .i64 65535)),.alloc [.str [],.int .i64 0,.sl 8 [] (.exact 0)]]
theorem f15:aV Tryz.prog 15 56 c15 [.tmp 2]:=⟨_,Tryz.func15,rfl,by kernel_rfl,rfl⟩
def c16:AC:=zz 0xd02f190e803f1d00ac0df324d02f190a17f11f17fc13f11f13fc40137700f76012fd00b1ed06235f81dd011cd0021bd0131b1adc019d0118da0217d0116d00215d0231b14d1d01a13dc012d0111da0210d0002d0d03a01dc000d0000b0134f80350131bc001a020fff1cfe115107004032a02b01a02408f5316050d01314d02f190a3e03a02b012024f4310d004b1f23 [.mov (.c (.int .i64 65535))]
theorem f16:aV Tryz.prog 16 43 c16 [.tmp 2]:=⟨_,Tryz.func16,rfl,by kernel_rfl,rfl⟩
def c17:AC:=zz 0x1e04f1910805f1d00a09700fff320e04f190a731c0250121b1070a00250121b0c709011ff9e115107004022a02b9050bf4316050d01310e04f190a025a02b6002b506f5310e04f13 [.eqA true [.str,.str] (.t 20) (.t 24)]
theorem f17:aV Tryz.prog 17 26 c17 [.tmp 4]:=⟨_,Tryz.func17,rfl,by kernel_rfl,rfl⟩
def c18:AC:=zz 0xd03f0b19f1510ff390f803f1b190870c490a0d05a50cf2310b806f0136f8caf33098019c5f04bc517f53c130d0c04b1f33 [.alloc [.sl 3 [] (.exact 0)],.alloc [.sl 3 [] (.exact 0)],.build [.sl 1 [] (.exact 0),.int .i64 0] [(0,1,(.t 7))],.alloc [.sc (.pointer none)],.mkfn (.func 55) [] [(.t 5),(.t 4),(.t 1)],.build [.sl 3 [] (.exact 0)] []]
theorem f18:aV Tryz.prog 18 17 c18 [.cell 2 (some 1),.tmp 3]:=⟨_,Tryz.func18,rfl,by kernel_rfl,rfl⟩
def c19:AC:=zz 0xd03f0b196c71573ff394d03f0b19c390a047015a03d9002d012bf801d6671500d000370d05a02d0110f801d6171500d0000b0102204f062ff10f3121807f1d01a187020ff3210195a702cc5573501557025cff7235809f1d01a2a7034ff32101952722cc4d785014d72272201902208740260d04a11d447010d000102204f0f0c310193f7720223cf82d023df8f0f06310593a7223875544ff334380428059cbf41330342ff41803eff013ef83e023cf8f03fff931019327128d023df8f03bff433a8089cafc0223cf81d023df8f0f036ff73351270040460113d02212d0411df010d000d03a22702cff8316252b809f4d023df8f03311019207121d023df8f027ff43268039c8fc0223cf81d023df8f0f022ff73151070040263e04a11d177010d000460113d02212d0411df010d000d03a0c7014ffc3160513807f2d023df8f012ff331c1311805f4d023cf8f010ff330f804f04bc90df430d0c2f23 [.alloc [.sl 3 [] (.exact 0)],.build [.str [],.int .i64 0,.bool false] [(0,1,(.t 13)),(2,1,(.c (.bool true)))],.alloc [.sl 3 [] (.exact 0)],.mov (.c (.str [65,82,67,72])),.build [.str [],.int .i64 0,.sl 8 [] (.exact 0)] [(0,1,(.t 37))],.alloc [.str [],.int .i64 0,.sl 8 [] (.exact 0)],.build [.str [],.int .i64 0,.int .i64 0,.int .i64 0,.int .i64 0,.bool false,.bool false,.str []] [(0,1,(.t 57))],.alloc [.str [],.int .i64 0,.int .i64 0,.int .i64 0,.int .i64 0,.bool false,.bool false,.str []],.mov (.c (.int .i64 11)),.alloc [.int .i64 0,.int .i64 0,.int .i64 0,.bool false,.bool false],.buildSl 8 [(.t 88)],.app false 8 72 (.t 87) (.t 89),.buildSl 3 [(.t 94)],.app false 3 48 (.t 93) (.t 95),.build [.sl 3 [] (.exact 0)] []]
theorem f19:aV Tryz.prog 19 116 c19 [.cell 2 (some 1),.tmp 3]:=⟨_,Tryz.func19,rfl,by kernel_rfl,rfl⟩
def c20:AC:=zz 0xd03f0b1901500204f10fff690e803f1b190870c490a0d05a50bf2310a805f0136f8c9f33088019c4f04bcc6f530d0c04b1f33 [.alloc [.sl 3 [] (.exact 0)],.mkmap,.build [.sl 3 [] (.exact 0),.sc (.map none)] [(1,1,(.t 6))],.alloc [.sc (.pointer none)],.mkfn (.func 63) [] [(.t 1),(.t 4)],.build [.sl 3 [] (.exact 0)] []]
theorem f20:aV Tryz.prog 20 19 c20 [.cell 2 (some 1),.tmp 3]:=⟨_,Tryz.func20,rfl,by kernel_rfl,rfl⟩
def c21:AC:=zz 0xd03f0b19f1591ff394d03f0b19c390a04700b03d01211f802d9001d797000d000d05a757088ff8318780868011ff31320386ff858083ff01e8f1584ff734080af1d00a34703fff324680bf1d00a397045ff32b1a8a4a19894918141920190220970a731bcc6d785010220131b6f7001f026c7001f020ffe101963772013344f8617850163712906fff7386858381656361513196e8089c10ffc5e755010d011b015c732015a72267ffae16680658059cef0771360365ff64805eff013ef8010120121b5470905fffc3570ab575200977065a08d0107d00206d0131b05d4d7004d0103df0202d0101d4771200d002d05a014370250ffee114f804e8049ccf077136034eff4d8047ff0142f8010020121b3d709048ffc355147004022a02b90357041ff4316450d0bf1335127004032a02b01f022f703aff5316250d0af13118805f1d00a117017ff321019f02ccc2c70012c71201f0231ffa230802f808f077136032fff2e8028ff0143f8010120121b24709029ffb30a1d04a011e70225ff334d03f0b19c390a0d05a1a7022ff2312180208049c6f0771360320ff1f8019ff0142f8010020121b1570901affc315107004022a02b900d7013ff4316050d0131c130d0c2f23 [.alloc [.sl 3 [] (.exact 0)],.alloc [.sl 3 [] (.exact 0)],.alloc [.int .i64 0,.str [],.str [],.sl 1 [] (.exact 0)],.build [.sl 3 [] (.exact 0)] [],.build [.str [],.int .i64 0,.sl 8 [] (.exact 0)] [(0,1,(.t 52)),(1,1,(.t 53))],.buildSl 3 [(.t 54)],.app false 3 48 (.t 50) (.t 55),.alloc [.int .i64 0,.str [],.str [],.sl 1 [] (.exact 0)],.alloc [.int .i64 0,.int .i64 0,.int .i64 0,.bool false,.bool false],.build [.str [],.int .i64 0,.int .i64 0,.int .i64 0,.int .i64 0,.bool false,.bool false,.str []] [(0,1,(.t 104)),(1,1,(.t 108)),(2,5,(.t 109))],.alloc [.str [],.int .i64 0,.int .i64 0,.int .i64 0,.int .i64 0,.bool false,.bool false,.str []],.buildSl 8 [(.t 126)],.app false 8 72 (.t 125) (.t 127),.build [.sl 3 [] (.exact 0)] []]
theorem f21:aV Tryz.prog 21 146 c21 [.cell 2 (some 1),.tmp 3]:=⟨_,Tryz.func21,rfl,by kernel_rfl,rfl⟩
def c22:AC:=zz 0x1e04f1916805f1d00a0f7015ff323c808f1d00a32703bff320e04f190a949164614c0850181b3b70013a7220850181b367001367223dffbe135127004032a02b01307222d7036ff5316250d08f130e04f190a00777035a06d02b05d0104d2972203d02b02d0101d2772200d00057025a04d0103d2171202d0101d2071200d00025a011b702011a70221ff15f31c9c6bab9b6b4b1a9a6a4a1949164610ff2080391b8139cc6f0350131b187001c020350131b137001b0217ffee115107004032a02b01b020a7010ff5316050d01310e04f190a035a02b01c0202b016029f7310e014b14b2f33 [.alloc [.str [],.int .i64 0,.sl 8 [] (.exact 0)],.alloc [.str [],.int .i64 0,.sl 8 [] (.exact 0)],.eqA true [.str,.int,.int,.int,.int,.bool,.bool,.str] (.t 65) (.t 70)]
theorem f22:aV Tryz.prog 22 72 c22 [.tmp 4]:=⟨_,Tryz.func22,rfl,by kernel_rfl,rfl⟩
def c23:AC:=zz 0xd01b804f01245f81170127019ff5918803e04f1070390a0d05a0e7016ff23115807f14808f31320314ff138011ff01d8c1512ff7310803e04f0870390a0d05a60ef2310d800c806f313203cf0b809f01d8b15af730d03e014b14b2f43 [.mov (.c (.sl 3 [] (.exact 0))),.mov (.c (.sl 3 [] (.exact 0))),.mov (.c (.sl 3 [] (.exact 0)))]
theorem f23:aV Tryz.prog 23 28 c23 [.tmp 4,.tmp 5]:=⟨_,Tryz.func23,rfl,by kernel_rfl,rfl⟩
def c35:AC:=zz 0x319ccc49c13 [.alloc [.sl 3 [] (.exact 0)],.build [.str [],.int .i64 0,.sl 8 [] (.exact 0)] [(0,1,(.c (.str [97,98,99])))],.buildSl 3 [(.t 1)],.build [.sl 3 [] (.exact 0)] [(0,1,(.t 2))]]
theorem f35:aV Tryz.prog 35 4 c35 [.cell 0 (some 1)]:=⟨_,Tryz.func35,rfl,by kernel_rfl,rfl⟩
def c36:AC:=zz 0x8804f2d02352f8c4040593e04f13 [.mov (.c (.sl 1 [] (.exact 0))),.conv (.toInt .u16) (.t 6)]
theorem f36:aV Tryz.prog 36 9 c36 [.tmp 4]:=⟨_,Tryz.func36,rfl,by kernel_rfl,rfl⟩
def c37:AC:=zz 0x8804f4d02353f8c4040593e04f13 [.mov (.c (.sl 1 [] (.exact 0))),.conv (.toInt .u32) (.t 6)]
theorem f37:aV Tryz.prog 37 9 c37 [.tmp 4]:=⟨_,Tryz.func37,rfl,by kernel_rfl,rfl⟩
def c38:AC:=zz 0x8804f1d02354f8c4040593e04f13 [.mov (.c (.sl 1 [] (.exact 0))),.conv (.toInt .u8) (.t 6)]
theorem f38:aV Tryz.prog 38 9 c38 [.tmp 4]:=⟨_,Tryz.func38,rfl,by kernel_rfl,rfl⟩
def c39:AC:=zz 0xa804fca002226f803b4040793e04f13 [.mov (.c (.sl 1 [] (.exact 0))),.app true 1 1 (.t 8) (.t 9)]
theorem f39:aV Tryz.prog 39 11 c39 [.tmp 4]:=⟨_,Tryz.func39,rfl,by kernel_rfl,rfl⟩
def c40:AC:=zz 0x8747320d039802fc03225f801012a1203225f801002a122a7030ffce13112f805f02224f801a0203e226f8f02bff6e12a804f2d0caf0320a01a4227ff23126804f1d0caf0320a01a3223ff2310d0132d03e02f290a00d77009760cd04718dc03dc02d02501da1200d0013d0d03a12d0111da0210d0002d0101da3200d000470d05a03d0155f802d02501da1200d000373e03a02d0101da0200d000d02a014026f1df310d03e004b1f33 [.mov (.c (.str [])),.mov (.c (.int .i64 2560)),.build [.int .i64 0,.int .i64 0] [],.eqA true [.int,.int] (.t 29) (.t 30),.mov (.c (.str [])),.mov (.c (.sl 1 [] (.exact 0))),.conv .b2s (.t 56)]
theorem f40:aV Tryz.prog 40 58 c40 [.tmp 2,.tmp 3]:=⟨_,Tryz.func40,rfl,by kernel_rfl,rfl⟩
def c41:AC:=zz 0x8804f8d02356f8c4040593e04f13 [.mov (.c (.sl 1 [] (.exact 0))),.conv (.toInt .u64) (.t 6)]
theorem f41:aV Tryz.prog 41 9 c41 [.tmp 4]:=⟨_,Tryz.func41,rfl,by kernel_rfl,rfl⟩
def c42:AC:=zz 0x1d802fccc01bff491a808f1d1170a1aff22198010ff1d0870a19ff2218803fc03ebac3e0bac03e0eac0823512700418d02a136250d010ff130f803fcc0770c0cf530b805f011311b33151070041102a136050d002b506f3313e0130d02f13 [.mov (.c (.int .u32 4294967295)),.conv (.toInt .u32) (.t 13),.bin .xor (.t 12) (.t 14),.mov (.c (.int .u64 1)),.mov (.c (.int .u32 1)),.un .neg (.t 21),.mov (.c (.int .u32 2197175160)),.bin .xor (.t 19) (.t 23),.un .xor (.t 27),.conv (.toInt .i64) (.t 28)]
theorem f42:aV Tryz.prog 42 30 c42 [.tmp 2]:=⟨_,Tryz.func42,rfl,by kernel_rfl,rfl⟩
def c43:AC:=zz 0x52802f030a4d0257f8015af8c0c04eff6915804f1d00af014ff322f806f1d00a27702eff3211fe11fc11f711f611f311f2c7c6c3c26362c4d803f020a0143772040a2d0257f803b013e772010a3b70030a8d0257f80138712030a0158f80134702c03bff14fe3a8039808f41330339ff388035ff0159f80552e72236ff83348089c7f0850181b2b70012a72230ff7335127004032a02b0124722227029ff5316250d06f13a7a6a3a26362628803f040a4d0257f802b011e722030a1d0257f8011a712030a0158f80116702c01bff0ffe11a8039c5f0350131bf001a0216ff7315107004032a02b01a02f00fff5316050d01310e803f03e0a2d0257f802b01a02af633e004b1f23 [.mov (.c (.str [])),.mov (.c (.str [65,82,67,72])),.alloc [.str [],.int .i64 0,.sl 8 [] (.exact 0)],.alloc [.str [],.int .i64 0,.int .i64 0,.int .i64 0,.int .i64 0,.bool false,.bool false,.str []]]
theorem f43:aV Tryz.prog 43 83 c43 [.tmp 2]:=⟨_,Tryz.func43,rfl,by kernel_rfl,rfl⟩
def c44:AC:=zz 0xc02fc293e004b1f23 [.mov (.c (.sc .nilFunc)),.mkfn (.func 91) [] [(.t 1)]]
theorem f44:aV Tryz.prog 44 4 c44 [.tmp 2]:=⟨_,Tryz.func44,rfl,by kernel_rfl,rfl⟩
def c45:AC:=zz 0x140d555ef8a0015ff8c4030607f7206804f02b405f33 [.conv (.toInt .u64) (.t 9)]
theorem f45:aV Tryz.prog 45 14 c45 []:=⟨_,Tryz.func45,rfl,by kernel_rfl,rfl⟩
def c47:AC:=zz 0x59802f537059ff2921806f1d00a197020ff3258805fcc4b704f7055ff524380df1d00a347042ff32d9d8d6d4d28482646242a5480afccc010111b417042700463d462f8c3d700141712013f70201a02397044ff12fe35127004022a02b337030703eff4316250d01313d803c80bf4133033cff3b8038ff0163f8013177239ff833780afcc2c700352d462f8c0129712012770201a022dffc32c802b808f4133032bff2a8027ff0159f80552072228ff83268089c7f0850181b1d7001a2222ff7315107004032a02b01a2214701bff5316050d01311a805fcccc03e3e01d462f801a0214ff83138012803f41330312ff1180ef0161f801a120fff833e004b1f23 [.mov (.c (.sl 1 [] (.exact 0))),.mov (.c (.str [])),.mov (.c (.sl 1 [] (.exact 0))),.build [.str [],.str [],.bool false] [(0,1,(.t 22)),(1,1,(.t 23))],.buildSl 3 [(.t 24)],.buildSl 1 [(.t 25)],.alloc [.str [],.int .i64 0,.int .i64 0,.int .i64 0,.int .i64 0,.bool false,.bool false,.str []],.buildSl 1 [(.t 50)],.build [.str [],.str [],.bool false] [(0,1,(.t 52)),(1,1,(.t 53))],.buildSl 3 [(.t 54)],.buildSl 1 [(.t 74),(.t 75)],.build [.str [],.str [],.bool false] [(0,1,(.t 77)),(1,1,(.t 81))],.buildSl 3 [(.t 82)],.app false 3 40 (.t 68) (.t 83),.buildSl 1 [(.t 86)],.app false 1 24 (.t 85) (.t 87)]
theorem f47:aV Tryz.prog 47 90 c47 [.tmp 2]:=⟨_,Tryz.func47,rfl,by kernel_rfl,rfl⟩
def c48:AC:=zz 0xd042806f397042ff3941808fcccb0a03370720a00b30703aff2311980af1d00a0d7018ff3239808fcc0250121b2a70902a70820a015aa0010020121b2270902cff731e0122b808fcccb0a01d70730a0087600b17d01235f816da015d0114d00213d0121b12d137011d9010d0000b10701affc3115107004022a02b90097014ff4316050d01310e0133e0132d013806f90390a0373e03a02d03b01db000d003e03a03ba0bf8310d03e06f23 [.mov (.c (.sl 2 [] (.exact 0))),.mov (.c (.int .i64 128)),.mov (.c (.int .i64 200)),.mov (.c (.sl 2 [] (.exact 0))),.build [.str [],.str []] [(0,1,(.t 39)),(1,1,(.t 40))],.buildSl 2 [(.t 41)],.app false 2 32 (.t 38) (.t 42),.buildSl 2 [(.t 55)],.app false 2 32 (.t 51) (.t 56),.build [.str [],.str []] [(0,1,(.t 61)),(1,1,(.t 62))],.buildSl 2 [(.t 63)],.app false 2 32 (.t 60) (.t 64)]
theorem f48:aV Tryz.prog 48 67 c48 [.tmp 6,.tmp 7]:=⟨_,Tryz.func48,rfl,by kernel_rfl,rfl⟩
def c49:AC:=zz 0xd00e802fcc03e0ac90af792d03e02f290a0272d03a01d6000d000d02a306310d03e02f23 [.mov (.c (.str [])),.mov (.c (.str [])),.conv (.toInt .u8) (.t 10),.mov (.c (.int .u8 48)),.buildSl 1 [(.t 12)],.conv .b2s (.t 13)]
theorem f49:aV Tryz.prog 49 15 c49 [.tmp 2,.tmp 3]:=⟨_,Tryz.func49,rfl,by kernel_rfl,rfl⟩
def c50:AC:=zz 0xd02f1930800fff1d2070a30ff22273e02f191170a056032a14d1d01a13d03b12d9011dc010d000d03ac027ff9327470a268018ff0273e03a01df000d0006702605d3e02a11df010d0002d3e03a01df000d003e02af019ff0ff3370a178015ff3e04af016ff33113514512514804f016bc09012ff4311803f1023151070041102a136050d003b90df3313e02f190a0373e03a02d03b01d9000d003d02a03b405f8310d02f13 [.mov (.c (.int .i64 12)),.mov (.c (.int .i64 15)),.mov (.c (.int .u8 45)),.mov (.c (.int .u8 48)),.mov (.c (.int .u8 57)),.mov (.c (.int .u8 97)),.mov (.c (.int .u8 122)),.mov (.c (.int .i64 15))]
theorem f50:aV Tryz.prog 50 49 c50 [.tmp 2]:=⟨_,Tryz.func50,rfl,by kernel_rfl,rfl⟩
def c51:AC:=zz 0x1e02f1957809f1d4d70a57ff220e02f190a1d03ac055ff2354803f1d00ac0320a010424a72250ff3310d03f120a4f804dff00b47704eff330e02f1904ec14c803bff00976023a18d0117d4370216d0115d00214d0281b13d1d01a12df011d9010d000260d03a11df010d0000b35703cff12fe10e02f19049713a802eff00976026a18d0117d3171216d0115d01214d0281b13d1d01a12df011d9010d0028702fffde1251a812d806f00976024a18d0117d2470216d0115d00214d0281b13d1d01a12df011d9010d000d03af021ffee10e02f190a03700b02d0165f801d1778500d000373e03a02d0101d1271200d000370d02a02d0101d0d71200d000d05a0164f80108702ef13f310d8058890b804fc5f0852481b1063151070041102a136050d002b607f3310d0130e02f13 [.alloc [.str [],.int .i64 0,.int .i64 0,.int .i64 0,.int .i64 0,.bool false,.bool false,.str []],.mov (.c (.int .i64 1152921504606846976))]
theorem f51:aV Tryz.prog 51 88 c51 [.tmp 2]:=⟨_,Tryz.func51,rfl,by kernel_rfl,rfl⟩
def c52:AC:=zz 0x1e02f191a804f1d00af019ff323b803f0134702320a010423172237ff330e02f190a702020097704608d014a13dc012d0111d2b70210d0003d0102d04201d2772200d0000b02097367f80d04af00850381bc1d01af001a221a78520ff17fe111f8089c5f0850181bf001a221bff7315107004032a02b01a22f014ff5316050d01313e0130e02f190a0372d03a02d0101da1200d000370d02a02d0101da1200d000d05a0166f8014026fe310e004b1f23 [.mov (.c (.str [])),.alloc [.str [],.int .i64 0,.int .i64 0,.int .i64 0,.int .i64 0,.bool false,.bool false,.str []],.mm true (.c (.int .i64 0)) (.t 36)]
theorem f52:aV Tryz.prog 52 60 c52 [.tmp 2]:=⟨_,Tryz.func52,rfl,by kernel_rfl,rfl⟩
def c53:AC:=zz 0x24804f022a03ba003b9020ff6911805f1d00a0a7010ff32801f804f032a016b1770a0016b1470908e10a0035a016b1070a0016b0d709012ff7e115107004046022a13d03b12da011d5010d00022a03b6000a316050d01310e04f13
theorem f53:aV Tryz.prog 53 37 c53 [.tmp 4]:=⟨_,Tryz.func53,rfl,by kernel_rfl,rfl⟩
def c55:AC:=(.seq (.reg [⟨some 5,none,.load none (.t 0)⟩,⟨some 6,none,.call 57 [(.t 5),(.c (.int .i64 4))]⟩,⟨some 7,none,.bin .eql (.t 6) (.c (.str [65,82,67,72]))⟩,⟨some 8,none,.call 56 [(.t 7)]⟩] none)
 (.seq (.seq (.reg [⟨some 9,none,.load none (.t 0)⟩,⟨some 10,none,.load none (.t 0)⟩,⟨some 11,none,.call 59 [(.t 10),(.c (.int .i64 2))]⟩,⟨some 12,none,.call 58 [(.t 9),(.t 11)]⟩] (some [(0,1),(0,2)]))
 (.block 0 (.tv (.t 12) [13] (.reg [⟨some 3,none,.alloc [.str [],.int .i64 0,.sl 8 [] (.exact 0)]⟩,⟨none,none,.store 3 (.t 3) (.t 13)⟩] none)
 (.block 1 (.reg [⟨some 14,none,.faddr 0 (.t 1)⟩,⟨some 15,none,.load none (.t 14)⟩,⟨some 16,none,.load (some 3) (.t 3)⟩,⟨some 17,none,.buildSl 3 [(.t 16)]⟩,⟨some 18,none,.app false 3 48 (.t 15) (.t 17)⟩,⟨some 19,none,.faddr 0 (.t 1)⟩,⟨none,none,.store 1 (.t 19) (.t 18)⟩] none)))))
 (.seq (.reg [⟨some 20,none,.load none (.t 2)⟩,⟨some 21,none,.load none (.t 0)⟩,⟨some 22,none,.nilck (.t 21)⟩,⟨some 23,none,.faddr 1 (.t 22)⟩,⟨some 24,none,.load none (.t 23)⟩,⟨some 25,none,.slc false 1 (.t 20) none (some (.t 24)) none⟩,⟨some 26,none,.call 42 [(.t 25)]⟩,⟨some 4,none,.mov (.t 26)⟩] (some [(0,1),(0,4)]))
 (.seq (.reg [⟨some 27,none,.load none (.t 0)⟩,⟨some 28,none,.call 59 [(.t 27),(.c (.int .i64 4))]⟩,⟨some 29,none,.mov (.t 4)⟩,⟨some 30,none,.bin .eql (.t 28) (.t 29)⟩,⟨some 31,none,.mov (.t 30)⟩,⟨some 32,some (31,true),.load none (.t 0)⟩,⟨some 33,some (31,true),.nilck (.t 32)⟩,⟨some 34,some (31,true),.faddr 1 (.t 33)⟩,⟨some 35,some (31,true),.load none (.t 34)⟩,⟨some 36,some (31,true),.load none (.t 2)⟩,⟨some 37,some (31,true),.len false (.t 36)⟩,⟨some 38,some (31,true),.bin .eql (.t 35) (.t 37)⟩,⟨some 39,none,.pick (.t 31) (.t 38) (.c (.bool false))⟩,⟨some 40,none,.call 56 [(.t 39)]⟩] (some [(5,9),(8,9)]))
 (.reg [⟨some 41,none,.load (some 1) (.t 1)⟩,⟨some 42,none,.call 15 [(.t 41)]⟩,⟨some 43,none,.bin .eql (.t 42) (.c (.int .i64 0))⟩,⟨some 44,none,.call 56 [(.t 43)]⟩] none)))))
theorem f55:aV Tryz.prog 55 45 c55 []:=⟨_,Tryz.func55,rfl,by kernel_rfl,rfl⟩
def c56:AC:=zz 0x5be4d1cf7b220a00b102f23
theorem f56:aV Tryz.prog 56 5 c56 []:=⟨_,Tryz.func56,rfl,by kernel_rfl,rfl⟩
def c57:AC:=zz 0x8d7d373329804fcc010120490011aa001012049001002049011fe1201901254010aa0010120490938310138f8017aa0041a01012049002b010020440de13e04f13 [.mov (.c (.str [])),.slc false 1 (.t 29) (some (.t 35)) (some (.t 39)) none,.conv .b2s (.t 40)]
theorem f57:aV Tryz.prog 57 42 c57 [.tmp 4]:=⟨_,Tryz.func57,rfl,by kernel_rfl,rfl⟩
def c58:AC:=zz 0x5804fc293e014b14b2f33 [.mov (.c (.sc .nilFunc)),.mkfn (.func 105) [] [(.t 3),(.t 2)]]
theorem f58:aV Tryz.prog 58 6 c58 [.tmp 4]:=⟨_,Tryz.func58,rfl,by kernel_rfl,rfl⟩
def c59:AC:=zz 0x18804fc117017ff391680df1d0870a16ff2215805f02cac0b703e0da0b7011ff6210807f011311b33151070041102a136050d002bc01239f8a0908f6313e0130d04f13 [.mov (.c (.int .u64 0)),.conv .s2b (.t 10),.mov (.c (.int .u64 8)),.conv (.toInt .u64) (.t 19),.conv (.toInt .i64) (.t 23)]
theorem f59:aV Tryz.prog 59 25 c59 [.tmp 4]:=⟨_,Tryz.func59,rfl,by kernel_rfl,rfl⟩
def c60:AC:=zz 0x8d7d373332804fc010120490011aa001012049001002049010fe1201901264010aa0010120490901bffa33e04f190e0190220490430ae9100c77012a0bda00ad041a09d0108d01207d0406d9005d03b04d0103d00202d0401d9000d0000b01022044013fe113e04f13 [.mov (.c (.str [])),.mov (.c (.str [])),.slc true 0 (.t 39) (some (.t 45)) (some (.t 49)) none]
theorem f60:aV Tryz.prog 60 51 c60 [.tmp 4]:=⟨_,Tryz.func60,rfl,by kernel_rfl,rfl⟩
def c61:AC:=zz 0x87312f804f0107736bf8a0011aa0010120490010020490de1201901264010aa0010120490901bffa30d04f190e0190220490430ae9100c77012a0bda00ad041a09d0108d01207d0406d9005d03b04d0103d00202d0401d9000d0000b01022044013fe110d04f13
theorem f61:aV Tryz.prog 61 48 c61 [.tmp 4]:=⟨_,Tryz.func61,rfl,by kernel_rfl,rfl⟩
def c62:AC:=zz 0xd03f0b59f5524ff394d03f0b59c390a047015a03d9002d016df801df5500d0000b016cf8f551aff93111fe11fc11fa3198059c4fcc4d7d036bf8904d3d036bf8902d1d036bf8903e04a3e0aa3e09a0d06b903e04a3e0aa0d06b909f13fe14d03f0659c390a3e05a03b405f3310d0c2f23 [.alloc [.int .i64 0,.int .i64 0,.int .i64 0,.bool false,.bool false],.mov (.c (.int .i64 11)),.build [.int .i64 0,.int .i64 0,.int .i64 0,.bool false,.bool false] [],.mov (.c (.int .u8 2)),.mov (.c (.int .u8 1)),.mov (.c (.int .u8 2)),.mov (.c (.int .u8 2)),.mov (.c (.int .u8 1)),.build [.int .i64 0,.int .i64 0] [(0,1,(.t 21)),(1,1,(.t 23))],.build [.int .i64 0,.int .i64 0,.int .i64 0,.bool false,.bool false] [(3,1,(.t 12)),(4,1,(.t 17)),(0,1,(.t 19)),(1,2,(.t 24))],.alloc [.int .i64 0,.int .i64 0,.int .i64 0,.bool false,.bool false],.build [.int .i64 0,.int .i64 0,.int .i64 0,.bool false,.bool false] []]
theorem f62:aV Tryz.prog 62 37 c62 [.cell 2 (some 5),.tmp 3]:=⟨_,Tryz.func62,rfl,by kernel_rfl,rfl⟩
def c63:AC:=zz 0x138f803601241f812d9111df010d000d04a28702eff822d802c804f6135032cff2b8026ff01d801500204a127ffa30138f80d04ac0101204a11fff731e808f1d1570a2201240f8c25a132a8a320138f800977022a08d0107dc0206d0105d00204d0221b03d1d01a02db001d9100d000d04ab0dfee10c8c290a802fc3f0252421b1063151070041102a136050d002b516f331 [.alloc [.str [],.str []],.mlen (.t 34)]
theorem f63:aV Tryz.prog 63 54 c63 []:=⟨_,Tryz.func63,rfl,by kernel_rfl,rfl⟩
def c64:AC:=zz 0xe138f81bff12431ce917350101204906e12f40ff90ff80ff60ff4ede9e8e6e4d9d8d6d498969486846414f20190221374ccccc8573501012049084755017e72201f2201022047770767086ff17fe185800fff0131b77700100200204907fff8397959391737153513197e8039cefc010d011b01f3201f2201f12be10138f8016657010d000d04a647070ff636416f806e80cf09713087036eff6d8065ff3e02371f801f1201002002049066ffde16480638059caf41330363ff62805fff0170f801c1260ff93045e805dff2d4374a5eff23b8b6b4b3868483646343acec1d00a014f712020a01c12014a7024a7350101204900ffe535120138f8024a0141712011d011b01f3247ff8e1656463434468029c9fc3c73501012049041ff8e19795939173715351319408039c8fc010d011b01f3201f2201f1238ffbe104378036ff3d1c74a37ff23a575230190020020b74ccc287001f120100200204909010fe0138f80d04a1c7024ff33238022806f41330322ff21801eff016ff801c121fff83041d801cff1d24a1dff230501f02230138f80d04a107016ff331580148049c4f41330314ff138010ff016ef801c0211ff9314b3f13 [.alloc [.int .i64 0,.str [],.str [],.sl 1 [] (.exact 0)],.build [.str [],.int .i64 0,.sl 8 [] (.exact 0)] [(0,1,(.t 46)),(1,1,(.t 47))],.buildSl 3 [(.t 48)],.app false 3 48 (.t 44) (.t 49),.build [.str [],.str [],.int .i64 0] [(0,1,(.t 57)),(1,1,(.t 59)),(2,1,(.t 63))],.alloc [.str [],.str [],.int .i64 0],.mlookK [.str,.str,.int] (.agg [.str [],.int .i64 0]) false (.t 68) (.t 69),.alloc [.str [],.int .i64 0],.build [.str [],.int .i64 0] [(0,1,(.t 88)),(1,1,(.t 91))],.mputK [.str,.str,.int] (.t 82) (.t 83) (.t 92),.alloc [.int .i64 0,.int .i64 0,.int .i64 0,.bool false,.bool false],.mov (.c (.clo (.func 114) [] [])),.build [.str [],.str [],.int .i64 0] [(0,1,(.t 119)),(1,1,(.t 121)),(2,1,(.t 125))],.alloc [.str [],.str [],.int .i64 0],.mlookK [.str,.str,.int] (.agg [.str [],.int .i64 0]) false (.t 147) (.t 148),.fld 0 none (.t 149),.build [.str [],.int .i64 0,.int .i64 0,.int .i64 0,.int .i64 0,.bool false,.bool false,.str []] [(0,1,(.t 140)),(1,1,(.t 142)),(2,5,(.t 143)),(7,1,(.t 150))],.buildSl 8 [(.t 151)],.app false 8 72 (.t 138) (.t 152),.mdelK [.str,.str,.int] (.t 159) (.t 160)]
theorem f64:aV Tryz.prog 64 161 c64 []:=⟨_,Tryz.func64,rfl,by kernel_rfl,rfl⟩
def c65:AC:=zz 0x1e04f191980df1d0b70a19ff220e04f190a731c0250121b0f70a00250121b0b709010ff9e10f805f1023151070041102a136050d002b90bf3310e04f190a025a02b6002b506f5310e04f13 [.eqA true [.str,.str] (.t 19) (.t 23)]
theorem f65:aV Tryz.prog 65 26 c65 [.tmp 4]:=⟨_,Tryz.func65,rfl,by kernel_rfl,rfl⟩
def c66:AC:=zz 0xd03f0b495174558ff394d03f0b49c390a037015a02d9001d487000d000d05a447050ff734f804e80af3132034eff4d804bff0174f8457454cff73140809f1d00a35703fff3271612101943732cc010120131b3a70f0013a73241ffbe35127004022a02bf031703bff4316253a809f31703aff2313d08f101932722010222d031bf0720a0362d03a12d02b11df010d001d03a01267022dff8312d08f13101925712010221d031bf028ff631c807f1d00a13701bff321019207021e70320a0044ac1b701d01a1970010220d031bf01dff9e1151070046d06a117019ff2316051d0131c6f134d03f0b49c390a0372d02a02d02b01df000d000d05a0b7011ff73110800f804f3132030fff0e80cf0173f890df730d0c2f23 [.alloc [.int .i64 0,.str [],.str [],.sl 1 [] (.exact 0)],.build [.int .i64 0,.str [],.str [],.sl 1 [] (.exact 0)] [],.alloc [.int .i64 0,.str [],.str [],.sl 1 [] (.exact 0)],.slc true 0 (.c (.str [98,111,99,117,112,113])) (some (.t 34)) (some (.t 35)) none,.buildSl 1 [(.t 71)],.app false 1 8 (.t 66) (.t 72),.build [.int .i64 0,.str [],.str [],.sl 1 [] (.exact 0)] []]
theorem f66:aV Tryz.prog 66 89 c66 [.cell 2 (some 4),.tmp 3]:=⟨_,Tryz.func66,rfl,by kernel_rfl,rfl⟩
def c67:AC:=zz 0xd014802fc3e01a0d06b9011ff694d00d02f290a0373e03a02d0d06b01d9000d000373e02a02d0d06b01d9000d001d05a03b30d310d00d02f23 [.mov (.c (.int .u8 48)),.mov (.c (.int .u8 50)),.mov (.c (.int .u8 48)),.conv (.toInt .i64) (.t 19)]
theorem f67:aV Tryz.prog 67 21 c67 [.tmp 2,.tmp 3]:=⟨_,Tryz.func67,rfl,by kernel_rfl,rfl⟩
def c68:AC:=zz 0x22806f1a7022ff290e808f1d00a40df3221807f010a167017701fff421e806f1670290a0d05a11701cff2311b801a809f0b7130a7031aff19800fff0087275f80463d462f8c0d70010e712010c702a09010ff0ff3151070043e02a20bf2316050d01313e0133e024b5f23 [.mov (.c (.str [])),.mov (.c (.str [])),.mov (.c (.int .i64 16)),.buildSl 1 [(.t 21),(.t 22)]]
theorem f68:aV Tryz.prog 68 35 c68 [.tmp 6]:=⟨_,Tryz.func68,rfl,by kernel_rfl,rfl⟩
def c69:AC:=zz 0x63804f5d7063ff29628058ff1d0970a62ff2261805fccc015270256705cff725b8029caf0251321b43551470041102a136450d002bc4e709054ff531538015ff1d3d70a53ff2252805fccc01457120143702457092170a751024a013f712010120221b1d01a3c709042ff9e141806f1d00a3970330ab9100876024a17d0116d3370215d0114d00213d0121b12d317011d9010d00022a02b902b7032ffee1131806f1d00a297030ff322f805fccc010020121b2270902170a33527004b9100876022a17d0116d1a70215d0114d00213d0121b12d187011d9010d00022a02b90127019ffee116251188029c8f0251321b43151070041102a136050d002ba013ff3310c10d0133e0133e04f190a03700b02d0176f801da000d0000b0176f890bf831b3e04f13 [.mov (.c (.sl 3 [] (.exact 0))),.mov (.c (.sl 3 [] (.exact 0))),.mov (.c (.sl 3 [] (.exact 0))),.alloc [.str [],.str []],.build [.str [],.str [],.bool false] [(0,1,(.t 44)),(2,1,(.c (.bool true)))],.buildSl 3 [(.t 45)],.app false 3 40 (.t 39) (.t 46),.build [.str [],.str [],.bool false] [(0,1,(.t 77)),(1,1,(.t 79))],.buildSl 3 [(.t 80)],.app false 3 40 (.t 75) (.t 81),.slc false 2 (.t 84) (some (.t 85)) none none,.alloc [.str [],.str []],.build [.str [],.str [],.bool false] [(0,1,(.t 94)),(2,1,(.c (.bool true)))],.buildSl 3 [(.t 95)],.app false 3 40 (.t 92) (.t 96)]
theorem f69:aV Tryz.prog 69 100 c69 [.tmp 4]:=⟨_,Tryz.func69,rfl,by kernel_rfl,rfl⟩
def c82:AC:=zz 0x17806f9017ff290d807f1d01a40cf3216800fccc02ea08d8a0970ca090efa2151070040d07a20af23160509807f1d01a508f3313e06f13 [.mov (.c (.sl 1 [] (.exact 0))),.conv (.toInt .u64) (.t 15),.conv (.toInt .u8) (.t 19),.buildSl 1 [(.t 20)],.app false 1 1 (.t 14) (.t 21)]
theorem f82:aV Tryz.prog 82 24 c82 [.tmp 6]:=⟨_,Tryz.func82,rfl,by kernel_rfl,rfl⟩
def c83:AC:=zz 0x17806f9017ff290d807f1d01a40cf3216800fccc02ea08d8a0970ca090efa2151070040d07a20af23160509807f1d01a508f3313e06f13 [.mov (.c (.sl 1 [] (.exact 0))),.conv (.toInt .u64) (.t 15),.conv (.toInt .u8) (.t 19),.buildSl 1 [(.t 20)],.app false 1 1 (.t 14) (.t 21)]
theorem f83:aV Tryz.prog 83 24 c83 [.tmp 6]:=⟨_,Tryz.func83,rfl,by kernel_rfl,rfl⟩
def c84:AC:=zz 0x17806f9017ff290d807f1d01a40cf3216800fccc02ea08d8a0970ca090efa2151070040d07a20af23160509807f1d01a508f3313e06f13 [.mov (.c (.sl 1 [] (.exact 0))),.conv (.toInt .u64) (.t 15),.conv (.toInt .u8) (.t 19),.buildSl 1 [(.t 20)],.app false 1 1 (.t 14) (.t 21)]
theorem f84:aV Tryz.prog 84 24 c84 [.tmp 6]:=⟨_,Tryz.func84,rfl,by kernel_rfl,rfl⟩
def c85:AC:=zz 0xd02f191380af1d0870a13ff222d02f190a0273e07a01df000d000d02af0df630c804fc231510700412d02a136050d0c01512013025f6310d004b1f23 [.raw (.abuild [.int .i64 0,.int .i64 0] [(0,1),(1,1)]) [(.t 6),(.t 8)],.raw (.aidx 1 none 2) [(.t 9),(.t 10)],.mov (.c (.int .i64 1048573))]
theorem f85:aV Tryz.prog 85 20 c85 [.tmp 2]:=⟨_,Tryz.func85,rfl,by kernel_rfl,rfl⟩
def c86:AC:=zz 0x16806f9016ff290d807f1d01a40cf3215800fccc02ea08d8a0870a090ef92151070040d07a20af23160509807f1d01a508f3313e06f13 [.mov (.c (.sl 1 [] (.exact 0))),.conv (.toInt .u8) (.t 18),.buildSl 1 [(.t 19)],.app false 1 1 (.t 14) (.t 20)]
theorem f86:aV Tryz.prog 86 23 c86 [.tmp 6]:=⟨_,Tryz.func86,rfl,by kernel_rfl,rfl⟩
def c87:AC:=zz 0x1a804fc127019ff390f807f1d01a60ef3218806fccc03ea03e8ac0a700b70097010ffa2151070040d07a40cf2316050b807f1d01aa0af3313e01309805fc908f333e04f13 [.mov (.c (.str [])),.conv (.toInt .u64) (.t 8),.mov (.c (.sl 1 [] (.exact 0))),.conv (.toInt .u64) (.t 18),.mov (.c (.int .u64 8)),.conv (.toInt .u8) (.t 21),.buildSl 1 [(.t 22)],.app false 1 1 (.t 16) (.t 23),.conv .b2s (.t 25)]
theorem f87:aV Tryz.prog 87 27 c87 [.tmp 4]:=⟨_,Tryz.func87,rfl,by kernel_rfl,rfl⟩
def c88:AC:=zz 0x7802f010a501d0257f803b20693e02f13 [.mov (.c (.str []))]
theorem f88:aV Tryz.prog 88 8 c88 [.tmp 2]:=⟨_,Tryz.func88,rfl,by kernel_rfl,rfl⟩
def c89:AC:=zz 0xd008802f016df85557f492d03e02f290a00b016cf82553310d03e004b1f33 [.mov (.c (.str [])),.mov (.c (.str []))]
theorem f89:aV Tryz.prog 89 9 c89 [.tmp 2,.tmp 3]:=⟨_,Tryz.func89,rfl,by kernel_rfl,rfl⟩
def c90:AC:=zz 0x21802fccc01fff490c804f1d00a60bf3216805f1d00a0f7015ff321e803fcc0320a3e04a14701bff231a803f3e0eac019ff3318806f3e0bac017ff33351270048d02a0d7013ff2316250d05f1312803fcc016bf090c0df7315107004022a03b90207f4316050d01313e0130d02f13 [.mov (.c (.int .u32 4294967295)),.conv (.toInt .u32) (.t 16),.bin .xor (.t 13) (.t 17),.mov (.c (.int .u32 1)),.mov (.c (.int .u64 1)),.mov (.c (.int .u32 1)),.bin .xor (.t 29) (.c (.int .u32 2197175160)),.bin .xor (.t 31) (.c (.int .u32 4294967295)),.conv (.toInt .i64) (.t 32)]
theorem f90:aV Tryz.prog 90 34 c90 [.tmp 2]:=⟨_,Tryz.func90,rfl,by kernel_rfl,rfl⟩
def c91:AC:=zz 0x558020ff1d3470a2280a00bc48709051ff4350803dff1d1270a50ff224f809fcc0125cf83e70cc3c700140712013e70201a02387042ff0ff241803f80cf012411b1053351270041102a136250d002b30703bff3313a803980af41330339ff388035ff015df8012f77236ff8334809fc0125cf82a70cc0127712012570201a022affc3298028807f41330328ff278024ff0128f80551e72225ff83238089c6f0851381b43151070041102a136050d002b01a224380a00bcc0125cf8c0c01a029014ff931138012803f41330312ff1180ef0131f801a120fff83 [.build [.int .i64 0,.str [],.str [],.sl 1 [] (.exact 0)] [(0,1,(.c (.int .i64 1))),(1,1,(.t 22))],.buildSl 3 [(.t 25)],.callv (.t 20) [(.t 26)],.alloc [.str [],.int .i64 0,.int .i64 0,.int .i64 0,.int .i64 0,.bool false,.bool false,.str []],.buildSl 1 [(.t 47)],.build [.int .i64 0,.str [],.str [],.sl 1 [] (.exact 0)] [(0,1,(.c (.int .i64 2))),(1,1,(.t 43)),(2,1,(.t 45)),(3,1,(.t 48))],.buildSl 3 [(.t 51)],.buildSl 1 [(.t 72),(.t 73)],.build [.int .i64 0,.str [],.str [],.sl 1 [] (.exact 0)] [(0,1,(.c (.int .i64 3))),(1,1,(.t 68)),(2,1,(.t 70)),(3,1,(.t 74))],.buildSl 3 [(.t 77)],.app false 3 40 (.t 66) (.t 78),.callv (.t 81) [(.t 82)]]
theorem f91:aV Tryz.prog 91 86 c91 []:=⟨_,Tryz.func91,rfl,by kernel_rfl,rfl⟩
def c92:AC:=zz 0xf39ca060cf490b800a805f313203af09807f018af85458f73c4f14b2f23 [.alloc [.str [],.str [],.bool false],.build [.str [],.str [],.bool false] [(0,1,(.t 12)),(1,1,(.t 13))]]
theorem f92:aV Tryz.prog 92 15 c92 [.cell 4 (some 3)]:=⟨_,Tryz.func92,rfl,by kernel_rfl,rfl⟩
def c93:AC:=zz 0xd01d802ff01dff391c80ef1d0d70a1cff221b800fc14709019ff4218804fccc0f7090f013ff7312805fc03b9043151070041102a136050d03e09a1d01a3e00a03b909f6313e0135d03e02f290a3e03a03b506f3310d03e02f23 [.mov (.c (.sl 1 [] (.exact 0))),.mov (.c (.int .i64 2560)),.mov (.c (.sl 1 [] (.exact 0))),.mov (.c (.sl 1 [] (.exact 0))),.mov (.c (.int .i64 160)),.mov (.c (.int .i64 160)),.mm false (.c (.int .i64 160)) (.t 17),.slc true 0 (.t 20) none (some (.t 21)) none,.buildSl 1 [(.t 22)],.app false 1 16 (.t 19) (.t 23),.slc true 0 (.t 25) (some (.t 26)) none none]
theorem f93:aV Tryz.prog 93 30 c93 [.tmp 2,.tmp 3]:=⟨_,Tryz.func93,rfl,by kernel_rfl,rfl⟩
def c94:AC:=zz 0x93802f8270220123555ef8f0c0b01d00a7c70908cff738b80af017a7570757089ff4388801f1d00a7670320123455ef8f0c07270a09081ff638080af017a6a706b704304012a687068707bff337a8014ff8d09a6c7079ff337880758012ff011a6670b0011aa0627073ff837280bf607072ff237180708010ff0771360370ff6f8069ff01234592f8f05f70b0a0906affb31768801f587068ff2367800fff01234591f8f05770b0a090730ac8100d7600b1cd0d02a1bdc1ad02519d0121b18d4d7017d9016d02515d0221b14d1d01a13da012d9011df010d000d03aa011fe1180a0123490f8f0b0a090530a0261d04a11d3a7010d000163a7010d00397044ff8311d0124380df031a011aa032701d01ab073012348ff8f0b0a090530a2d04a287037ff23136803580df61350335ff34802fff012348ef8f0b0a09030ffa32e803f1d01ac032012348df8f0b0a090530a00b1b70231012348cf8f0b0a090590a0d04ac0231012348bf8f0b0a090590a3e06a0b7018ff2311780cf011aa0b015ff43156051e0131e0af13 [.mov (.c (.int .i64 12)),.callv (.t 84) [(.t 89),(.t 93)]]
theorem f94:aV Tryz.prog 94 148 c94 []:=⟨_,Tryz.func94,rfl,by kernel_rfl,rfl⟩
def c95:AC:=zz 0x7802f0194f8506f3905802f0193f8c20490ea10d02f13 [.conv (.toInt .u32) (.t 3)]
theorem f95:aV Tryz.prog 95 8 c95 [.tmp 2]:=⟨_,Tryz.func95,rfl,by kernel_rfl,rfl⟩
def c97:AC:=zz 0xd00d802fc1d00a9090af692d03e02f290a0272d03a01d6000d000d02a306310d03e02f23 [.mov (.c (.str [])),.mov (.c (.str [])),.slc true 0 (.c (.str [48,49,50])) (some (.t 10)) (some (.t 12)) none]
theorem f97:aV Tryz.prog 97 14 c97 [.tmp 2,.tmp 3]:=⟨_,Tryz.func97,rfl,by kernel_rfl,rfl⟩
def c98:AC:=zz 0x14808f0a7014ff29138012809f0771360312ff1180bf0174f8cc0b0a090cfb33e08f13 [.mov (.c (.str [])),.build [.int .i64 0,.str [],.str [],.sl 1 [] (.exact 0)] [(0,1,(.t 12)),(1,1,(.t 13)),(2,1,(.t 14)),(3,1,(.t 15))]]
theorem f98:aV Tryz.prog 98 21 c98 [.tmp 8]:=⟨_,Tryz.func98,rfl,by kernel_rfl,rfl⟩
def c99:AC:=zz 0xd01a802ff01aff390e805f3e00a0770df3219804fcccc3e00a0e7003b900b7090f00fffc215107004022a03b90309f4316050d01313e0135d03e02f290a3e03a03b506f3310d03e02f23 [.mov (.c (.sl 1 [] (.exact 0))),.mov (.c (.int .i64 2560)),.mov (.c (.sl 1 [] (.exact 0))),.mov (.c (.sl 1 [] (.exact 0))),.mov (.c (.int .i64 160)),.mm false (.t 19) (.t 21),.slc true 0 (.t 16) (some (.t 17)) (some (.t 22)) none,.buildSl 1 [(.t 23)],.app false 1 16 (.t 15) (.t 24),.mov (.c (.int .i64 160))]
theorem f99:aV Tryz.prog 99 27 c99 [.tmp 2,.tmp 3]:=⟨_,Tryz.func99,rfl,by kernel_rfl,rfl⟩
def HY:AC:=zz 0xd02f1919800fff1d0970a19ff223e02f190a0273e03a01df000d003e02af013ff6312804f011311b33151070041102a136050d002bc90cf4313e02f190a0373e03a02d03b01d9000d003e04a405f7310d02f13 [.mov (.c (.str [])),.mov (.c (.int .i64 32)),.mov (.c (.int .i64 15)),.conv .s2b (.t 12),.mov (.c (.int .u8 33)),.mov (.c (.int .u8 126)),.mov (.c (.int .i64 15))]
theorem f100:aV Tryz.prog 100 26 HY [.tmp 2]:=⟨_,Tryz.func100,rfl,by kernel_rfl,rfl⟩
def LD:AC:=zz 0x8a7a6a5322802f00877c07d02506d01205da2204d0196f803dc02d0101da7200d0001032a2216ffee10e02f190a00777035a06d0105d00204da2203d03b02d0101da7200d000d05a60bfb30a8009803f4133039f08805f0128f80554226f8310e004b1f23 [.conv .s2b (.t 27),.eqA false [.int,.int] (.t 29) (.t 32)]
theorem f101:aV Tryz.prog 101 35 LD [.tmp 2]:=⟨_,Tryz.func101,rfl,by kernel_rfl,rfl⟩
def LF:AC:=zz 0xd02f1920803f1d00ac01fff323e02f190a0463e05a13d016b12dc011d9010d0000b0197f8016bc09021ffb315107004022a03b90c01bff4316050d01313e02f190a0077700b06d0197f805d036b04d1d01a03d03b02d9001d9000d0004700b03d0197f802d0d06b01d9000d000373e03a02d03b01d9000d003d02a03b304f17f310d02f13 [.mov (.c (.int .i64 12)),.mov (.c (.int .i64 15)),.mov (.c (.int .u8 45)),.mov (.c (.int .i64 15))]
theorem f102:aV Tryz.prog 102 44 LF [.tmp 2]:=⟨_,Tryz.func102,rfl,by kernel_rfl,rfl⟩
def LG:AC:=zz 0x48806f00c770560bd022a14d0113df1212d0111dc1210d0005d024a04d0103dc0202d0101df0200d0005702235f804d0103dc0202d0101df0200d00b033ff17f90e06f190a28f25f28f24f1af16f300d77007760cdc16d02515d01214dc2213d0199f812d0111dc7210d0004d00b03d0102d03201dc2200d0000777035a06d0105d00204dc2203d03b02d0101dc7200d0004700b03d016cf802d05501dc2200d000373e03a02d0101dc1200d000370d02a02d0101dc1200d000d05a0198f8013022cfe110e06f24b24b3f33 [.mov (.c (.int .i64 1152921504606846976)),.eqA true [.int,.int] (.t 44) (.t 47)]
theorem f103:aV Tryz.prog 103 73 LG [.tmp 6]:=⟨_,Tryz.func103,rfl,by kernel_rfl,rfl⟩
def Kk:AC:=(.seq (.reg [⟨some 6,none,.load none (.t 1)⟩,⟨some 7,none,.mov (.c (.int .i64 0))⟩] none)
 (.block 0 (.loop (.seq (.reg [⟨some 8,none,.bin .lss (.t 7) (.t 6)⟩] none)
 (.seq (.cond (.t 8) .skip (.exit 0))
 (.seq (.block 1 (.seq (.reg [⟨some 9,none,.load none (.t 2)⟩,⟨some 10,none,.load none (.t 2)⟩,⟨some 11,none,.call 59 [(.t 10),(.c (.int .i64 1))]⟩,⟨some 12,none,.call 57 [(.t 9),(.t 11)]⟩,⟨some 13,none,.load none (.t 2)⟩,⟨some 14,none,.call 59 [(.t 13),(.c (.int .i64 1))]⟩,⟨some 15,none,.build [.str [],.int .i64 0,.sl 8 [] (.exact 0)] [(0,1,(.t 12)),(1,1,(.t 14))]⟩,⟨some 4,none,.alloc [.str [],.int .i64 0,.sl 8 [] (.exact 0)]⟩,⟨none,none,.store 3 (.t 4) (.t 15)⟩] (some [(0,1),(0,2),(0,4),(1,4),(2,4),(3,4),(0,7),(1,7),(2,7),(3,7),(4,7),(5,7)]))
 (.seq (.seq (.reg [⟨some 16,none,.load none (.t 2)⟩,⟨some 17,none,.load none (.t 2)⟩,⟨some 18,none,.call 59 [(.t 17),(.c (.int .i64 4))]⟩,⟨some 19,none,.call 106 [(.t 16),(.t 18)]⟩] (some [(0,1),(0,2)]))
 (.block 2 (.tv (.t 19) [20] (.reg [⟨some 5,none,.alloc [.str [],.int .i64 0,.int .i64 0,.int .i64 0,.int .i64 0,.bool false,.bool false,.str []]⟩,⟨none,none,.store 8 (.t 5) (.t 20)⟩] none)
 (.block 3 (.reg [⟨some 21,none,.faddr 2 (.t 4)⟩,⟨some 22,none,.load none (.t 21)⟩,⟨some 23,none,.load (some 8) (.t 5)⟩,⟨some 24,none,.buildSl 8 [(.t 23)]⟩,⟨some 25,none,.app false 8 72 (.t 22) (.t 24)⟩,⟨some 26,none,.faddr 2 (.t 4)⟩,⟨none,none,.store 1 (.t 26) (.t 25)⟩] none)))))
 (.seq (.reg [⟨some 27,none,.mov (.t 0)⟩,⟨some 28,none,.load (some 3) (.t 4)⟩,⟨some 29,none,.callv (.t 27) [(.t 28)]⟩,⟨some 30,none,.un .not (.t 29)⟩] none)
 (.cond (.t 30) .ret .skip)))))
 (.reg [⟨some 31,none,.bin .add (.t 7) (.c (.int .i64 1))⟩,⟨some 7,none,.mov (.t 31)⟩] none)))))))
theorem f105:aV Tryz.prog 105 32 Kk []:=⟨_,Tryz.func105,rfl,by kernel_rfl,rfl⟩
def LH:AC:=zz 0x5804fc293e014b14b2f33 [.mov (.c (.sc .nilFunc)),.mkfn (.func 154) [] [(.t 3),(.t 2)]]
theorem f106:aV Tryz.prog 106 6 LH [.tmp 4]:=⟨_,Tryz.func106,rfl,by kernel_rfl,rfl⟩
def LI:AC:=zz 0x18806fc0f7017ff390d808f1d00a30cf3216807f06cac036b010a0970a0903e0da60efa215107004012ab0003316050d01313e0130d06f13 [.mov (.c (.int .u64 0)),.mov (.c (.int .u64 8)),.conv (.toInt .u64) (.t 20),.conv (.toInt .i64) (.t 23)]
theorem f107:aV Tryz.prog 107 25 LI [.tmp 6]:=⟨_,Tryz.func107,rfl,by kernel_rfl,rfl⟩
def LJ:AC:=zz 0x1f802f00e76009771dd04608dc13dc12d02511da1210d0003d0d04a02d0101da0200d0013d00b12d0111da3210d00036019bf812d02511da1210d000363e06a12d0111d50210d000d07a011021ef90e004b1f23 [.mov (.c (.int .i64 2560)),.build [.int .i64 0,.int .i64 0] [],.eqA false [.int,.int] (.t 26) (.t 27)]
theorem f108:aV Tryz.prog 108 32 LJ [.tmp 2]:=⟨_,Tryz.func108,rfl,by kernel_rfl,rfl⟩
def LK:AC:=zz 0x8d9d8d4d3d18483813191b802f040a4d0257f801012a12040a4d0257f801002a12030a2d0257f801a021d0257f8c0cf11fe10b803f2d00a60320a016428f23107803f1d00a20320a012322310d0133e004b1f23 [.mov (.c (.str []))]
theorem f109:aV Tryz.prog 109 28 LK [.tmp 2]:=⟨_,Tryz.func109,rfl,by kernel_rfl,rfl⟩
def r8:AC:=zz 0xd03f0b495074557ff394d03f0b49c390a037015a02d9001d487000d000d05a44704fff734e804d809f3132034dff4c804aff018af8447454bff73149803eff1d0a70a22101941732cc013b712013b73242ff82418039c8f0351331b43151070041102a136050d002bf03cff3313b804fcf032101932722010220d031bf0630a0360d03a12d02b11df010d001d05a01267022dff8312c804fcf02bff33b9b4b3949352a8049c6fc010221d031bf01d00a03e29df8010220d031bf020ffde14d03f0b49c390a0671d05a05d03b04d0103d02202d0d031b01df000d000372d02a02d02b01df000d000d05a0a7010ff0ff310f800e804f313203ef0d80bf019cf890cf730d0c2f23 [.alloc [.int .i64 0,.str [],.str [],.sl 1 [] (.exact 0)],.build [.int .i64 0,.str [],.str [],.sl 1 [] (.exact 0)] [],.mov (.c (.str [98,111,99,117,112,113])),.build [.int .i64 0,.str [],.str [],.sl 1 [] (.exact 0)] [(0,1,(.t 37)),(1,1,(.t 41))],.alloc [.int .i64 0,.str [],.str [],.sl 1 [] (.exact 0)],.slc false 3 (.t 43) (some (.c (.int .i64 2))) none none,.slc false 3 (.t 58) (some (.c (.int .i64 1))) none none,.alloc [.int .i64 0,.int .i64 0,.str []],.buildSl 1 [(.t 69)],.app false 1 8 (.t 67) (.t 70),.build [.int .i64 0,.str [],.str [],.sl 1 [] (.exact 0)] []]
theorem f110:aV Tryz.prog 110 88 r8 [.cell 2 (some 4),.tmp 3]:=⟨_,Tryz.func110,rfl,by kernel_rfl,rfl⟩
def LL:AC:=zz 0xd014802fc3e01a0d06b9011ff694d00d02f290a0373e03a02d0d06b01d9000d000373e02a02d0d06b01d9000d001d05a03b30d310d00d02f23 [.mov (.c (.int .u8 48)),.mov (.c (.int .u8 50)),.mov (.c (.int .u8 48)),.conv (.toInt .i64) (.t 19)]
theorem f111:aV Tryz.prog 111 21 LL [.tmp 2,.tmp 3]:=⟨_,Tryz.func111,rfl,by kernel_rfl,rfl⟩
def vp:AC:=zz 0xd03f0b59267552dff394d03f0b59c390a037015a02d9001d207000d000d05a1c7025ff73248023807f31320323ff228020ff0128f81a75521ff7314d03f0b59c390a0d05a01a2f8f01cff3311b8059c6fc0d05a2d0ba12700d05a1d0ba0f70c01a1f8f001a1f8f001a0f8f0ef10f30d805f019ff8f0cf330b804f019ef8c909f430d0c2f23 [.alloc [.int .i64 0,.int .i64 0,.int .i64 0,.bool false,.bool false],.conv .s2b (.t 9),.build [.int .i64 0,.int .i64 0] [(0,1,(.t 17)),(1,1,(.t 19))],.build [.int .i64 0,.int .i64 0,.int .i64 0,.bool false,.bool false] [(0,1,(.t 15)),(1,2,(.t 20)),(3,1,(.t 23)),(4,1,(.t 26))],.alloc [.int .i64 0,.int .i64 0,.int .i64 0,.bool false,.bool false],.build [.int .i64 0,.int .i64 0,.int .i64 0,.bool false,.bool false] [],.build [.int .i64 0,.int .i64 0,.int .i64 0,.bool false,.bool false] []]
theorem f112:aV Tryz.prog 112 46 vp [.cell 2 (some 5),.tmp 3]:=⟨_,Tryz.func112,rfl,by kernel_rfl,rfl⟩
def LM:AC:=zz 0x308023806f008760d04a17dc16da015d03514d0131b13d207012d9011db010d00012a1c701a70197023ff10f92280af167022ff2221809f1d00a147032040d02aca00350131b0e7090b018ff831780bfc3e0eac010a08700870731507004012a50500fff33160510e800d09f50ef330d808f02b90cf330e00d06f23 [.conv (.toInt .u64) (.t 20),.mov (.c (.int .u64 1)),.conv (.toInt .i64) (.t 22),.callv (.t 24) [(.t 28),(.t 29)],.callv (.t 40) [(.t 44),(.t 45)]]
theorem f113:aV Tryz.prog 113 49 LM [.tmp 6,.tmp 7]:=⟨_,Tryz.func113,rfl,by kernel_rfl,rfl⟩
def LN:AC:=zz 0x8804f01260f85001202590d04f14b2f23
theorem f114:aV Tryz.prog 114 9 LN [.tmp 4]:=⟨_,Tryz.func114,rfl,by kernel_rfl,rfl⟩
def LO:AC:=zz 0xd01b802ff01bff391a800fc12709018ff4217804fcc0f735f014ff534d03e02f290a0d04a0b7012ff2311180108039c5f31320310ff0f80df01a3f890ef8315070040d03a03b90af33160513e0135d03e02f290a3e03a03b607f3310d03e02f23 [.mov (.c (.sl 3 [] (.exact 0))),.mov (.c (.int .i64 128)),.mov (.c (.sl 3 [] (.exact 0))),.mov (.c (.sl 3 [] (.exact 0))),.alloc [.int .i64 0,.int .i64 0,.str []],.mov (.c (.sl 3 [] (.exact 0))),.buildSl 3 [(.t 21)],.app false 3 32 (.t 20) (.t 22),.slc true 0 (.t 24) (some (.t 25)) none none]
theorem f115:aV Tryz.prog 115 28 LO [.tmp 2,.tmp 3]:=⟨_,Tryz.func115,rfl,by kernel_rfl,rfl⟩
def LP:AC:=zz 0xd032802f01a6f801a7f8a4530ff593e03e02f290a0097704608d0d05a13d0198f812d0111da2210d0003d1d05a02d0101da0200d000d05a0166f801a1221ff0ff312d03e02f290a0087703607d3e05a12d0111da2210d0003d1d04a02d0101da0200d00057015a04df003d02b02d0101da3200d0004700b03d012a5f802df001da4500d000d02a308f19f3107804f01a4f8013025f430d03e004b1f33 [.mov (.c (.str [])),.mov (.c (.str [])),.mov (.c (.str [])),.mov (.c (.str [])),.mov (.c (.int .i64 15))]
theorem f116:aV Tryz.prog 116 51 LP [.tmp 2,.tmp 3]:=⟨_,Tryz.func116,rfl,by kernel_rfl,rfl⟩
def LQ:AC:=zz 0x7d03e04f290c806f1d00a40bf320d018804f010120121b0e7090790a014aa0010020121b077090df7315107004022a02b90004316050d01310d03e04f23 [.mov (.c (.str [])),.mov (.c (.str []))]
theorem f117:aV Tryz.prog 117 25 LQ [.tmp 4,.tmp 5]:=⟨_,Tryz.func117,rfl,by kernel_rfl,rfl⟩
def LR:AC:=zz 0x1e02f1919806f1d1270a19ff220e02f190ad8100c76057a1bd011ad00219d0121b18dc017d9016d0115d00214d0221b13d1d01a12dc011d9010d000d03a509f10fe108803f1023151070041102a136050d002b304f3310e02f13
theorem f118:aV Tryz.prog 118 26 LR [.tmp 2]:=⟨_,Tryz.func118,rfl,by kernel_rfl,rfl⟩
def LS:AC:=zz 0x8424121f802f0087603717d3e04a02d0101da2200d0013d1d05a12d0111da0210d00037a02b01a3201aff801a020fff12fe10e808f1d50aef220e02f190a0d02af0cf230b804f011311b33151070041102a136050d002b013325f4310e004b1f23 [.mov (.c (.str []))]
theorem f130:aV Tryz.prog 130 32 LS [.tmp 2]:=⟨_,Tryz.func130,rfl,by kernel_rfl,rfl⟩
def LU:AC:=zz 0x36804f2b7036ff2935803480af31320334ff338031ff01b2f82c7032ff73308025ff1d0a70a30ff222f805fcc012b1f8227001b02237029ff8228809f011311b33351270041102a136250d002b01b3222ff431218016ff1d0a70a21ff2220805fcc01b0f815701670620a3e05a12701aff2319807f011311b33151070041102a136050d002ba014ff33113805fc01b0f8c01b021d01a01b02cf933e04f14b2f23 [.mov (.c (.str [])),.slc true 0 (.c (.str [98,111,99,117,112,113])) (some (.t 14)) (some (.t 16)) none,.buildSl 3 [(.t 18)],.mov (.c (.str [])),.buildSl 3 [(.t 30)],.app false 3 32 (.t 28) (.t 31),.buildSl 3 [(.t 45)],.app false 3 32 (.t 41) (.t 46)]
theorem f131:aV Tryz.prog 131 55 LU [.tmp 4]:=⟨_,Tryz.func131,rfl,by kernel_rfl,rfl⟩
def LV:AC:=zz 0xd027802f05283f8c01a2201a12a4521ff9920803e02f1a70390a0d05a18701eff231d805f0164f801a22430a1d05a01a0218ff33117803e02ff0390a0d05af015ff2314804f0132f801a1212ff4312d03e02f290a9585200777035a06d01aff805d0104da0203d02b02d0101da3200d0000b0182f84456fce110d03e004b1f33 [.mov (.c (.str [])),.mov (.c (.str [])),.mov (.c (.str [])),.mov (.c (.str [])),.buildSl 1 [(.t 35),(.t 37)]]
theorem f138:aV Tryz.prog 138 40 LV [.tmp 2,.tmp 3]:=⟨_,Tryz.func138,rfl,by kernel_rfl,rfl⟩
def LW:AC:=zz 0x10808f1d00a600fff3224809f1d01a197023ff32d9120290a70c721b50290c70d721b0250121b2670900250221b1d01a2170901d01a1e70901c709025ff12fe35127004d8100c760d02a1bdc1ad02519d0221b18d1d01a17d127016d9015d02514d0121b13d0e7012d9011dc010d00013aa0087012ff11fe1162511809f087011ff2315107004012ab030cf3316050b808f1d00aa0af33 [.callv (.t 22) [(.t 26),(.t 31)]]
theorem f139:aV Tryz.prog 139 53 LW []:=⟨_,Tryz.func139,rfl,by kernel_rfl,rfl⟩
def LX:AC:=zz 0x18802f040ac03e6bc90b013ff7912802f8d00ab011ff3210800f3e0ea90330a3e07a90df2310c802f3e00ab0bf320a800f3e0ea90330a3e07a607f2313e02f1206800f3e0ea40330a3e07a202310d02f13 [.mov (.c (.int .u64 4294967296)),.mov (.c (.int .u64 32)),.mov (.c (.int .i64 32)),.mov (.c (.int .u64 65536)),.mov (.c (.int .u64 16)),.mov (.c (.int .i64 16)),.mov (.c (.int .u64 256)),.mov (.c (.int .u64 8)),.conv (.toInt .u8) (.t 20),.mov (.c (.str [0,1,2,2,3,3,3,3,4,4,4,4,4,4,4,4,5,5,5,5,5,5,5,5,5,5,5,5,5,5,5,5,6,6,6,6,6,6,6,6,6,6,6,6,6,6,6,6,6,6,6,6,6,6,6,6,6,6,6,6,6,6,6,6,7,7,7,7,7,7,7,7,7,7,7,7,7,7,7,7,7,7,7,7,7,7,7,7,7,7,7,7,7,7,7,7,7,7,7,7,7,7,7,7,7,7,7,7,7,7,7,7,7,7,7,7,7,7,7,7,7,7,7,7,7,7,7,7,8,8,8,8,8,8,8,8,8,8,8,8,8,8,8,8,8,8,8,8,8,8,8,8,8,8,8,8,8,8,8,8,8,8,8,8,8,8,8,8,8,8,8,8,8,8,8,8,8,8,8,8,8,8,8,8,8,8,8,8,8,8,8,8,8,8,8,8,8,8,8,8,8,8,8,8,8,8,8,8,8,8,8,8,8,8,8,8,8,8,8,8,8,8,8,8,8,8,8,8,8,8,8,8,8,8,8,8,8,8,8,8,8,8,8,8,8,8,8,8,8,8,8,8,8,8,8,8])),.conv (.toInt .i64) (.t 22)]
theorem f148:aV Tryz.prog 148 25 LX [.tmp 2]:=⟨_,Tryz.func148,rfl,by kernel_rfl,rfl⟩
def LY:AC:=zz 0xb2901c4f8c019ff3918808f1d0f70a18ff2217803f01c3f800770ac03e1ac0c703e00ac0970c0efb20d803f3e02c2f8c0cf330b805f011311b33151070041102a136050d002b506f3313e013c2f13 [.alloc [.int .i64 0,.int .i64 0],.mov (.c (.sc (.complex .f64 0 0))),.mov (.c (.sc (.complex .f64 4613937818241073152 4611686018427387904))),.raw (.i2f .f64) [(.t 15)],.mov (.c (.sc (.float .f64 4607182418800017408))),.raw (.i2f .f64) [(.t 18)],.mov (.c (.sc (.float .f64 4643211215818981376))),.raw .cplx [(.t 17),(.t 20)]]
theorem f150:aV Tryz.prog 150 27 LY [.cell 2 (some 2)]:=⟨_,Tryz.func150,rfl,by kernel_rfl,rfl⟩
def LZ:AC:=zz 0x10802f06702605d3e06a11d9010d0002d3e07a01d9000d000263e06a11d5010d003e07a200ff90e02f13 [.mov (.c (.int .u8 97)),.mov (.c (.int .u8 122)),.mov (.c (.int .u8 48)),.mov (.c (.int .u8 57))]
theorem f151:aV Tryz.prog 151 17 LZ [.tmp 2]:=⟨_,Tryz.func151,rfl,by kernel_rfl,rfl⟩
def HZ:AC:=zz 0xd02f1911803f1d00ac010ff323e02f190a0473e03a03d016b02dc001d9000d003e02a016bc09012ffa315107004022a03b90c0cf4316050d01313e02f190a0373e03a02d03b01d9000d001d02a03b304f8310d02f13 [.mov (.c (.int .i64 32)),.mov (.c (.int .i64 15)),.mov (.c (.int .u8 33)),.mov (.c (.int .u8 126)),.mov (.c (.int .i64 15))]
theorem f152:aV Tryz.prog 152 28 HZ [.tmp 2]:=⟨_,Tryz.func152,rfl,by kernel_rfl,rfl⟩
def L0:AC:=zz 0xb29c2520ff290a804f1d00a409f32a8a120c29c01c6f8041ac016bf0903e00a01c1201c6f81d00a040ac016bf09001c0214fe0c2901c5f8c25bf3315107004022a03b50004316050d0131c13c2f13 [.alloc [.int .i64 0,.int .i64 0],.alloc [.int .i64 0,.int .i64 0],.conv (.toInt .i64) (.t 17),.mov (.c (.int .i64 256)),.conv (.toInt .i64) (.t 27),.build [.int .i64 0,.int .i64 0] [(0,1,(.t 21)),(1,1,(.t 30))]]
theorem f153:aV Tryz.prog 153 33 L0 [.cell 2 (some 2)]:=⟨_,Tryz.func153,rfl,by kernel_rfl,rfl⟩
def Kl:AC:=zz 0x25808f1d1c70a2280a00bcf859043201021019f7202239f82d023bf8b1b16e11059f2214755330138f80d04a107017ff331680158059c5f41330315ff148011ff0170f83e0239f8b112ff93757473727170434241402010c108089c4fc8d023bf8b102239f81d023bf8b1b19e1151070041102a136050d0517f23 [.build [.str [],.int .i64 0,.int .i64 0,.int .i64 0,.int .i64 0,.bool false,.bool false,.str []] [(0,1,(.t 13)),(1,1,(.t 15))],.alloc [.str [],.int .i64 0,.int .i64 0,.int .i64 0,.int .i64 0,.bool false,.bool false,.str []],.mov (.c (.int .i64 11)),.alloc [.int .i64 0,.int .i64 0,.int .i64 0,.bool false,.bool false],.callv (.t 33) [(.t 34)]]
theorem f154:aV Tryz.prog 154 38 Kl []:=⟨_,Tryz.func154,rfl,by kernel_rfl,rfl⟩
def L1:AC:=zz 0x14802f0363e02a12d0111da1210d000360d07a12d0111da1210d000363e02a12d0111d50210d000d07a0110213f90e004b1f23 [.mov (.c (.int .i64 1048573)),.mov (.c (.int .i64 1048573))]
theorem f155:aV Tryz.prog 155 21 L1 [.tmp 2]:=⟨_,Tryz.func155,rfl,by kernel_rfl,rfl⟩
def L2:AC:=zz 0x4d03e02f293c10d62804fcccc5870f05dff730a5c805bff3e64a5cff231d5a805fcc527058ff4304578056ff3e14a57ff2315026b1d01a4c709052ff43151806f1d00a4970333d0a024a03b9045704cff4311d4b805fcc026b1d01a4070903f70830a3e05a026b1d01a3a709040ff5313f806f1d00a3770333d0a024a03b9033703aff4311c10d139806f8d00a317038ff3337804fccc3e02c7f8c8d00a2a70297090f02effb22d804fccc3e02c7f8c8d00a20701f7090f0b2043e04a026b1d01a1970905313d0a8d02a011a157003b901aff5312c13d12d0a198017ff3e44a19ff22004188017ff3e34a18ff2311d3e05f1304168015ff3e14a16ff2305026b1d01a0b709011ff43110806f1d00a08700fff330d00e802ff0390a024a03b9030af4310c15d03e02f290a3e03a03b603310d0133e0133e013b0d03e02f23 [.mov (.c (.sl 3 [] (.exact 0))),.mov (.c (.sl 3 [] (.exact 0))),.mov (.c (.sl 1 [] (.exact 0))),.mov (.c (.int .i64 128)),.mov (.c (.sl 3 [] (.exact 0))),.mov (.c (.int .u8 2)),.mov (.c (.sl 1 [] (.exact 0))),.mov (.c (.int .u8 3)),.mov (.c (.int .u8 4)),.mov (.c (.int .u8 3)),.slc true 0 (.t 37) (some (.t 38)) (some (.t 40)) none,.mov (.c (.int .u8 0)),.build [.int .i64 0,.int .i64 0,.str []] [(0,1,(.c (.int .i64 2))),(1,1,(.t 42))],.buildSl 3 [(.t 43)],.app false 3 32 (.t 36) (.t 44),.slc true 0 (.t 47) (some (.t 48)) (some (.t 50)) none,.mov (.c (.int .u8 255)),.build [.int .i64 0,.int .i64 0,.str []] [(0,1,(.c (.int .i64 3))),(1,1,(.t 52))],.buildSl 3 [(.t 53)],.app false 3 32 (.t 46) (.t 54),.mov (.c (.int .u8 0)),.buildSl 1 [(.t 73)],.app false 1 1 (.t 69) (.t 74),.mov (.c (.int .u8 255)),.buildSl 1 [(.c (.int .u8 0))],.app false 1 1 (.t 88) (.t 89),.mov (.c (.int .u8 1)),.conv .b2s (.t 94),.build [.int .i64 0,.int .i64 0,.str []] [(0,1,(.c (.int .i64 1))),(2,1,(.t 95))],.buildSl 3 [(.t 96)],.app false 3 32 (.t 93) (.t 97),.mov (.c (.sl 3 [] (.exact 0)))]
theorem f156:aV Tryz.prog 156 99 L2 [.tmp 2,.tmp 3]:=⟨_,Tryz.func156,rfl,by kernel_rfl,rfl⟩
def L4:AC:=zz 0x7804f012c8f84040490d04f13
theorem f157:aV Tryz.prog 157 8 L4 [.tmp 4]:=⟨_,Tryz.func157,rfl,by kernel_rfl,rfl⟩
def L5:AC:=zz 0x6802f04bc01c9f820592e02f13 [.build [.bool false,.sl 1 [] (.exact 0),.int .i64 0,.int .i64 0] [(0,1,(.c (.bool true))),(1,1,(.t 4))]]
theorem f158:aV Tryz.prog 158 7 L5 [.tmp 2]:=⟨_,Tryz.func158,rfl,by kernel_rfl,rfl⟩
def L6:AC:=zz 0xf02f3e1d03caf820390d02f13 [.mov (.c (.clo (.func 203) [] []))]
theorem f159:aV Tryz.prog 159 5 L6 [.tmp 2]:=⟨_,Tryz.func159,rfl,by kernel_rfl,rfl⟩
def L7:AC:=zz 0xf02f3e2d03caf820390d02f13 [.mov (.c (.clo (.func 203) [] []))]
theorem f160:aV Tryz.prog 160 5 L7 [.tmp 2]:=⟨_,Tryz.func160,rfl,by kernel_rfl,rfl⟩
def L8:AC:=zz 0xf02f3e4d03caf820390d02f13 [.mov (.c (.clo (.func 203) [] []))]
theorem f161:aV Tryz.prog 161 5 L8 [.tmp 2]:=⟨_,Tryz.func161,rfl,by kernel_rfl,rfl⟩
def L9:AC:=zz 0xd02f195d02f190a731052a02b0101204900102204909fae1108802f40290a0d05a206f2305803f01ccf8304f3310d02f13
theorem f162:aV Tryz.prog 162 19 L9 [.tmp 2]:=⟨_,Tryz.func162,rfl,by kernel_rfl,rfl⟩
def H2:AC:=zz 0xd03f0b39c6fff3941808f1d00a377040ff326e808f1d00a64706dff326c807fcc62706aff4369803f2b392d00a5f70cc5d70790a3e04a026b1d00a58709060ff5310d03f0b39c390a00c770560bd3e05a14d026b13d1d00a12d507011d9010d0005d3e05a04d026b03d1d00a02d4a7001d9000d00024a03b901d00a43704cff13f31374b807fcc016b3f70903e70730a3e05a016b3a709042ff43135127004022a03b9033703cff4316251d01313e07f130d03f0b39c390a3e05a0d06b9038ff331809d03f0b39c8d0d036bf8c2e701d01ac0d06b90ae110190d411bc010d011b257024702aff7321806f1d00a197020ff3210195611b03e1a010111b1e701e701c701c7022ff9215107004016f010d008d02a14701bff5316050d01311a805fcc9018ff4317804f3e04a0d06b9015ff430d03f0b39c390a9d02a03b903310a0373e04a02d0d06b01d9000d003e04a0d06b909f8310d0c2f23 [.alloc [.int .i64 0,.int .i64 0,.str []],.mov (.c (.int .u8 3)),.mov (.c (.int .u8 4)),.build [.int .i64 0,.int .i64 0,.str []] [],.mov (.c (.int .u8 4)),.slc true 0 (.t 24) (some (.c (.int .i64 1))) (some (.c (.int .i64 9))) none,.conv .s2b (.t 25),.mov (.c (.int .u8 255)),.bin .xor (.t 45) (.c (.int .u8 128)),.conv (.toInt .i64) (.t 49),.conv .b2s (.t 52),.build [.int .i64 0,.int .i64 0,.str []] [(0,1,(.t 51)),(1,1,(.t 54))],.mov (.c (.int .u8 2)),.build [.int .i64 0,.int .i64 0,.str []] [],.mov (.c (.sl 1 [] (.exact 0))),.mov (.c (.int .u8 0)),.buildSl 1 [(.t 73)],.app false 1 1 (.t 70) (.t 74),.mov (.c (.int .u8 1)),.mov (.c (.int .u8 255)),.build [.int .i64 0,.int .i64 0,.str []] [],.mov (.c (.int .u8 1)),.conv .b2s (.t 101),.build [.int .i64 0,.int .i64 0,.str []] [(0,1,(.c (.int .i64 1))),(2,1,(.t 102))],.buildSl 1 [(.c (.int .u8 0))],.app false 1 1 (.t 106) (.t 107),.build [.int .i64 0,.int .i64 0,.str []] []]
theorem f163:aV Tryz.prog 163 112 H2 [.cell 2 (some 3),.tmp 3]:=⟨_,Tryz.func163,rfl,by kernel_rfl,rfl⟩
def xe:AC:=zz 0xd802f010211b1d01a90c9f693e02f190a0276d03a01d5000d001d02a206310d02f13 [.mov (.c (.int .i64 (-1))),.buildSl 1 [(.c (.int .i64 0)),(.c (.int .i64 1)),(.c (.int .i64 2)),(.c (.int .i64 1)),(.c (.int .i64 2)),(.c (.int .i64 3))]]
theorem f164:aV Tryz.prog 164 14 xe [.tmp 2]:=⟨_,Tryz.func164,rfl,by kernel_rfl,rfl⟩
def Ma:AC:=zz 0x17804f016aa002b01b3213ff690c805f1d00a50bf320e04f190a0d02a010111b097001b32df6315107004032a02b01432005316050d01310e04f14b2f23
theorem f165:aV Tryz.prog 165 24 Ma [.tmp 4]:=⟨_,Tryz.func165,rfl,by kernel_rfl,rfl⟩
def Mb:AC:=zz 0xa802f60af29098008803f3132038f07805f01cdf8506f733e02f13 [.mov (.c (.str []))]
theorem f166:aV Tryz.prog 166 11 Mb [.tmp 2]:=⟨_,Tryz.func166,rfl,by kernel_rfl,rfl⟩
def Mc:AC:=zz 0x35802fc035ff2926804f1d00af025ff3234803fcc2c735c0523d0192a702220a2d04a01a022dff3312c8039c5fc010111bf001a3227ff8315107004032a02b01a32f020ff5316050d01311f803fccc01a22c0720a3e05a01a2217ff33116803fccc01a12c0720a3e05a01a12ef3310d803fccc01a021d01a014026f933e004b1f23 [.mov (.c (.sl 3 [] (.exact 0))),.slc true 0 (.c (.str [98,111,99,117,112,113])) (some (.t 8)) (some (.t 10)) none,.build [.int .i64 0,.int .i64 0,.str []] [(0,1,(.c (.int .i64 1))),(2,1,(.t 11))],.buildSl 3 [(.t 12)],.mov (.c (.str [])),.build [.int .i64 0,.int .i64 0,.str []] [(0,1,(.c (.int .i64 1))),(2,1,(.t 19))],.buildSl 3 [(.t 20)],.app false 3 32 (.t 17) (.t 21),.mov (.c (.str [])),.build [.int .i64 0,.int .i64 0,.str []] [(0,1,(.c (.int .i64 1))),(2,1,(.t 28))],.buildSl 3 [(.t 29)],.app false 3 32 (.t 26) (.t 30),.build [.int .i64 0,.int .i64 0,.str []] [(0,1,(.c (.int .i64 2))),(1,1,(.t 43))],.alloc [.int .i64 0,.int .i64 0,.str []],.buildSl 3 [(.t 50)],.app false 3 32 (.t 49) (.t 51)]
theorem f167:aV Tryz.prog 167 54 Mc [.tmp 2]:=⟨_,Tryz.func167,rfl,by kernel_rfl,rfl⟩
def xf:AC:=zz 0x3e02f190715802fc015ff29114803f1d00ac013ff3212803f1d00ac011ff3210803f1d00ac00fff3207470a0e80df1df4aef23370a0c80af2df4acf220040b80af4d64abf2311270a09807f3d44a9f2200408807f5d34a8f2311170a06805f6d14a6f231115125135145105301310d0130d02f13 [.mov (.c (.int .i64 (-1)))]
theorem f175:aV Tryz.prog 175 22 xf [.tmp 2]:=⟨_,Tryz.func175,rfl,by kernel_rfl,rfl⟩
def Md:AC:=zz 0x239c2039c2f13 [.alloc [.int .i64 0,.int .i64 0,.str []],.build [.int .i64 0,.int .i64 0,.str []] [(0,1,(.c (.int .i64 1))),(2,1,(.t 3))]]
theorem f176:aV Tryz.prog 176 5 Md [.cell 2 (some 3)]:=⟨_,Tryz.func176,rfl,by kernel_rfl,rfl⟩
def Me:AC:=zz 0x639ca0390439c50390a2d04a40231c4f13 [.alloc [.int .i64 0,.int .i64 0,.str []],.build [.int .i64 0,.int .i64 0,.str []] [(0,1,(.c (.int .i64 3))),(1,1,(.t 7))],.build [.int .i64 0,.int .i64 0,.str []] [(0,1,(.c (.int .i64 2))),(1,1,(.t 9))]]
theorem f177:aV Tryz.prog 177 11 Me [.cell 4 (some 3)]:=⟨_,Tryz.func177,rfl,by kernel_rfl,rfl⟩
def Mf:AC:=zz 0xd025802fc1d7024ff49238015ff1d0d70a23ff225d03e02f290a3e03a02b197020ff331f806f012d3f81573516701dff435d03e02f290a3e03a03b011072219ff431188039c8f0351331b43351270041102a136250d002b9013ff3313e06f131280bf1d60a12ff222d03e02f290a00b01d2f8097350fff330e8039c5f0351331b43151070041102a136050d002b909f3310d03e02f23 [.mov (.c (.str [])),.alloc [.int .i64 0,.int .i64 0,.str []],.mov (.c (.str [])),.mov (.c (.sl 1 [] (.exact 0))),.alloc [.int .i64 0,.int .i64 0,.str []],.mov (.c (.int .i64 128)),.mov (.c (.str [])),.mov (.c (.int .i64 128)),.mov (.c (.str [])),.conv .b2s (.t 36)]
theorem f178:aV Tryz.prog 178 38 Mf [.tmp 2,.tmp 3]:=⟨_,Tryz.func178,rfl,by kernel_rfl,rfl⟩
def Mg:AC:=zz 0x20804f01c3f8c177017701dff591c806f050a028aca0c90028aca0c9012ffc311805f051a028aca0c90028aca0c607fc33e04f13 [.mov (.c (.sc (.complex .f64 0 0))),.raw (.cpart true) [(.t 7)],.raw (.cpart true) [(.t 9)],.raw (.cpart false) [(.t 12)],.raw (.cpart false) [(.t 14)],.raw (.cpart true) [(.t 18)],.raw (.cpart false) [(.t 20)],.raw (.cpart false) [(.t 23)],.raw (.cpart true) [(.t 25)],.raw .cplx [(.t 29),(.t 30)]]
theorem f194:aV Tryz.prog 194 33 Mg [.tmp 4]:=⟨_,Tryz.func194,rfl,by kernel_rfl,rfl⟩
def Mh:AC:=zz 0x9802fc01daf8c5001daf8c20893e02f13 [.mov (.c (.sc (.complex .f64 0 0))),.raw (.cpart true) [(.t 3)],.raw (.cpart false) [(.t 6)],.raw .cplx [(.t 5),(.t 8)]]
theorem f195:aV Tryz.prog 195 10 Mh [.tmp 2]:=⟨_,Tryz.func195,rfl,by kernel_rfl,rfl⟩
def Mi:AC:=zz 0xb29ccc50cc2089c2f13 [.alloc [.int .i64 0,.int .i64 0],.raw (.cpart true) [(.t 3)],.raw (.f2i .i64) [(.t 4)],.raw (.cpart false) [(.t 6)],.raw (.f2i .i64) [(.t 7)],.build [.int .i64 0,.int .i64 0] [(0,1,(.t 5)),(1,1,(.t 8))]]
theorem f196:aV Tryz.prog 196 10 Mi [.cell 2 (some 2)]:=⟨_,Tryz.func196,rfl,by kernel_rfl,rfl⟩
def Mj:AC:=zz 0x8c9c7c4c19794914180b29c01c6f8030a03d8a01a1202d8a01a0201c6f8031a02d8a0141203d8a0110212fe1c04b1f23 [.alloc [.int .i64 0,.int .i64 0],.build [.int .i64 0,.int .i64 0] [(0,1,(.t 10)),(1,1,(.t 18))]]
theorem f197:aV Tryz.prog 197 20 Mj [.cell 2 (some 2)]:=⟨_,Tryz.func197,rfl,by kernel_rfl,rfl⟩
def Mk:AC:=zz 0x6802f3e0aa3e00a3e0aa20590d02f13 [.mov (.c (.int .i64 1048573)),.mov (.c (.int .i64 1048573)),.mov (.c (.int .i64 1048573))]
theorem f198:aV Tryz.prog 198 7 Mk [.tmp 2]:=⟨_,Tryz.func198,rfl,by kernel_rfl,rfl⟩
def Ml:AC:=zz 0x19804fcc117017ff491680bf1d0a70a16ff2215805f04cacca009703e0da09700fff820e807f011311b33151070041102a136050d002bc908f4313e0130d04f13 [.mov (.c (.int .u64 0)),.conv .s2b (.t 8),.mov (.c (.int .u64 8)),.bin .xor (.t 17) (.t 18),.conv (.toInt .u64) (.t 19),.bin .xor (.t 23) (.c (.int .u64 9223372036854775808)),.conv (.toInt .i64) (.t 24)]
theorem f199:aV Tryz.prog 199 26 Ml [.tmp 4]:=⟨_,Tryz.func199,rfl,by kernel_rfl,rfl⟩
def Mm:AC:=zz 0x3e04f198e804f010a7f7083708cff493e04f190a0d02a7c708aff2318980df012def8a0c7d7090630a036012a12d787011d787010d00056037a14d04d0a13d3e0ea12d727011d6f7010d00013ac707076ff0ff33e04f1975804f010a6b706670490a0d07a647071ff2317080cfca0c6470906304046023a13d01ddf812d5f7011d5c7010d00016ac5d7063ff936280af1d00a567061ff3360808f1d00a56705fff335e804f5570290a00876014a17da016dc15d010a14d527013d4e7012d4d7011d9010d00014a4a70026b1d00a4670904eff10f314d808f020a1d00a3f7041704aff523e04f190a0d02a3c7048ff2314780bf012dbf83f70c3a701d00a397090830a015a3870016b3470905312517004012a3070307039ff33161510d01338809f1d00a011a307003b9034ff630d01333807f1d06ba032ff3331806f0d06ba030ff332f804fca0902dff490a2c8024ff0363e06a12d03b11d9010d00016ac1f7025ff933e04f190423801fff027a03b901a7020ff531e804f022dbf80d06ba0901bff59041a8018ff1d04a137019ff330d04f1904178010ff037014a02d9001da000d000d04a0b7011ff830510f805f03ba0ef330d04f13 [.mov (.c (.int .i64 (-1))),.dead,.mov (.c (.int .i64 64)),.dead,.slc true 0 (.t 65) (some (.t 67)) (some (.t 68)) none,.mov (.c (.int .i64 (-1))),.slc true 0 (.t 85) (some (.t 86)) (some (.t 89)) none,.dead,.slc true 0 (.t 108) (some (.t 109)) none none,.dead,.mov (.c (.int .i64 (-1))),.dead,.mov (.c (.int .u64 4)),.slc true 0 (.t 133) (some (.t 134)) none none,.mov (.c (.int .i64 (-1))),.mov (.c (.int .i64 (-1)))]
theorem f200:aV Tryz.prog 200 143 Mm [.tmp 4]:=⟨_,Tryz.func200,rfl,by kernel_rfl,rfl⟩
def NQ:AC:=zz 0x7802fc50c5f493e02f190ac202313e02f13 [.mov (.c (.sl 1 [] (.exact 0))),.eqN false (.t 3),.mov (.c (.sl 1 [] (.exact 0))),.buildSl 1 [],.app false 1 1 (.t 5) (.t 6)]
theorem f201:aV Tryz.prog 201 8 NQ [.tmp 2]:=⟨_,Tryz.func201,rfl,by kernel_rfl,rfl⟩
def Mn:AC:=zz 0x25806fc1c70b049201902254010aa00102204901bff930d06f193d0190320490430a00b0d7016ff231158014807f087130770314ff1380cf0153e0f8a001022049090dfc30d06f190a00b01dff8909f3310d06f13 [.callv (.t 35) [(.t 36)]]
theorem f202:aV Tryz.prog 202 38 Mn [.tmp 6]:=⟨_,Tryz.func202,rfl,by kernel_rfl,rfl⟩
def Mo:AC:=zz 0xf02fc20390d02f13 [.conv (.toInt .i64) (.t 3)]
theorem f203:aV Tryz.prog 203 5 Mo [.tmp 2]:=⟨_,Tryz.func203,rfl,by kernel_rfl,rfl⟩
def Mp:AC:=zz 0xf802f010320490cf591d02f190a05700b04d0103d00202d0401d5000d00c209310d02f13 [.eqP false (.t 3) (.c (.sc (.pointer none)))]
theorem f204:aV Tryz.prog 204 16 Mp [.tmp 2]:=⟨_,Tryz.func204,rfl,by kernel_rfl,rfl⟩
def Mq:AC:=zz 0xd019802f137019ff3911806f1d00a097010ff3218805f050a01e2f80350131b0d70900c7012ff8215107004022a02b9050cf4316050d01313e05f130b803e02f60390a0d05a409f2308804f01e1f8607f3310d03e02f23 [.mov (.c (.str [])),.mov (.c (.str [])),.mov (.c (.str []))]
theorem f205:aV Tryz.prog 205 26 Mq [.tmp 2,.tmp 3]:=⟨_,Tryz.func205,rfl,by kernel_rfl,rfl⟩
def Mr:AC:=zz 0xe02f190f802f3e04a01a22df490a0c80af3df4acf220040b80af2d64abf23109802f0d04a015127f490406805f1d14a6f2305011022310e004b1f23 [.mov (.c (.str []))]
theorem f210:aV Tryz.prog 210 16 Mr [.tmp 2]:=⟨_,Tryz.func210,rfl,by kernel_rfl,rfl⟩
def Ms:AC:=zz 0x30804fcc902eff492d8020ff1d0c70a2dff222c800fcc90420a3e04a217028ff2327800fcc1e709024ff5323806f011311b33251170041102a136150d002bc01c221cff5311b800fcc9019ff4384241218804f3e023e4f801c12cc9013ff7e10a128011ff3d0974a12ff2384241210804f3e023e4f801c12cc90bf7e1040a809f2d14aaf2305013027f2313e014b3f23 [.mov (.c (.sl 1 [] (.exact 0))),.buildSl 1 [(.c (.int .u8 3))],.app false 1 1 (.t 11) (.t 12),.mov (.c (.int .u8 0)),.buildSl 1 [(.c (.int .u8 4))],.app false 1 1 (.t 19) (.t 20),.mov (.c (.int .u8 255)),.buildSl 1 [(.c (.int .u8 2))],.app false 1 1 (.t 25) (.t 26),.conv .s2b (.t 29),.buildSl 1 [(.t 37)],.app false 1 1 (.t 36) (.t 38),.mov (.c (.int .u8 0)),.buildSl 1 [(.c (.int .u8 255))],.app false 1 1 (.t 42) (.t 43),.buildSl 1 [(.c (.int .u8 0)),(.c (.int .u8 1))],.app false 1 1 (.t 46) (.t 47)]
theorem f211:aV Tryz.prog 211 49 Ms [.tmp 4]:=⟨_,Tryz.func211,rfl,by kernel_rfl,rfl⟩
def Mt:AC:=zz 0x9802f909f2908800f3e00a60320a3e02a405f231f00f3e02e9f820333e02f13 [.mov (.c (.sc (.float .f64 0))),.mov (.c (.sc (.float .f64 4697254385577623552))),.mov (.c (.sc (.float .f64 0))),.mov (.c (.sc (.float .f64 4697254385577623552)))]
theorem f218:aV Tryz.prog 218 10 Mt [.tmp 2]:=⟨_,Tryz.func218,rfl,by kernel_rfl,rfl⟩
def Mu:AC:=zz 0x7804fc4040490d04f13 [.raw .ibyte [(.t 5),(.t 6)]]
theorem f219:aV Tryz.prog 219 8 Mu [.tmp 4]:=⟨_,Tryz.func219,rfl,by kernel_rfl,rfl⟩
def Mv:AC:=zz 0x11802f0560d04a14d0113d03212d0411d9010d000460113d00212d0411d5010d00c2010f90e02f13 [.eqP true (.t 3) (.c (.sc (.pointer none)))]
theorem f223:aV Tryz.prog 223 18 Mv [.tmp 2]:=⟨_,Tryz.func223,rfl,by kernel_rfl,rfl⟩
def Mw:AC:=zz 0x1e028806f1f7028ff3927801eff1d0870a27ff2226808f02cac19703e0da197022ff622180af011311b33151070041102a136050d002bc010ab0a0a001012049014ffb313e0130e03e06f290a012ab0011aa002b010120490bf9310e03e06f23 [.mov (.c (.int .u64 0)),.mov (.c (.int .u64 0)),.mov (.c (.int .u64 0)),.slc false 1 (.t 23) (some (.t 24)) (some (.t 27)) none,.mov (.c (.int .u64 8)),.conv (.toInt .u64) (.t 36)]
theorem f224:aV Tryz.prog 224 41 Mw [.tmp 6,.tmp 7]:=⟨_,Tryz.func224,rfl,by kernel_rfl,rfl⟩
def Mx:AC:=zz 0xd02f1917805f1d00a107016ff325d02f190a3e03af01fff231e804f050a01edf80350131b147090f018ff8335127004022a02b900c7012ff4316250d01310d0130b803f1d00a60af322d02f190a00b01ecf80350131bc090cf6315107004022a02b60206f4316050d01310d02f13 [.mov (.c (.int .i64 128))]
theorem f225:aV Tryz.prog 225 33 Mx [.tmp 2]:=⟨_,Tryz.func225,rfl,by kernel_rfl,rfl⟩
def My:AC:=zz 0x2c802f3e00ac02bff391b804f1d00af01aff322a803f3e00ac0320a3e04a016bf001a2224ff5323803f060ac1d00af0f001a22c01cff9325117004032a03b01a22f015ff5316150d01313e01314802f03e0a1e02eef88d0257f801a1210ff690a0f80ef3d0874a0fff230d802f03e0a0e02eef88d0257f801a129f690408807f2d14a8f2305013025f2313e004b1f23 [.mov (.c (.str [])),.mov (.c (.str [3])),.mov (.c (.str [4])),.mov (.c (.str [2])),.slc true 0 (.t 30) (some (.t 31)) (some (.t 33)) none,.mov (.c (.int .u8 0)),.mov (.c (.str [255])),.mov (.c (.str [0,1]))]
theorem f226:aV Tryz.prog 226 45 My [.tmp 2]:=⟨_,Tryz.func226,rfl,by kernel_rfl,rfl⟩
def Mz:AC:=zz 0x19806f9019ff290f808f8d01a50ef3218800fcccb0c01ea097009709010ffa2151070040d07a30cf2316053e01310b807fcca09f433e06f13 [.mov (.c (.sl 1 [] (.exact 0))),.conv (.toInt .u64) (.t 9),.bin .xor (.t 10) (.c (.int .u64 9223372036854775808)),.mov (.c (.int .i64 56)),.conv (.toInt .u8) (.t 19),.bin .xor (.t 20) (.t 21),.buildSl 1 [(.t 22)],.app false 1 1 (.t 16) (.t 23)]
theorem f228:aV Tryz.prog 228 26 Mz [.tmp 6]:=⟨_,Tryz.func228,rfl,by kernel_rfl,rfl⟩
def MA:AC:=zz 0xa804f012f1f8a0908f4907804f012f0f84040490ea13e04f13 [.mov (.c (.sc (.float .f64 0)))]
theorem f233:aV Tryz.prog 233 11 MA [.tmp 4]:=⟨_,Tryz.func233,rfl,by kernel_rfl,rfl⟩
def MB:AC:=zz 0x19802f00d770360cd3e04a12d0111da2210d0008d03707d3d04a02d0101da0200d0003d2d04a02d0101da0200d000360d04a12d0111d51210d001d04a0110218f90e004b1f23 [.mov (.c (.str []))]
theorem f236:aV Tryz.prog 236 26 MB [.tmp 2]:=⟨_,Tryz.func236,rfl,by kernel_rfl,rfl⟩
def MC:AC:=zz 0x1a802fc01aff2912804f1d00af011ff3219803f1d00ac0320a3e04a016bf001a2213ff5315107004032a03b01a22f0cf5316050d01310b803f03d0a03b016228f539d02f190a1d05a013025f3310d004b1f23 [.mov (.c (.int .u8 0))]
theorem f237:aV Tryz.prog 237 27 MC [.tmp 2]:=⟨_,Tryz.func237,rfl,by kernel_rfl,rfl⟩
def MD:AC:=zz 0x21804fc1a7020ff3917806f1d00a0f7016ff3210195611b03e1a010111b147014701270127018ff9215107004016a010d00022a02b0a7008700fff7316050d06f13110190d411bc010d011b40309f7308805fc607f333e04f13 [.mov (.c (.str [])),.conv .s2b (.t 7),.bin .xor (.t 12) (.c (.int .u8 128)),.mov (.c (.int .u8 255)),.conv .b2s (.t 32)]
theorem f238:aV Tryz.prog 238 34 MD [.tmp 4]:=⟨_,Tryz.func238,rfl,by kernel_rfl,rfl⟩
def ME:AC:=zz 0x3d804f35703dff293c807fc3370320a3e02a9039ff23138807f051a032f7f8011a2e702a70a02a7032ff8231809f1d01a2670320a012a287024702dff3312c802b808f3132032bff2a8028ff01f6f8217029ff731507004017aa01d7025ff331605124807fc90320a3e02a9021ff23120807f9020ff231f801e805f3132031eff1d801bff01f6f8a01cff731a801f01f5f8a019ff3318804f0f4f8290a02701f3f801da000d0002701f3f801d9000d000270d02f2f801d9000d003e04aa0afe313e04f13 [.mov (.c (.sc (.float .f64 0))),.mov (.c (.sc (.float .f64 0))),.mov (.c (.sc (.float .f64 0))),.un .neg (.t 35),.mov (.c (.sc (.float .f64 0))),.un .neg (.t 59)]
theorem f241:aV Tryz.prog 241 62 ME [.tmp 4]:=⟨_,Tryz.func241,rfl,by kernel_rfl,rfl⟩
def MF:AC:=zz 0xe804f3e03a90df390c800fc90320a0d02aa09f2308800f01f5f86032040d04a302310e04f13 [.un .neg (.t 11),.mov (.c (.sc (.float .f64 9218868437227405311)))]
theorem f242:aV Tryz.prog 242 15 MF [.tmp 4]:=⟨_,Tryz.func242,rfl,by kernel_rfl,rfl⟩
def MG:AC:=zz 0x5802f015a3020490e02f13
theorem f243:aV Tryz.prog 243 6 MG [.tmp 2]:=⟨_,Tryz.func243,rfl,by kernel_rfl,rfl⟩
def MH:AC:=zz 0x6802fccc20593e02f13 [.mov (.c (.sc (.float .f64 0))),.raw .fbits [(.t 3)],.bin .andNot (.t 4) (.c (.int .u64 9223372036854775808)),.raw .fofbits [(.t 5)]]
theorem f245:aV Tryz.prog 245 7 MH [.tmp 2]:=⟨_,Tryz.func245,rfl,by kernel_rfl,rfl⟩
def MI:AC:=zz 0xb800a802f11300301fbf8908f69078006802f11300301faf830690ea10d03e02f23 [.mov (.c (.sc (.float .f64 0)))]
theorem f246:aV Tryz.prog 246 12 MI [.tmp 2,.tmp 3]:=⟨_,Tryz.func246,rfl,by kernel_rfl,rfl⟩
def MJ:AC:=zz 0xa804f012fdf8a0908f4907804f012fcf84040490ea13e04f13 [.mov (.c (.sc (.float .f64 0)))]
theorem f247:aV Tryz.prog 247 11 MJ [.tmp 4]:=⟨_,Tryz.func247,rfl,by kernel_rfl,rfl⟩
def MK:AC:=zz 0x25802fcf024ff3923804f3e0caf022ff3321804fcf020ff331f803f060a1d00a3e01ac3e0ba3e0eaf0c018ff9317804fc9016ff3315803f14800f31320314ff138011ff01fef89012ff730d010802f9010ff390a0f809f02701f3f801d9000d000d02f2f890af730d008802f908f390407805f3e04a506f330510d03e02f23 [.mov (.c (.sc (.float .f64 0))),.mov (.c (.sc (.float .f64 0))),.raw .fbits [(.t 22)],.mov (.c (.int .u64 52)),.mov (.c (.int .u64 2047)),.conv (.toInt .i64) (.t 27),.mov (.c (.int .i64 1023)),.bin .andNot (.t 32) (.c (.int .u64 9218868437227405312)),.mov (.c (.int .u64 4602678819172646912)),.raw .fofbits [(.t 36)]]
theorem f251:aV Tryz.prog 251 38 MK [.tmp 2,.tmp 3]:=⟨_,Tryz.func251,rfl,by kernel_rfl,rfl⟩
def ML:AC:=zz 0x3e804f028ac357033703bff593a806f04ca3e0dac3e00aa02e7035ff7334806fc2c7033ff333e07f1232801f3e00aa0330a3e02aa02fff2313e07f132e804fc2eff292d804fc290a3e02a902310a3e03aa029ff23128804f03e2fff890390a3e02aa025ff23124801f050a3e01a3e0bac3e0ea1870a01eff831d806fc901cff331b801f010a1470a019ff4318805f17800f31320317ff168014ff01fef89015ff7313804f9013ff290a1280cf02701f3f801d9000d000d02f2f890df730b804f90bf29040a808f3e04a909f330513e04f13 [.mov (.c (.sc (.float .f64 0))),.mov (.c (.sc (.float .f64 0))),.raw .fbits [(.t 28)],.mov (.c (.int .u64 52)),.conv (.toInt .i64) (.t 32),.mov (.c (.int .i64 2047)),.mov (.c (.int .i64 1023)),.mov (.c (.int .i64 (-1075))),.mov (.c (.sc (.float .f64 0))),.mov (.c (.int .i64 1023)),.mov (.c (.sc (.float .f64 0))),.call 256 [(.c (.int .i64 (-1)))],.call 256 [(.c (.int .i64 1))],.mov (.c (.sc (.float .f64 4607182418800017408))),.mov (.c (.int .i64 (-1022))),.mov (.c (.int .i64 53)),.mov (.c (.sc (.float .f64 4368491638549381120))),.bin .andNot (.t 51) (.c (.int .u64 9218868437227405312)),.mov (.c (.int .i64 1023)),.conv (.toInt .u64) (.t 55),.mov (.c (.int .u64 52)),.raw .fofbits [(.t 60)]]
theorem f253:aV Tryz.prog 253 63 ML [.tmp 4]:=⟨_,Tryz.func253,rfl,by kernel_rfl,rfl⟩
def MM:AC:=zz 0xd009802f909f393e008802f3e08a60490a3e02a01f5f8303310d03e02f23 [.mov (.c (.sc (.float .f64 0))),.mov (.c (.sc (.float .f64 4503599627370496))),.mov (.c (.sc (.float .f64 4841369599423283200))),.mov (.c (.int .i64 (-52)))]
theorem f254:aV Tryz.prog 254 10 MM [.tmp 2,.tmp 3]:=⟨_,Tryz.func254,rfl,by kernel_rfl,rfl⟩
end Go.Proofs.YtjnoobmaedgooaaGreat.C
end
section
namespace Go.Fl
open Ieee
def fl(s:Bool)(n:Nat):Nat:=double.nearest s n 0
theorem eh{n:Nat}(h:0<n):2^n.log2<=n/\n<2^(n.log2+1):=
 ⟨Nat.log2_self_le ae,Nat.lt_log2_self⟩
theorem iN{n k:Nat}(h:0<n):(n*2^k).log2=n.log2+k:=by
 obtain ⟨h1,h2⟩:=eh h;have hp:0<2^k:=PU _;have hm:n*2^k≠0:=Nat.ne_of_gt (Nat.mul_pos h hp);refine (Nat.log2_eq_iff hm).2 ⟨?_,?_⟩
 ·rw[QE];exact PD _ h1
 ·rw[Nat.add_right_comm,QE];exact Nat.mul_lt_mul_of_lt_of_le h2 (N4 _) hp
theorem cT{n:Nat}(h:0<n)(h2:n<2^53):n.log2<=52:=by
 have:=(eh h).1;rcases Py n.log2 53 with h3|h3
 ·omega
 ·have:=Px (n:=2) ae h3;omega
theorem py(way:Toward)(neg:Bool)(n k:Nat):way.cut neg (n*2^k) k=n:=by
 have key:(1 <<< min k ((n*2^k).log2+2))=if n=0 then 2^min k 2 else 2^k:=by
  rw[Nat.shiftLeft_eq,Po];by_cases h:n=0
  ·subst h;simp
  ·rw[Ob h,iN ae,P4 ae]
 unfold Toward.cut;simp only[key];by_cases h:n=0
 ·subst h;have hp:0<2^min k 2:=PU _;simp only[Of,QN,Nat.zero_div,Nat.zero_mod,Nat.mul_zero,Oo];cases way<;>simp<;>omega
 ·have hp:0<2^k:=PU _;simp only[Ob h,Nat.mul_div_cancel _ hp,Nat.mul_mod_left,Nat.mul_zero];cases way<;>simp<;>omega
theorem ng{n:Nat}(s:Bool)(h:0<n)(h2:n<2^53)(k:Nat):double.nearest s (n*2^k) (-(k:Int))=double.word s ((n.log2+1022)*2^52+n*2^(52 - n.log2)):=by
 have he:=cT h h2;obtain ⟨b1,b2⟩:=eh h;have hp:0<2^k:=PU _;have hm:n*2^k≠0:=Nat.ne_of_gt (Nat.mul_pos h hp);have hl:=iN (k:=k) h;have hlast:max (-(k:Int)+((n*2^k).log2:Nat) - (double.fractionBits:Int)) double.leastPlace=(n.log2:Int) - 52:=by
  have e1:double.leastPlace= -1074:=by decide
  have e2:double.fractionBits=52:=rfl;rw[hl,e1,e2];omega
 have hcut:Toward.even.cut s ((n*2^k) <<< (-(k:Int) - ((n.log2:Int) - 52)).toNat) (((n.log2:Int) - 52) - -(k:Int)).toNat=n*2^(52 - n.log2):=by
  rcases Py (n.log2+k) 52 with h3|h3
  ·have e1:(-(k:Int) - ((n.log2:Int) - 52)).toNat=52 - n.log2 - k:=by omega
   have e2:(((n.log2:Int) - 52) - -(k:Int)).toNat=0:=by omega
   rw[e1,e2,Nat.shiftLeft_eq,Rl,<-QE,show k+(52 - n.log2 - k)=52 - n.log2 by omega];have:=py .even s (n*2^(52 - n.log2)) 0;simpa using this
  ·have e1:(-(k:Int) - ((n.log2:Int) - 52)).toNat=0:=by omega
   have e2:(((n.log2:Int) - 52) - -(k:Int)).toNat=n.log2+k - 52:=by omega
   rw[e1,e2,Nat.shiftLeft_eq,Nat.pow_zero,O4];have:=py .even s (n*2^(52 - n.log2)) (n.log2+k - 52);rw[Rl,<-QE,show 52 - n.log2+(n.log2+k - 52)=k by omega] at this;exact this
 have hb:n*2^(52 - n.log2)<2^53:=by
  calc n*2^(52 - n.log2)<2^(n.log2+1)*2^(52 - n.log2):=Nat.mul_lt_mul_of_lt_of_le b2 (N4 _) (PU _)
   _=2^53:=by rw[<-QE,show n.log2+1+(52 - n.log2)=53 by omega]
 unfold Format.nearest;rw[Ob hm];dsimp only;rw[hlast,hcut];have e1:(((n.log2:Int) - 52) - double.leastPlace).toNat=n.log2+1022:=by
  rw[show double.leastPlace= -1074 by decide];omega
 rw[e1,show double.binade=2^52 from rfl];rw[P4];rw[show double.infRung=2047*2^52 by decide];omega
theorem fR{n:Nat}(s:Bool)(h:0<n)(h2:n<2^53):fl s n=double.word s ((n.log2+1022)*2^52+n*2^(52 - n.log2)):=by
 have:=ng s h h2 0;simpa [fl] using this
theorem xg{n:Nat}(s:Bool)(h2:n<2^53)(k:Nat):double.nearest s (n*2^k) (-(k:Int))=fl s n:=by
 rcases Nat.eq_zero_or_pos n with h|h
 ·subst h;simp[fl,Format.nearest]
 ·rw[ng s h h2,fR s h h2]
theorem zu{n:Nat}(h:0<n)(h2:n<2^53):2^52<=n*2^(52 - n.log2)/\n*2^(52 - n.log2)<2^53:=by
 have he:=cT h h2;obtain ⟨b1,b2⟩:=eh h;constructor
 ·calc 2^52=2^n.log2*2^(52 - n.log2):=by rw[<-QE,show n.log2+(52 - n.log2)=52 by omega]
   _<=_:=PD _ b1
 ·calc n*2^(52 - n.log2)<2^(n.log2+1)*2^(52 - n.log2):=Nat.mul_lt_mul_of_lt_of_le b2 (N4 _) (PU _)
   _=2^53:=by rw[<-QE,show n.log2+1+(52 - n.log2)=53 by omega]
theorem mM{r:Nat}(s:Bool)(hr:r<double.signWeight):double.read (double.word s r)=(if r<double.binade then .number s r double.leastPlace
 else if r<double.infRung then .number s (double.binade+r%double.binade) (double.leastPlace+(r/double.binade - 1:Nat))
 else if r=double.infRung then .infinity s else .nan s (r - double.infRung)):=by
 have hw:double.signWeight=2^63:=rfl;have e1:double.word s r/double.signWeight%2=if s then 1 else 0:=by
  unfold Format.word;rw[hw] at hr |-;cases s
  ·simp only[Oq,Od];omega
  ·simp only[Of];omega
 have e2:double.word s r%double.signWeight=r:=by
  unfold Format.word;rw[hw] at hr |-;cases s
  ·simp only[Oq,Od];omega
  ·simp only[Of];omega
 unfold Format.read;simp only[e1,e2];cases s<;>simp
theorem mg{e m:Nat}(s:Bool)(he:e<2046)(h1:2^52<=m)(h2:m<2^53):double.read (double.word s (e*2^52+m))= .number s m ((e:Int) - 1074):=by
 have hr:e*2^52+m<double.infRung:=by
  rw[show double.infRung=2047*2^52 by decide];omega
 rw[mM s (Nat.lt_trans hr (Format.infRung_lt _))];have hb:double.binade=2^52:=rfl;rw[Ob (by rw[hb];omega),Oi hr,hb];have e1:(e*2^52+m)%2^52=m - 2^52:=by omega
 have e2:(e*2^52+m)/2^52=e+1:=by omega
 rw[e1,e2,show double.leastPlace= -1074 by decide];have e3:2^52+(m - 2^52)=m:=by omega
 have e4:(-1074:Int)+((e+1 - 1:Nat):Int)=(e:Int) - 1074:=by omega
 rw[e3,e4]
theorem jF{n:Nat}(s:Bool)(h2:n<2^53):∃k:Nat,double.read (fl s n)= .number s (n*2^k) (-(k:Int)):=by
 rcases Nat.eq_zero_or_pos n with h|h
 ·subst h;obtain ⟨k,hk⟩:∃k:Nat,k=1074:=⟨_,rfl⟩;refine ⟨k,?_⟩;have:fl s 0=double.word s 0:=by simp[fl,Format.nearest]
  rw[this,mM s aq,Oi aq];rw[show double.leastPlace= -1074 by decide,QN,hk];rfl
 ·have he:=cT h h2;obtain ⟨m1,m2⟩:=zu h h2;refine ⟨52 - n.log2,?_⟩;rw[fR s h h2,mg s ae m1 m2];have e4:((n.log2+1022:Nat):Int) - 1074= -((52 - n.log2:Nat):Int):=by omega
  rw[e4]
def sg(s:Bool)(n:Nat):Int:=if s then -(n:Int) else n
theorem mN(s:Bool)(n k K:Nat)(h:k<=K):signed s (n*2^k) (-(k:Int) - -(K:Int)).toNat=sg s n*2^K:=by
 have e:(-(k:Int) - -(K:Int)).toNat=K - k:=by omega
 have e2:(n*2^k) <<< (K - k)=n*2^K:=by
  rw[Nat.shiftLeft_eq,Rl,<-QE,show k+(K - k)=K by omega]
 unfold signed sg;rw[e,e2];cases s<;>simp[Int.neg_mul]
def kZ(s t:Bool)(T:Int):Bool:=if T=0 then s&&t else decide (T<0)
theorem xh(K:Nat):(0:Int)<2^K:=by
 have:(0:Nat)<2^K:=PU _
 exact_mod_cast this
theorem E8{m n:Nat}(s t:Bool)(hm:m<2^53)(hn:n<2^53)(hT:(sg s m+sg t n).natAbs<2^53):
  ((double.read (fl s m)).sum (double.read (fl t n))).map double.write=some (fl (kZ s t (sg s m+sg t n)) (sg s m+sg t n).natAbs):=by
 obtain ⟨k1,e1⟩:=jF s hm;obtain ⟨k2,e2⟩:=jF t hn;rw[e1,e2];have hbase:min (-(k1:Int)) (-(k2:Int))= -((max k1 k2:Nat):Int):=by omega
 simp only[Datum.sum,hbase,mN s m k1 (max k1 k2) ae,mN t n k2 (max k1 k2) ae,<-Int.add_mul];generalize max k1 k2=K;generalize hTd:sg s m+sg t n=T at hT;have hp:=xh K;have h0:T*2^K=0↔T=0:=by
  constructor
  ·intro h;rcases Int.mul_eq_zero.1 h with h|h
   ·exact h
   ·omega
  ·intro h;rw[h];simp
 have hneg:T*2^K<0↔T<0:=by
  constructor
  ·intro h;by_cases h1:T<0
   ·exact h1
   ·have:=Int.mul_nonneg (show 0<=T by omega) (Int.le_of_lt hp);omega
  ·intro h;exact Int.mul_neg_of_neg_of_pos h hp
 have habs:(T*2^K).natAbs=T.natAbs*2^K:=by rw[Int.natAbs_mul];congr 1
 simp only[Option.map_some,Format.write,habs,Om,h0,hneg];rw[<-xg _ hT K];rfl
theorem Km{m n:Nat}(s t:Bool)(hm:m<2^53)(hn:n<2^53)(hT:(sg s m+sg t n).natAbs<2^53):double.add (fl s m) (fl t n)=some (fl (kZ s t (sg s m+sg t n)) (sg s m+sg t n).natAbs):=
 E8 s t hm hn hT
theorem Kn{n:Nat}(s:Bool)(h:n<2^53):(double.read (fl s n)).opposite=double.read (fl (!s) n):=by
 rcases Nat.eq_zero_or_pos n with h0|h0
 ·subst h0;have:∀s,fl s 0=double.word s 0:=λs=>by simp[fl,Format.nearest]
  rw[this,this,mM s aq,mM (!s) aq,Oi aq,Oi aq];rfl
 ·have he:=cT h0 h;obtain ⟨m1,m2⟩:=zu h0 h;rw[fR s h0 h,fR (!s) h0 h,mg s ae m1 m2,mg (!s) ae m1 m2];rfl
theorem Ko(s:Bool)(n:Nat):sg (!s) n= - sg s n:=by cases s<;>simp[sg]
theorem Kp{m n:Nat}(s t:Bool)(hm:m<2^53)(hn:n<2^53)(hT:(sg s m - sg t n).natAbs<2^53):double.sub (fl s m) (fl t n)=some (fl (kZ s (!t) (sg s m - sg t n)) (sg s m - sg t n).natAbs):=by
 unfold Format.sub;rw[Kn t hn];have e:sg s m+sg (!t) n=sg s m - sg t n:=by rw[Ko];omega
 have:=E8 s (!t) hm hn (by rw[e];exact hT);rw[e] at this;exact this
theorem Kq{m n:Nat}(s t:Bool)(hm:m<2^53)(hn:n<2^53)(hT:m*n<2^53):double.mul (fl s m) (fl t n)=some (fl (s ^^ t) (m*n)):=by
 obtain ⟨k1,e1⟩:=jF s hm;obtain ⟨k2,e2⟩:=jF t hn;unfold Format.mul;rw[e1,e2];simp only[Datum.product,Option.map_some,Format.write,Om];have e3:m*2^k1*(n*2^k2)=m*n*2^(k1+k2):=by rw[QE];ac_rfl
 have e4: -(k1:Int)+ -(k2:Int)= -((k1+k2:Nat):Int):=by omega
 rw[e3,e4];exact xg _ hT _
theorem E9{m n:Nat}(s t:Bool)(hm:m<2^53)(hn:n<2^53):double.order (fl s m) (fl t n)=some (compare (sg s m) (sg t n)):=by
 obtain ⟨k1,e1⟩:=jF s hm;obtain ⟨k2,e2⟩:=jF t hn;unfold Format.order;rw[e1,e2];have hbase:min (-(k1:Int)) (-(k2:Int))= -((max k1 k2:Nat):Int):=by omega
 simp only[Datum.order,hbase,mN s m k1 (max k1 k2) ae,mN t n k2 (max k1 k2) ae,Om];have hp:=xh (max k1 k2);generalize max k1 k2=K at hp;generalize sg s m=x;generalize sg t n=y;rcases Int.lt_trichotomy x y with h|h|h
 ·have h2:x*2^K<y*2^K:=Int.mul_lt_mul_of_pos_right h hp;simp only[compare,compareOfLessAndEq,Oi h,Oi h2]
 ·subst h;simp[compare,compareOfLessAndEq]
 ·have h2:y*2^K<x*2^K:=Int.mul_lt_mul_of_pos_right h hp;simp only[compare,compareOfLessAndEq,Ob (show ¬x<y by omega),Ob (show ¬x=y by omega),Ob (show ¬x*2^K<y*2^K by omega),Ob (show ¬x*2^K=y*2^K by omega)]
theorem Fa{n:Nat}(s:Bool)(h:n<2^53):(double.read (fl s n)).toInt .zero=some (sg s n):=by
 obtain ⟨k,e⟩:=jF s h;rw[e];have e1:(-(k:Int)).toNat=0:=by omega
 have e2:(- -(k:Int)).toNat=k:=by omega
 simp only[Datum.toInt,Datum.integral,e1,e2,Nat.shiftLeft_zero,py,signed,sg]
theorem uh{i a b x y:Nat}(ha:a<2^i)(hb:b<2^i):(2^i*x+a) &&& (2^i*y+b)=2^i*(x &&& y)+(a &&& b):=by
 refine Nat.eq_of_testBit_eq λj=>?_;have hab:a &&& b<2^i:=Nat.lt_of_le_of_lt Nat.and_le_left ha;rw[Nat.testBit_and,PQ _ ha,PQ _ hb,PQ _ hab];split<;>simp[Nat.testBit_and]
theorem Fb{i a b x y:Nat}(ha:a<2^i)(hb:b<2^i):(2^i*x+a) ||| (2^i*y+b)=2^i*(x ||| y)+(a ||| b):=by
 refine Nat.eq_of_testBit_eq λj=>?_;have hab:a ||| b<2^i:=Nat.or_lt_two_pow ha hb;rw[Nat.testBit_or,PQ _ ha,PQ _ hb,PQ _ hab];split<;>simp[Nat.testBit_or]
theorem Dq{f lo:Nat}(hf:f<2^11)(hl:lo<2^52):(2^52*f+lo) &&& 9227875636482146303=lo:=by
 have e:9227875636482146303=2^63*1+(2^52*0+(2^52 - 1)):=by decide
 have h1:2^52*f+lo<2^63:=by omega
 have h0:2^52*f+lo=2^63*0+(2^52*f+lo):=by omega
 rw[e,h0,uh h1 aq,uh hl aq,Nat.and_two_pow_sub_one_eq_mod,O7 hl];simp
theorem Bo{k lo:Nat}(hl:lo<2^52):lo ||| (2^52*k)=2^52*k+lo:=by
 have h0:lo=2^52*0+lo:=by omega
 have h1:2^52*k=2^52*k+0:=by omega
 rw[h0,h1,Fb hl aq];simp
theorem zw{r:Nat}(h:r<2^63)(s:Bool):(double.word s r) &&& 9223372036854775807=r:=by
 have e:9223372036854775807=2^63 - 1:=by decide
 rw[e,Nat.and_two_pow_sub_one_eq_mod];unfold Format.word;have hw:double.signWeight=2^63:=rfl;rw[hw];cases s
 ·simp only[Oq,Od];omega
 ·simp only[Of];omega
def ex(n:Nat):Nat:=n.log2+1023
def lo(n:Nat):Nat:=n*2^(52 - n.log2) - 2^52
theorem JN{n:Nat}(h:0<n)(h2:n<2^53):ex n<2^11:=by
 have:=cT h h2;unfold ex;omega
theorem JO{n:Nat}(h:0<n)(h2:n<2^53):lo n<2^52:=by
 have:=zu h h2;unfold lo;omega
theorem Fc{n:Nat}(h:0<n)(h2:n<2^53):fl false n=2^52*ex n+lo n:=by
 have:=zu h h2;rw[fR false h h2];unfold ex lo Format.word;simp only[Oq,Od];omega
theorem Bp(s:Bool):fl s 0=double.word s 0:=by simp[fl,Format.nearest]
theorem vq{n:Nat}(s:Bool)(h2:n<2^53):∃r,r<2047*2^52/\∀s,fl s n=double.word s r:=by
 rcases Nat.eq_zero_or_pos n with h|h
 ·subst h;exact ⟨0,by decide,λs=>Bp s⟩
 ·have he:=cT h h2;have:=zu h h2;refine ⟨_,?_,λs=>fR s h h2⟩;omega
theorem Kr{n:Nat}(s:Bool)(h2:n<2^53):fl s n &&& 9223372036854775807=fl false n:=by
 obtain ⟨r,hr,e⟩:=vq s h2;rw[e,e,zw ae];rfl
theorem MN{n:Nat}(s:Bool)(h2:n<2^53):fl s n<2^64:=by
 obtain ⟨r,hr,e⟩:=vq s h2;have hw:double.signWeight=2^63:=rfl;rw[e];unfold Format.word;rw[hw];split<;>omega
def fr(n:Nat):Nat:=2^52*1022+lo n
theorem Bq{n:Nat}(h:0<n)(h2:n<2^53):double.read (fr n)= .number false (n*2^(52 - n.log2)) (-53):=by
 obtain ⟨m1,m2⟩:=zu h h2;have e:fr n=double.word false (1021*2^52+n*2^(52 - n.log2)):=by
  unfold fr lo Format.word;simp only[Oq,Od];omega
 rw[e,mg false ae m1 m2];rfl
theorem Fe{m n:Nat}(hm:0<m)(hm2:m<2^53)(hn:0<n)(hn2:n<2^53):double.order (fr m) (fr n)=some (compare (m*2^(52 - m.log2)) (n*2^(52 - n.log2))):=by
 unfold Format.order;rw[Bq hm hm2,Bq hn hn2];have e:(-53 - min (-53:Int) (-53)).toNat=0:=by decide
 simp only[Datum.order,e,signed,Oq,Od,Nat.shiftLeft_zero,Om];simp only[compare,compareOfLessAndEq];generalize m*2^(52 - m.log2)=x;generalize n*2^(52 - n.log2)=y;by_cases h1:x<y
 ·rw[Oi h1,Oi ae]
 ·rw[Ob h1,Ob (show ¬(x:Int)<(y:Int) by omega)];by_cases h2:x=y
  ·rw[Oi h2,Oi ae]
  ·rw[Ob h2,Ob ae]
theorem ui{m n:Nat}(h:0<m)(hmn:m<=n):m.log2<=n.log2:=by
 have h1:=(eh h).1;have h2:=(eh (OT h hmn)).2;rcases Py n.log2 m.log2 with h3|h3
 ·have:=Px (n:=2) ae (show n.log2+1<=m.log2 by omega);omega
 ·exact h3
def lift(p r:Nat):Nat:=r.log2 - p.log2 - (if r*2^(52 - r.log2)<p*2^(52 - p.log2) then 1 else 0)
theorem r9{p r:Nat}(hp:0<p)(hr:p<=r)(h2:r<2^53):((lift p r:Nat):Int)=(r.log2:Int) - (p.log2:Int) - (if r*2^(52 - r.log2)<p*2^(52 - p.log2) then 1 else 0):=by
 have hl:=ui hp hr;unfold lift;split
 ·rename_i h;have:p.log2≠r.log2:=by
   intro e;rw[e] at h;have:=Nat.lt_of_mul_lt_mul_right h;omega
  omega
 ·omega
theorem Br{p r:Nat}(hp:0<p)(hr:p<=r)(h2:r<2^53):p*2^lift p r<=r:=by
 have hl:=ui hp hr;have hr0:0<r:=by omega
 have h52:=cT hr0 h2;obtain ⟨a1,a2⟩:=eh hp;obtain ⟨b1,b2⟩:=eh hr0;have hi:=r9 hp hr h2;by_cases h:r*2^(52 - r.log2)<p*2^(52 - p.log2)
 ·rw[Oi h] at hi;have e:p.log2+1+lift p r=r.log2:=by omega
  calc p*2^lift p r<=2^(p.log2+1)*2^lift p r:=PD _ ae
   _=2^r.log2:=by rw[<-QE,e]
   _<=r:=b1
 ·rw[Ob h] at hi;have e:r.log2=p.log2+lift p r:=by omega
  have h3:p*2^(52 - p.log2)<=r*2^(52 - r.log2):=by omega
  have e2:52 - p.log2=lift p r+(52 - r.log2):=by omega
  rw[e2,QE,<-Rl] at h3;exact Nat.le_of_mul_le_mul_right h3 (PU _)
theorem H3{p d:Nat}(hp:0<p)(h2:p*2^d<2^53):fl false (p*2^d)=2^52*(ex p+d)+lo p:=by
 have hp2:p<2^53:=Nat.lt_of_le_of_lt (Nat.le_mul_of_pos_right _ (PU _)) h2;have h0:0<p*2^d:=Nat.mul_pos hp (PU _);rw[Fc h0 h2];have hl:=iN (k:=d) hp;have h52:=cT h0 h2;have e1:ex (p*2^d)=ex p+d:=by unfold ex;omega
 have e2:lo (p*2^d)=lo p:=by
  unfold lo;rw[hl,Rl,<-QE,show d+(52 - (p.log2+d))=52 - p.log2 by omega]
 rw[e1,e2]
theorem mP{p r d:Nat}(h:p*2^d<=r):(r - p*2^d)%p=r%p:=by
 have:r=(r - p*2^d)+p*2^d:=by omega
 conv=>rhs;rw[this]
 rw[Nat.add_mul_mod_self_left]
end Go.Fl
end
section
namespace Go.Fl
open Ieee Go.Av
abbrev F(s:Bool)(n:Nat):AV:= .sc (.float .f64 (fl s n))
theorem MO:fl false 0=0:=by rw[Bp];rfl
theorem wrap_u64(n:Nat)(h:n<2^64):IntKind.u64.wrap (n:Int)=(n:Int):=by
 exact IntWalk.u64_in _ ⟨ae,ae⟩
theorem pz(a:Nat)(h:a<2^64):(BitVec.ofInt 64 (a:Int)).toNat=a:=by
 rw[BitVec.ofInt_natCast,QU,O7 h]
theorem MP(a b:Nat)(ha:a<2^64)(hb:b<2^64):IntKind.u64.wrap ((BitVec.ofInt 64 (a:Int) &&& BitVec.ofInt 64 (b:Int)).toNat:Int)=((a &&& b:Nat):Int):=by
 rw[BitVec.toNat_and,pz a ha,pz b hb];exact wrap_u64 _ (Nat.lt_of_le_of_lt Nat.and_le_left ha)
theorem MQ(a b:Nat)(ha:a<2^64)(hb:b<2^64):IntKind.u64.wrap ((BitVec.ofInt 64 (a:Int) ||| BitVec.ofInt 64 (b:Int)).toNat:Int)=((a ||| b:Nat):Int):=by
 rw[BitVec.toNat_or,pz a ha,pz b hb];exact wrap_u64 _ (Nat.or_lt_two_pow ha hb)
theorem JP(a b c:Nat)(ha:a<2^64)(hc:(~~~(BitVec.ofInt 64 (b:Int))).toNat=c):IntKind.u64.wrap ((BitVec.ofInt 64 (a:Int) &&& ~~~(BitVec.ofInt 64 (b:Int))).toNat:Int)=((a &&& c:Nat):Int):=by
 rw[BitVec.toNat_and,pz a ha,hc];exact wrap_u64 _ (Nat.lt_of_le_of_lt Nat.and_le_left ha)
theorem MR{n:Nat}(s:Bool)(h:n<2^53):IntKind.u64.wrap ((BitVec.ofInt 64 (fl s n:Int) &&& ~~~(BitVec.ofInt 64 9223372036854775808)).toNat:Int)=(fl false n:Int):=by
 have:=JP (fl s n) 9223372036854775808 9223372036854775807 (MN s h) aq;rw[Kr s h] at this;exact this
theorem H4{f l:Nat}(hf:f<2^11)(hl:l<2^52):IntKind.u64.wrap ((BitVec.ofInt 64 ((2^52*f+l:Nat):Int) &&& ~~~(BitVec.ofInt 64 9218868437227405312)).toNat:Int)=(l:Int):=by
 have:=JP (2^52*f+l) 9218868437227405312 9227875636482146303 ae aq;rw[Dq hf hl] at this;exact this
theorem MS{n:Nat}(s:Bool)(h:n<2^53):Hu .u64 (fl s n:Int) 9223372036854775808=(fl false n:Int):=MR s h
theorem Bt{f l:Nat}(hf:f<2^11)(hl:l<2^52):Hu .u64 ((2^52*f+l:Nat):Int) 9218868437227405312=(l:Int):=H4 hf hl
theorem MT{f:Nat}(hf:f<2^11):nZ .u64 (f:Int) 2047=(f:Int):=by
 have:=MP f 2047 ae aq;have e3:f &&& 2047=f:=by
  have e:(2047:Nat)=2^11 - 1:=by decide
  rw[e,Nat.and_two_pow_sub_one_eq_mod,O7 hf]
 rw[e3] at this;exact this
theorem Ks{l:Nat}(hl:l<2^52):orI .u64 (l:Int) 4602678819172646912=((2^52*1022+l:Nat):Int):=by
 have:=MQ l 4602678819172646912 ae aq;have e:(4602678819172646912:Nat)=2^52*1022:=by decide
 rw[e,Bo hl] at this;exact this
abbrev ord(a b:Nat):Option Ordering:=FloatKind.f64.format.order a b
theorem vw{m n:Nat}(s t:Bool)(hm:m<2^53)(hn:n<2^53):FloatKind.f64.format.order (fl s m) (fl t n)=some (compare (sg s m) (sg t n)):=E9 s t hm hn
theorem Ff{n:Nat}(s:Bool)(h:n<2^53):FloatKind.f64.format.order (fl s n) (fl s n)=some .eq:=by
 rw[vw s s h h];simp[compare,compareOfLessAndEq]
theorem km{n:Nat}(s:Bool)(h:n<2^53):FloatKind.f64.format.order (fl s n) 0=some (compare (sg s n) 0):=by
 have:=vw s false h (show 0<2^53 by decide);rw[MO] at this;simpa [sg] using this
theorem da(n:Nat):sg false n=(n:Int):=rfl
theorem qN(n:Nat):sg true n= -(n:Int):=rfl
theorem H5{n:Nat}(h:n<2^53):FloatKind.f64.format.order (fl false n) 9218868437227405311=some .lt:=by
 obtain ⟨k,e⟩:=jF false h;have e2:double.read 9218868437227405311= .number false 9007199254740991 971:=by decide
 change ((double.read (fl false n)).order (double.read 9218868437227405311))=_;rw[e,e2];have hb:min (-(k:Int)) 971= -(k:Int):=by omega
 have e3:(-(k:Int) - -(k:Int)).toNat=0:=by omega
 have e4:((971:Int) - -(k:Int)).toNat=971+k:=by omega
 simp only[Datum.order,hb,e3,e4,signed,Oq,Od,Nat.shiftLeft_zero,Om,Nat.shiftLeft_eq,Nat.pow_zero,O4];have hlt:n*2^k<9007199254740991*2^(971+k):=by
  calc n*2^k<2^53*2^k:=Nat.mul_lt_mul_of_lt_of_le h (N4 _) (PU _)
   _<=9007199254740991*(2*2^k):=by generalize 2^k=z;omega
   _<=9007199254740991*2^(971+k):=Nat.mul_le_mul_left _ (by rw[<-Nat.pow_succ'];exact Px ae ae)
 have:(compare ((n*2^k:Nat):Int) ((9007199254740991*2^(971+k):Nat):Int))= .lt:=by
  generalize n*2^k=x at hlt;generalize 9007199254740991*2^(971+k)=y at hlt;simp only[compare,compareOfLessAndEq,Oi (show (x:Int)<(y:Int) by omega)]
 exact this
theorem Dr{n:Nat}(h0:0<n)(h:n<2^53):FloatKind.f64.format.order (fl false n) 4503599627370496=some .gt:=by
 have he:=cT h0 h;obtain ⟨m1,m2⟩:=zu h0 h;have e:double.read (fl false n)= .number false (n*2^(52 - n.log2)) ((n.log2:Int) - 52):=by
  rw[fR false h0 h,mg false ae m1 m2];have:((n.log2+1022:Nat):Int) - 1074=(n.log2:Int) - 52:=by omega
  rw[this]
 have e2:double.read 4503599627370496= .number false 4503599627370496 (-1074):=by decide
 change ((double.read (fl false n)).order (double.read 4503599627370496))=_;rw[e,e2];have hb:min ((n.log2:Int) - 52) (-1074)= -1074:=by omega
 have e3:((n.log2:Int) - 52 - -1074).toNat=n.log2+1022:=by omega
 have e4:((-1074:Int) - -1074).toNat=0:=by decide
 simp only[Datum.order,hb,e3,e4,signed,Oq,Od,Nat.shiftLeft_zero,Om,Nat.shiftLeft_eq];generalize hm:n*2^(52 - n.log2)=m at m1 m2;have hlt:4503599627370496<m*2^(n.log2+1022):=by
  calc 4503599627370496<2^52*2:=by decide
   _<=m*2^(n.log2+1022):=Nat.mul_le_mul m1 (by
     calc 2=2^1:=rfl
      _<=_:=Px ae ae)
 generalize m*2^(n.log2+1022)=x at hlt;have h1:¬((x:Int)<((4503599627370496:Nat):Int)):=by omega
 have h2:¬((x:Int)=((4503599627370496:Nat):Int)):=by omega
 simp only[compare,compareOfLessAndEq,Ob h1,Ob h2]
theorem Fg{m n:Nat}(hm:0<m)(hm2:m<2^53)(hn:0<n)(hn2:n<2^53):FloatKind.f64.format.order (fr m) (fr n)=some (compare (m*2^(52 - m.log2)) (n*2^(52 - n.log2))):=Fe hm hm2 hn hn2
theorem sa{m n:Nat}(s t:Bool)(hm:m<2^53)(hn:n<2^53)(hT:(sg s m+sg t n).natAbs<2^53):floatBits .add .f64 (fl s m) (fl t n)=some (fl (kZ s t (sg s m+sg t n)) (sg s m+sg t n).natAbs):=Km s t hm hn hT
theorem Fh{m n:Nat}(s t:Bool)(hm:m<2^53)(hn:n<2^53)(hT:(sg s m - sg t n).natAbs<2^53):floatBits .sub .f64 (fl s m) (fl t n)=some (fl (kZ s (!t) (sg s m - sg t n)) (sg s m - sg t n).natAbs):=Kp s t hm hn hT
theorem sd{m n:Nat}(s t:Bool)(hm:m<2^53)(hn:n<2^53)(hT:m*n<2^53):floatBits .mul .f64 (fl s m) (fl t n)=some (fl (s ^^ t) (m*n)):=Kq s t hm hn hT
theorem zy{m n:Nat}(hn:n<=m)(hm:m<2^53):floatBits .sub .f64 (fl false m) (fl false n)=some (fl false (m - n)):=by
 have e:sg false m - sg false n=((m - n:Nat):Int):=by simp only[da];omega
 have:=Fh (m:=m) (n:=n) false false hm ae (by rw[e];simp;omega);rw[e] at this;rw[this,Int.natAbs_natCast];have:kZ false (!false) ((m - n:Nat):Int)=false:=by
  unfold kZ;split
  ·rfl
  ·simp
 rw[this]
theorem Dt{i a b x y:Nat}(ha:a<2^i)(hb:b<2^i):(2^i*x+a) ^^^ (2^i*y+b)=2^i*(x ^^^ y)+(a ^^^ b):=by
 refine Nat.eq_of_testBit_eq λj=>?_;have hab:a ^^^ b<2^i:=Qs ha hb;rw[Nat.testBit_xor,PQ _ ha,PQ _ hb,PQ _ hab];split<;>simp[Nat.testBit_xor]
theorem Fi{n:Nat}(s:Bool)(h:n<2^53):Op.negFloat .f64 (fl s n)=fl (!s) n:=by
 obtain ⟨r,hr,e⟩:=vq s h;rw[e,e];have hw:double.signWeight=2^63:=rfl;have hr':r<2^63:=by omega
 have key:∀x:Nat,(2^63*x+r) ^^^ (2^63*1+0)=2^63*(x ^^^ 1)+r:=λx=>by
  rw[Dt hr' aq];simp
 change (double.word s r) ^^^ 2^63=double.word (!s) r;unfold Format.word;rw[hw];cases s
 ·have:=key 0;simp only[Nat.mul_zero,Oo,O4,Nat.add_zero,Nat.zero_xor] at this;simpa using this
 ·have:=key 1;simp only[O4,Nat.add_zero,Nat.xor_self,Nat.mul_zero,Oo] at this;simpa using this
theorem toInt_nat{n:Nat}(h:n<2^53):floatToIntVal .f64 (fl false n) .i64=some (n:Int):=by
 unfold floatToIntVal;have:(FloatKind.f64.decode (fl false n)).toInt .zero=some (sg false n):=Fa false h;rw[this,da];have h1:IntKind.i64.min= -9223372036854775808:=by decide
 have h2:IntKind.i64.max=9223372036854775807:=by decide
 simp only;rw[Oi (by rw[h1,h2];omega)]
theorem Du(n:Nat):floatOfInt .f64 (n:Int)=fl false n:=by
 unfold floatOfInt FloatKind.nearest fl;have h1:decide ((n:Int)<0)=false:=by simp
 rw[h1,Int.natAbs_natCast];rfl
theorem Kt{f:Nat}(hf:f<2^11):nZ .i64 (f:Int) 2047=(f:Int):=by
 have e3:f &&& 2047=f:=by
  have e:(2047:Nat)=2^11 - 1:=by decide
  rw[e,Nat.and_two_pow_sub_one_eq_mod,O7 hf]
 have e1:(BitVec.ofInt 64 (f:Int) &&& BitVec.ofInt 64 2047).toNat=f:=by
  rw[BitVec.toNat_and,pz f ae,show (BitVec.ofInt 64 2047).toNat=2047 by decide,e3]
 have:=Pj (λx:Nat=>IntKind.i64.wrap (x:Int)) e1;refine Eq.trans this ?_;exact IntWalk.i64_in _ ae
theorem MU{k l:Nat}(hk:k<2^11)(hl:l<2^52):orI .u64 (l:Int) ((2^52*k:Nat):Int)=((2^52*k+l:Nat):Int):=by
 have:=MQ l (2^52*k) ae ae;rw[Bo hl] at this;exact this
theorem MV{k:Nat}(hk:k<2^11):IntKind.u64.wrap ((k:Int)*2^(min (52:Int).toNat 64))=((2^52*k:Nat):Int):=by
 have e3:(2:Int)^(min (52:Int).toNat 64)=4503599627370496:=by decide
 have e4:(2:Nat)^52=4503599627370496:=by decide
 rw[e3,e4];rw[IntWalk.u64_in _ ae];omega
theorem JQ{f l:Nat}(hl:l<2^52):((2^52*f+l:Nat):Int).fdiv (2^(min (52:Int).toNat 64))=(f:Int):=by
 have e3:(2:Int)^(min (52:Int).toNat 64)=4503599627370496:=by decide
 have e4:(2:Nat)^52=4503599627370496:=by decide
 rw[e4] at hl |-;rw[e3,Int.fdiv_eq_ediv_of_nonneg _ aq];omega
theorem Fj:fl false 1=4607182418800017408:=by
 rw[fR false aq aq];decide
theorem Fk{n:Nat}(h:n<2^53):floatBits .mul .f64 4607182418800017408 (fl false n)=some (fl false n):=by
 have:=sd (m:=1) (n:=n) false false aq h ae;rw[Fj,Po] at this;exact this
end Go.Fl
end
section
namespace Go.Av
open Go.ChangeShapes Go.WideShapes Go.ChangeAt Go.RowKit
section
variable{H:Type}{enc:TypeId × Value->H}{P:Program}{w:World}
def G0:aT:=⟨λ_=>False,λ_=>0,λ_=>False,λ_=>none,λ_=>False,λ_=>none⟩
def fJ(P:Program)(e:TypeId)(cs:List AV):AV:=if bQ P e then .agg cs else cs.headD .any
mutual
def oG:AV->Nat
 | .int _ _=>1
 | .bool _=>1
 | .str l=>l.length+1
 | .sl _ xs _=>cQ xs+1
 | .agg cs=>cQ cs
 |_=>0
def cQ:List AV->Nat
 |[]=>0
 |x::xs=>oG x+cQ xs
end
theorem jO:∀l m:List AV,cQ (l++m)=cQ l+cQ m
 |[],m=>by simp[cQ]
 |x::l,m=>by simp[cQ,jO l m];omega
theorem uj(P:Program)(e:TypeId)(cs:List AV):oG (fJ P e cs)<=cQ cs:=by
 unfold fJ;split
 ·simp[oG]
 ·cases cs with
  |nil=>simp[oG,cQ]
  |cons x cs=>simp[cQ]
structure se(B:DataW H->Nat)(BL:List (DataW H)->Nat):Prop where
 str:∀l,B (.lit (.string l))=l.length+1
 int:∀k n,B (.lit (.int k n))=1
 bool:∀b,B (.lit (.bool b))=1
 nil:B .nil=1
 slice:∀a b,B (.slice a b)=BL a+BL b+1
 agg:∀a,B (.agg a)=BL a+1
 nils:BL []=0
 cons:∀d l,BL (d::l)=B d+BL l
theorem se.snoc{B:DataW H->Nat}{BL:List (DataW H)->Nat}(hB:se B BL):∀(l:List (DataW H))(d:DataW H),BL (l++[d])=BL l+B d
 |[],d=>by simp[hB.cons,hB.nils]
 |x::l,d=>by simp[hB.cons,se.snoc hB l d];omega
theorem se.take{B:DataW H->Nat}{BL:List (DataW H)->Nat}(hB:se B BL):∀(l:List (DataW H))(m:Nat),BL (l.take m)<=BL l
 |[],m=>by simp
 |x::l,0=>by simp[hB.nils]
 |x::l,m+1=>by simp[hB.cons,se.take hB l m]
theorem lD{P:Program}{e:TypeId}{n:Nat}:∀{l:List (DataW H)}{d:DataW H},d∈l->n∈d.weights P e->n∈DataW.weightsAll P e l
 |x::l,d,h,hn=>by
  simp only[DataW.weightsAll,OS];rcases OA.1 h with rfl|h
  ·exact .inl hn
  ·exact .inr (lD h hn)
inductive xi{α β:Type}(R:α->β->Prop):List α->List β->Prop
 |nil:xi R [] []
 |cons {a b l m}:R a b->xi R l m->xi R (a::l) (b::m)
def Fits(P:Program):Nat->TypeId->List AV->Prop
 |0,_,_=>False
 |k+1,t,xs=>match P.underlying t with
  |some .bool=>∃b,xs=[.bool b]
  |some (.int q)=>∃n,xs=[.int q n]/\(Lit.int q n).wf=true
  |some .string=>∃l,xs=[.str l]/\l.length<=reachBytes
  |some (.slice e)=>∃ys,xs=[.sl (P.cellsOf e) ys .any]/\ys.length*P.bytesOf e<=reachBytes/\∀y∈ys,∃cs,Fits P k e cs/\y=fJ P e cs
  |some (.struct fs)=>∃xss,xs=xss.flatten/\xi (λ(f:Field) cs=>Fits P k f.type cs) fs.toList xss
  |_=>False
def jP(P:Program):Nat->TypeId->Bool
 |0,_=>false
 |k+1,t=>match P.underlying t with
  |some .bool|some (.int _)|some .string=>true
  |some (.slice e)=>decide (e<P.types.size)&&decide (0<P.cellsOf e)&&(bQ P e||decide (P.cellsOf e=1))&&jP P k e
  |some (.struct fs)=>decide (t<P.types.size)&&fs.all λf=>jP P k f.type
  |_=>false
theorem uk{a:Addr}{v:Value}(h:w.cell? a=some v):a.spot=none:=by
 unfold World.cell? at h;split at h
 ·split at h
  ·cases h
  ·rename_i hs;cases hh:a.spot with
   |none=>rfl
   |some x=>simp[hh] at hs
 ·cases h
theorem xj(b:Bool):One (.bool b):=⟨λ_=>by simp,λ_=>by simp⟩
theorem zA(k:IntKind)(n:Int):One (.int k n):=⟨λ_=>by simp,λ_=>by simp⟩
theorem zB(s:ByteArray):One (.string s):=⟨λ_=>by simp,λ_=>by simp⟩
theorem um(a:Option Addr)(l c:Nat):One (.slice a l c):=⟨λ_=>by simp,λ_=>by simp⟩
theorem oH{R:Field->List AV->Prop}{G:aT}{B:DataW H->Nat}{BL:List (DataW H)->Nat}(hB:se B BL)(full:List Value)(rd:Field->List Value->DataW H->Prop)
  (hrd:∀f cs d,rd f cs d->∃xs,R f xs/\aE G w xs cs/\(∀v∈cs,One v)/\cQ xs<=B d):∀(fs:List Field)(ds:List (DataW H))(off:Nat),ds.length=fs.length->
  (∀(j:Nat) f,fs[j]? =some f->f.offset=off+((fs.take j).map λf=>P.cellsOf f.type).sum)->full.length=off+(fs.map λf=>P.cellsOf f.type).sum->
  (∀(j:Nat) f d,fs[j]? =some f->ds[j]? =some d->rd f ((full.drop f.offset).take (P.cellsOf f.type)) d)->∃xss,xi R fs xss/\aE G w xss.flatten (full.drop off)/\(∀v∈full.drop off,One v)/\cQ xss.flatten<=BL ds
 |[],ds,off,hl,h1,h2,h3=>by
  have e:full.drop off=[]:=Pg (by simp at h2;omega);exact ⟨[],.nil,by rw[e];exact .nil,by rw[e];simp,by simp[cQ]⟩
 |f::fs,[],off,hl,h1,h2,h3=>by cases hl
 |f::fs,d::ds,off,hl,h1,h2,h3=>by
  have o0:f.offset=off:=by simpa using h1 0 f rfl
  have hf:=h3 0 f d rfl rfl;rw[o0] at hf;obtain ⟨xs,r1,r2,r3,r4⟩:=hrd f _ d hf;obtain ⟨xss,q1,q2,q3,q4⟩:=oH hB full rd hrd fs ds (off+P.cellsOf f.type) (by simpa using hl) (λj g hj=>by
   have:=h1 (j+1) g (by simpa using hj);simp only[List.take_succ_cons,OJ,List.sum_cons] at this;omega) (by simp only[OJ,List.sum_cons] at h2;omega) (λj g d' hg hd=>h3 (j+1) g d' (by simpa using hg) (by simpa using hd))
  have e:full.drop off=(full.drop off).take (P.cellsOf f.type)++full.drop (off+P.cellsOf f.type):=by
   rw[<-PK,P3]
  refine ⟨xs::xss,.cons r1 q1,?_,?_,?_⟩
  ·rw[e,List.flatten_cons];exact r2.append q2
  ·rw[e];intro v hv;rcases OS.1 hv with hv|hv
   ·exact r3 v hv
   ·exact q3 v hv
  ·rw[List.flatten_cons,jO,hB.cons];omega
theorem Dv{e:TypeId}{cs:List AV}{vs:List Value}(hs:vs.length=P.cellsOf e)(hr:aE G0 w cs vs)(ho:∀v∈vs,One v)(hc:bQ P e=false->P.cellsOf e=1):
  ∃v:Value,v.cells.toList=vs/\aC G0 w (fJ P e cs) v:=by
 unfold fJ;cases ha:bQ P e with
 |true=>exact ⟨.agg vs.toArray,by simp[Value.cells],by simp only[Of,aC];exact ⟨vs,rfl,hr⟩⟩
 |false=>
  rw[hc ha] at hs;obtain ⟨v,rfl⟩:=QO.1 hs;have hl:=hr.length;obtain ⟨x,rfl⟩:=QO.1 (show cs.length=1 by simpa using hl.symm);simp only[aE] at hr;obtain ⟨v',us,e1,hv,e2⟩:=hr;cases e1;refine ⟨v,?_,by simpa using hv⟩;have:=ho v ah;cases v<;>first|rfl|exact absurd rfl (this.1 _)|exact absurd rfl (this.2 _)
theorem Fits.slice{k:Nat}{t e:TypeId}{ys:List AV}(ht:P.underlying t=some (.slice e))(h1:ys.length*P.bytesOf e<=reachBytes)(h2:∀y∈ys,∃cs,Fits P k e cs/\y=fJ P e cs):Fits P (k+1) t [.sl (P.cellsOf e) ys .any]:=by
 unfold Fits;rw[ht];exact ⟨ys,rfl,h1,h2⟩
theorem Dw(hl:laidOutB P=true){B:DataW H->Nat}{BL:List (DataW H)->Nat}(hB:se B BL):∀(k:Nat)(t:TypeId),jP P k t=true->∀(fuel:Nat)(cs:List Value)(x:DataW H × List MemPlace),
  DataW.trod enc P w 0 (λ_=>true) true fuel t cs=some x->(∀n∈x.1.weights P t,n<=reachBytes)->∃xs,Fits P k t xs/\aE G0 w xs cs/\(∀v∈cs,One v)/\cQ xs<=B x.1:=by
 intro k;induction k with
 |zero=>intro t h;cases h
 |succ k ih=>
  intro t hp fuel cs x hx hwt;simp only[jP] at hp;split at hp
  ·rename_i ht;obtain ⟨b,rfl,rfl⟩:=DataW.trod_bool ht hx;exact ⟨[.bool b],by simp only[Fits,ht];exact ⟨b,rfl⟩,.cons (by simp[aC]) .nil,by simp[xj],by simp[hB.bool,cQ,oG]⟩
  ·rename_i q ht;obtain ⟨n,rfl,rfl,hw⟩:=DataW.trod_int ht hx;exact ⟨[.int q n],by simp only[Fits,ht];exact ⟨n,rfl,hw⟩,.cons (by simp[aC]) .nil,by simp[zA],by simp[hB.int,cQ,oG]⟩
  ·rename_i ht;obtain ⟨s,rfl,rfl,-⟩:=DataW.trod_string ht hx;refine ⟨[.str s.data.toList],by simp only[Fits,ht];exact ⟨_,rfl,hwt _ (by simp[DataW.weights])⟩,.cons (by simp[aC]) .nil,by simp[zB],by simp[hB.str,cQ,oG]⟩
  ·rename_i e ht;simp only[Oh,Ov] at hp;obtain ⟨⟨⟨-,hsz⟩,hag⟩,hpe⟩:=hp;rcases DataW.trod_slice ht hx with ⟨rfl,rfl⟩|⟨a,len,cap,elems,rest,n,rfl,rfl,rfl,hb,hlc,hcm,hel,hread,hrest,-⟩
   ·refine ⟨[.sl (P.cellsOf e) [] .any],Fits.slice ht ah (λy hy=>by cases hy),.cons ?_ .nil,by simp[um],by simp[hB.nil,cQ,oG]⟩;unfold aC;exact .inl ⟨rfl,⟨none,rfl⟩,trivial⟩
   ·have hone:bQ P e=false->P.cellsOf e=1:=by
     intro ha;simpa [ha] using hag
    have each:∀i,i<len->∃vs xs,w.cells? 0 (a.add (i*P.cellsOf e)) (P.cellsOf e)=some vs/\Fits P k e xs/\aE G0 w xs vs/\(∀v∈vs,One v)/\∀y,elems[i]? =some y->cQ xs<=B y.1:=by
     intro i hi;have h:=hread i hi;rw[N5 ae] at h;obtain ⟨vs,h1,h2⟩:=Oe.1 h;obtain ⟨xs,h3,h4,h5,h6⟩:=ih e hpe n vs _ h2 (λm hm=>hwt m (by
      simp only[DataW.weights,ht,OA,OS];exact .inr (.inl (lD (OC.2 ⟨_,Pk ae,rfl⟩) hm))))
     exact ⟨vs,xs,h1,h3,h4,h5,λy hy=>by rw[N5 ae] at hy;cases hy;exact h6⟩
    have build:∀m,m<=len->∃ys vs,ys.length=m/\vs.length=m*P.cellsOf e/\(∀y∈ys,∃cs,Fits P k e cs/\y=fJ P e cs)/\aL G0 w (P.cellsOf e) ys vs/\(∀(i:Nat) v,vs[i]? =some v->w.cell? (a.add i)=some v/\One v)/\cQ ys<=BL ((elems.map (·.1)).take m):=by
     intro m;induction m with
     |zero=>intro _;exact ⟨[],[],rfl,by simp,by simp,by simp[aL],by simp,by simp[cQ]⟩
     |succ m ihm=>
      intro hm;obtain ⟨ys,vs,k1,k2,k3,k4,k5,k6⟩:=ihm ae;obtain ⟨us,xs,e1,e2,e3,e4,eb⟩:=each m ae;obtain ⟨-,e5,e6⟩:=World.cells?_some e1;obtain ⟨v,hv1,hv2⟩:=Dv e5 e3 e4 hone;refine ⟨ys++[fJ P e xs],vs++us,by simp[k1],by simp[k2,e5,Pz],?_,?_,?_,?_⟩
      ·intro y hy;rcases OS.1 hy with hy|hy
       ·exact k3 y hy
       ·simp at hy;exact ⟨xs,e2,hy⟩
      ·refine k4.append ?_;simp only[aL];exact ⟨v,[],by simp[hv1],by rw[<-Array.length_toList,hv1,e5],hv2,rfl⟩
      ·intro i z hz;rcases Py i vs.length with hi|hi
       ·rw[OW hi] at hz;exact k5 i z hz
       ·rw[PE hi] at hz;have hlt:i - vs.length<us.length:=(Pu.1 hz).1;have:=e6 (i - vs.length) ae;rw[hz] at this;have ea:(a.add (m*P.cellsOf e)).add (i - vs.length)=a.add i:=by
         rw[<-k2];unfold Addr.add;by_cases h0:vs.length=0
         ·simp[h0]
         ·by_cases h1:i - vs.length=0
          ·have:i=vs.length:=by omega
           subst this;simp
          ·have:i≠0:=by omega
           simp[h0,h1,this];omega
        rw[ea] at this;exact ⟨this,e4 z (PY hz)⟩
      ·have hlt:m<(elems.map (·.1)).length:=by simp;omega
       rw[OD hlt,hB.snoc,jO];have h1:=eb _ (N5 ae);have h2:=uj P e xs;simp only[List.getElem_map,cQ];omega
    obtain ⟨ys,vs,k1,k2,k3,k4,k5,k6⟩:=build len (N4 _);refine ⟨[.sl (P.cellsOf e) ys .any],Fits.slice ht ?_ k3,.cons ?_ .nil,by simp[um],?_⟩
    ·have:=hwt ((elems.length+rest.length)*P.bytesOf e) (by simp[DataW.weights,ht]);exact OI (PD _ ae) this
    rotate_left
    ·have:=hB.take (elems.map (·.1)) len;simp only[hB.slice,cQ,oG];omega
    unfold aC;by_cases hcap:cap=0
    ·have:ys=[]:=List.length_eq_zero_iff.1 ae;exact .inl ⟨this,⟨some a,by simp;omega⟩,by simp[kI]⟩
    ·have hspot:a.spot=none:=by
      by_cases hl0:len=0
      ·obtain ⟨hr1,hr2⟩:=hrest rfl;have h:=hr2 0 ae;rw[N5 ae] at h;obtain ⟨vs',h1,h2⟩:=Oe.1 h;obtain ⟨-,g1,g2⟩:=World.cells?_some h1;have:=g2 0 hsz;rw[N5 ae] at this;have:=uk this;simpa [hl0,Addr.add] using this
      ·obtain ⟨us,xs,e1,e2,e3,e4,-⟩:=each 0 ae;obtain ⟨-,g1,g2⟩:=World.cells?_some e1;have:=g2 0 hsz;rw[N5 ae] at this;have:=uk this;simpa [Addr.add] using this
     obtain ⟨B,off,sp⟩:=a;simp only at hspot;subst hspot;refine .inr ⟨B,off,cap,vs,by simp[k1],ae,by rw[k2,k1],k4,λi v hv=>?_,by simp[dc]⟩;obtain ⟨c1,c2⟩:=k5 i v hv;rw[add_plain] at c1;exact ⟨c1,c2,by simp[G0],by simp[G0]⟩
  ·rename_i fs ht;simp only[Oh,Ov] at hp;obtain ⟨hlt,hp⟩:=hp;rw[Array.all_eq_true_iff_forall_mem] at hp;obtain ⟨xs,n,rfl,rfl,hlen,hxl,hread⟩:=DataW.trod_struct ht hx;obtain ⟨-,hsum,hoff⟩:=kid_struct hl hlt ht;obtain ⟨xss,q1,q2,q3,q4⟩:=oH (P:=P) (R:=λ(f:Field) cs=>Fits P k f.type cs) (G:=G0) (w:=w) hB cs
    (λf us d=>jP P k f.type=true/\∃y,DataW.trod enc P w 0 (λ_=>true) true n f.type us=some y/\y.1=d/\∀m∈d.weights P f.type,m<=reachBytes)
    (λf us d ⟨h1,y,h2,h3,h4⟩=>by subst h3;exact ih f.type h1 n us y h2 h4) fs.toList (xs.map (·.1)) 0 (by simp[hxl]) (λj f hj=>by rw[hoff j f hj];omega) (by rw[hlen,hsum];omega)
    (λi f d hi hd=>by
     refine ⟨hp f (by have:=PY hi;simpa using this),?_⟩;have h:=hread i f (by simpa using hi);rw[Qo] at hd;cases hxi:xs[i]? with
     |none=>rw[hxi] at hd;cases hd
     |some y=>
      rw[hxi] at h hd;refine ⟨y,h,by simpa using hd,λm hm=>hwt m ?_⟩;simp only[DataW.weights,ht];exact DataW.weights_mem_each (j:=i) (t:=f.type) (d:=d) (by rw[Qo,hi];rfl) (by rw[Qo,hxi];exact hd) m hm)
   refine ⟨xss.flatten,by simp only[Fits,ht];exact ⟨xss,rfl,q1⟩,by simpa using q2,by simpa using q3,?_⟩;rw[hB.agg];omega
  ·cases hp
def oI(P:Program)(k:Nat)(t:TypeId)(a:AV):Prop:=∃cs,Fits P k t cs/\a=fJ P t cs
theorem H6{k:Nat}{t:TypeId}{v:Value}{xs:List AV}{base:Nat}(hp:jP P k t=true)(hok:Value.okWide P w .any base t v)(hr:aE G0 w xs v.cells.toList)(ho:∀u∈v.cells.toList,One u):aC G0 w (fJ P t xs) v:=by
 unfold fJ;cases ha:bQ P t with
 |true=>
  have:∃cs,v= .agg cs:=by
   unfold bQ at ha;unfold Value.okWide at hok;split at ha
   ·rename_i h;rw[h] at hok;obtain ⟨cs,h,-⟩:=hok;exact ⟨cs,h⟩
   ·rename_i h;rw[h] at hok;obtain ⟨cs,h,-⟩:=hok;exact ⟨cs,h⟩
   ·cases ha
  obtain ⟨cs,rfl⟩:=this;simp only[Of,aC];exact ⟨cs.toList,by simp,by simpa [Value.cells] using hr⟩
 |false=>
  have hv:v.cells= #[v]:=by
   cases v<;>try rfl
   exfalso;cases k with
   |zero=>cases hp
   |succ k=>
    unfold jP at hp;unfold bQ at ha;unfold Value.okWide Cell.okWide Cell.ok at hok;split at hp;all_goals (try (rename_i h;rw[h] at hok ha;simp at hok ha;done))
    all_goals (try (rename_i h;rw[h] at hok ha;simp at hok;done))
    all_goals simp_all
  rw[hv] at hr;have hl:=hr.length;obtain ⟨x,rfl⟩:=QO.1 (show xs.length=1 by simpa using hl.symm);simp only[aE] at hr;obtain ⟨v',us,e1,hx,e2⟩:=hr;cases e1;simpa using hx
theorem xm(hl:laidOutB P=true){B:DataW H->Nat}{BL:List (DataW H)->Nat}(hB:se B BL){k:Nat}{base:Nat}:∀{ts us:List TypeId}{vs:List Value}{ds:List (DataW H)}{ps:List MemPlace},(∀t∈ts,jP P k t=true)->
  (∀(j:Nat) t v,ts[j]? =some t->vs[j]? =some v->Value.okWide P w .any base t v)->(∀n∈DataW.weightsEach P (ts++us) ds,n<=reachBytes)->DataW.TrodAll enc P w 0 (λ_=>true) true ts vs ds ps->∃avs,xi (oI P k) ts avs/\aE G0 w avs vs/\cQ avs<=BL ds
 |[],us,[],[],_,_,_,_,_=>⟨[],.nil,.nil,by simp[cQ]⟩
 |t::ts,us,v::vs,d::ds,_,hp,hok,hwt,⟨p,q,⟨fuel,h1⟩,h2,_⟩=>by
  obtain ⟨xs,f1,f2,f3,f4⟩:=Dw hl hB k t (hp t ah) fuel _ _ h1 (λn hn=>hwt n (by simp only[List.cons_append,DataW.weightsEach,OS];exact .inl hn));obtain ⟨avs,g1,g2,g3⟩:=xm hl hB (us:=us) (λt ht=>hp t (by simp[ht])) (λj t v a b=>hok (j+1) t v (by simpa using a) (by simpa using b)) (λn hn=>hwt n (by simp only[List.cons_append,DataW.weightsEach,OS];exact .inr hn)) h2;refine ⟨fJ P t xs::avs,.cons ⟨xs,f1,rfl⟩ g1,.cons (H6 (hp t ah) (hok 0 t v rfl rfl) f2 f3) g2,?_⟩;have:=uj P t xs;simp only[cQ,hB.cons] at f4 |-;omega
theorem qp{sp:Nat->Bool}:∀{ts:List TypeId}{vs:List Value}{ds:List (DataW H)}{ps:List MemPlace},DataW.TrodAll enc P w 0 sp true ts vs ds ps->ds.length=ts.length
 |[],[],[],_,h=>rfl
 |t::ts,v::vs,d::ds,_,⟨p,q,h1,h2,e⟩=>by simp[qp h2]
theorem nh{w':World}{sp:Nat->Bool}:∀{ts:List TypeId}{vs:List Value}{ds:List (DataW H)}{ps:List MemPlace},DataW.TrodAll enc P w 0 sp true ts vs ds ps->(∀p∈ps,w.sameAt w' p)->DataW.TrodAll enc P w' 0 sp true ts vs ds ps
 |[],[],[],_,h,_=>h
 |t::ts,v::vs,d::ds,_,⟨p,q,⟨fuel,h1⟩,h2,e⟩,hs=>by
  subst e;exact ⟨p,q,⟨fuel,DataW.trod_carry fuel _ _ _ h1 (λx hx=>hs x (List.mem_append_left _ hx))⟩,nh h2 (λx hx=>hs x (List.mem_append_right _ hx)),rfl⟩
theorem Dx(hl:laidOutB P=true){B:DataW H->Nat}{BL:List (DataW H)->Nat}(hB:se B BL)(hm:mapsRowed P=true)(hz:∀t e,t<P.types.size->P.underlying t=some (.slice e)->0<P.cellsOf e){f:FuncId}{fn:Func}{s:ChangeSpec}{k base:Nat}{W:World}{args:Array Value}{ds gs:List (DataW H)}{before:List MemPlace}{tb:TypeId}
  (hvars:s.vars=[]) (hfn:∀l:List (DataW H),l.length=fn.params.size->s.fn H l= {results:=[.lit (.bool true)],args:=l}) (hrt:fn.resultTypes= #[tb]) (htb:P.underlying tb=some .bool)
  (hpl':fn.params.toList.all (jP P k)=true) (hlt':fn.params.toList.all (λt=>decide (t<P.types.size))=true)
  (hval:∀(j:Nat) t v,fn.params[j]? =some t->args[j]? =some v->Value.okWide P W .any base t v) (hW:DataW.Whole enc P fn.params.toList s.vars false W args.toList ds gs before)
  {us:List TypeId} (hwt:(DataW.weightsEach P (fn.params.toList++us) (ds++gs)).all (· <=reachBytes)=true)
  (law:∀avs,xi (oI P k) fn.params.toList avs->cQ avs<=BL (ds++gs)->aI P f avs (.bool true)):
  Calls P f args W λe W'=>∃v,e= .returned v/\s.post enc P fn false true false false W args v W':=by
 have hpl:∀t∈fn.params.toList,jP P k t=true:=OK.1 hpl';have hlt:∀t∈fn.params.toList,t<P.types.size:=λt ht=>Ox (OK.1 hlt' t ht);have hW':=hW;obtain ⟨p,q,hA,hV,rfl,-,-⟩:=hW;rw[hvars] at hV;obtain ⟨rfl,rfl⟩:=trodVars_none hV;rw[OR] at hwt law;obtain ⟨avs,g1,g2,g3⟩:=xm hl hB hpl (λj t v a b=>hval j t v (by simpa using a) (by simpa using b)) (λn hn=>Ox (OK.1 hwt n hn)) hA;have hlaw:=law avs g1 g3 0 0 G0 W args.toList g2 iZ ⟨λ_ _ _ h=>h,λ_ _ _ h=>h⟩;rw[show args.toList.toArray=args from Array.toArray_toList] at hlaw;refine hlaw.mono ?_;rintro e W' ⟨v,G',he,T,-,hv⟩;subst he;simp only[aC] at hv;subst hv;have keep:∀B,B<W.heap.size->W'.heap[B]? =W.heap[B]? :=λB hB=>T.keep B hB (λx=>gw B x) (λ⟨t,ht,_⟩=>by simp[H0,Av.H.only] at ht);have hlt':∀x∈p,x.block<W.heap.size:=DataW.TrodAll.lt hA;have hlen:=qp hA;refine ⟨_,rfl,ds,[],p++[],[],p,[],hW',?_,?_,?_,?_,λh=>by cases h⟩
 ·rw[hfn _ (by simpa using hlen),hrt];exact trodAll_mk1 (shut_bool htb _)
 ·rw[hfn _ (by simpa using hlen)];have:=DataW.TrodAll.respare (kids_rows hl hm) hz (spare':=λb=>decide (b<W.heap.size)) hlt hA (λx hx=>by simpa using hlt' x hx);simp only[OR];refine nh this λx hx=>?_;have hb:=hlt' x hx;cases x with
  |cell b off=>unfold World.sameAt World.cell?;simp only;rw[keep b hb]
  |map b=>exact keep b hb
 ·rw[hvars,hfn _ (by simpa using hlen)];rfl
 ·refine ⟨T.os,T.output,λi hi=>?_⟩;rw[keep i hi];generalize W.heap[i]? =o;cases o with
  |none=>rfl
  |some o=>cases o<;>simp
end
end Go.Av
end
section
set_option maxRecDepth 10000
namespace Go.Proofs.YtjnoobmaedgooaaGreat.Fl
open Go Go.Av Go.Proofs Go.Proofs.YtjnoobmaedgooaaGreat.C Go.Fl
theorem Bu(s:Bool){n:Nat}(h:n<2^53):aI Tryz.prog 245 [F s n] (F false n):=by
 refine f245.aF ah rfl rfl ?_;unfold MH zz;have w1:=MS s h;refine rn0 (cj2 w1 @N7) ?_;refine aG ?_;exact ay.refl _
theorem uo(s:Bool){n:Nat}(h:n<2^53):aI Tryz.prog 243 [F s n] (.bool false):=by
 refine f243.aF ah rfl rfl ?_;unfold MG zz;have w1:=Ff s h;refine rn0 (cj2 w1 @Rb.{0}) ?_;refine aG ?_;exact ay.refl _
theorem Bv(s:Bool){n:Nat}(h:n<2^53):aI Tryz.prog 242 [F s n,.int .i64 0] (.bool false):=by
 refine f242.aF ah rfl rfl ?_;unfold MF zz;have w1:(FloatKind.f64.format.order (fl false n) 9218868437227405311 == some Ordering.gt)=false:=by rw[H5 h];rfl
 refine rn1 (cj2 w1 @OE) (Bu s h) ?_;refine aG ?_;exact ay.refl _
theorem Fm{n:Nat}(h0:0<n)(h:n<2^53):aI Tryz.prog 254 [F false n] (.tup [F false n,.int .i64 0]):=by
 refine f254.aF ah rfl rfl ?_;unfold MM zz;have w1:(FloatKind.f64.format.order (fl false n) 4503599627370496 == some Ordering.lt)=false:=by rw[Dr h0 h];rfl
 refine rn1 w1 (Bu false h) ?_;refine aG ?_;exact ay.refl _
theorem Fo{n:Nat}(h0:0<n)(h:n<2^53):1023<=ex n/\ex n<=1075:=by
 have:=cT h0 h;unfold ex;omega
theorem H7{n:Nat}(h0:0<n)(h:n<2^53):aI Tryz.prog 251 [F false n] (.tup [.sc (.float .f64 (fr n)),.int .i64 ((n.log2:Int)+1)]):=by
 refine f251.aF ah rfl rfl ?_;unfold MK zz;have hl:=cT h0 h;obtain ⟨e1,e2⟩:=Fo h0 h;have hlo:=JO h0 h;have hx:=JN h0 h;have w0:(FloatKind.f64.format.order (fl false n) 0 == some Ordering.eq)=false:=by
  rw[km false h,da];have:compare (n:Int) 0= .gt:=by simp only[compare,compareOfLessAndEq,Ob (show ¬(n:Int)<0 by omega),Ob (show ¬(n:Int)=0 by omega)]
  rw[this];rfl
 have wb:=Fc h0 h;have w1:=JQ (f:=ex n) hlo;rw[<-wb] at w1;have w2:=MT hx;have w3:IntKind.i64.wrap ((ex n:Nat):Int)=((ex n:Nat):Int):=IntWalk.i64_in _ ae;have w4:IntKind.i64.wrap (((ex n:Nat):Int) - 1023)=(n.log2:Int):=by rw[IntWalk.i64_in _ ae];unfold ex;omega
 have w5:IntKind.i64.wrap ((n.log2:Int)+1)=(n.log2:Int)+1:=IntWalk.i64_in _ ae;have w6:IntKind.i64.wrap (0+((n.log2:Int)+1))=(n.log2:Int)+1:=by rw[IntWalk.i64_in _ ae];omega
 have w7:=Bt hx hlo;rw[<-wb] at w7;have w8:=Ks hlo;rw[<-fr.eq_1] at w8;refine rn3 (iw w0 w1 w2 w3 w4 w5 w6 w7 w8 @N7) (Bv false h) (uo false h) (Fm h0 h) ?_;refine aG ?_;exact ay.refl _
theorem fS{n:Nat}(h0:0<n)(h:n<2^53):aI Tryz.prog 246 [F false n] (.tup [.sc (.float .f64 (fr n)),.int .i64 ((n.log2:Int)+1)]):=by
 refine f246.aF ah rfl rfl ?_;unfold MI zz;refine Dh (H7 h0 h) ?_;refine aG ?_;exact ay.refl _
theorem H8{p d:Nat}(h0:0<p)(h:p*2^d<2^53):aI Tryz.prog 253 [F false p,.int .i64 (d:Int)] (F false (p*2^d)):=by
 have hp:p<2^53:=Nat.lt_of_le_of_lt (Nat.le_mul_of_pos_right _ (PU _)) h;have hq0:0<p*2^d:=Nat.mul_pos h0 (PU _);have hl:=cT hq0 h;rw[iN h0] at hl;obtain ⟨e1,e2⟩:=Fo h0 hp;have hlo:=JO h0 hp;have hx:=JN h0 hp;have hex:ex p=p.log2+1023:=rfl;refine f253.aF ah rfl rfl ?_;unfold ML zz;have w0:(FloatKind.f64.format.order (fl false p) 0 == some Ordering.eq)=false:=by
  rw[km false hp,da];have:compare (p:Int) 0= .gt:=by simp only[compare,compareOfLessAndEq,Ob (show ¬(p:Int)<0 by omega),Ob (show ¬(p:Int)=0 by omega)]
  rw[this];rfl
 have wb:=Fc h0 hp;have w1:=JQ (f:=ex p) hlo;rw[<-wb] at w1;have w2:=Kt hx;have w3:IntKind.i64.wrap ((ex p:Nat):Int)=((ex p:Nat):Int):=IntWalk.i64_in _ ae;have w4:IntKind.i64.wrap (((ex p:Nat):Int) - 1023)=(p.log2:Int):=by rw[IntWalk.i64_in _ ae];omega
 have w5:IntKind.i64.wrap ((d:Int)+0)=(d:Int):=by rw[IntWalk.i64_in _ ae];omega
 have w6:IntKind.i64.wrap ((d:Int)+(p.log2:Int))=((p.log2+d:Nat):Int):=by rw[IntWalk.i64_in _ ae];omega
 have d1:=N6 (show ¬((p.log2+d:Nat):Int)< -1075 by omega);have d2:=N6 (show ¬(1023:Int)<((p.log2+d:Nat):Int) by omega);have d3:=N6 (show ¬((p.log2+d:Nat):Int)< -1022 by omega);have w7:=Bt hx hlo;rw[<-wb] at w7;have w8:IntKind.i64.wrap (((p.log2+d:Nat):Int)+1023)=((ex p+d:Nat):Int):=by rw[IntWalk.i64_in _ ae];omega
 have w9:IntKind.u64.wrap ((ex p+d:Nat):Int)=((ex p+d:Nat):Int):=IntWalk.u64_in _ ae;have hxd:ex p+d<2^11:=by omega
 have wa:=MV hxd;have wc:=MU hxd hlo;rw[<-H3 h0 h] at wc;have wd:=Fk h;have c1:=Bv false hp;have c2:=uo false hp;have c3:=Fm h0 hp;clear wb hex hlo hx hxd h0 h hp hq0 hl e1 e2;simp only[F] at c1 c2 c3 |-;generalize fl false (p*2^d)=z at wc wd |-;generalize fl false p=y at w0 w1 w7 c1 c2 c3 |-;generalize lo p=l at w7 wc;generalize 2^52*(ex p+d)=sh at wa wc;generalize ex p+d=ed at w8 w9 wa;generalize ex p=ep at w1 w2 w3 w4;generalize p.log2+d=pd at w6 w8 d1 d2 d3;generalize p.log2=pl at w4 w6;refine rn3 (bf w0 w1 w2 w3 w4 w5 w6 w7 w8 w9 wa (cj6 wc d1 d2 d3 @N7 @Oz.{0,0})) c1 c2 c3 ?_;refine Wp.le (s':=⟨tm [(6,.int .u64 (z:Int)),(7,.sc (.float .f64 4607182418800017408))],H0 0 0⟩) ?_ ?_
 ·refine aM.of (aY ?_) (λj o h=>⟨o,h,cm.refl _⟩) (λ_ h=>h) (N4 _) (N4 _);exact xSb
 clear w0 w1 w2 w3 w4 w5 w6 w7 w8 w9 wa wc d1 d2 d3 c1 c2 c3;refine rn0 (cj3 wd @N7 @Oz.{0,0}) ?_;refine aG ?_;exact ay.refl _
theorem qO{p d:Nat}(h0:0<p)(h:p*2^d<2^53):aI Tryz.prog 247 [F false p,.int .i64 (d:Int)] (F false (p*2^d)):=by
 refine f247.aF ah rfl rfl ?_;unfold MJ zz;refine Dh (H8 h0 h) ?_;refine aG ?_;exact ay.refl _
theorem zD{a b:Int}(h:b<a):compare a b= .gt:=by
 simp only[compare,compareOfLessAndEq,Ob (show ¬a<b by omega),Ob (show ¬a=b by omega)]
theorem Fp{a b:Int}(h:a<b):compare a b= .lt:=by
 simp only[compare,compareOfLessAndEq,Oi h]
theorem Ku(a:Int):compare a a= .eq:=by simp[compare,compareOfLessAndEq]
theorem Fq{m p:Nat}(hm:m<2^53)(hp:p<2^53)(h:p<=m):(FloatKind.f64.format.order (fl false m) (fl false p) == some .gt||FloatKind.f64.format.order (fl false m) (fl false p) == some .eq)=true:=by
 rw[vw false false hm hp,da,da];rcases Nat.lt_or_eq_of_le h with h|h
 ·rw[zD ae];rfl
 ·subst h;rw[Ku];rfl
theorem JR{m p:Nat}(hm:m<2^53)(hp:p<2^53)(h:m<p):(FloatKind.f64.format.order (fl false m) (fl false p) == some .gt||FloatKind.f64.format.order (fl false m) (fl false p) == some .eq)=false:=by
 rw[vw false false hm hp,da,da,Fp ae];rfl
theorem Fs{n:Nat}(h:n<2^53):(FloatKind.f64.format.order (fl false n) 0 == some .lt)=false:=by
 rw[km false h,da];rcases Nat.eq_zero_or_pos n with h0|h0
 ·subst h0;rfl
 ·rw[zD ae];rfl
theorem Bw{n:Nat}(h0:0<n)(h:n<2^53):(FloatKind.f64.format.order (fl true n) 0 == some .lt)=true:=by
 rw[km true h,qN,Fp ae];rfl
theorem H9:(FloatKind.f64.format.order (fl true 0) 0 == some .lt)=false:=by
 rw[km true aq,qN];rfl
theorem Kv{n:Nat}(h0:0<n)(h:n<2^53):(FloatKind.f64.format.order (fl false n) 0 == some .eq)=false:=by
 rw[km false h,da,zD ae];rfl
theorem uq{m n:Nat}(hm:0<m)(hm2:m<2^53)(hn:0<n)(hn2:n<2^53)(h:m*2^(52 - m.log2)<n*2^(52 - n.log2)):(FloatKind.f64.format.order (fr m) (fr n) == some .lt)=true:=by
 rw[Fg hm hm2 hn hn2];simp only[compare,compareOfLessAndEq,Oi h];rfl
theorem xn{m n:Nat}(hm:0<m)(hm2:m<2^53)(hn:0<n)(hn2:n<2^53)(h:¬m*2^(52 - m.log2)<n*2^(52 - n.log2)):(FloatKind.f64.format.order (fr m) (fr n) == some .lt)=false:=by
 rw[Fg hm hm2 hn hn2];simp only[compare,compareOfLessAndEq,Ob h];split<;>rfl
set_option maxHeartbeats 1000000 in
theorem MW{p n:Nat}(s:Bool)(h0:0<p)(hp:p<2^53)(h:n<2^53)(hs:s=true->0<n):aI Tryz.prog 241 [F s n,F false p] (F s (n%p)):=by
 refine f241.aF ah rfl rfl ?_;unfold ME zz;have g0:=Kv h0 hp;have hmod:n%p<2^53:=Nat.lt_of_le_of_lt (Nat.mod_le _ _) h;have g1:(FloatKind.f64.format.order (fl s n) 0 == some .lt)=s:=by
  cases s with
  |false=>exact Fs h
  |true=>exact Bw (hs rfl) h
 cases s with
 |false=>
  refine rn8 (cj2 g0 g1) (Bv false h) (uo false h) (uo false hp) (Bu false hp) (fS h0 hp) (fS h0 hp) (fS h0 hp) (fS h0 hp) ?_;refine Wp.dJ [0,1,5,6] xA6 (λm:Nat=>[(7,F false m)]) (λm=>m<=n/\m%p=n%p) (λm=>m) n ⟨N4 _,rfl⟩ ?_ ?_
  ·exact xSb
  rintro m ⟨hm1,hm2⟩;have hm:m<2^53:=by omega
  by_cases hc:p<=m
  ·have g2:=Fq hm hp hc;have hm0:0<m:=by omega
   have hl:=Br h0 hc hm;have hi:=r9 h0 hc hm;have hq:p*2^lift p m<2^53:=by omega
   have hb:=cT hm0 hm;have hbp:=cT h0 hp;have hpos:0<p*2^lift p m:=Nat.mul_pos h0 (PU _);have hsub:=zy hl hm;by_cases hlt:m*2^(52 - m.log2)<p*2^(52 - p.log2)
   ·have g3:=uq hm0 hm h0 hp hlt;rw[Oi hlt] at hi;have w1:IntKind.i64.wrap ((m.log2:Int)+1 - 1)=(m.log2:Int):=by rw[IntWalk.i64_in _ ae];omega
    have w2:IntKind.i64.wrap ((m.log2:Int) - ((p.log2:Int)+1))=((lift p m:Nat):Int):=by rw[IntWalk.i64_in _ ae];omega
    refine rn2 (cj6 g2 g3 w1 w2 hsub @Oz.{0,0}) (fS hm0 hm) (qO h0 hq) ?_;refine ⟨m - p*2^lift p m,⟨ae,by rw[mP hl];exact hm2⟩,ae,?_⟩;exact xSu
   ·have g3:=xn hm0 hm h0 hp hlt;rw[Ob hlt] at hi;have w2:IntKind.i64.wrap ((m.log2:Int)+1 - ((p.log2:Int)+1))=((lift p m:Nat):Int):=by rw[IntWalk.i64_in _ ae];omega
    refine rn2 (cj5 g2 g3 w2 hsub @Oz.{0,0}) (fS hm0 hm) (qO h0 hq) ?_;refine ⟨m - p*2^lift p m,⟨ae,by rw[mP hl];exact hm2⟩,ae,?_⟩;exact xSu
  ·have g2:=JR hm hp ae;have e:m=n%p:=by rw[<-hm2,O7 ae]
   refine rn0 (cj2 g2 g1) ?_;refine aG ?_;rw[e];exact ay.refl _
 |true=>
  have n1:Op.negFloat .f64 (fl true n)=fl false n:=Fi true h;have n2:Op.negFloat .f64 (fl false (n%p))=fl true (n%p):=Fi false hmod;refine rn8 (cj3 g0 g1 n1) (Bv true h) (uo true h) (uo false hp) (Bu false hp) (fS h0 hp) (fS h0 hp) (fS h0 hp) (fS h0 hp) ?_;refine Wp.dJ [0,1,5,6] xA6 (λm:Nat=>[(7,F false m)]) (λm=>m<=n/\m%p=n%p) (λm=>m) n ⟨N4 _,rfl⟩ ?_ ?_
  ·exact xSb
  rintro m ⟨hm1,hm2⟩;have hm:m<2^53:=by omega
  by_cases hc:p<=m
  ·have g2:=Fq hm hp hc;have hm0:0<m:=by omega
   have hl:=Br h0 hc hm;have hi:=r9 h0 hc hm;have hq:p*2^lift p m<2^53:=by omega
   have hb:=cT hm0 hm;have hbp:=cT h0 hp;have hpos:0<p*2^lift p m:=Nat.mul_pos h0 (PU _);have hsub:=zy hl hm;by_cases hlt:m*2^(52 - m.log2)<p*2^(52 - p.log2)
   ·have g3:=uq hm0 hm h0 hp hlt;rw[Oi hlt] at hi;have w1:IntKind.i64.wrap ((m.log2:Int)+1 - 1)=(m.log2:Int):=by rw[IntWalk.i64_in _ ae];omega
    have w2:IntKind.i64.wrap ((m.log2:Int) - ((p.log2:Int)+1))=((lift p m:Nat):Int):=by rw[IntWalk.i64_in _ ae];omega
    refine rn2 (cj6 g2 g3 w1 w2 hsub @Oz.{0,0}) (fS hm0 hm) (qO h0 hq) ?_;refine ⟨m - p*2^lift p m,⟨ae,by rw[mP hl];exact hm2⟩,ae,?_⟩;exact xSu
   ·have g3:=xn hm0 hm h0 hp hlt;rw[Ob hlt] at hi;have w2:IntKind.i64.wrap ((m.log2:Int)+1 - ((p.log2:Int)+1))=((lift p m:Nat):Int):=by rw[IntWalk.i64_in _ ae];omega
    refine rn2 (cj5 g2 g3 w2 hsub @Oz.{0,0}) (fS hm0 hm) (qO h0 hq) ?_;refine ⟨m - p*2^lift p m,⟨ae,by rw[mP hl];exact hm2⟩,ae,?_⟩;exact xSu
  ·have g2:=JR hm hp ae;have e:m=n%p:=by rw[<-hm2,O7 ae]
   subst e;refine rn0 (cj3 g2 g1 n2) ?_;refine aG ?_;exact ay.refl _
theorem MX{p n:Nat}(s:Bool)(h0:0<p)(hp:p<2^53)(h:n<2^53)(hs:s=true->0<n):aI Tryz.prog 233 [F s n,F false p] (F s (n%p)):=by
 refine f233.aF ah rfl rfl ?_;unfold MA zz;refine Dh (MW s h0 hp h hs) ?_;refine aG ?_;exact ay.refl _
theorem flP:fl false 1048573=4697254385577623552:=by rw[fR false aq aq];decide
theorem fl3:fl false 3=4613937818241073152:=by rw[fR false aq aq];decide
theorem fl2:fl false 2=4611686018427387904:=by rw[fR false aq aq];decide
theorem MY:fl false 256=4643211215818981376:=by rw[fR false aq aq];decide
def mh(s:Bool)(n:Nat):Bool:=s&&decide (n%1048573=0)
def ix(s:Bool)(n:Nat):Nat:=if s then (if n%1048573=0 then 0 else 1048573 - n%1048573) else n%1048573
theorem Ft(s:Bool)(n:Nat):ix s n<1048573:=by
 unfold ix;have:=Rc n (show 0<1048573 by decide);split
 ·split<;>omega
 ·exact this
theorem Fu(s:Bool){n:Nat}(h:n<2^53)(hs:s=true->0<n):aI Tryz.prog 218 [F s n] (F (mh s n) (ix s n)):=by
 refine f218.aF ah rfl rfl ?_;unfold Mt zz;have hM:=MX (p:=1048573) s aq aq h hs;have hr:=Rc n (show 0<1048573 by decide);generalize hrd:n%1048573=r at hM hr;have e1:mh s n=(s&&decide (r=0)):=by unfold mh;rw[hrd]
 have e2:ix s n=if s then (if r=0 then 0 else 1048573 - r) else r:=by unfold ix;rw[hrd]
 simp only[F,flP] at hM;rw[e1,e2];cases s with
 |false=>
  have g:=Fs (n:=r) ae;refine rn1 @g hM ?_;refine aG ?_;simp only[Pv,Oq,Od];exact ay.refl _
 |true=>
  by_cases h0:r=0
  ·subst h0;have g:=H9;refine rn1 @g hM ?_;refine aG ?_;simp only[OE,PG,Of];exact ay.refl _
  ·have g:=Bw (n:=r) ae ae;have e3:sg true r+sg false 1048573=((1048573 - r:Nat):Int):=by simp only[qN,da];omega
   have ha:=sa (m:=r) (n:=1048573) true false ae aq (by rw[e3];simp;omega);rw[e3,flP,Int.natAbs_natCast] at ha;have e4:kZ true false ((1048573 - r:Nat):Int)=false:=by
    unfold kZ;rw[Ob ae];exact N6 ae
   rw[e4] at ha;refine rn1 (cj3 @g ha @Oz.{0,0}) hM ?_;refine aG ?_;simp only[N6 h0,Qd,Of,Ob h0];exact ay.refl _
abbrev Cx(s:Bool)(m:Nat)(t:Bool)(n:Nat):AV:= .sc (.complex .f64 (fl s m) (fl t n))
theorem Bx(s t:Bool){m n:Nat}(hm:m<2^53)(hn:n<2^53)(hs:s=true->0<m)(ht:t=true->0<n):aI Tryz.prog 195 [Cx s m t n] (Cx (mh s m) (ix s m) (mh t n) (ix t n)):=by
 refine f195.aF ah rfl rfl ?_;unfold Mh zz;refine Lu (Fu s hm hs) (Fu t hn ht) ?_;refine aG ?_;exact ay.refl _
def reS(a b:Nat):Bool:=decide ((3*a:Int) - 2*b<0)
def reN(a b:Nat):Nat:=((3*a:Int) - 2*b).natAbs
theorem Ia{a b:Nat}(ha:a<1048573)(hb:b<1048573):aI Tryz.prog 194 [Cx false a false b,.sc (.complex .f64 4613937818241073152 4611686018427387904)] (Cx (mh (reS a b) (reN a b)) (ix (reS a b) (reN a b)) false ((2*a+3*b)%1048573)):=by
 refine f194.aF ah rfl rfl ?_;unfold Mg zz;have m1:=sd (m:=a) (n:=3) false false ae aq ae;have m2:=sd (m:=b) (n:=2) false false ae aq ae;have m3:=sd (m:=a) (n:=2) false false ae aq ae;have m4:=sd (m:=b) (n:=3) false false ae aq ae;rw[fl3] at m1 m4;rw[fl2] at m2 m3;have e1:sg false (a*3) - sg false (b*2)=(3*a:Int) - 2*b:=by simp only[da];omega
 have d1:=Fh (m:=a*3) (n:=b*2) false false ae ae (by rw[e1];omega);rw[e1] at d1;have e2:kZ false (!false) ((3*a:Int) - 2*b)=reS a b:=by
  unfold kZ reS;by_cases h:(3*a:Int) - 2*b=0
  ·rw[Oi h,h];rfl
  ·rw[Ob h]
 rw[e2] at d1;have e3:sg false (a*2)+sg false (b*3)=((2*a+3*b:Nat):Int):=by simp only[da];omega
 have d2:=sa (m:=a*2) (n:=b*3) false false ae ae (by rw[e3];simp;omega);have e4:kZ false false ((2*a+3*b:Nat):Int)=false:=by
  unfold kZ;split
  ·rfl
  ·exact N6 ae
 rw[e3,e4,Int.natAbs_natCast] at d2;have hre:reN a b<2^53:=by unfold reN;omega
 have hS:reS a b=true->0<reN a b:=by
  intro h;have:=Ox h;unfold reN;omega
 have hsm:=Bx (reS a b) false hre (show 2*a+3*b<2^53 by omega) hS ah;have z1:mh false (2*a+3*b)=false:=rfl;have z2:ix false (2*a+3*b)=(2*a+3*b)%1048573:=rfl;rw[z1,z2] at hsm;simp only[Bool.false_bne,Bool.xor_false,Bool.false_xor] at m1 m2 m3 m4;change floatBits .sub .f64 _ _=some (fl (reS a b) (reN a b)) at d1;clear hS hre e1 e2 e3 e4 z1 z2;simp only[Cx] at hsm |-;generalize fl (reS a b) (reN a b)=q1 at hsm d1;generalize fl false (2*a+3*b)=q2 at hsm d2;generalize fl false (a*3)=p1 at m1 d1;generalize fl false (b*2)=p2 at m2 d1;generalize fl false (a*2)=p3 at m3 d2;generalize fl false (b*3)=p4 at m4 d2;generalize fl false a=xa at m1 m3 |-;generalize fl false b=xb at m2 m4 |-;refine rn1 (cj7 m1 m2 m3 m4 d1 d2 @Oz.{0,0}) hsm ?_;refine aG ?_;exact ay.refl _
def gZ(t:Nat × Nat)(c:Nat):Nat × Nat:=((ix (reS t.1 t.2) (reN t.1 t.2)+c+1)%1048573,((2*t.1+3*t.2)%1048573+(256 - c))%1048573)
def iO(l:List UInt8):Nat × Nat:=l.foldl (λt c=>gZ t c.toNat) (0,0)
theorem vA(l:List UInt8):(iO l).1<1048573/\(iO l).2<1048573:=by
 have key:∀(l:List UInt8)(t:Nat × Nat),t.1<1048573/\t.2<1048573->(l.foldl (λt c=>gZ t c.toNat) t).1<1048573/\(l.foldl (λt c=>gZ t c.toNat) t).2<1048573:=by
  intro l;induction l with
  |nil=>intro t h;exact h
  |cons c l ih=>intro t h;exact ih _ ⟨Rc _ aq,Rc _ aq⟩
 exact key l (0,0) aq
theorem Fv(l:List UInt8)(j:Nat)(h:j<l.length):iO (l.take (j+1))=gZ (iO (l.take j)) (l.getD j default).toNat:=by
 unfold iO;rw[iT default h,List.foldl_append];rfl
theorem Kw{a b:Nat}(ha:a<1048573)(hb:b<1048573):aI Tryz.prog 196 [Cx false a false b] (.agg [.int .i64 a,.int .i64 b]):=by
 refine f196.aF ah rfl rfl ?_;unfold Mi zz;have t1:=toInt_nat (n:=a) ae;have t2:=toInt_nat (n:=b) ae;simp only[Cx];generalize fl false a=xa at t1 |-;generalize fl false b=xb at t2 |-;refine rn0 (cj3 t1 t2 @Oz.{0,0}) ?_;refine aG ?_;exact ay.refl _
theorem NR(l:List UInt8)(hl:l.length<=140737488351232):aI Tryz.prog 150 [.sl 1 (aD l) .any] (.agg [.int .i64 ((iO l).1:Nat),.int .i64 ((iO l).2:Nat)]):=by
 refine f150.aF ah (by
  have:aJ (aD l)=true:=Av.bG (λa=>rfl) l;simp[aJ,aW,bA,this]) rfl ?_
 unfold LY zz;have hil:(aD l).length=l.length:=by simp[aD]
 have z0:fl false 0=0:=MO;refine rn0 hil ?_;refine Wp.dJ [2,6,7] xA6 (λj:Nat=>[(3,Cx false (iO (l.take j)).1 false (iO (l.take j)).2),(8,.int .i64 (j:Nat))]) (λj=>j<=l.length) (λj=>l.length - j) 0 (Ot _) ?_ ?_
 ·simp only[aQ,go_sem,reduceIte,Nat.reduceEqDiff,Nat.reduceAdd,bx,List.take_zero,iO,List.foldl_nil,Int.ofNat_zero,z0];and_intros<;>first|exact trivial|exact ay.refl _|exact ay.any _|(refine ay.int ?_;omega)
 intro j hj;by_cases hcj:j<l.length
 ·obtain ⟨g1,h2,h3,e1⟩:=ixF (j:=j) (n:=l.length) ae ae;have hat:(aD l).getD j .any=byte (l.getD j default):=EY byte l j .any hcj;have hs:=Fv l j hcj;obtain ⟨ha,hb⟩:=vA (l.take j);generalize hx:l.getD j default=x at hat hs;have hc:x.toNat<256:=x.toNat_lt;generalize iO (l.take j)=t at hs ha hb;obtain ⟨a,b⟩:=t;simp only at ha hb;have ht:=Ia ha hb;have i1:floatOfInt .f64 ((x.toNat:Nat):Int)=fl false x.toNat:=Du _;have e1:sg false x.toNat+sg false 1=((x.toNat+1:Nat):Int):=by simp only[da];omega
  have a1:=sa (m:=x.toNat) (n:=1) false false ae aq (by rw[e1];simp;omega);have e2:kZ false false ((x.toNat+1:Nat):Int)=false:=by
   unfold kZ;split
   ·rfl
   ·exact N6 ae
  rw[e1,e2,Int.natAbs_natCast,Fj] at a1;have a2:=zy (m:=256) (n:=x.toNat) ae aq;rw[MY] at a2;have hL:=Ft (reS a b) (reN a b);have hZ:mh (reS a b) (reN a b)=true->ix (reS a b) (reN a b)=0:=by
   intro h;unfold mh at h;simp only[Oh,Ov] at h;unfold ix;rw[h.1,h.2];rfl
  have st:gZ (a,b) x.toNat=((ix (reS a b) (reN a b)+x.toNat+1)%1048573,((2*a+3*b)%1048573+(256 - x.toNat))%1048573):=rfl;rw[st] at hs;generalize mh (reS a b) (reN a b)=z at ht hZ;generalize ix (reS a b) (reN a b)=p at ht hL hZ hs;have hq:=Rc (2*a+3*b) (show 0<1048573 by decide);generalize (2*a+3*b)%1048573=q at ht hq hs;have e3:sg z p+sg false (x.toNat+1)=((p+x.toNat+1:Nat):Int):=by
   cases z with
   |false=>simp only[da];omega
   |true=>rw[hZ rfl];simp only[qN,da];omega
  have a3:=sa (m:=p) (n:=x.toNat+1) z false ae ae (by rw[e3];simp;omega);have e4:kZ z false ((p+x.toNat+1:Nat):Int)=false:=by
   unfold kZ;rw[Ob ae];exact N6 ae
  rw[e3,e4,Int.natAbs_natCast] at a3;have e5:sg false q+sg false (256 - x.toNat)=((q+(256 - x.toNat):Nat):Int):=by simp only[da];omega
  have a4:=sa (m:=q) (n:=256 - x.toNat) false false ae ae (by rw[e5];simp;omega);have e6:kZ false false ((q+(256 - x.toNat):Nat):Int)=false:=by
   unfold kZ;split
   ·rfl
   ·exact N6 ae
  rw[e5,e6,Int.natAbs_natCast] at a4;have hsm:=Bx false false (m:=p+x.toNat+1) (n:=q+(256 - x.toNat)) ae ae ah ah;have z1:∀n,mh false n=false:=λ_=>rfl;have z2:∀n,ix false n=n%1048573:=λ_=>rfl;rw[z1,z1,z2,z2] at hsm;have s1:cSumBits .add .f64 (fl z p) (fl false q) (fl false (x.toNat+1)) (fl false (256 - x.toNat))=some (fl false (p+x.toNat+1),fl false (q+(256 - x.toNat))):=by
   unfold cSumBits;rw[a3];simp only[Option.bind_some];rw[a4];rfl
  have hby:byte x= .int .u8 (x.toNat:Nat):=rfl;rw[hby] at hat;simp only[Cx] at ht hsm;refine rn2 (iw g1 h2 h3 hat hil i1 a1 a2 s1 @Oz.{0,0}) ht hsm ?_;refine ⟨j+1,ae,ae,?_⟩;rw[hs];exact vj e1
 ·have hj2:j=l.length:=by omega
  subst hj2;have g1:=ixE (l.length);have hT:=Kw (vA l).1 (vA l).2;rw[OG];refine rn1 (cj2 g1 hil) hT ?_;refine aG ?_;exact ay.refl _
end Go.Proofs.YtjnoobmaedgooaaGreat.Fl
end
