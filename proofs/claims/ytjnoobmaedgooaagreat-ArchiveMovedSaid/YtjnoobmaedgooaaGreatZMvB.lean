/- Parts of a proof: a layer of abstract values over the model, the functions' walks, plain laws. -/
import Derived.Test.YtjnoobmaedgooaaGreatZMvA
set_option linter.unusedSimpArgs false
set_option linter.unusedVariables false
section
namespace Go.Av
theorem lf:∀{k1 ks:List EK}{xs ys:List AV}{b:Bool},aT (k1++ks) xs ys=some b->∃b1 b2,aT k1 (xs.take k1.length) (ys.take k1.length)=some b1/\aT ks (xs.drop k1.length) (ys.drop k1.length)=some b2/\b=(b1&&b2)
 |[],ks,xs,ys,b,h=>⟨true,b,by simp[aT],by simpa using h,by simp⟩
 |k::k1,ks,xs,ys,b,h=>by
  cases xs with
  |nil=>simp[aT] at h
  |cons x xs=>
   cases ys with
   |nil=>simp[aT] at h
   |cons y ys=>
    simp only[List.cons_append,aT] at h;split at h
    ·rename_i p q hp hq;cases h;obtain ⟨b1,b2,h1,h2,h3⟩:=lf hq;exact ⟨p&&b1,b2,by simp[aT,hp,h1],by simpa using h2,by rw[h3,Bool.and_assoc]⟩
    ·cases h
open Classical in
section
variable{P:Program}{G:aE}{w:World}
theorem oe{e:Nat}{inner:List Field->Option (List EK)}(hin:∀gs k1,inner gs=some k1->∀(X Y:Array Value) xs ys b,ay G w xs X.toList->ay G w ys Y.toList->aT k1 xs ys=some b->(Op.eqFields e X Y gs).run P w= .ok b w){X Y:Array Value}:
  ∀{i:Nat}{fs:List Field}{ks:List EK}{xs ys:List AV}{b:Bool},iZ P inner i fs=some ks->ay G w xs (X.toList.drop i)->ay G w ys (Y.toList.drop i)->aT ks xs ys=some b->
  (Op.eqFields (e+1) X Y fs).run P w= .ok b w
 |i,[],ks,xs,ys,b,hf,r1,r2,h=>by
  simp only[iZ,JA] at hf;subst hf;cases xs<;>cases ys<;>simp only[aT] at h<;>first|(cases h;done)|skip
  cases h;simp[Op.eqFields]
 |i,f::fs,ks,xs,ys,b,hf,r1,r2,h=>by
  simp only[iZ] at hf;split at hf
  ·rename_i k hk;split at hf
   ·rename_i ks' hks;split at hf
    ·rename_i hn;obtain ⟨hn,ho⟩:=hn;cases hf;cases xs with
     |nil=>simp[aT] at h
     |cons x xs=>
      cases ys with
      |nil=>simp[aT] at h
      |cons y ys=>
       simp only[ay] at r1 r2;obtain ⟨v,vs,e1,r1,q1⟩:=r1;obtain ⟨u,us,e2,r2,q2⟩:=r2;have g1:X[i]? =some v:=by
        have:=Kd (λl=>l[0]?) e1;simpa using this
       have g2:Y[i]? =some u:=by
        have:=Kd (λl=>l[0]?) e2;simpa using this
       have t1:X.toList.drop (i+1)=vs:=by
        have:=Kd (List.drop 1) e1;simpa [KT] using this
       have t2:Y.toList.drop (i+1)=us:=by
        have:=Kd (List.drop 1) e2;simpa [KT] using this
       simp only[aT] at h;split at h
       ·rename_i p q hp hq;cases h;have rec':=oe hin (X:=X) (Y:=Y) (i:=i+1) hks (t1▸q1) (t2▸q2) hq;simp only[Op.eqFields,hn,ne_eq,LI,Jw,Sem.run_bind,ho,cQ hk g1,cQ hk g2,Result.andThen_ok,lC hk r1 r2 hp];cases p
        ·simp
        ·simpa using rec'
       ·cases h
    ·cases hf
   ·cases hf
  ·split at hf
   ·rename_i gs hu;split at hf
    ·rename_i k1 hk1;split at hf
     ·rename_i ks' hks;split at hf
      ·rename_i hc;obtain ⟨hn,ho,hst,hsz,hi⟩:=hc;cases hf;obtain ⟨b1,b2,h1,h2,rfl⟩:=lf h;have hfs:P.fieldsOf f.type=gs:=by simp[Program.fieldsOf,hu]
       have hag:bG P f.type=true:=by simp[bG,hu]
       have hpart:∀Z:Array Value,(Go.part f.type Z i).run P w= .ok (.agg (Z.extract i (i+k1.length))) w:=λZ=>by
        simp[Go.part,iw P w f.type (by rw[hu];rfl),hag,bT P w f.type hi,hsz]
       have hex:∀Z:Array Value,(Z.extract i (i+k1.length)).toList=(Z.toList.drop i).take k1.length:=λZ=>by
        simp[List.extract_eq_take_drop]
       have hin1:=hin gs.toList k1 hk1 (X.extract i (i+k1.length)) (Y.extract i (i+k1.length)) _ _ b1 (by rw[hex];exact ay.take _ r1) (by rw[hex];exact ay.take _ r2) h1;have heq:(Op.equalIn (e+1) f.type (.agg (X.extract i (i+k1.length))) (.agg (Y.extract i (i+k1.length)))).run P w= .ok b1 w:=by
        rw[run_equalIn_struct w e f.type _ _ (by rw[hfs];exact hu) hst,hfs];exact hin1
       have rec':=oe hin (X:=X) (Y:=Y) (i:=i+k1.length) hks (by have:=ay.drop k1.length r1;rwa [KT] at this) (by have:=ay.drop k1.length r2;rwa [KT] at this) h2;simp only[Op.eqFields,hn,ne_eq,LI,Jw,Sem.run_bind,ho,hpart,Result.andThen_ok,heq];cases b1
       ·simp
       ·simpa using rec'
      ·cases hf
     ·cases hf
    ·cases hf
   ·cases hf
theorem xm:∀{d e:Nat}{fs:List Field}{ks:List EK},lX P d fs=some ks->∀(X Y:Array Value)(xs ys:List AV)(b:Bool),ay G w xs X.toList->ay G w ys Y.toList->aT ks xs ys=some b->(Op.eqFields (d+e+1) X Y fs).run P w= .ok b w
 |0,e,fs,ks,hf,X,Y,xs,ys,b,r1,r2,h=>by
  rw[JG];exact oe (inner:=λ_=>none) (λ_ _ h=>by cases h) hf (by simpa using r1) (by simpa using r2) h
 |d+1,e,fs,ks,hf,X,Y,xs,ys,b,r1,r2,h=>by
  have e1:d+1+e+1=(d+e+1)+1:=by omega
  rw[e1];exact oe (inner:=lX P d) (λgs k1 hk X Y xs ys b q1 q2 q3=>xm (e:=e) hk X Y xs ys b q1 q2 q3) hf (by simpa using r1) (by simpa using r2) h
variable{t:Tm}{a:Act}{o:Oper}
theorem yX{op:BinOp}{neg:Bool}{ks:List EK}{fs:Array Field}{xT yT:TypeId}{x y:Operand}{b c:Opd}{z:AV}(hop:o.op= .binOp op xT x y yT)(hT:P.underlying xT=some (.struct fs))(hf:lX P 3 fs.toList=some ks)
  (hh:P.stoodInHeld xT=false) (hg:P.eqGuardType P.depth xT=false)
  (hn:op= .eql/\neg=false\/op= .neq/\neg=true) (h1:opd P xT x=some b) (h2:opd P yT y=some c)
  (ht:bQ G w t a) (hz:eqA neg ks (ev t b) (ev t c)=some z):Plain P G w a o z:=by
 have r1:=aB h1 ht;have r2:=aB h2 ht;generalize ev t b=X at*
 generalize ev t c=Y at*
 unfold Plain;simp only[execOp,hop];generalize hx:a.eval x=vx at*
 generalize hy:a.eval y=vy at*
 unfold eqA at hz;split at hz
 ·rename_i p q;simp only[Jo] at hz;obtain ⟨r,hr,rfl⟩:=hz;simp only[au] at r1 r2;obtain ⟨vs,rfl,r1⟩:=r1;obtain ⟨us,rfl,r2⟩:=r2;have hfs:P.fieldsOf xT=fs:=by simp[Program.fieldsOf,hT]
  have key:(Op.equalIn 10000 xT (.agg vs.toArray) (.agg us.toArray)).run P w= .ok r w:=by
   rw[run_equalIn_struct w 9999 xT _ _ (by rw[hfs];exact hT) hh,hfs];exact xm (d:=3) (e:=9995) hf _ _ _ _ _ (by simpa using r1) (by simpa using r2) hr
  rcases hn with ⟨rfl,rfl⟩|⟨rfl,rfl⟩
  ·exact ⟨.bool r,by simp[run_eqGuard_agg w _ _ _ _ _ _ hg,run_eql_struct,key],by simp[au]⟩
  ·exact ⟨.bool (!r),by simp[run_eqGuard_agg w _ _ _ _ _ _ hg,run_neq_struct,key],by simp[au]⟩
 ·cases hz
end
section
variable{P:Program}{t:Tm}{o:Oper}{h h':H}{x:AV}{en:Ent}
theorem rQ{e:TypeId}(h:AT P e=true):P.underlying e=some (.int .u8):=by
 unfold AT at h;split at h
 ·assumption
 ·cases h
theorem yY{mx:Option Operand}{m:Option Opd}(h:jI P mx=some m)(hm:m.isNone=true):mx=none/\m=none:=by
 cases m with
 |some _=>cases hm
 |none=>
  cases mx with
  |none=>exact ⟨rfl,rfl⟩
  |some q=>simp[jI] at h
theorem DS{op:AOp}(hc:cOp P o=some op)(hx:aop (ev t) h op=some (x,h',en)):Loc P o t h x h' en:=by
 unfold cOp at hc;split at hc
 ·
  simp only[Jo] at hc;obtain ⟨y,hy,rfl⟩:=hc;simp only[aop,JA,JD] at hx;obtain ⟨rfl,rfl,rfl⟩:=hx;exact Loc.plain λG w a ht=>qx (.inl ‹_›) hy ht
 ·
  simp only[Jo] at hc;obtain ⟨y,hy,rfl⟩:=hc;simp only[aop,JA,JD] at hx;obtain ⟨rfl,rfl,rfl⟩:=hx;exact Loc.plain λG w a ht=>qx (.inr ‹_›) hy ht
 ·
  split at hc<;>cases hc;simp only[aop] at hx;split at hx<;>cases hx;exact Loc.plain λG w a ht=>uR ‹_› ‹_› ‹_› ‹_› ht ‹_›
 ·
  split at hc
  ·simp only[Jo] at hc;obtain ⟨b,hb,rfl⟩:=hc;simp only[aop] at hx;split at hx<;>cases hx;exact yM ‹_› ‹_› hb ‹_›
  ·cases hc
 ·
  simp only[Jo] at hc;obtain ⟨y,hy,rfl⟩:=hc;simp only[aop] at hx;split at hx
  ·split at hx<;>cases hx;exact xk ‹_› hy (.inl ‹_›) ‹_›
  ·split at hx
   ·rename_i hcell;cases hx;exact xk ‹_› hy (.inr ⟨hcell,rfl⟩) (by simp[hcell])
   ·cases hx
 ·
  split at hc
  ·split at hc
   ·split at hc<;>cases hc;simp only[aop,Jo,JD] at hx;obtain ⟨cs,hcs,rfl,rfl,rfl⟩:=hx;exact Loc.plain λG w a ht=>yP ‹_› ‹_› ‹_› ‹_› ‹_› ‹_› hcs ht
   ·cases hc
  ·cases hc
 ·
  split at hc
  ·rename_i e hu;split at hc
   ·rename_i hcond;obtain ⟨c1,c2,c3,c4⟩:=hcond;simp only[Jo] at hc;obtain ⟨ys,hys,rfl⟩:=hc;simp only[aop] at hx;split at hx
    ·rename_i hp;obtain ⟨p1,p2⟩:=hp;cases hx;obtain ⟨z,hz1,hz2⟩:∃z,(P.info? e).bind (·.zero)=some z/\z.cells.size=P.cellsOf e:=by
      cases hz:(P.info? e).bind (·.zero) with
      |none=>rw[hz] at c4;simp at c4
      |some z=>rw[hz] at c4;exact ⟨z,rfl,by simpa using c4⟩
     refine sS ‹_› ‹_› c2 c1 c3 hz1 hz2 hys (λy hy=>?_) p2;rw[JS] at p1;simpa using p1 y hy
    ·cases hx
   ·cases hc
  ·cases hc
 ·
  split at hc
  ·rename_i hcond;simp only[Jo] at hc;obtain ⟨y,hy,rfl⟩:=hc;simp only[aop] at hx;split at hx
   ·rename_i cs hcs;simp only[Jo,JD] at hx;obtain ⟨v,hv,rfl,rfl,rfl⟩:=hx;refine Loc.plain λG w a ht=>?_;have r:=aB hy ht;rw[hcs] at r;simp only[au] at r;obtain ⟨B,off,vs,e1,e2,e3⟩:=r;exact oL ‹_› hcond.1 hcond.2 hy ht e1 e2 (λj v hj=>(e3 j v hj).1) hv
   ·split at hx
    ·simp only[Jo,JD] at hx;obtain ⟨v,hv,rfl,rfl,rfl⟩:=hx;exact AX ‹_› hcond.1 hcond.2 hy ‹_› ‹_› hv
    ·cases hx
   ·cases hx
  ·cases hc
 ·
  split at hc
  ·rename_i hcond;split at hc<;>cases hc;simp only[aop] at hx;split at hx
   ·split at hx
    ·split at hx
     ·rename_i hq;obtain ⟨q1,q2,q3⟩:=hq;cases hx;exact yN ‹_› hcond.1 hcond.2 ‹_› ‹_› ‹_› ‹_› q1 q2 q3
     ·cases hx
    ·cases hx
   ·cases hx
  ·cases hc
 ·
  split at hc
  ·split at hc
   ·split at hc<;>cases hc<;>
    ·simp only[aop,Jo,JD] at hx;obtain ⟨v,hv,rfl,rfl,rfl⟩:=hx;exact Loc.plain λG w a ht=>yF ‹_› ‹_› af ‹_› ‹_› ht hv
   ·split at hc
    ·split at hc<;>cases hc<;>
     ·simp only[aop] at hx;split at hx
      ·split at hx
       ·simp only[JA,JD] at hx;obtain ⟨rfl,rfl,rfl⟩:=hx;first
         |exact xl (neg:=false) ‹_› ‹_› ‹_› (.inl ⟨rfl,rfl⟩) ‹_› ‹_› ‹_› ‹_› ‹_› ‹_›
         |exact xl (neg:=true) ‹_› ‹_› ‹_› (.inr ⟨rfl,rfl⟩) ‹_› ‹_› ‹_› ‹_› ‹_› ‹_›
       ·cases hx
      ·simp only[JA,JD] at hx;obtain ⟨rfl,rfl,rfl⟩:=hx;first
        |exact Loc.plain λG w a ht=>iv (neg:=false) ‹_› ‹_› (.inl ⟨rfl,rfl⟩) ‹_› ‹_› ht (by simp only[eqP, *];try rfl)
        |exact Loc.plain λG w a ht=>iv (neg:=true) ‹_› ‹_› (.inr ⟨rfl,rfl⟩) ‹_› ‹_› ht (by simp only[eqP, *];try rfl)
      ·simp only[JA,JD] at hx;obtain ⟨rfl,rfl,rfl⟩:=hx;first
        |exact Loc.plain λG w a ht=>iv (neg:=false) ‹_› ‹_› (.inl ⟨rfl,rfl⟩) ‹_› ‹_› ht (by simp only[eqP, *];try rfl)
        |exact Loc.plain λG w a ht=>iv (neg:=true) ‹_› ‹_› (.inr ⟨rfl,rfl⟩) ‹_› ‹_› ht (by simp only[eqP, *];try rfl)
      ·cases hx
    ·split at hc<;>cases hc<;>
     ·simp only[aop,Jo,JD] at hx;obtain ⟨v,hv,rfl,rfl,rfl⟩:=hx;exact Loc.plain λG w a ht=>iv ‹_› ‹_› af ‹_› ‹_› ht hv
   ·split at hc
    ·split at hc
     ·rename_i hcond;split at hc<;>cases hc<;>
      ·simp only[aop,Jo,JD] at hx;obtain ⟨v,hv,rfl,rfl,rfl⟩:=hx;exact Loc.plain λG w a ht=>yX ‹_› ‹_› ‹_› hcond.1 hcond.2 af ‹_› ‹_› ht hv
     ·cases hc
    ·cases hc
   ·split at hc<;>cases hc<;>
    ·simp only[aop,Jo,JD] at hx;obtain ⟨v,hv,rfl,rfl,rfl⟩:=hx;exact Loc.plain λG w a ht=>yS ‹_› ‹_› rfl af ‹_› ht hv
   ·split at hc<;>cases hc<;>
    ·simp only[aop,Jo,JD] at hx;obtain ⟨v,hv,rfl,rfl,rfl⟩:=hx;exact Loc.plain λG w a ht=>yG ‹_› ‹_› rfl af ‹_› ht hv
   ·cases hc
   ·cases hc;simp only[aop,Jo,JD] at hx;obtain ⟨v,hv,rfl,rfl,rfl⟩:=hx;exact Loc.plain λG w a ht=>yE ‹_› ‹_› ‹_› ht hv
  ·cases hc
 ·
  simp only[Jo] at hc;obtain ⟨y,hy,rfl⟩:=hc;simp only[aop,Jo,JD] at hx;obtain ⟨v,hv,rfl,rfl,rfl⟩:=hx;exact Loc.plain λG w a ht=>AW ‹_› hy ht hv
 ·
  split at hc
  ·cases hc;simp only[aop] at hx;split at hx
   ·rename_i e1 e2;cases e1;cases hx;exact Loc.plain λG w a ht=>oR ‹_› ‹_› ‹_› ‹_› e2 ht
   ·rename_i e1 e2;cases e1
   ·rename_i e1 e2;cases e1
   ·rename_i e1 e2;cases e1
   ·rename_i e1 e2;cases e1
   ·cases hx
  ·split at hc<;>cases hc;rename_i hcond;have he:=rQ hcond.1;simp only[aop] at hx;split at hx
   ·rename_i e1 e2;cases e1
   ·rename_i e1 e2;split at hx
    ·simp only[Jo,JD] at hx;obtain ⟨v,hv,rfl,rfl,rfl⟩:=hx;exact Loc.plain λG w a ht=>yO ‹_› ‹_› he ‹_› ‹_› e2 ‹_› hv ht
    ·cases hx
   ·rename_i e1 e2;cases e1
   ·rename_i e1 e2;cases e1
   ·rename_i e1 e2;cases e1
   ·cases hx
  ·split at hc<;>cases hc;rename_i hcond;have he:=rQ hcond.1;simp only[aop] at hx;split at hx
   ·rename_i e1 e2;cases e1
   ·rename_i e1 e2;cases e1
   ·rename_i e1 e2;cases hx;exact DN ‹_› ‹_› ‹_› he ‹_› e2
   ·rename_i e1 e2;cases hx;exact AZ ‹_› ‹_› ‹_› he ‹_› e2
   ·rename_i e1 e2;cases e1
   ·cases hx
  ·cases hc;simp only[aop] at hx;split at hx
   ·rename_i e1 e2;cases e1
   ·rename_i e1 e2;cases e1
   ·rename_i e1 e2;cases e1
   ·rename_i e1 e2;cases e1
   ·rename_i e1 e2;cases hx;exact Loc.plain λG w a ht=>oS ‹_› ‹_› ‹_› ‹_› e2 ht
   ·cases hx
  ·split at hc<;>cases hc;simp[aop] at hx
  ·cases hc
 ·
  split at hc<;>cases hc;simp only[aop,JA,JD] at hx;obtain ⟨rfl,rfl,rfl⟩:=hx;exact Loc.plain λG w a ht=>uS ‹_› ‹_› ‹_› ht
 ·
  split at hc
  ·split at hc
   ·split at hc
    ·split at hc
     ·split at hc<;>cases hc;rename_i hcond;simp only[aop] at hx;split at hx
      ·split at hx
       ·rename_i hq;obtain ⟨q1,q2,q3,q4,q5⟩:=hq;cases hx;exact Ba ‹_› ‹_› ‹_› ‹_› hcond.1 hcond.2 ‹_› ‹_› ‹_› ‹_› ‹_› q1 q2 q3 q4 q5
       ·cases hx
      ·cases hx
     ·cases hc
    ·cases hc
   ·cases hc
  ·cases hc
 ·
  split at hc
  ·split at hc<;>cases hc;rename_i hm;simp only[aop,Jo,JD] at hx;obtain ⟨v,hv,rfl,rfl,rfl⟩:=hx;obtain ⟨hmx0,rfl⟩:=yY ‹_› hm;exact Loc.plain λG w a ht=>qA (e:=0) ‹_› (.inl ⟨rfl,‹_›,hmx0,rfl⟩) ‹_› ‹_› ‹_› ‹_› ht (λh=>absurd rfl h) hv
  ·split at hc<;>cases hc;rename_i hcond;simp only[aop,Jo,JD] at hx;obtain ⟨v,hv,rfl,rfl,rfl⟩:=hx;refine Loc.plain λG w a ht=>qA (e:= ‹_›) ‹_› (.inr ⟨rfl,‹_›,hcond.1,rfl⟩) ‹_› ‹_› ‹_› ‹_› ht ?_ hv;intro hm hh;rcases hcond.2 with h|h
   ·exact hm (by simpa using h)
   ·rw[hh] at h;cases h
  ·cases hc
 ·
  split at hc
  ·split at hc
   ·split at hc<;>cases hc;rename_i hcond;simp only[aop] at hx;split at hx
    ·cases hx;exact Loc.plain λG w a ht=>nC ‹_› ‹_› ‹_› hcond.1 hcond.2 ‹_› ht (.inl ⟨_,‹_›,rfl⟩)
    ·cases hx;exact Loc.plain λG w a ht=>nC ‹_› ‹_› ‹_› hcond.1 hcond.2 ‹_› ht (.inr ⟨_,_,‹_›,rfl⟩)
    ·cases hx
   ·cases hc
  ·cases hc
 ·
  split at hc
  ·split at hc
   ·split at hc<;>cases hc;rename_i hcond;simp only[aop] at hx;split at hx
    ·simp only[Jo,JD] at hx;obtain ⟨v,hv,rfl,rfl,rfl⟩:=hx;exact Loc.plain λG w a ht=>yK ‹_› ‹_› ‹_› hcond.1 hcond.2 ‹_› ht ‹_› hv
    ·cases hx
   ·cases hc
  ·cases hc
 ·
  split at hc
  ·split at hc<;>cases hc;rename_i hcond;simp only[aop] at hx;split at hx
   ·split at hx
    ·rename_i hq;obtain ⟨rfl,q2,q3⟩:=hq;split at hx
     ·rename_i hsh;cases hx;refine Loc.plain λG w a ht=>nD ‹_› ‹_› hcond ‹_› ‹_› ht ‹_› q2 (.inl ⟨_,_,‹_›,q3,rfl,?_⟩);unfold shaped at hsh;generalize List.getD _ _ _=X at hsh;cases hcx:bS X
      ·rw[hcx,LJ] at hsh;right;cases X<;>simp only[Jy] at hsh;exact ⟨_,rfl⟩
      ·exact .inl rfl
     ·cases hx
    ·cases hx
   ·split at hx
    ·rename_i hq;cases hx;obtain ⟨rfl,q2,q3⟩:=hq;exact Loc.plain λG w a ht=>nD ‹_› ‹_› hcond ‹_› ‹_› ht ‹_› q2 (.inr ⟨_,_,_,_,‹_›,q3,rfl⟩)
    ·cases hx
   ·cases hx
  ·cases hc
 ·
  split at hc<;>cases hc;simp only[aop] at hx;split at hx
  ·split at hx
   ·rename_i hq;cases hx;exact Loc.plain λG w a ht=>yI ‹_› ‹_› ‹_› ‹_› ht ‹_› ‹_› hq
   ·cases hx
  ·cases hx
 ·
  split at hc<;>cases hc
  ·simp only[aop,JA,JD] at hx;obtain ⟨rfl,rfl,rfl⟩:=hx;exact qE ‹_› ‹_› (.inl rfl)
  ·simp only[aop,JA,JD] at hx;obtain ⟨rfl,rfl,rfl⟩:=hx;exact qE ‹_› ‹_› (.inr ⟨_,_,rfl⟩)
 ·
  split at hc
  ·split at hc
   ·simp only[Jo] at hc;obtain ⟨zz,hzz,rfl⟩:=hc;simp only[aop] at hx;split at hx
    ·split at hx
     ·simp only[Jo,JD] at hx;obtain ⟨r,hr,rfl,rfl,rfl⟩:=hx;exact yQ ‹_› ‹_› ‹_› ‹_› hzz ‹_› ‹_› ‹_› ‹_› ‹_› hr
     ·cases hx
    ·cases hx;exact Loc.plain λG w a ht=>rN ‹_› ‹_› ‹_› ‹_› hzz ‹_› ‹_› ht ‹_› ‹_›
    ·cases hx
   ·split at hc
    ·split at hc
     ·simp only[Jo] at hc;obtain ⟨zz,hzz,rfl⟩:=hc;simp only[aop] at hx;split at hx
      ·split at hx
       ·simp only[Jo,JD] at hx;obtain ⟨r,hr,rfl,rfl,rfl⟩:=hx;exact uX ‹_› ‹_› ‹_› ‹_› ‹_› ‹_› hzz ‹_› ‹_› ‹_› ‹_› ‹_› hr
       ·cases hx
      ·cases hx
     ·cases hc
    ·cases hc
   ·cases hc
  ·cases hc
 ·
  split at hc
  ·split at hc
   ·cases hc;simp only[aop] at hx;split at hx
    ·split at hx
     ·simp only[Jo,JD] at hx;obtain ⟨r,hr,rfl,rfl,rfl⟩:=hx;exact sW (.inl ‹_›) ‹_› ‹_› ‹_› ‹_› ‹_› ‹_› ‹_› ‹_› hr
     ·cases hx
    ·cases hx
   ·split at hc
    ·split at hc
     ·cases hc;simp only[aop] at hx;split at hx
      ·split at hx
       ·simp only[Jo,JD] at hx;obtain ⟨r,hr,rfl,rfl,rfl⟩:=hx;exact qF (.inl ‹_›) ‹_› ‹_› ‹_› ‹_› ‹_› ‹_› ‹_› ‹_› ‹_› ‹_› hr
       ·cases hx
      ·cases hx
     ·cases hc
    ·cases hc
   ·cases hc
  ·cases hc
 ·
  split at hc
  ·split at hc
   ·cases hc;simp only[aop] at hx;split at hx
    ·split at hx
     ·simp only[Jo,JD] at hx;obtain ⟨r,hr,rfl,rfl,rfl⟩:=hx;exact sW (.inr ‹_›) ‹_› ‹_› ‹_› ‹_› ‹_› ‹_› ‹_› ‹_› hr
     ·cases hx
    ·cases hx
   ·split at hc
    ·split at hc
     ·cases hc;simp only[aop] at hx;split at hx
      ·split at hx
       ·simp only[Jo,JD] at hx;obtain ⟨r,hr,rfl,rfl,rfl⟩:=hx;exact qF (.inr ‹_›) ‹_› ‹_› ‹_› ‹_› ‹_› ‹_› ‹_› ‹_› ‹_› ‹_› hr
       ·cases hx
      ·cases hx
     ·cases hc
    ·cases hc
   ·cases hc
  ·cases hc
 ·
  simp only[Jo] at hc;obtain ⟨y,hy,rfl⟩:=hc;simp only[aop] at hx;split at hx
  ·simp only[Jo,JD] at hx;obtain ⟨v,hv,rfl,rfl,rfl⟩:=hx;exact Loc.plain λG w a ht=>yH ‹_› hy ht ‹_› hv
  ·cases hx
 ·
  simp only[Jo] at hc;obtain ⟨y,hy,rfl⟩:=hc;simp only[aop] at hx;split at hx
  ·rename_i e1;cases hx;rw[<-e1];exact Loc.plain λG w a ht=>nB ‹_› hy ht (.inl ⟨_,_,e1⟩)
  ·rename_i e1;cases hx;rw[<-e1];exact Loc.plain λG w a ht=>nB ‹_› hy ht (.inr ⟨_,e1⟩)
  ·cases hx
 ·
  split at hc
  ·cases hc
  ·rename_i hnot _;simp only[Jo] at hc;obtain ⟨y,hy,rfl⟩:=hc;simp only[aop,JA,JD] at hx;obtain ⟨rfl,rfl,rfl⟩:=hx;exact Loc.plain λG w a ht=>yJ ‹_› ‹_› (λq e=>hnot q (by rw[<-e])) hy ht
  ·cases hc
 ·
  simp only[Jo] at hc;obtain ⟨y,hy,rfl⟩:=hc;simp[aop] at hx
 ·
  rename_i c hop;split at hc
  ·
   split at hc
   ·rename_i x0 t0 ha hta;split at hc<;>cases hc
    ·simp only[aop] at hx;split at hx<;>cases hx
     ·exact Loc.plain λG w a ht=>mH hop ‹_› ha hta ‹_› ht (.inl ⟨‹_›,_,‹_›,rfl⟩)
     ·exact Loc.plain λG w a ht=>uT hop ‹_› ha hta ‹_› ht ‹_› ‹_›
     all_goals (rename_i e1 _;cases e1)
    ·simp only[aop] at hx;split at hx<;>cases hx
     ·rename_i e1 _;cases e1
     ·rename_i e1 _;cases e1
     ·exact Loc.plain λG w a ht=>mH hop ‹_› ha hta ‹_› ht (.inr ⟨⟨_,‹_›⟩,.inl ⟨_,_,_,‹_›,rfl⟩⟩)
     ·exact Loc.plain λG w a ht=>mH hop ‹_› ha hta ‹_› ht (.inr ⟨⟨_,‹_›⟩,.inr ⟨_,_,_,_,‹_›⟩⟩)
    ·simp only[aop] at hx;split at hx
     ·split at hx
      ·simp only[JA,JD] at hx;obtain ⟨rfl,rfl,rfl⟩:=hx;exact Bc hop ‹_› ha hta ‹_› ‹_› ‹_› ‹_›
      ·cases hx
     ·simp only[JA,JD] at hx;obtain ⟨rfl,rfl,rfl⟩:=hx;exact Loc.plain λG w a ht=>sX hop ‹_› ha hta ‹_› ‹_› ht ‹_›
     ·cases hx
   ·cases hc
  ·
   split at hc
   ·rename_i x0 t0 ha hta;split at hc<;>cases hc;simp only[aop] at hx;split at hx<;>cases hx
    ·exact Loc.plain λG w a ht=>qy hop ‹_› ha hta ‹_› ht ‹_› (.inl ⟨_,_,‹_›⟩)
    ·exact Loc.plain λG w a ht=>qy hop ‹_› ha hta ‹_› ht ‹_› (.inr ⟨_,_,_,_,‹_›⟩)
   ·cases hc
  ·
   rename_i hcal;split at hc
   ·rename_i z1 z2 T0 ts0 ha hta;split at hc
    ·split at hc
     ·cases hc;simp only[aop] at hx;split at hx
      ·split at hx
       ·simp only[Jo,JD] at hx;obtain ⟨r,hr,rfl,rfl,rfl⟩:=hx;exact Bb hop hcal ha hta ‹_› ‹_› ‹_› ‹_› ‹_› ‹_› ‹_› hr
       ·cases hx
      ·cases hx
     ·split at hc
      ·split at hc
       ·cases hc;simp only[aop] at hx;split at hx
        ·split at hx
         ·simp only[Jo,JD] at hx;obtain ⟨r,hr,rfl,rfl,rfl⟩:=hx;exact yW hop hcal ha hta ‹_› ‹_› ‹_› ‹_› ‹_› ‹_› ‹_› ‹_› ‹_› hr
         ·cases hx
        ·cases hx
       ·cases hc
      ·cases hc
     ·cases hc
    ·cases hc
   ·cases hc
  ·
   rename_i hcal;split at hc
   ·rename_i z1 z2 ha;split at hc<;>cases hc;simp only[aop,Jo,JD] at hx;obtain ⟨v,hv,rfl,rfl,rfl⟩:=hx;exact Loc.plain λG w a ht=>sO (mx:=false) hop hcal ha ‹_› ‹_› ht hv
   ·cases hc
  ·
   rename_i hcal;split at hc
   ·rename_i z1 z2 ha;split at hc<;>cases hc;simp only[aop,Jo,JD] at hx;obtain ⟨v,hv,rfl,rfl,rfl⟩:=hx;exact Loc.plain λG w a ht=>sO (mx:=true) hop hcal ha ‹_› ‹_› ht hv
   ·cases hc
  ·
   rename_i hcal;split at hc
   ·rename_i z0 T0 ha hta;split at hc
    ·split at hc
     ·rename_i i hi;split at hc
      ·split at hc
       ·split at hc<;>cases hc;rename_i hcond;simp only[aop] at hx;split at hx
        ·split at hx
         ·rename_i hv hl0;cases hx;subst hl0;exact Loc.plain λG w a ht=>uU hop hcal ha hta ‹_› ht hv ⟨_,‹_›⟩
         ·split at hx
          ·split at hx
           ·rename_i hq;obtain ⟨rfl,q2,q3,q4⟩:=hq;cases hx;exact DQ hop hcal ha hta ‹_› hi ‹_› hcond.1 ‹_› hcond.2 ‹_› ‹_› ‹_› ‹_› q2 q3 q4
           ·cases hx
          ·cases hx
        ·cases hx
       ·cases hc
      ·cases hc
     ·cases hc
    ·cases hc
   ·cases hc
  ·
   rename_i hcal;split at hc
   ·rename_i zs zx T U ha hta;split at hc
    ·split at hc
     ·rename_i i hi;split at hc<;>cases hc;rename_i hcond;simp only[aop] at hx;split at hx
      ·split at hx
       ·rename_i hq;obtain ⟨q1,q2,q3,q4⟩:=hq;split at hx
        ·split at hx
         ·rename_i hk;cases hx;exact od hop hcal ha hta ‹_› ‹_› (.inl ⟨_,rfl⟩) hi hcond.2 hcond.1 ‹_› ‹_› ‹_› (.inl ⟨_,_,‹_›,q2⟩) q3 q4 (.inr ⟨_,rfl,hk.1,hk.2,rfl,rfl⟩)
         ·cases hx
        ·split at hx
         ·rename_i hk;cases hx;exact od hop hcal ha hta ‹_› ‹_› (.inl ⟨_,rfl⟩) hi hcond.2 hcond.1 ‹_› ‹_› ‹_› (.inl ⟨_,_,‹_›,q2⟩) q3 q4 (.inl ⟨⟨_,rfl,hk⟩,q1,rfl,rfl⟩)
         ·cases hx
        ·cases hx
       ·cases hx
      ·rename_i e1 _ _;cases e1
      ·cases hx
     ·cases hc
    ·split at hc
     ·rename_i i hi;split at hc<;>cases hc;rename_i hcond;simp only[aop] at hx;split at hx
      ·rename_i e1 _ _;cases e1
      ·split at hx
       ·rename_i hq;obtain ⟨q1,q2,q3,q4⟩:=hq;have hbl:∀l:List UInt8,(az l).length=l.length:=λl=>by simp[az]
        rw[<-hbl] at q3 q4;split at hx
        ·split at hx
         ·rename_i hk;cases hx;exact od hop hcal ha hta ‹_› ‹_› (.inr rfl) hi hcond.2 aa ‹_› ‹_› ‹_› (.inr ⟨_,‹_›,rfl,q2⟩) q3 q4 (.inr ⟨_,rfl,hk.1,hk.2,rfl,rfl⟩)
         ·cases hx
        ·split at hx
         ·rename_i hk;cases hx;exact od hop hcal ha hta ‹_› ‹_› (.inr rfl) hi hcond.2 aa ‹_› ‹_› ‹_› (.inr ⟨_,‹_›,rfl,q2⟩) q3 q4 (.inl ⟨⟨_,rfl,hk⟩,q1,rfl,rfl⟩)
         ·cases hx
        ·cases hx
       ·cases hx
      ·cases hx
     ·cases hc
    ·split at hc
     ·rename_i i hi;split at hc
      ·rename_i b hbz;split at hc<;>cases hc;rename_i hcond;obtain ⟨z,hz1,hz2⟩:=J2.1 hbz;have hz3:z.cells.size=i.size:=by
        have:=hcond.2;rw[hz1] at this;simpa using this
       simp only[aop] at hx;split at hx
       ·split at hx
        ·rename_i hq;obtain ⟨q1,q2,q3,q4,q5,q6⟩:=hq;split at hx
         ·split at hx
          ·rename_i hk;cases hx;exact sU hop hcal ha hta ‹_› ‹_› hi hz1 hz3 hz2 hcond.1 ‹_› ‹_› ‹_› ‹_› q2 q5 q6 q3 q4 (.inr ⟨_,rfl,hk.1,hk.2,rfl,rfl⟩)
          ·cases hx
         ·split at hx
          ·rename_i hk;cases hx;exact sU hop hcal ha hta ‹_› ‹_› hi hz1 hz3 hz2 hcond.1 ‹_› ‹_› ‹_› ‹_› q2 q5 q6 q3 q4 (.inl ⟨⟨_,rfl,hk⟩,q1,rfl,rfl⟩)
          ·cases hx
         ·cases hx
        ·cases hx
       ·cases hx
      ·cases hc
     ·cases hc
    ·cases hc
   ·cases hc
  ·
   split at hc
   ·split at hc
    ·simp only[Jo] at hc;obtain ⟨l,hl,rfl⟩:=hc;simp[aop] at hx
    ·cases hc
   ·cases hc
  ·split at hc<;>cases hc;simp[aop] at hx
  ·cases hc
 ·cases hc
end
section
variable{P:Program}{ops:Array Oper}
def rd(ro:Option Nat):Fence:={Fence.wide with round:=ro}
def names(ops:Array Oper)(o:Oper):List Nat:=
 o.dst.toList++(o.op.operands.toList.filterMap λ| .tmp t=>some t|_=>none)++(match o.guard with|some (j,_)=>((ops[j]?).bind (·.dst)).toList|none=>[])
def TOn(l:List Nat)(G:aE)(w:World)(t:Tm)(a:Act):Prop:=∀i∈l,au G w (t i) (a.tmps.getD i undef)
def bH(t:Tm)(d:Option Nat)(x:AV):Tm:=
 match d with
 |some d=>upd t d x
 |none=>t
structure Rec where
 t:Tm
 h:H
 h1:H
 h1':H
 h':H
 x:AV
 en:Ent
def gq(P:Program)(ops:Array Oper)(i:Nat)(o:Oper)(t:Tm)(h1:H)(x:AV)(h1':H):Prop:=
 ∀G w a,TOn (names ops o) G w t a->aM G h1 w->bP G h1 h1'->∀(K:Act->World->Prop) Q,
  (∀G' w' v,Trans G w h1 G' w' h1'->aM G' h1' w'->au G' w' x v->K (a.put o.dst v) w')->∀ro,wpOpIn (rd ro) 0 P ops Q i K a w
def jK(P:Program)(ops:Array Oper)(i:Nat)(o:Oper)(t:Tm)(h1:H)(v:Value)(h1':H):Prop:=
 ∀G w a,TOn (names ops o) G w t a->aM G h1 w->bP G h1 h1'->∀(K:Act->World->Prop) Q,
  (∀G' w',Trans G w h1 G' w' h1'->aM G' h1' w'->Q (.panic [{v:=v,recovered:=false}]) a w')->∀ro,wpOpIn (rd ro) 0 P ops Q i K a w
inductive eK(P:Program)(ops:Array Oper)(D:Nat->Bool):Nat->List Rec->Tm->H->Tm->H->Prop where
 |nil {i:Nat} {t:Tm} {h:H} (hi:i=ops.size):eK P ops D i [] t h t h
 |cons {i:Nat} {o:Oper} {r:Rec} {rs:List Rec} {t t':Tm} {h h':H} (ho:ops[i]? =some o) (e1:r.t=t) (e2:r.h=h) (tc:Touch h r.h1 r.h1' r.h' r.en) (run:D i=false->gq P ops i o t r.h1 r.x r.h1')
   (rest:eK P ops D (i+1) rs (bH t o.dst r.x) r.h' t' h'):eK P ops D i (r::rs) t h t' h'
abbrev FE(P:Program)(ops:Array Oper):Nat->List Rec->Tm->H->Tm->H->Prop:=eK P ops λ_=>false
theorem jL(a:Act)(d:Option Nat)(v:Value):(a.put d v).tmps.size=a.tmps.size:=by
 cases d<;>simp[Act.put]
theorem put_defers(a:Act)(d:Option Nat)(v:Value):(a.put d v).defers=a.defers:=by
 cases d<;>simp[Act.put]
theorem mg{G:aE}{w:World}{t:Tm}{a:Act}{d:Option Nat}{x:AV}{v:Value}(ht:bQ G w t a)(hv:au G w x v)(hd:∀k,d=some k->k<a.tmps.size):bQ G w (bH t d x) (a.put d v):=by
 intro i;cases d with
 |none=>exact ht i
 |some k=>
  have hk:=hd k rfl;simp only[bH,upd,Act.put];by_cases e:i=k
  ·subst e;simp[Lo,hk];exact hv
  ·have:=ht i;simp only[Jr e];have e2:(a.tmps.setIfInBounds k v).getD i undef=a.tmps.getD i undef:=by
    simp[Lo,LO e]
   rw[e2];exact this
theorem bQ.mono{G G':aE}{w w':World}{h h':H}{t:Tm}{a:Act}(R:aM G h w)(T:Trans G w h G' w' h')(ht:bQ G w t a):bQ G' w' t a:=λi=>au.mono R T _ _ (ht i)
theorem jM{D:Nat->Bool}:∀{i:Nat}{recs:List Rec}{t t':Tm}{h h':H},eK P ops D i recs t h t' h'->(h.n<=h'.n/\h.m<=h'.m)/\
  (∀(k:Nat)(r:Rec),recs[k]? =some r->(h.n<=r.h1.n/\r.h1'.n<=h'.n)/\(h.m<=r.h1.m/\r.h1'.m<=h'.m))/\
  (∀(k l:Nat)(r s:Rec),k<l->recs[k]? =some r->recs[l]? =some s->r.h1'.n<=s.h1.n/\r.h1'.m<=s.h1.m):=by
 intro i recs t t' h h' hc;induction hc with
 |nil hi=>exact ⟨⟨Jl _,Jl _⟩,by simp,by simp⟩
 | @cons i o r rs t t' h h' ho e1 e2 tc run rest ih=>
  obtain ⟨⟨a1,a2⟩,a3,a4⟩:=ih;have n1:=tc.n;have m1:=tc.m;have n2:r.h'.n=r.h1'.n:=by rw[tc.eq];rfl
  have m2:r.h'.m=r.h1'.m:=by rw[tc.eq];rfl
  have n3:=tc.le;have m3:=tc.lem;refine ⟨⟨aa,aa⟩,?_,?_⟩
  ·intro k q hq;cases k with
   |zero=>simp at hq;subst hq;exact ⟨⟨aa,aa⟩,⟨aa,aa⟩⟩
   |succ k=>
    simp at hq;obtain ⟨⟨b1,b2⟩,b3,b4⟩:=a3 k q hq;exact ⟨⟨aa,aa⟩,⟨aa,aa⟩⟩
  ·intro k l q s hkl hq hs;cases l with
   |zero=>omega
   |succ l=>
    simp at hs;cases k with
    |zero=>
     simp at hq;subst hq;obtain ⟨⟨b1,b2⟩,b3,b4⟩:=a3 l s hs;exact ⟨aa,aa⟩
    |succ k=>
     simp at hq;exact a4 k l q s aa hq hs
theorem bP.sub{G:aE}{h h' k k':H}(F:bP G h h')(a:h.n<=k.n)(b:k'.n<=h'.n)(c:h.m<=k.m)(d:k'.m<=h'.m):bP G k k':=
 ⟨λid x y=>F.1 id aa aa,λt x y=>F.2 t aa aa⟩
theorem bP.step{G G':aE}{w w':World}{h h1 h':H}(F:bP G h h')(T:Trans G w h G' w' h1):bP G' h1 h':=by
 constructor
 ·intro id x y hd;rcases T.dom_new id hd with z|⟨z1,z2⟩
  ·exact F.1 id (JT T.n_le x) y z
  ·omega
 ·intro id x y hd;rcases T.tdom_new id hd with z|⟨z1,z2⟩
  ·exact F.2 id (JT T.m_le x) y z
  ·omega
theorem yZ(ro:Option Nat){N:Nat}{Q:Exit->Act->World->Prop}(hN:∀(i:Nat) o d,ops[i]? =some o->o.dst=some d->d<N):∀{i:Nat}{recs:List Rec}{t t':Tm}{h h':H},FE P ops i recs t h t' h'->
  ∀(G:aE)(w:World)(a:Act),a.tmps.size=N->bQ G w t a->aM G h w->bP G h h'->
   (∀G' w' a',Trans G w h G' w' h'->bQ G' w' t' a'->aM G' h' w'->a'.tmps.size=N->a'.defers=a.defers->Q .normal a' w')->wpOpsIn (rd ro) 0 P ops Q (List.range' i (ops.size - i)) a w:=by
 intro i recs t t' h h' hc;induction hc with
 |nil hi=>
  intro G w a hs ht R U hq;subst hi;simp only[Nat.sub_self,List.range'_zero,wpOpsIn];exact hq G w a (Trans.refl _ _ _) ht R hs rfl
 | @cons i o r rs t t' h h' ho e1 e2 tc run rest ih=>
  intro G w a hs ht R U hq;have hi:i<ops.size:=(J0.1 ho).1;have:ops.size - i=(ops.size - (i+1))+1:=by omega
  rw[this,Ll,wpOpsIn_cons];have nm:=(jM rest).1;have e3:r.h'.n=r.h1'.n:=by rw[tc.eq];rfl
  have e4:r.h'.m=r.h1'.m:=by rw[tc.eq];rfl
  have F:bP G r.h1 r.h1':=U.sub (by rw[tc.n];exact Jl _) aa (by rw[tc.m];exact Jl _) aa;refine run rfl G w a (λk _=>ht k) (R.sub tc.sub) F _ Q (λG' w' v T1 R1 V=>?_) ro;obtain ⟨R2,T2⟩:=frame R tc.sub tc.n tc.m R1 T1 F;rw[<-tc.eq] at R2 T2;refine ih G' w' _ (by rw[jL];exact hs) (mg (ht.mono R T2) V λk hk=>by rw[hs];exact hN i o k ho hk) R2 (U.step T2) λG'' w'' a'' T3 h1 h2 h3 h4=>?_;exact hq G'' w'' a'' (T2.trans R R2 T3) h1 h2 h3 (h4.trans (put_defers _ _ _))
def val{β:Type}(u:Nat->Option β)(S:Nat->Bool):Nat->β->β
 |0,v=>v
 |k+1,v=>if S k then (u k).getD (val u S k v) else val u S k v
theorem val_congr{β:Type}{u:Nat->Option β}{S S':Nat->Bool}{v:β}:∀{n:Nat},(∀k,k<n->S k=S' k)->val u S n v=val u S' n v
 |0,_=>rfl
 |n+1,h=>by simp only[val,h n aa,val_congr (n:=n) λk hk=>h k aa]
theorem jd{β:Type}{u:Nat->Option β}{S S':Nat->Bool}{v:β}{i:Nat}(hS:S i=false)(hS':∀k,S' k=(S k||k == i)):
  ∀{n:Nat},i<n->(∀j,i<j->j<n->S j=true->u i≠none->u j=none)->val u S' n v=(u i).getD (val u S n v)
 |0,h,_=>by omega
 |n+1,h,hu=>by
  by_cases e:n=i
  ·subst e;simp only[val,hS,hS'];simp only[LJ,BEq.rfl,Jw,Jy,Js];rw[val_congr (S:=S') (S':=S)];intro k hk;rw[hS'];have:(k == n)=false:=by simp;omega
   simp[this]
  ·have ih:=jd (u:=u) (v:=v) hS hS' (n:=n) aa λj a b=>hu j a aa;have en:(n == i)=false:=by simp;exact e
   simp only[val,hS',en,Bool.or_false,ih];by_cases hSn:S n=true
   ·simp only[hSn,Jw];have:=hu n aa aa hSn;cases hui:u i with
    |none=>rfl
    |some y=>rw[this (by simp[hui])];rfl
   ·simp only[hSn,Js,Jy]
theorem fz{β:Type}{u:Nat->Option β}{S:Nat->Bool}{v:β}{j:Nat}(h1:∀k,k<j->S k=false->u k=none):∀{n:Nat},j<=n->(∀k,j<=k->k<n->S k=true->u k=none)->val u S n v=val u (λ_=>true) j v
 |0,h,_=>by
  have:j=0:=by omega
  subst this;rfl
 |n+1,h,h2=>by
  by_cases e:j=n+1
  ·subst e;have key:∀m,m<=n+1->val u S m v=val u (λ_=>true) m v:=by
    intro m;induction m with
    |zero=>intro _;rfl
    |succ m ih=>
     intro hm;simp only[val,ih aa,Jw];by_cases hs:S m=true
     ·simp[hs]
     ·simp only[hs,Js,Jy];rw[h1 m aa (by simpa using hs)];rfl
   exact key _ (Jl _)
  ·have ih:=fz (u:=u) (v:=v) h1 (n:=n) aa λk a b=>h2 k a aa;simp only[val,ih];by_cases hs:S n=true
   ·simp only[hs,Jw];rw[h2 n aa aa hs];rfl
   ·simp only[hs,Js,Jy]
def apart(e f:Ent):Prop:=(∀id,id∈e.wr->id∉f.rd/\id∉f.wr)/\(∀id,id∈f.wr->id∉e.rd/\id∉e.wr)/\(∀t,t∈e.tk->t∉f.tk)
theorem apart.symm{e f:Ent}(h:apart e f):apart f e:=⟨h.2.1,h.1,λt a b=>h.2.2 t b a⟩
def cN:Rec:=⟨λ_=> .any,⟨λ_=>none,0,[],0⟩,⟨λ_=>none,0,[],0⟩,⟨λ_=>none,0,[],0⟩,⟨λ_=>none,0,[],0⟩,.any,aO⟩
def tU(ops:Array Oper)(recs:List Rec)(d:Nat)(i:Nat):Option AV:=if ((ops[i]?).bind (·.dst))=some d then some (recs.getD i cN).x else none
def oU(recs:List Rec)(id:Nat)(i:Nat):Option (Option Obj):=
 let r:=recs.getD i cN
 if ((r.h1.objs id).isSome\/(r.h1.n<=id/\id<r.h1'.n))/\id∈r.en.wr then some (r.h1'.objs id) else none
def kU(recs:List Rec)(t:Nat)(i:Nat):Option Bool:=
 let r:=recs.getD i cN
 if t∈r.h1.toks\/t∈r.h1'.toks then some (decide (t∈r.h1'.toks)) else none
theorem Touch.objs{h h1 h1' h':H}{en:Ent}(tc:Touch h h1 h1' h' en)(id:Nat):h'.objs id=if ((h1.objs id).isSome\/(h1.n<=id/\id<h1'.n))/\id∈en.wr then h1'.objs id else h.objs id:=by
 rw[tc.eq];simp only[H.patch];by_cases c:((h1.objs id).isSome\/(h1.n<=id/\id<h1'.n))
 ·by_cases hw:id∈en.wr
  ·simp[c,hw]
  ·simp only[c,hw,and_false,Jw,Js];have hs:(h1.objs id).isSome:=by
    rcases c with c|c
    ·exact c
    ·exact absurd (tc.wr id c.1 c.2) hw
   rw[tc.chg id hs hw];obtain ⟨o,ho⟩:=Lj.1 hs;rw[ho,tc.sub.1 id o ho]
 ·simp[c]
theorem Touch.toks{h h1 h1' h':H}{en:Ent}(tc:Touch h h1 h1' h' en)(t:Nat):t∈h'.toks↔(t∈h1'.toks\/(t∈h.toks/\t∉h1.toks)):=by
 rw[tc.eq];simp[H.patch,JW,Ku]
theorem gO{D:Nat->Bool}:∀{i:Nat}{recs:List Rec}{t t':Tm}{h h':H},eK P ops D i recs t h t' h'->i+recs.length=ops.size/\(∀k r,recs[k]? =some r->∃o,ops[i+k]? =some o/\Touch r.h r.h1 r.h1' r.h' r.en/\(D (i+k)=false->gq P ops (i+k) o r.t r.h1 r.x r.h1'))/\
  (∀r,recs[0]? =some r->r.t=t/\r.h=h)/\(∀k r r',recs[k]? =some r->recs[k+1]? =some r'->r'.t=bH r.t ((ops[i+k]?).bind (·.dst)) r.x/\r'.h=r.h')/\
  (∀r,recs.getLast? =some r->t'=bH r.t ((ops[i+(recs.length - 1)]?).bind (·.dst)) r.x/\h'=r.h')/\(recs=[]->t'=t/\h'=h):=by
 intro i recs t t' h h' hc;induction hc with
 |nil hi=>exact ⟨by simpa using hi,by simp,by simp,by simp,by simp,by simp⟩
 | @cons i o r rs t t' h h' ho e1 e2 tc run rest ih=>
  obtain ⟨a1,a2,a3,a4,a5,a6⟩:=ih;subst e1 e2;refine ⟨by simp;omega,?_,by simp,?_,?_,by simp⟩
  ·intro k q hq;cases k with
   |zero=>simp at hq;subst hq;exact ⟨o,by simpa using ho,tc,by simpa using run⟩
   |succ k=>
    simp at hq;have:=a2 k q hq
    rwa [show i+1+k=i+(k+1) by omega] at this
  ·intro k q q' hq hq';cases k with
   |zero=>
    simp at hq hq';subst hq;obtain ⟨b1,b2⟩:=a3 q' (by simpa using hq');exact ⟨by simp[ho,b1],b2⟩
   |succ k=>
    simp at hq hq';have:=a4 k q q' hq hq'
    rwa [show i+1+k=i+(k+1) by omega] at this
  ·intro q hq;cases rs with
   |nil=>
    simp at hq;subst hq;obtain ⟨b1,b2⟩:=a6 rfl;exact ⟨by simp[ho,b1],b2⟩
   |cons r2 rs2=>
    rw[List.getLast?_cons_cons] at hq;have:=a5 q hq;simp only[List.length_cons,Nat.add_sub_cancel] at this |-
    rwa [show i+1+rs2.length=i+(rs2.length+1) by omega] at this
end
section
variable{P:Program}{ops:Array Oper}
def cL(ops:Array Oper)(i j:Nat):Bool:=((Region.before ops).getD j 0).testBit i
structure iB(ops:Array Oper)(recs:List Rec)(t0:Tm)(h0:H)(i:Nat)(t:Tm)(h:H):Prop where
 t:∀d,t d=val (tU ops recs d) (λ_=>true) i (t0 d)
 o:∀id,h.objs id=val (oU recs id) (λ_=>true) i (h0.objs id)
 k:∀tk,decide (tk∈h.toks)=val (kU recs tk) (λ_=>true) i (decide (tk∈h0.toks))
theorem jN{recs:List Rec}{t0:Tm}{h0:H}{i:Nat}{r:Rec}(hr:recs[i]? =some r)(tc:Touch r.h r.h1 r.h1' r.h' r.en)(p:iB ops recs t0 h0 i r.t r.h):
  iB ops recs t0 h0 (i+1) (bH r.t ((ops[i]?).bind (·.dst)) r.x) r.h':=by
 have hg:recs.getD i cN=r:=by simp[List.getD,hr]
 constructor
 ·intro d;simp only[val,Jw,tU,hg,<-p.t];cases e:(ops[i]?).bind (·.dst) with
  |none=>simp[bH]
  |some k=>
   simp only[bH,upd];by_cases hd:d=k
   ·subst hd;simp
   ·rw[Jr hd,Jr (by simpa using LO hd)];rfl
 ·intro id;simp only[val,Jw,oU,hg,<-p.o,tc.objs id];split<;>rfl
 ·intro tk;simp only[val,Jw,kU,hg,<-p.k];have:=tc.toks tk;by_cases c:tk∈r.h1.toks\/tk∈r.h1'.toks
  ·rw[JC c];simp only[Option.getD_some,decide_eq_decide,this];constructor
   ·rintro (h|⟨h1,h2⟩)
    ·exact h
    ·exact c.resolve_left h2
   ·exact .inl
  ·rw[Jr c];simp only[Option.getD_none,decide_eq_decide,this];simp only[not_or] at c;constructor
   ·rintro (h|h)
    ·exact absurd h c.2
    ·exact h.1
   ·intro h;exact .inr ⟨h,c.1⟩
theorem Bd{D:Nat->Bool}{recs:List Rec}{t0 t':Tm}{h0 h':H}(hc:eK P ops D 0 recs t0 h0 t' h'):(∀i r,recs[i]? =some r->iB ops recs t0 h0 i r.t r.h)/\iB ops recs t0 h0 ops.size t' h':=by
 obtain ⟨a1,a2,a3,a4,a5,a6⟩:=gO hc;have base:iB ops recs t0 h0 0 t0 h0:=⟨λ_=>rfl,λ_=>rfl,λ_=>rfl⟩;have key:∀i r,recs[i]? =some r->iB ops recs t0 h0 i r.t r.h:=by
  intro i;induction i with
  |zero=>intro r hr;obtain ⟨e1,e2⟩:=a3 r hr;rw[e1,e2];exact base
  |succ i ih=>
   intro r' hr';have hlt:i<recs.length:=by
    have:i+1<recs.length:=by
     rcases Kn (i+1) recs.length with h|h
     ·exact h
     ·rw[Kv h] at hr';cases hr'
    omega
   obtain ⟨o,_,tc,_⟩:=a2 i recs[i] (Jm hlt);obtain ⟨e1,e2⟩:=a4 i recs[i] r' (Jm hlt) hr';rw[e1,e2];simpa using jN (Jm hlt) tc (ih _ (Jm hlt))
 refine ⟨key,?_⟩;by_cases he:recs=[]
 ·obtain ⟨e1,e2⟩:=a6 he;subst he;simp at a1;rw[e1,e2,<-a1];exact base
 ·have hpos:0<recs.length:=Lh.2 he;have hlt:recs.length - 1<recs.length:=by omega
  have hl:recs.getLast? =some recs[recs.length - 1]:=by
   rw[List.getLast?_eq_getElem?];exact Jm hlt
  obtain ⟨e1,e2⟩:=a5 _ hl;obtain ⟨o,_,tc,_⟩:=a2 _ _ (Jm hlt);have:=jN (Jm hlt) tc (key _ _ (Jm hlt));rw[e1,e2];simp only[JG] at this a1 |-;have hn:recs.length - 1+1=ops.size:=by omega
  rwa [hn] at this
structure Tidy(ops:Array Oper):Prop where
 back:∀(i:Nat) o,ops[i]? =some o->∀e∈o.after,Region.binds .any e=true->e.on<i
 anc:∀(i:Nat) o,ops[i]? =some o->∀j,cL ops j i=true->∃e∈o.after,Region.binds .any e=true/\(j=e.on\/cL ops j e.on=true)
 tmp:∀(i j:Nat) o o',ops[i]? =some o->ops[j]? =some o'->i≠j->∀d,o.dst=some d->d∈names ops o'->cL ops i j=true\/cL ops j i=true
def Be(ops:Array Oper)(S:Nat->Bool):Prop:=∀(i:Nat) o,ops[i]? =some o->S i=true->∀e∈o.after,Region.binds .any e=true->S e.on=true
theorem Bf{S:Nat->Bool}(T:Tidy ops)(hS:Be ops S):∀(i:Nat) o,ops[i]? =some o->(∀e∈o.after,Region.binds .any e=true->S e.on=true)->∀j,cL ops j i=true->S j=true:=by
 intro i;induction i using Nat.strongRecOn with
 |_ i ih=>
  intro o ho he j hj;obtain ⟨e,hm,hbd,h⟩:=T.anc i o ho j hj;rcases h with rfl|h
  ·exact he e hm hbd
  ·have hlt:=T.back i o ho e hm hbd;have hsz:e.on<ops.size:=Nat.lt_trans hlt (J0.1 ho).1;exact ih e.on hlt ops[e.on] (JX hsz) (λe' he'=>hS e.on _ (JX hsz) (he e hm hbd) e' he') j h
def HS(recs:List Rec)(h0:H)(n:Nat)(ne me:Nat)(S:Nat->Bool):H where
 objs id:=val (oU recs id) S n (h0.objs id)
 n:=ne
 toks:=(h0.toks++recs.flatMap (λr=>r.h1'.toks)).filter λt=>val (kU recs t) S n (decide (t∈h0.toks))
 m:=me
theorem gY{u:Nat->Option Bool}{S:Nat->Bool}:∀{n:Nat},val u S n false=true->∃i,i<n/\u i=some true
 |0,h=>by simp[val] at h
 |n+1,h=>by
  simp only[val] at h;by_cases hs:S n=true
  ·simp only[hs,Jw] at h;cases hu:u n with
   |none=>rw[hu] at h;obtain ⟨i,a,b⟩:=gY (n:=n) h;exact ⟨i,aa,b⟩
   |some y=>rw[hu] at h;simp at h;subst h;exact ⟨n,aa,hu⟩
  ·simp only[hs,Js,Jy] at h;obtain ⟨i,a,b⟩:=gY (n:=n) h;exact ⟨i,aa,b⟩
theorem lF{recs:List Rec}{h0:H}{n ne me:Nat}{S:Nat->Bool}(hn:n=recs.length)(t:Nat):t∈(HS recs h0 n ne me S).toks↔val (kU recs t) S n (decide (t∈h0.toks))=true:=by
 simp only[HS,Ku,JW,Lk];refine ⟨λh=>h.2,λh=>⟨?_,h⟩⟩;by_cases h0t:t∈h0.toks
 ·exact .inl h0t
 ·rw[Jn h0t] at h;obtain ⟨i,hi,hu⟩:=gY h;rw[hn] at hi;refine .inr ⟨recs[i],KG hi,?_⟩;simp only[kU,List.getD,Jm hi,Option.getD_some] at hu;split at hu
  ·simpa using hu
  ·cases hu
def count(n:Nat)(S:Nat->Bool):Nat:=((List.range n).filter λk=> !S k).length
theorem count_insert{n i:Nat}{S S':Nat->Bool}(hS:S i=false)(hS':∀k,S' k=(S k||k == i))(hi:i<n):count n S'+1=count n S:=by
 unfold count;induction n with
 |zero=>omega
 |succ n ih=>
  simp only[List.range_succ,List.filter_append,Ju];by_cases e:n=i
  ·subst e;have:(List.range n).filter (λk=> !S' k)=(List.range n).filter (λk=> !S k):=by
    apply List.filter_congr;intro k hk;have:(k == n)=false:=by simp at hk |-;omega
    simp[hS',this]
   rw[this];simp[hS',hS]
  ·have:=ih aa;have en:(n == i)=false:=by simp;exact e
   have e2:([n].filter λk=> !S' k)=[n].filter λk=> !S k:=by simp[List.filter_cons,hS',en]
   rw[e2];omega
theorem uY{n:Nat}{S:Nat->Bool}(h:count n S=0):∀k,k<n->S k=true:=by
 intro k hk;unfold count at h;rw[Ld,List.filter_eq_nil_iff] at h;simpa using h k (by simpa using hk)
theorem mJ(ops:Array Oper)(listed:Array Bool)(T:Tidy ops){i:Nat}{o:Oper}(ho:ops[i]? =some o):i∈Region.ready .any ops listed↔listed.getD i true=false/\∀e∈o.after,Region.binds .any e=true->listed.getD e.on false=true:=by
 have hi:i<ops.size:=(J0.1 ho).1;simp only[Region.ready,Ku,Kg,hi,KP,ho,Option.map_some,Option.getD_some,Jv,Bool.not_eq_true'];refine and_congr_right λ_=>?_;rw[Array.all_eq_true_iff_forall_mem];constructor
 ·intro h e he hb;have:=h e he;simpa [hb] using this
 ·intro h e he;cases hb:Region.binds .any e with
  |false=>rfl
  |true=>simp[h e he hb]
theorem mK(T:Tidy ops){k:Nat}:∀(q:Nat) oq,ops[q]? =some oq->cL ops k q=true->k<q:=by
 intro q;induction q using Nat.strongRecOn with
 |_ q ihq=>
  intro oq hoq hq';obtain ⟨e,hm,hbd,hh⟩:=T.anc q oq hoq k hq';have hb:=T.back q oq hoq e hm hbd;rcases hh with rfl|hh
  ·exact hb
  ·have hsz:e.on<ops.size:=Nat.lt_trans hb (J0.1 hoq).1;exact Nat.lt_trans (ihq e.on hb _ (JX hsz) hh) hb
theorem Trans.toSub{G G':aE}{w w':World}{h h' h2:H}(T:Trans G w h G' w' h')(hs:h2.sub h')(hn:h2.n=h'.n)(hm:h2.m=h'.m):Trans G w h G' w' h2:=
 {T with
  O_new:=λB hB x=>T.O_new B hB (by obtain ⟨id,o,ho,e⟩:=x;exact ⟨id,o,hs.1 _ _ ho,e⟩)
  T_new:=λB hB x=>T.T_new B hB (by obtain ⟨t,ht,e⟩:=x;exact ⟨t,hs.2 t ht,e⟩)
  objs_new:=λj o hj=>by rw[hn];exact T.objs_new j o (hs.1 _ _ hj)
  toks_new:=λt ht=>by rw[hm];exact T.toks_new t (hs.2 t ht)
  n_le:=by rw[hn];exact T.n_le
  m_le:=by rw[hm];exact T.m_le
  dom_new:=by rw[hn];exact T.dom_new
  tdom_new:=by rw[hm];exact T.tdom_new}
theorem qG(ro:Option Nat){D:Nat->Bool}{pj:Nat}{pv:Value}{N:Nat}{Q:Exit->Act->World->Prop}(hN:∀(i:Nat) o d,ops[i]? =some o->o.dst=some d->d<N)(T:Tidy ops){recs:List Rec}{t0 t':Tm}{h0 h':H}(hc:eK P ops D 0 recs t0 h0 t' h')
  (ap:∀i j,i<j->j<ops.size->cL ops i j=false->apart (recs.getD i cN).en (recs.getD j cN).en)
  {G0:aE} {w0:World} {a0:Act} (R0:aM G0 h0 w0) (F0:bP G0 h0 h')
  (hq:(∀i,D i=false)->∀G' w' a',Trans G0 w0 h0 G' w' h'->bQ G' w' t' a'->aM G' h' w'->a'.tmps.size=N->a'.defers=a0.defers->Q .normal a' w')
  (hD:∀i,D i=true->(D pj=true/\pj<ops.size)/\(i=pj\/∃k,D k=true/\cL ops k i=true))
  (hP:D pj=true->∀o r,ops[pj]? =some o->recs[pj]? =some r->jK P ops pj o r.t r.h1 pv r.h1'/\(∀k,k<ops.size->k≠pj->cL ops k pj=false->cL ops pj k=false->(recs.getD k cN).en.tk=[]/\(k<pj->(recs.getD k cN).en.wr=[])/\∀id∈(recs.getD k cN).en.wr,r.h'.objs id=none)/\
   ∀G' w' a',Trans G0 w0 h0 G' w' {r.h' with n:=h'.n,m:=h'.m}->aM G' {r.h' with n:=h'.n,m:=h'.m} w'->a'.tmps.size=N->a'.defers=a0.defers->Q (.panic [{v:=pv,recovered:=false}]) a' w'):
  ∀(fuel:Nat)(listed:Array Bool)(G:aE)(w:World)(a:Act),listed.size=ops.size->count ops.size (λk=>listed.getD k false)<=fuel->Be ops (λk=>listed.getD k false)->(∀k,D k=true->listed.getD k false=false)->
   a.tmps.size=N->a.defers=a0.defers->(∀d,au G w (val (tU ops recs d) (λk=>listed.getD k false) ops.size (t0 d)) (a.tmps.getD d undef))->
   aM G (HS recs h0 ops.size h'.n h'.m (λk=>listed.getD k false)) w->Trans G0 w0 h0 G w (HS recs h0 ops.size h'.n h'.m (λk=>listed.getD k false))->
   (∀id,G.dom id->G0.dom id\/∃k,k<ops.size/\listed.getD k false=true/\(recs.getD k cN).h1.n<=id/\id<(recs.getD k cN).h1'.n)->
   (∀id,G.tdom id->G0.tdom id\/∃k,k<ops.size/\listed.getD k false=true/\(recs.getD k cN).h1.m<=id/\id<(recs.getD k cN).h1'.m)->
   wpAnyIn (rd ro) 0 P .any ops Q fuel listed a w:=by
 obtain ⟨a1,a2,a3,a4,a5,a6⟩:=gO hc;obtain ⟨pre,preEnd⟩:=Bd hc;rw[JG] at a1;have full:∀(listed:Array Bool)(G:aE)(w:World)(a:Act),(∀k,k<ops.size->listed.getD k false=true)->(∀k,D k=true->listed.getD k false=false)->a.tmps.size=N->a.defers=a0.defers->(∀d,au G w (val (tU ops recs d) (λk=>listed.getD k false) ops.size (t0 d)) (a.tmps.getD d undef))->
   aM G (HS recs h0 ops.size h'.n h'.m (λk=>listed.getD k false)) w->Trans G0 w0 h0 G w (HS recs h0 ops.size h'.n h'.m (λk=>listed.getD k false))->Q .normal a w:=by
  intro listed G w a hall hlj hs hd ht R Tr;have hDf:∀i,D i=false:=by
   intro i;cases hi:D i with
   |false=>rfl
   |true=>
    obtain ⟨⟨d1,d2⟩,-⟩:=hD i hi;have:=hlj pj d1;rw[hall pj d2] at this;cases this
  have ho:(HS recs h0 ops.size h'.n h'.m (λk=>listed.getD k false)).objs=h'.objs:=by
   funext id;simp only[HS];rw[val_congr (S':=λ_=>true) hall,<-preEnd.o]
  have hk:∀t,t∈(HS recs h0 ops.size h'.n h'.m (λk=>listed.getD k false)).toks↔t∈h'.toks:=by
   intro t;rw[lF a1.symm,val_congr (S':=λ_=>true) hall,<-preEnd.k];simp
  refine hq hDf G w a (Tr.same rfl (λ_=>Lr) ho.symm (λt=>(hk t).symm) (Jl _) (Jl _) Tr.n_le (Jl _) (Jl _) Tr.m_le) ?_ (R.same ho.symm λt x=>(hk t).2 x) hs hd;intro d;have:=ht d
  rwa [val_congr (S':=λ_=>true) hall,<-preEnd.t] at this
 have noready:∀(listed:Array Bool),listed.size=ops.size->Region.ready .any ops listed=[]->∀k,k<ops.size->listed.getD k false=true:=by
  intro listed hls hr k;induction k using Nat.strongRecOn with
  |_ k ih=>
   intro hk;cases hl:listed.getD k false with
   |true=>rfl
   |false=>
    exfalso;have ho:=JX hk;have:k∈Region.ready .any ops listed:=by
     rw[mJ ops listed T ho];refine ⟨?_,λe he hbd=>?_⟩
     ·have hk':k<listed.size:=by omega
      simp[hk'] at hl |-;exact hl
     ·have:=T.back k _ ho e he hbd;exact ih e.on this aa
    rw[hr] at this;cases this
 intro fuel;induction fuel with
 |zero=>
  intro listed G w a hls hcnt hcl hlj hs hd ht R Tr _ _;have hall:=uY (Nat.le_zero.1 hcnt);refine ⟨?_,full listed G w a hall hlj hs hd ht R Tr⟩;rw[List.eq_nil_iff_forall_not_mem];intro i hi;have hlt:i<ops.size:=by simp[Region.ready] at hi;exact hi.1
  rw[mJ ops listed T (JX hlt)] at hi;have h1:=hall i hlt;have h2:=hi.1;have hk':i<listed.size:=by omega
  simp[hk'] at h1 h2;rw[h1] at h2;cases h2
 |succ fuel ih=>
  intro listed G w a hls hcnt hcl hlj hs hd ht R Tr hdom htdom;refine ⟨λhr=>full listed G w a (noready listed hls hr) hlj hs hd ht R Tr,λi hi=>?_⟩;have hlt:i<ops.size:=by simp[Region.ready] at hi;exact hi.1
  have ho:=JX hlt;have hltr:i<recs.length:=by omega
  have hr:=Jm hltr;obtain ⟨o',ho',tc,run⟩:=a2 i _ hr;rw[JG] at ho' run;obtain rfl:ops[i]=o':=LV (ho.symm.trans ho');rw[mJ ops listed T ho] at hi;obtain ⟨hli,hedges⟩:=hi;have hil:i<listed.size:=by omega
  have hSi:listed.getD i false=false:=by simp[hil] at hli |-;exact hli
  have hgr:recs.getD i cN=recs[i]:=by simp[List.getD,hr]
  generalize hrr:recs[i]=r at*
  have p:=pre i r hr;have ancS:=Bf T hcl i _ ho hedges;have late:∀k,i<k->k<ops.size->listed.getD k false=true->cL ops i k=false:=by
   intro k h1 h2 h3;cases hb:cL ops i k with
   |false=>rfl
   |true=>
    have:=Bf T hcl k _ (JX h2) (hcl k _ (JX h2) h3) i hb;rw[hSi] at this;cases this
  have early:∀k,k<i->listed.getD k false=false->cL ops k i=false:=by
   intro k h1 h3;cases hb:cL ops k i with
   |false=>rfl
   |true=>rw[ancS k hb] at h3;cases h3
  have apI:∀k,k<ops.size->((k<i/\listed.getD k false=false)\/(i<k/\listed.getD k false=true))->apart (recs.getD k cN).en r.en:=by
   intro k hk h;rcases h with ⟨h1,h2⟩|⟨h1,h2⟩
   ·have:=ap k i h1 hlt (early k h1 h2);rwa [hgr] at this
   ·have:=(ap i k h1 hk (late k h1 hk h2)).symm;rwa [hgr] at this
  have hobj:∀id,id∈r.en.rd\/id∈r.en.wr->(HS recs h0 ops.size h'.n h'.m (λk=>listed.getD k false)).objs id=r.h.objs id:=by
   intro id hid;simp only[HS];rw[p.o];have none_of:∀k,k<ops.size->((k<i/\listed.getD k false=false)\/(i<k/\listed.getD k false=true))->oU recs id k=none:=by
    intro k hk h;have hap:=apI k hk h;simp only[oU];rw[Jr];rintro ⟨_,hw⟩;have:=hap.1 id hw;rcases hid with h|h
    ·exact this.1 h
    ·exact this.2 h
   refine fz (λk h1 h2=>none_of k aa (.inl ⟨h1,h2⟩)) (Nat.le_of_lt hlt) λk h1 h2 h3=>?_;rcases Kn i k with h|h
   ·exact none_of k h2 (.inr ⟨h,h3⟩)
   ·have:k=i:=by omega
    subst this;rw[hSi] at h3;cases h3
  have htok:∀t,t∈r.en.tk->(t∈(HS recs h0 ops.size h'.n h'.m (λk=>listed.getD k false)).toks↔t∈r.h.toks):=by
   intro t hid;rw[lF a1.symm];have none_of:∀k,k<ops.size->((k<i/\listed.getD k false=false)\/(i<k/\listed.getD k false=true))->kU recs t k=none:=by
    intro k hk h;have hap:=apI k hk h;have hkr:k<recs.length:=by omega
    obtain ⟨ok,_,tck,_⟩:=a2 k _ (Jm hkr);have hgk:recs.getD k cN=recs[k]:=by simp[List.getD,Jm hkr]
    rw[hgk] at hap;simp only[kU,hgk];rw[Jr];rintro (hw|hw)
    ·exact hap.2.2 t (tck.tk t hw) hid
    ·exact hap.2.2 t (tck.tn t hw) hid
   have:=fz (u:=kU recs t) (S:=λk=>listed.getD k false) (v:=decide (t∈h0.toks)) (λk h1 h2=>none_of k aa (.inl ⟨h1,h2⟩)) (Nat.le_of_lt hlt) λk h1 h2 h3=>by
    rcases Kn i k with h|h
    ·exact none_of k h2 (.inr ⟨h,h3⟩)
    ·have:k=i:=by omega
     subst this;rw[hSi] at h3;cases h3
   rw[this,<-p.k];simp
  have htmp:∀d,d∈names ops ops[i]->val (tU ops recs d) (λk=>listed.getD k false) ops.size (t0 d)=r.t d:=by
   intro d hdn;rw[p.t];have none_of:∀k,k<ops.size->((k<i/\listed.getD k false=false)\/(i<k/\listed.getD k false=true))->tU ops recs d k=none:=by
    intro k hk h;simp only[tU];rw[Jr];intro hdst;rw[JX hk] at hdst;have hne:k≠i:=by omega
    rcases T.tmp k i _ _ (JX hk) ho hne d hdst hdn with hx|hx
    ·rcases h with ⟨h1,h2⟩|⟨h1,h2⟩
     ·rw[early k h1 h2] at hx;cases hx
     ·
      have:=ancS k hx;have:=mK T i _ ho hx;omega
    ·rcases h with ⟨h1,h2⟩|⟨h1,h2⟩
     ·have:=mK T k _ (JX hk) hx;omega
     ·rw[late k h1 hk h2] at hx;cases hx
   refine fz (λk h1 h2=>none_of k aa (.inl ⟨h1,h2⟩)) (Nat.le_of_lt hlt) λk h1 h2 h3=>?_;rcases Kn i k with h|h
   ·exact none_of k h2 (.inr ⟨h,h3⟩)
   ·have:k=i:=by omega
    subst this;rw[hSi] at h3;cases h3
  obtain ⟨-,nm2,nm3⟩:=jM hc;have F:bP G r.h1 r.h1':=by
   obtain ⟨⟨b1,b2⟩,b3,b4⟩:=nm2 i r hr;constructor
   ·intro id c1 c2 hd';rcases hdom id hd' with hd'|⟨k,hk,hSk,d1,d2⟩
    ·exact F0.1 id aa aa hd'
    ·have hkr:k<recs.length:=by omega
     have hgk:recs.getD k cN=recs[k]:=by simp[List.getD,Jm hkr]
     rw[hgk] at d1 d2;rcases Nat.lt_trichotomy k i with h|h|h
     ·have:=(nm3 k i _ _ h (Jm hkr) hr).1;omega
     ·subst h;rw[hSi] at hSk;cases hSk
     ·have:=(nm3 i k _ _ h hr (Jm hkr)).1;omega
   ·intro id c1 c2 hd';rcases htdom id hd' with hd'|⟨k,hk,hSk,d1,d2⟩
    ·exact F0.2 id aa aa hd'
    ·have hkr:k<recs.length:=by omega
     have hgk:recs.getD k cN=recs[k]:=by simp[List.getD,Jm hkr]
     rw[hgk] at d1 d2;rcases Nat.lt_trichotomy k i with h|h|h
     ·have:=(nm3 k i _ _ h (Jm hkr) hr).2;omega
     ·subst h;rw[hSi] at hSk;cases hSk
     ·have:=(nm3 i k _ _ h hr (Jm hkr)).2;omega
  generalize hSdef:(λk=>listed.getD k false)=S at*
  have hSk:∀k,listed.getD k false=S k:=λk=>by rw[<-hSdef]
  let HSi:H:={HS recs h0 ops.size h'.n h'.m S with n:=r.h.n,m:=r.h.m}
  have Ri:aM G HSi w:=R.same rfl λ_ x=>x;have hsub:r.h1.sub HSi:=by
   refine ⟨λj o hj=>?_,λt ht'=>?_⟩
   ·show (HS recs h0 ops.size h'.n h'.m S).objs j=some o;rw[hobj j (tc.rd j (by rw[hj];rfl))];exact tc.sub.1 j o hj
   ·show t∈(HS recs h0 ops.size h'.n h'.m S).toks;rw[htok t (tc.tk t ht')];exact tc.sub.2 t ht'
  have hS':∀k,(listed.setIfInBounds i true).getD k false=(S k||k == i):=by
   intro k;rw[<-hSk];by_cases e:k=i
   ·subst e;simp[hil]
   ·simp[Lo,LO e,e]
  generalize hSdef':(λk=>(listed.setIfInBounds i true).getD k false)=S';have hS2:∀k,S' k=(S k||k == i):=λk=>by rw[<-hSdef'];exact hS' k
  have hSi':S i=false:=by rw[<-hSk];exact hSi
  have apJ:∀j,i<j->j<ops.size->S j=true->apart (recs.getD j cN).en r.en:=λj h1 h2 h3=>apI j h2 (.inr ⟨h1,(hSk j).trans h3⟩);have eobj:∀id,(HS recs h0 ops.size h'.n h'.m S').objs id=(HSi.patch r.h1 r.h1').objs id:=by
   intro id;have hv:=jd (u:=oU recs id) (v:=h0.objs id) hSi' hS2 hlt (λj h1 h2 h3 hne=>by
    have hap:=apJ j h1 h2 h3;simp only[oU];rw[Jr];rintro ⟨_,hw⟩;apply hne;simp only[oU,hgr];rw[Jr];rintro ⟨_,hw'⟩;exact (hap.1 id hw).2 hw')
   show val (oU recs id) S' ops.size (h0.objs id)=_;rw[hv];simp only[oU,hgr,H.patch];by_cases c:((r.h1.objs id).isSome\/(r.h1.n<=id/\id<r.h1'.n))
   ·by_cases hw:id∈r.en.wr
    ·simp[c,hw]
    ·simp only[c,hw,and_false,Js,Jw,Option.getD_none];have hs:(r.h1.objs id).isSome:=by
      rcases c with c|c
      ·exact c
      ·exact absurd (tc.wr id c.1 c.2) hw
     rw[tc.chg id hs hw];show (HS recs h0 ops.size h'.n h'.m S).objs id=_;rw[hobj id (tc.rd id hs)];obtain ⟨o,hoo⟩:=Lj.1 hs;rw[hoo];exact tc.sub.1 id o hoo
   ·simp only[c,false_and,Js,Option.getD_none];rfl
  have etok:∀tk,tk∈(HS recs h0 ops.size h'.n h'.m S').toks↔tk∈(HSi.patch r.h1 r.h1').toks:=by
   intro tk;have hv:=jd (u:=kU recs tk) (v:=decide (tk∈h0.toks)) hSi' hS2 hlt (λj h1 h2 h3 hne=>by
    have hap:=apJ j h1 h2 h3;have hjr:j<recs.length:=by omega
    obtain ⟨ok,_,tck,_⟩:=a2 j _ (Jm hjr);have hgk:recs.getD j cN=recs[j]:=by simp[List.getD,Jm hjr]
    rw[hgk] at hap;simp only[kU,hgk];rw[Jr];intro hw;apply hne;simp only[kU,hgr];rw[Jr];intro hw';have h1:tk∈recs[j].en.tk:=hw.elim (tck.tk tk) (tck.tn tk);have h2:tk∈r.en.tk:=hw'.elim (tc.tk tk) (tc.tn tk);exact hap.2.2 tk h1 h2)
   rw[lF a1.symm,hv];have hm:=lF (recs:=recs) (h0:=h0) (ne:=h'.n) (me:=h'.m) (S:=S) a1.symm tk;simp only[H.patch,JW,Ku];simp only[kU,hgr];by_cases c:tk∈r.h1.toks\/tk∈r.h1'.toks
   ·rw[JC c];simp only[Option.getD_some,JE];constructor
    ·exact .inl
    ·rintro (h|⟨h1,h2⟩)
     ·exact h
     ·exact c.resolve_left (by simpa using h2)
   ·rw[Jr c];simp only[Option.getD_none];rw[<-hm];simp only[not_or] at c;constructor
    ·intro h;exact .inr ⟨h,by simpa using c.1⟩
    ·rintro (h|h)
     ·exact absurd h c.2
     ·exact h.1
  have nmi:=nm2 i r hr;have n0:=tc.n;have m0:=tc.m;have le0:=tc.le;have lem0:=tc.lem;have hle:=Tr.n_le;have hlem:=Tr.m_le;simp only[HS] at hle hlem;have after:∀G' w',Trans G w r.h1 G' w' r.h1'->aM G' r.h1' w'->Trans G w HSi G' w' (HSi.patch r.h1 r.h1')/\aM G' (HS recs h0 ops.size h'.n h'.m S') w'/\Trans G0 w0 h0 G' w' (HS recs h0 ops.size h'.n h'.m S'):=by
   intro G' w' T1 R1;obtain ⟨R2,T2⟩:=frame Ri hsub tc.n tc.m R1 T1 F;have T3:Trans G w {HS recs h0 ops.size h'.n h'.m S with n:=h0.n,m:=h0.m} G' w' (HS recs h0 ops.size h'.n h'.m S'):=
    T2.same rfl (λ_=>Lr) (funext eobj) etok (by show h0.n<=r.h.n;omega) (by show r.h1'.n<=h'.n;omega) hle (by show h0.m<=r.h.m;omega) (by show r.h1'.m<=h'.m;omega) hlem
   have T4:=Tr.trans' (h'':=HS recs h0 ops.size h'.n h'.m S') (h2:={HS recs h0 ops.size h'.n h'.m S with n:=h0.n,m:=h0.m}) R0 rfl (λ_=>Lr) (Jl _) (Jl _) hle (Jl _) (Jl _) hlem R T3;exact ⟨T2,R2.same (funext eobj) λt x=>(etok t).1 x,T4⟩
  have tset:∀d,val (tU ops recs d) S' ops.size (t0 d)=bH (λd=>val (tU ops recs d) S ops.size (t0 d)) ops[i].dst r.x d:=by
   intro d;have hv:=jd (u:=tU ops recs d) (v:=t0 d) hSi' hS2 hlt (λj h1 h2 h3 hne=>by
    simp only[tU];rw[Jr];intro hdj;apply hne;simp only[tU];rw[Jr];intro hdi;rw[ho] at hdi;rw[JX h2] at hdj;rcases T.tmp i j _ _ ho (JX h2) aa d hdi (by simp only[names,JW];left;left;rw[show ops[j].dst=some d from hdj];simp) with hx|hx
    ·rw[late j h1 h2 ((hSk j).trans h3)] at hx;cases hx
    ·have:=mK T i _ ho hx;omega)
   rw[hv];simp only[tU,ho,Option.bind_some,hgr];cases hd':ops[i].dst with
   |none=>simp[bH]
   |some k=>
    simp only[bH,upd];by_cases e:d=k
    ·subst e;simp
    ·rw[Jr e,Jr (by simpa using LO e)];rfl
  cases hDi:D i with
  |true=>
   obtain ⟨⟨d1,d2⟩,d3⟩:=hD i hDi;have eij:i=pj:=by
    rcases d3 with e|⟨k,dk,e⟩
    ·exact e
    ·exfalso;have h1:listed.getD k false=true:=ancS k e;have h2:=hlj k dk;rw[h1] at h2;cases h2
   subst eij;obtain ⟨pr,un,hqp⟩:=hP d1 _ r ho hr;refine pr G w a (λd hd'=>by rw[<-htmp d hd'];exact ht d) (Ri.sub hsub) F _ Q (λG' w' T1 R1=>?_) ro;obtain ⟨-,R3,T3⟩:=after G' w' T1 R1;have px:=jN hr tc p;have unS:∀k,k<ops.size->((k<i+1/\S' k=false)\/(i+1<=k/\S' k=true))->(recs.getD k cN).en.tk=[]/\∀id∈(recs.getD k cN).en.wr,r.h'.objs id=none:=by
    intro k hk h;rw[hS2] at h;have hne:k≠i:=by
     rintro rfl;rcases h with ⟨h1,h2⟩|⟨h1,h2⟩
     ·simp at h2
     ·omega
    have hbe:(k == i)=false:=by simpa using hne
    rw[hbe,Bool.or_false] at h;rcases h with ⟨h1,h2⟩|⟨h1,h2⟩
    ·have:=un k hk hne (early k aa ((hSk k).trans h2)) (by
      cases hb:cL ops i k with
      |false=>rfl
      |true=>have:=mK T k _ (JX hk) hb;omega)
     exact ⟨this.1,this.2.2⟩
    ·have:=un k hk hne (by
      cases hb:cL ops k i with
      |false=>rfl
      |true=>have:=mK T i _ ho hb;omega) (late k aa hk ((hSk k).trans h2))
     exact ⟨this.1,this.2.2⟩
   have eo:∀id o,r.h'.objs id=some o->(HS recs h0 ops.size h'.n h'.m S').objs id=some o:=by
    intro id o hid;have none_of:∀k,k<ops.size->((k<i+1/\S' k=false)\/(i+1<=k/\S' k=true))->oU recs id k=none:=by
     intro k hk h;simp only[oU];rw[Jr];rintro ⟨_,hw⟩;have:=(unS k hk h).2 id hw;rw[this] at hid;cases hid
    have e:=fz (v:=h0.objs id) (λk h1 h2=>none_of k aa (.inl ⟨h1,h2⟩)) aa λk h1 h2 h3=>none_of k h2 (.inr ⟨h1,h3⟩);show val (oU recs id) S' ops.size (h0.objs id)=some o;rw[e,<-px.o];exact hid
   have et:∀tk,tk∈(HS recs h0 ops.size h'.n h'.m S').toks↔tk∈r.h'.toks:=by
    intro tk;rw[lF a1.symm];have none_of:∀k,k<ops.size->((k<i+1/\S' k=false)\/(i+1<=k/\S' k=true))->kU recs tk k=none:=by
     intro k hk h;have hkr:k<recs.length:=by omega
     obtain ⟨ok,_,tck,_⟩:=a2 k _ (Jm hkr);have hgk:recs.getD k cN=recs[k]:=by simp[List.getD,Jm hkr]
     have hz:=(unS k hk h).1;rw[hgk] at hz;simp only[kU,hgk];rw[Jr];rintro (hw|hw)
     ·have:=tck.tk tk hw;rw[hz] at this;cases this
     ·have:=tck.tn tk hw;rw[hz] at this;cases this
    have e:=fz (v:=decide (tk∈h0.toks)) (λk h1 h2=>none_of k aa (.inl ⟨h1,h2⟩)) aa λk h1 h2 h3=>none_of k h2 (.inr ⟨h1,h3⟩);rw[e,<-px.k];simp
   have hsubX:H.sub {r.h' with n:=h'.n,m:=h'.m} (HS recs h0 ops.size h'.n h'.m S'):=⟨λj o hj=>eo j o hj,λt x=>(et t).2 x⟩;refine hqp G' w' a (T3.toSub hsubX rfl rfl) (R3.sub hsubX) hs hd
  |false=>
  refine run hDi G w a (λd hd'=>by rw[<-htmp d hd'];exact ht d) (Ri.sub hsub) F _ Q (λG' w' v T1 R1 V=>?_) ro;obtain ⟨T2,R2,T4⟩:=after G' w' T1 R1;have hput:bQ G' w' (bH (λd=>val (tU ops recs d) S ops.size (t0 d)) ops[i].dst r.x) (a.put ops[i].dst v):=
   mg (bQ.mono Ri T2 ht) V λk hk=>by rw[hs];exact hN i _ k ho hk
  refine ih (listed.setIfInBounds i true) G' w' _ (by simpa using hls) ?_ ?_ ?_ (by rw[jL];exact hs) (by rw[put_defers];exact hd) ?_ ?_ ?_ ?_ ?_
  ·rw[hSdef'];have:=count_insert hSi' hS2 hlt;omega
  ·rw[hSdef'];intro j oj hoj hj e he hbd;rw[hS2] at hj |-;by_cases ej:j=i
   ·subst ej;obtain rfl:ops[j]=oj:=LV (ho.symm.trans hoj);rw[<-hSk,hedges e he hbd];rfl
   ·have:S j=true:=by simpa [ej] using hj
    rw[hcl j oj hoj this e he hbd];rfl
  ·intro k d1;rw[show (listed.setIfInBounds i true).getD k false=S' k from congrFun hSdef' k,hS2,<-hSk,hlj k d1];have:k≠i:=by rintro rfl;rw[d1] at hDi;cases hDi
   simpa using this
  ·rw[hSdef'];intro d;rw[tset d];exact hput d
  ·rw[hSdef'];exact R2
  ·rw[hSdef'];exact T4
  ·intro id hd';rcases T1.dom_new id hd' with h|h
   ·rcases hdom id h with h|⟨k,h1,h2,h3⟩
    ·exact .inl h
    ·exact .inr ⟨k,h1,by rw[hS',<-hSk,h2];rfl,h3⟩
   ·exact .inr ⟨i,hlt,by rw[hS'];simp,by rw[hgr];exact h⟩
  ·intro id hd';rcases T1.tdom_new id hd' with h|h
   ·rcases htdom id h with h|⟨k,h1,h2,h3⟩
    ·exact .inl h
    ·exact .inr ⟨k,h1,by rw[hS',<-hSk,h2];rfl,h3⟩
   ·exact .inr ⟨i,hlt,by rw[hS'];simp,by rw[hgr];exact h⟩
end
end Go.Av
end
section
namespace Go.Av
open Go
theorem IX(s:List UInt8)(i:Nat):(ByteArray.mk s.toArray)[i]! =s.getD i 0:=by
 by_cases h:i<s.length
 ·have h2:i<(ByteArray.mk s.toArray).size:=by simpa [ByteArray.size] using h
  rw[getElem!_pos _ i h2];simp[ByteArray.getElem_eq_getElem_data,h]
 ·have h2:¬i<(ByteArray.mk s.toArray).size:=by simpa [ByteArray.size] using h
  rw[getElem!_neg _ i h2];simp[h];rfl
theorem F9(P:Program)(w:World)(s:List UInt8)(n:Int):(Extern.BytealgIndexByte.indexByte #[.string ⟨s.toArray⟩,.int .u8 n]).run P w= .ok (.int .i64 (match (List.range s.length).find? λi=>s.getD i 0 == UInt8.ofNat n.toNat with|some i=>(i:Int)|none=> -1)) w:=by
 have hs:(ByteArray.mk s.toArray).size=s.length:=by simp[ByteArray.size]
 have hf:(λi=>(ByteArray.mk s.toArray)[i]! == n.toNat.toUInt8)=λi=>s.getD i 0 == UInt8.ofNat n.toNat:=by
  funext i;rw[IX]
 change Sem.run P (match (List.range (ByteArray.mk s.toArray).size).find? λi=>(ByteArray.mk s.toArray)[i]! == n.toNat.toUInt8 with|some i=>pure (goInt i)|none=>pure (goInt (-1))) w=_;rw[hs,hf];cases (List.range s.length).find? λi=>s.getD i 0 == UInt8.ofNat n.toNat<;>rfl
open Classical in
section
variable{P:Program}{G:aE}{w:World}{t:Tm}{a:Act}{o:Oper}{h:H}{x:AV}
theorem Bg{op:AOp}(h:eH P o=some op):∃k xs,op= .raw k xs:=by
 unfold eH at h
 repeat' split at h
 all_goals first
  |(cases h;done)
  |(cases h;exact ⟨_,_,rfl⟩)
  |(simp only[Jo] at h;obtain ⟨_,_,rfl⟩:=h;exact ⟨_,_,rfl⟩)
theorem y5(k:RK)(xs:List Opd):cOp P o≠some (.raw k xs):=by
 intro h;unfold cOp at h
 repeat' split at h
 all_goals first
  |(cases h;done)
  |(simp at h;done)
  |skip
theorem uZ{op:AOp}(h:eH P o=some op):∀c,o.op≠ .defer c:=by
 intro c e;unfold eH at h;rw[e] at h;cases h
theorem s3(ht:bQ G w t a){e:TypeId}:∀{l:List (Nat × Operand)}{ps:List (Nat × Nat)}{xs:List Opd}{cs cs':List AV}{vs:List Value},iu P e l=some (ps,xs)->kD ps (xs.map (ev t)) cs=some cs'->ay G w cs vs->
   ∃vs',Instr.fill (λi=>some (i*P.cellsOf e,P.cellsOf e)) vs.toArray (l.map λp=>(p.1,a.eval p.2))=some vs'.toArray/\ay G w cs' vs'
 |[],ps,xs,cs,cs',vs,h1,h2,h3=>by
  simp only[iu,JA,JD] at h1;obtain ⟨rfl,rfl⟩:=h1;simp[kD] at h2;subst h2;exact ⟨vs,by simp[Instr.fill],h3⟩
 |(i,x)::l,ps,xs,cs,cs',vs,h1,h2,h3=>by
  simp only[iu] at h1;split at h1
  ·rename_i b r hb hr;simp only[JA,JD] at h1;obtain ⟨rfl,rfl⟩:=h1;simp only[JM,kD] at h2;split at h2
   ·rename_i hc;obtain ⟨c1,c2,c3⟩:=hc;have rx:=aB hb ht;obtain ⟨s1,s2⟩:=dh rx c3;have hsz:(a.eval x).cells.size=P.cellsOf e:=by have:=s1.length;simpa [c1] using this
    have hl:=h3.length;have hnew:ay G w (setAt cs (i*P.cellsOf e) (cellsOf (ev t b))) (vs.take (i*P.cellsOf e)++(a.eval x).cells.toList++vs.drop (i*P.cellsOf e+P.cellsOf e)):=by
     unfold setAt;rw[c1];exact ((h3.take _).append s1).append (h3.drop _)
    obtain ⟨vs',e1,e2⟩:=s3 ht (ps:=r.1) (xs:=r.2) hr h2 hnew;refine ⟨vs',?_,e2⟩;rw[JM,oO (place:=λi=>some (i*P.cellsOf e,P.cellsOf e)) (off:=i*P.cellsOf e) rfl hsz ak];exact e1
   ·cases h2
  ·cases h1
theorem jO{name:String}{g:Array Value->Sem Value}(hg:Extern.allGenericRows.lookup name=none)(ht:Extern.allTypedRows.lookup name=none)(ha:Extern.allRows.lookup name=some g)(hn:Extern.allNextRows.lookup name=none)
  {fn:Func} (h:fn.name=name) (ho:Extern.allNextRows.lookup fn.origin=none):Extern.find fn=some g/\Extern.findNext fn=none:=by
 unfold Extern.find Extern.findNext;simp[h,hg,ht,ha,hn,ho]
theorem DT{k:FloatKind}{xs:List Opd}(hc:eH P o=some (.raw (.i2f k) xs)):∃src dst z b q,o.op= .convert src dst z/\opd P src z=some b/\P.underlying src=some (.int q)/\P.underlying dst=some (.float k)/\xs=[b]:=by
 unfold eH at hc
 repeat' split at hc
 all_goals first
  |(cases hc;done)
  |(simp at hc;done)
  |(cases hc;exact ⟨_,_,_,_,_,‹_›,‹_›,‹_›,‹_›,rfl⟩)
theorem DU{k:IntKind}{xs:List Opd}(hc:eH P o=some (.raw (.f2i k) xs)):∃src dst z b q,o.op= .convert src dst z/\opd P src z=some b/\P.underlying src=some (.float q)/\P.underlying dst=some (.int k)/\xs=[b]:=by
 unfold eH at hc
 repeat' split at hc
 all_goals first
  |(cases hc;done)
  |(simp at hc;done)
  |(cases hc;exact ⟨_,_,_,_,_,‹_›,‹_›,‹_›,‹_›,rfl⟩)
theorem Bh{sz len:Nat}{n:Option Nat}{xs:List Opd}(hc:eH P o=some (.raw (.aidx sz n len) xs)):∃ty z i b c e,o.op= .index ty z i/\opd P ty z=some b/\opd P 0 i=some c/\P.underlying ty=some (.array len e)/\(P.info? e).isSome=true/\(P.underlying e).isSome=true/\sz=P.cellsOf e/\n=(if bG P e then some (P.cellsOf e) else none)/\xs=[b,c]:=by
 unfold eH at hc
 repeat' split at hc
 all_goals first
  |(cases hc;done)
  |(simp at hc;done)
  |(rename_i hq hg;cases hc;exact ⟨_,_,_,_,_,_,‹_›,‹_›,‹_›,‹_›,hq.1,hq.2,rfl,by simp[hg],rfl⟩)
theorem y6{sz len:Nat}{xs:List Opd}(hc:eH P o=some (.raw (.paddr sz len) xs)):∃ty z i b c e,o.op= .indexAddr ty z i/\opd P 0 z=some b/\opd P 0 i=some c/\P.underlying ty=some (.array len e)/\(P.info? e).isSome=true/\sz=P.cellsOf e/\xs=[b,c]:=by
 unfold eH at hc
 repeat' split at hc
 all_goals first
  |(cases hc;done)
  |(simp at hc;done)
  |(rename_i hq;cases hc;exact ⟨_,_,_,_,_,_,‹_›,‹_›,‹_›,‹_›,hq,rfl,rfl⟩)
theorem u0{zero:List AV}{ps:List (Nat × Nat)}{xs:List Opd}(hc:eH P o=some (.raw (.abuild zero ps) xs)):∃ty parts n e z,o.op= .build ty parts/\P.underlying ty=some (.array n e)/\(P.info? ty).bind (·.zero)=some z/\cz P ty z=some (.agg zero)/\iu P e parts.toList=some (ps,xs)/\(P.info? e).isSome=true:=by
 unfold eH at hc
 repeat' split at hc
 all_goals first
  |(cases hc;done)
  |(simp at hc;done)
  |(rename_i hq;cases hc;exact ⟨_,_,_,_,_,‹_›,‹_›,‹_›,‹_›,‹_›,hq⟩)
theorem Bi{xs:List Opd}(hc:eH P o=some (.raw .cplx xs)):∃c z1 z2 b1 b2,o.op= .call c/\c.callee= .builtin .complex/\c.args.toList=[z1,z2]/\opd P 0 z1=some b1/\opd P 0 z2=some b2/\xs=[b1,b2]:=by
 unfold eH at hc
 repeat' split at hc
 all_goals first
  |(cases hc;done)
  |(simp at hc;done)
  |(cases hc;exact ⟨_,_,_,_,_,‹_›,‹_›,‹_›,‹_›,‹_›,rfl⟩)
theorem y7{re:Bool}{xs:List Opd}(hc:eH P o=some (.raw (.cpart re) xs)):∃c z b,o.op= .call c/\c.callee= .builtin (if re then .real else .imag)/\c.args.toList=[z]/\opd P 0 z=some b/\xs=[b]:=by
 unfold eH at hc
 repeat' split at hc
 all_goals first
  |(cases hc;done)
  |(simp at hc;done)
  |(simp only[Jo,JA,AOp.raw.injEq,RK.cpart.injEq] at hc;obtain ⟨b,hb,rfl,rfl⟩:=hc;exact ⟨_,_,_,‹_›,by simpa using ‹_›,‹_›,hb,rfl⟩)
theorem s4{k:RK}{xs:List Opd}(hk:k= .fbits\/k= .fofbits)(hc:eH P o=some (.raw k xs)):∃c z b f fn,o.op= .call c/\c.callee= .value (.func f)/\c.args.toList=[z]/\opd P 0 z=some b/\xs=[b]/\P.funcs[f]? =some fn/\fn.body.isNone=true/\fn.origin= "" /\fn.name=(match k with| .fbits=> "math.Float64bits" |_=> "math.Float64frombits"):=by
 rcases hk with rfl|rfl;all_goals
  unfold eH at hc
  repeat' split at hc
  all_goals first
   |(cases hc;done)
   |(simp at hc;done)
   |(rename_i hq;simp only[Jo,JA,AOp.raw.injEq,KP] at hc;obtain ⟨b,hb,rfl⟩:=hc;exact ⟨_,_,_,_,_,‹_›,‹_›,‹_›,hb,rfl,‹_›,hq.1,hq.2.2,hq.2.1⟩)
theorem y8{xs:List Opd}(hc:eH P o=some (.raw .ibyte xs)):∃c z1 z2 b1 b2 f fn,o.op= .call c/\c.callee= .value (.func f)/\c.args.toList=[z1,z2]/\opd P 0 z1=some b1/\opd P 0 z2=some b2/\xs=[b1,b2]/\P.funcs[f]? =some fn/\fn.body.isNone=true/\fn.origin= "" /\fn.name= "internal/bytealg.IndexByteString" :=by
 unfold eH at hc
 repeat' split at hc
 all_goals first
  |(cases hc;done)
  |(simp at hc;done)
  |(cases hc;rename_i hq _ _ _ _ _ _;exact ⟨_,_,_,_,_,_,_,‹_›,‹_›,‹_›,‹_›,‹_›,rfl,‹_›,hq.1,hq.2.2,hq.2.1⟩)
  |(cases hc;rename_i hq _ _ _ _;exact ⟨_,_,_,_,_,_,_,‹_›,‹_›,‹_›,‹_›,‹_›,rfl,‹_›,hq.1,hq.2.2,hq.2.1⟩)
theorem DV{len:Nat}{xs:List Opd}(hc:eH P o=some (.raw (.s2a len) xs)):∃arr z b e,o.op= .sliceToArrayPointer arr z/\opd P 0 z=some b/\P.underlying arr=some (.array len e)/\xs=[b]:=by
 unfold eH at hc
 repeat' split at hc
 all_goals first
  |(cases hc;done)
  |(simp at hc;done)
  |(cases hc;exact ⟨_,_,_,_,‹_›,‹_›,‹_›,rfl⟩)
theorem y9{neg:Bool}{n:Nat}{k:EK}{xs:List Opd}(hc:eH P o=some (.raw (.eqarr neg n k) xs)):∃op xT x y yT b c e,o.op= .binOp op xT x y yT/\opd P xT x=some b/\opd P yT y=some c/\P.underlying xT=some (.array n e)/\fQ P e=some k/\P.eqGuardType P.depth xT=false/\(P.info? e).isSome=true/\P.cellsOf e=1/\(op= .eql/\neg=false\/op= .neq/\neg=true)/\xs=[b,c]:=by
 unfold eH at hc
 repeat' split at hc
 all_goals first
  |(cases hc;done)
  |(simp at hc;done)
  |(cases hc;have hq:= ‹P.eqGuardType P.depth _=false/\(P.info? _).isSome=true/\P.cellsOf _=1›;exact ⟨_,_,_,_,_,_,_,_,‹_›,‹_›,‹_›,‹_›,‹_›,hq.1,hq.2.1,hq.2.2,.inl ⟨rfl,rfl⟩,rfl⟩)
  |(cases hc;have hq:= ‹P.eqGuardType P.depth _=false/\(P.info? _).isSome=true/\P.cellsOf _=1›;exact ⟨_,_,_,_,_,_,_,_,‹_›,‹_›,‹_›,‹_›,‹_›,hq.1,hq.2.1,hq.2.2,.inr ⟨rfl,rfl⟩,rfl⟩)
theorem za{d n:Nat}{e:TypeId}{k:EK}{xT:TypeId}{X Y:Array Value}{xs ys:List AV}{b:Bool}(hu:P.underlying xT=some (.array n e))(hi:(P.info? e).isSome=true)(hce:P.cellsOf e=1)(hk:fQ P e=some k)
  (r1:ay G w xs X.toList) (r2:ay G w ys Y.toList) (h:aT (List.replicate n k) xs ys=some b):(Op.equalIn (d+2) xT (.agg X) (.agg Y)).run P w= .ok b w:=by
 have heq:∀{x y:AV}{v u:Value}{b:Bool},au G w x v->au G w y u->gl k x y=some b->(Op.equalIn (d+1) e v u).run P w= .ok b w:=λr1 r2 h=>lC hk r1 r2 h;rw[show d+2=(d+1)+1 from rfl];generalize d+1=q at heq;simp only[Op.equalIn,Sem.run_bind,run_underlying hu,Result.andThen_ok,bT P w e hi,hce];rw[Std.Legacy.Range.forIn_eq_forIn_range'];simp only[Std.Legacy.Range.size,Nat.sub_zero,Nat.add_sub_cancel,Nat.div_one,KA];have hL:∃i m,List.range' 0 n 1=List.range' i m/\ay G w xs (X.toList.drop i)/\ay G w ys (Y.toList.drop i)/\aT (List.replicate m k) xs ys=some b:=⟨0,n,rfl,by simpa using r1,by simpa using r2,h⟩;clear r1 r2 h hu;generalize List.range' 0 n 1=L at*
 induction L generalizing xs ys b with
 |nil=>
  obtain ⟨i,m,hL,q1,q2,h⟩:=hL;cases m with
  |succ m=>simp[Ll] at hL
  |zero=>
   cases xs<;>cases ys<;>simp only[List.replicate_zero,aT] at h<;>first|(cases h;done)|skip
   cases h;simp
 |cons j L ih=>
  obtain ⟨i,m,hL,q1,q2,h⟩:=hL;cases m with
  |zero=>simp at hL
  |succ m=>
   rw[Ll] at hL;simp only[Kc] at hL;obtain ⟨rfl,hL⟩:=hL;rw[List.replicate_succ] at h;cases xs with
   |nil=>simp[aT] at h
   |cons x xs=>
    cases ys with
    |nil=>simp[aT] at h
    |cons y ys=>
     simp only[ay] at q1 q2;obtain ⟨v,vs,e1,r1,q1⟩:=q1;obtain ⟨u,us,e2,r2,q2⟩:=q2;have g1:X[j]? =some v:=by
      have:=Kd (λl=>l[0]?) e1;simpa using this
     have g2:Y[j]? =some u:=by
      have:=Kd (λl=>l[0]?) e2;simpa using this
     have t1:X.toList.drop (j+1)=vs:=by
      have:=Kd (List.drop 1) e1;simpa [KT] using this
     have t2:Y.toList.drop (j+1)=us:=by
      have:=Kd (List.drop 1) e2;simpa [KT] using this
     simp only[aT] at h;split at h
     ·rename_i p c hp hc;cases h;have rec':=ih ⟨j+1,m,hL,t1▸q1,t2▸q2,hc⟩;simp only[List.forIn_cons,Sem.run_bind,cQ hk g1,cQ hk g2,Result.andThen_ok,heq r1 r2 hp];cases p
      ·simp
      ·simpa using rec'
     ·cases h
theorem Bj:∀{xs:List AV}{vs:List Value},aA G w 1 xs vs->xs.all bS=true->ay G w xs vs
 |[],vs,h,_=>by simpa [aA,ay] using h
 |x::xs,vs,h,hc=>by
  simp only[List.all_cons,Jv] at hc;simp only[aA] at h;obtain ⟨v,us,rfl,hv,hx,hr⟩:=h;have h1:=cU hx (.inl hc.1);have e:cellsOf x=[x]:=by cases x<;>first|rfl|(simp [bS] at hc)
  rw[e] at h1;exact ay.append h1 (Bj hr hc.2)
theorem u3:Extern.allGenericRows.lookup "internal/bytealg.IndexByteString" =none/\Extern.allTypedRows.lookup "internal/bytealg.IndexByteString" =none/\Extern.allNextRows.lookup "internal/bytealg.IndexByteString" =none:=⟨by kernel_rfl,by kernel_rfl,by kernel_rfl⟩
theorem G9:Extern.allRows.lookup "internal/bytealg.IndexByteString" =some Extern.BytealgIndexByte.indexByte:=by kernel_rfl
theorem Bl{c:Call}{z1 z2:Operand}{f:FuncId}{fn:Func}{g:Array Value->Sem Value}{v:Value}{ty:TypeId}(hcal:c.callee= .value (.func f))(ha:c.args= #[z1,z2])(hf:P.funcs[f]? =some fn)(hb:fn.body.isNone=true)(hn:fn.name≠ "runtime.NumGoroutine")
  (h1:Extern.find fn=some g) (h2:Extern.findNext fn=none) (hg:(g #[a.eval z1,a.eval z2]).run P w= .ok v w):(do let d <-resolve a.eval c ty;invoke d.target d.args:Sem Next).run P w= .ok (.value v) w:=by
 have hb':fn.body=none:=by simpa using hb
 have he:a.eval (.func f)= .func (.func f) #[] #[]:=rfl;simp[resolve,hcal,ha,he,Deferred.ofValue,invoke,callFunc,hf,hn,hb',h1,h2,hg]
theorem kG{k:IntKind}{n:Int}{v:Value}(h:au G w (.int k n) v):v= .int k n:=by simpa [au] using h
theorem mL{u v:Value}(h:au G w (.sc u) v):v=u:=by simpa [au] using h
theorem u4:Extern.allNextRows.lookup "" =none:=by kernel_rfl
theorem u5:Extern.allGenericRows.lookup "math.Float64bits" =none/\Extern.allTypedRows.lookup "math.Float64bits" =none/\Extern.allNextRows.lookup "math.Float64bits" =none:=⟨by kernel_rfl,by kernel_rfl,by kernel_rfl⟩
theorem u6:Extern.allGenericRows.lookup "math.Float64frombits" =none/\Extern.allTypedRows.lookup "math.Float64frombits" =none/\Extern.allNextRows.lookup "math.Float64frombits" =none:=⟨by kernel_rfl,by kernel_rfl,by kernel_rfl⟩
theorem Ha:Extern.allRows.lookup "math.Float64bits" =some Extern.MathFloatBits.float64bits:=by kernel_rfl
theorem Hb:Extern.allRows.lookup "math.Float64frombits" =some Extern.MathFloatBits.float64frombits:=by kernel_rfl
theorem s5{c:Call}{z:Operand}{f:FuncId}{fn:Func}{g:Array Value->Sem Value}{v:Value}{ty:TypeId}(hcal:c.callee= .value (.func f))(ha:c.args= #[z])(hf:P.funcs[f]? =some fn)(hb:fn.body.isNone=true)(hn:fn.name≠ "runtime.NumGoroutine")
  (h1:Extern.find fn=some g) (h2:Extern.findNext fn=none) (hg:(g #[a.eval z]).run P w= .ok v w):(do let d <-resolve a.eval c ty;invoke d.target d.args:Sem Next).run P w= .ok (.value v) w:=by
 have hb':fn.body=none:=by simpa using hb
 have he:a.eval (.func f)= .func (.func f) #[] #[]:=rfl;simp[resolve,hcal,ha,he,Deferred.ofValue,invoke,callFunc,hf,hn,hb',h1,h2,hg]
theorem u7{k:IntKind}{n:Int}:au G w (.int k n) (.int k n):=by simp[au]
theorem s6{u:Value}:au G w (.sc u) u:=by simp[au]
theorem ze{k:RK}{xs:List Opd}(hc:eH P o=some (.raw k xs))(hx:fH k (xs.map (ev t))=some x)(ht:bQ G w t a):Plain P G w a o x:=by
 cases k with
 |i2f k=>
  obtain ⟨src,dst,z,b,q,hop,h1,h2,h3,rfl⟩:=DT hc;have r1:=aB h1 ht;simp only[JM,J4,fH] at hx;split at hx<;>try (cases hx;done)
  rename_i e;simp only[Kc,K8] at e;rw[e] at r1;cases hx;refine ⟨_,?_,s6⟩;simp only[execOp,hop,kG r1];simp[run_convert_int_float w src dst _ _ _ (by rw[h2];rfl) h3]
 |f2i k=>
  obtain ⟨src,dst,z,b,q,hop,h1,h2,h3,rfl⟩:=DU hc;have r1:=aB h1 ht;simp only[JM,J4,fH] at hx;split at hx<;>try (cases hx;done)
  rename_i e;simp only[Kc,K8] at e;rw[e] at r1;simp only[Jo] at hx;obtain ⟨n,hn,rfl⟩:=hx;refine ⟨_,?_,u7⟩;simp only[execOp,hop,mL r1];simp[run_convert_float_int w src dst _ _ _ _ (by rw[h2];rfl) h3 hn]
 |cplx=>
  obtain ⟨c,z1,z2,b1,b2,hop,hcal,ha,h1,h2,rfl⟩:=Bi hc;have r1:=aB h1 ht;have r2:=aB h2 ht;have ha':c.args= #[z1,z2]:=by rw[<-Array.toArray_toList (xs:=c.args),ha]
  simp only[JM,J4,fH] at hx;split at hx<;>try (cases hx;done)
  rename_i e;simp only[Kc,K8] at e;rw[e.1] at r1;rw[e.2] at r2;split at hx<;>cases hx;rename_i ek;subst ek;refine ⟨_,?_,s6⟩;simp[execOp,hop,resolve,hcal,ha',mL r1,mL r2,invoke,builtin,run_complex]
 |cpart re=>
  obtain ⟨c,z,b,hop,hcal,ha,h1,rfl⟩:=y7 hc;have r1:=aB h1 ht;have ha':c.args= #[z]:=by rw[<-Array.toArray_toList (xs:=c.args),ha]
  simp only[JM,J4,fH] at hx;split at hx<;>try (cases hx;done)
  rename_i e;simp only[Kc,K8] at e;rw[e] at r1;cases hx;cases re
  ·refine ⟨_,?_,s6⟩;simp at hcal;simp[execOp,hop,resolve,hcal,ha',mL r1,invoke,builtin,run_imag]
  ·refine ⟨_,?_,s6⟩;simp at hcal;simp[execOp,hop,resolve,hcal,ha',mL r1,invoke,builtin,run_real]
 |fbits=>
  obtain ⟨c,z,b,f,fn,hop,hcal,ha,h1,rfl,hf,hb,ho,hn⟩:=s4 (.inl rfl) hc;obtain ⟨e1,e2⟩:=jO u5.1 u5.2.1 Ha u5.2.2 hn (by rw[ho];exact u4);have r1:=aB h1 ht;have ha':c.args= #[z]:=by rw[<-Array.toArray_toList (xs:=c.args),ha]
  simp only[JM,J4,fH] at hx;split at hx<;>try (cases hx;done)
  rename_i e;simp only[Kc,K8] at e;rw[e] at r1;cases hx;refine ⟨_,?_,u7⟩;simp only[execOp,hop];exact s5 hcal ha' hf hb (by rw[hn];simp) e1 e2 (by rw[mL r1];rfl)
 |fofbits=>
  obtain ⟨c,z,b,f,fn,hop,hcal,ha,h1,rfl,hf,hb,ho,hn⟩:=s4 (.inr rfl) hc;obtain ⟨e1,e2⟩:=jO u6.1 u6.2.1 Hb u6.2.2 hn (by rw[ho];exact u4);have r1:=aB h1 ht;have ha':c.args= #[z]:=by rw[<-Array.toArray_toList (xs:=c.args),ha]
  simp only[JM,J4,fH] at hx;split at hx<;>try (cases hx;done)
  rename_i e;simp only[Kc,K8] at e;rw[e] at r1;cases hx;refine ⟨_,?_,s6⟩;simp only[execOp,hop];exact s5 hcal ha' hf hb (by rw[hn];simp) e1 e2 (by rw[kG r1];rfl)
 |ibyte=>
  obtain ⟨c,z1,z2,b1,b2,f,fn,hop,hcal,ha,h1,h2,rfl,hf,hb,ho,hn⟩:=y8 hc;obtain ⟨e1,e2⟩:=jO u3.1 u3.2.1 G9 u3.2.2 hn (by rw[ho];exact u4);have r1:=aB h1 ht;have r2:=aB h2 ht;have ha':c.args= #[z1,z2]:=by rw[<-Array.toArray_toList (xs:=c.args),ha]
  simp only[JM,J4,fH] at hx;split at hx<;>try (cases hx;done)
  rename_i s n q;simp only[Kc,K8] at q;rw[q.1] at r1;rw[q.2] at r2;split at hx<;>cases hx;rename_i hq;refine ⟨_,?_,u7⟩;simp only[execOp,hop];refine Bl hcal ha' hf hb (by rw[hn];simp) e1 e2 ?_;have r1':a.eval z1= .string ⟨s.toArray⟩:=by simpa [au] using r1
  rw[r1',kG r2];exact F9 P w s n
 |aidx sz n len=>
  obtain ⟨ty,z,i,b,c,e,hop,h1,h2,hu,hi,hui,rfl,rfl,rfl⟩:=Bh hc;have r1:=aB h1 ht;have r2:=aB h2 ht;simp only[JM,J4,fH] at hx;split at hx<;>try (cases hx;done)
  rename_i q;simp only[Kc,K8] at q;rw[q.1] at r1;rw[q.2] at r2;split at hx<;>try (cases hx;done)
  rename_i hq;simp only[au] at r1;obtain ⟨vs,hv,hr⟩:=r1;obtain ⟨v,e1,e2⟩:=sP P w e _ _ vs hi hui hr hx;exact ⟨v,by simp[execOp,hop,Instr.index,run_underlying hu,hv,kG r2,asIntOf,hq.1,hq.2,bT P w e hi,e1],e2⟩
 |paddr sz len=>
  obtain ⟨ty,z,i,b,c,e,hop,h1,h2,hu,hi,rfl,rfl⟩:=y6 hc;have r1:=aB h1 ht;have r2:=aB h2 ht;simp only[JM,J4,fH] at hx;split at hx<;>try (cases hx;done)
  ·rename_i q;simp only[Kc,K8] at q;rw[q.1] at r1;rw[q.2] at r2;split at hx<;>cases hx;rename_i hq;simp only[au] at r1;obtain ⟨hd,hv⟩:=r1;refine .mk (v:= .pointer (some ⟨G.ι _,_,none⟩)) ?_ (by simp only[au];exact ⟨hd,rfl⟩);simp[execOp,hop,Instr.indexAt,run_underlying hu,hv,kG r2,asIntOf,Instr.sureAddr,hq.1,hq.2,bT P w e hi,add_plain]
  ·rename_i q;simp only[Kc,K8] at q;rw[q.1] at r1;rw[q.2] at r2;split at hx<;>cases hx;rename_i hq;simp only[au] at r1;obtain ⟨B,off,vs,hv,hr,him⟩:=r1;refine .mk (v:= .pointer (some ⟨B,_,none⟩)) ?_ (by simp only[au];exact ⟨B,_,_,rfl,hr.drop _,him.drop _⟩);simp[execOp,hop,Instr.indexAt,run_underlying hu,hv,kG r2,asIntOf,Instr.sureAddr,hq.1,hq.2,bT P w e hi,add_plain]
 |abuild zero ps=>
  obtain ⟨ty,parts,n,e,z,hop,hu,hz,hzc,hps,hi⟩:=u0 hc;simp only[fH,Jo] at hx;obtain ⟨cs,hcs,rfl⟩:=hx;have r:=dx (G:=G) (w:=w) hzc;simp only[au] at r;obtain ⟨vs,rfl,hr⟩:=r;obtain ⟨vs',e1,e2⟩:=s3 ht hps hcs hr;refine ⟨.agg vs'.toArray,?_,by simp only[au];exact ⟨vs',rfl,e2⟩⟩;obtain ⟨i,hi1,hi2⟩:=J2.1 hz;have hmap:(parts.map λ(i,x)=>(i,a.eval x)).toList=parts.toList.map λp=>(p.1,a.eval p.2):=by simp
  simp only[execOp,hop,Instr.build,Sem.run_bind,zeroValue,typeInfo,run_program,hi1,hi2,Result.andThen_ok,Sem.run_pure,run_underlying hu,bT P w e hi,Value.cells,hmap,e1]
 |slp sz n=>simp[fH] at hx
 |cpy=>simp[fH] at hx
 |s2a len=>
  obtain ⟨arr,z,b,e,hop,h1,hu,rfl⟩:=DV hc;have r1:=aB h1 ht;simp only[JM,J4,fH] at hx;split at hx<;>try (cases hx;done)
  rename_i q;simp only[Kc,K8] at q;rw[q] at r1;split at hx<;>cases hx;rename_i hq;obtain ⟨rfl,q1,q2,q3⟩:=hq;simp only[au] at r1;rcases r1 with ⟨rfl,-,-⟩|⟨B,off,C,vs,hv,-,-,he,him,-⟩
  ·simp at q2;omega
  ·refine ⟨.pointer (some ⟨B,off,none⟩),?_,by simp only[au];exact ⟨B,off,vs,rfl,Bj he q3,him⟩⟩;simp[execOp,hop,Instr.arrayAt,run_underlying hu,hv,Nat.not_lt.2 q2]
 |eqarr neg n k=>
  obtain ⟨op,xT,x0,y0,yT,b,c,e,hop,h1,h2,hu,hk,hg,hi,hce,hn,rfl⟩:=y9 hc;have r1:=aB h1 ht;have r2:=aB h2 ht;simp only[JM,J4,fH] at hx;split at hx<;>try (cases hx;done)
  rename_i q;simp only[Kc,K8] at q;rw[q.1] at r1;rw[q.2] at r2;simp only[Jo] at hx;obtain ⟨r,hr,rfl⟩:=hx;unfold Plain;simp only[execOp,hop];generalize a.eval x0=vx at*
  generalize a.eval y0=vy at*
  simp only[au] at r1 r2;obtain ⟨vs,rfl,r1⟩:=r1;obtain ⟨us,rfl,r2⟩:=r2;have key:(Op.equalIn 10000 xT (.agg vs.toArray) (.agg us.toArray)).run P w= .ok r w:=za (d:=9998) hu hi hce hk (by simpa using r1) (by simpa using r2) hr;rcases hn with ⟨rfl,rfl⟩|⟨rfl,rfl⟩
  ·exact ⟨.bool r,by simp[run_eqGuard_agg w _ _ _ _ _ _ hg,run_eql_struct,key],by simp[au]⟩
  ·exact ⟨.bool (!r),by simp[run_eqGuard_agg w _ _ _ _ _ _ hg,run_neq_struct,key],by simp[au]⟩
end
end Go.Av
end
section
namespace Go.Av
structure aL where
 dst:Option Nat
 guard:Option (Nat × Bool)
 op:AOp
inductive AC where
 |skip
 |reg (items:List aL) (pairs:Option (List (Nat × Nat)))
 |seq (a b:AC)
 |cond (c:Opd) (a b:AC)
 |block (id:Nat) (a:AC)
 |loop (a:AC)
 |exit (id:Nat)
 |ret
 |scope (a:AC)
 |label (l:Nat)
 |goto (l:Nat)
 |u9 (g:Opd) (ps:List Nat) (asg body:AC)
def bK:AOp->List Opd
 | .mov x| .box x| .eqN _ x| .un _ x| .conv _ x| .load _ x| .faddr _ x| .fld _ _ x| .ext x _| .nilck x| .len _ x| .clr _ _ x| .mlen x| .eqM _ x| .cap x| .ifc _ x| .pan x=>[x]
 | .pick a b c| .mput a b c| .mputK _ a b c=>[a,b,c]
 | .alloc _| .mkmap| .dead=>[]
 | .build _ parts=>parts.map λp=>p.2.2
 | .buildSl _ parts=>parts
 | .store _ x y| .bin _ x y| .eqB _ x y| .eqA _ _ x y| .mm _ x y| .mlook _ _ x y| .mdel x y| .mlookK _ _ _ x y| .mdelK _ x y| .eqP _ x y| .eqQ _ x y| .iaddr _ x y| .idx x y| .mksl _ _ _ x y| .app _ _ _ x y| .appz _ _ _ x y=>[x,y]
 | .mkfn _ a b=>a++b
 | .slc _ _ x a b c=>x::(a.toList++b.toList++c.toList)
 | .call _ l=>l
 | .callv x l=>x::l
 | .raw _ l=>l
def tmpsOf(l:List Opd):List Nat:=l.filterMap λ| .t i=>some i|_=>none
def mM(ops:Array Oper):Option (Nat × Bool)->Option (Option (Nat × Bool))
 |none=>some none
 |some (j,w)=>match (ops[j]?).bind (·.dst) with
  |some d=>some (some (d,w))
  |none=>none
def Bm(P:Program)(o:Oper):Option AOp:=some (match cOp P o with
 |some q=>q
 |none=>(eH P o).getD .dead)
def xn:AOp->Bool
 | .raw _ _=>true
 |_=>false
theorem Bn{P:Program}{o:Oper}{k:RK}{xs:List Opd}(h:Bm P o=some (.raw k xs)):eH P o=some (.raw k xs):=by
 simp only[Bm,JA] at h;split at h
 ·rename_i q hc;subst h;exact absurd hc (y5 _ _)
 ·cases hb:eH P o with
  |none=>rw[hb] at h;simp at h
  |some q=>rw[hb] at h;simp at h;rw[h]
theorem fW{P:Program}{o:Oper}{op:AOp}(h:Bm P o=some op)(hn:op≠ .dead)(hr:xn op=false):cOp P o=some op:=by
 simp only[Bm,JA] at h;cases hc:cOp P o with
 |none=>
  rw[hc] at h;simp only at h;cases hb:eH P o with
  |none=>rw[hb] at h;exact absurd h.symm hn
  |some q=>
   rw[hb] at h;obtain ⟨k,xs,rfl⟩:=Bg hb;simp at h;subst h;simp[xn] at hr
 |some q=>rw[hc] at h;simp at h;rw[h]
def bB(P:Program)(N:Nat)(ops:Array Oper)(o:Oper):Option aL:=
 match Bm P o,mM ops o.guard with
 |some op,some g=>if o.dst.all (λd=>decide (d<N))&&(tmpsOf (bK op)).all (λi=>(names ops o).contains i) then some ⟨o.dst,g,op⟩ else none
 |_,_=>none
def cV(P:Program)(N:Nat)(ops:Array Oper):List Oper->Option (List aL)
 |[]=>some []
 |o::l=>match bB P N ops o,cV P N ops l with
  |some a,some r=>some (a::r)
  |_,_=>none
def bL:AOp->Bool
 | .alloc _| .box _| .load _ _| .store _ _ _| .conv .s2b _| .conv .s2s _| .mksl _ _ _ _ _| .app _ _ _ _ _| .appz _ _ _ _ _| .clr _ _ _| .mkmap| .mlook _ _ _ _| .mput _ _ _| .mdel _ _| .mlen _| .mlookK _ _ _ _ _| .mputK _ _ _ _| .mdelK _ _ _| .eqQ _ _ _| .buildSl _ _| .call _ _| .callv _ _| .pan _| .raw (.slp _ _) _| .raw .cpy _=>true
 |_=>false
def tidy(ops:Array Oper):Bool:=
 let b:=Region.before ops
 let l:=ops.toList.zipIdx
 (l.all λ(o,i)=>o.after.all λe=> !Region.binds .any e||decide (e.on<i))&&
 l.all λ(o,i)=>match o.dst with
  |none=>true
  |some d=>l.all λ(o',j)=>i == j|| !(names ops o').contains d||(b.getD j 0).testBit i||(b.getD i 0).testBit j
def je(ops:Array Oper)(items:List aL):List (Nat × Nat):=
 let b:=Region.before ops
 (List.range ops.size).flatMap λj=>(List.range j).filterMap λi=>
  if (match items[i]?,items[j]? with|some x,some y=>bL x.op&&bL y.op|_,_=>false)&& !(b.getD j 0).testBit i then some (i,j) else none
def fA:Code->Bool
 | .rangeFunc _ _ _ _=>false
 | .seq a b=>fA a&&fA b
 | .cond _ a b=>fA a&&fA b
 | .block _ a=>fA a
 | .loop a=>fA a
 | .scope a=>fA a
 |_=>true
def okR(c:Code)(ro:Option Nat):Prop:=ro=none\/fA c=true
def cCode(P:Program)(N:Nat):Code->Option AC
 | .skip=>some .skip
 | .region _ ops draw=>match cV P N ops ops.toList with
  |some items=>if draw then (if P.follows .mixedOrders&&tidy ops then some (.reg items (some (je ops items))) else none) else some (.reg items none)
  |none=>none
 | .seq a b=>match cCode P N a,cCode P N b with
  |some x,some y=>some (.seq x y)
  |_,_=>none
 | .cond c a b=>match opd P 0 c,cCode P N a,cCode P N b with
  |some c,some x,some y=>some (.cond c x y)
  |_,_,_=>none
 | .block id a=>(cCode P N a).map (.block id)
 | .loop a=>(cCode P N a).map .loop
 | .exit id=>some (.exit id)
 | .ret=>some .ret
 | .scope a=>(cCode P N a).map .scope
 | .label l=>some (.label l)
 | .goto l=>some (.goto l)
 | .rangeFunc g ps asg body=>match opd P 0 g,cCode P N asg,cCode P N body with
  |some g,some x,some y=>if fA asg&&fA body then some (.u9 g ps.toList x y) else none
  |_,_,_=>none
 | .refuse _=>none
def ar(x y:AV):Prop:=∀G w v,au G w x v->au G w y v
theorem ar.refl(x:AV):ar x x:=λ_ _ _ h=>h
theorem ar.any(x:AV):ar x .any:=λ_ _ _ _=>by simp[au]
def aw(l m:List AV):Prop:=∀G w vs,ay G w l vs->ay G w m vs
theorem aw.refl(l:List AV):aw l l:=λ_ _ _ h=>h
theorem aw.nil:aw [] []:=aw.refl _
theorem aw.cons{x y:AV}{l m:List AV}(a:ar x y)(b:aw l m):aw (x::l) (y::m):=by
 intro G w vs h;simp only[ay] at h |-;obtain ⟨v,us,e,h1,h2⟩:=h;exact ⟨v,us,e,a G w v h1,b G w us h2⟩
theorem ar.cap{sz:Nat}{xs:List AV}{c:Cap}:ar (.sl sz xs c) (.sl sz xs .any):=by
 intro G w v h;simp only[au] at h |-;rcases h with ⟨a,b,_⟩|⟨B,off,C,vs,h1,h2,h3,h4,h5,h6⟩
 ·exact .inl ⟨a,b,by simp[iX]⟩
 ·exact .inr ⟨B,off,C,vs,h1,h2,h3,h4,h5,by simp[cy]⟩
theorem ar.agg{l m:List AV}(a:aw l m):ar (.agg l) (.agg m):=by
 intro G w v h;simp only[au] at h |-;obtain ⟨vs,e,h⟩:=h;exact ⟨vs,e,a G w vs h⟩
theorem ar.tup{l m:List AV}(a:aw l m):ar (.tup l) (.tup m):=by
 intro G w v h;simp only[au] at h |-;obtain ⟨vs,e,h⟩:=h;exact ⟨vs,e,a G w vs h⟩
section
variable{P:Program}
def aS(P:Program)(f:FuncId)(args:List AV)(h:H)(r:AV)(h':H):Prop:=
 ∀G w vs,ay G w args vs->aM G h w->bP G h h'->Calls P f vs.toArray w λe w'=>∃v G',e= .returned v/\Trans G w h G' w' h'/\aM G' h' w'/\au G' w' r v
def H0(n m:Nat):H:= .only av [] n m
def aH(P:Program)(f:FuncId)(args:List AV)(r:AV):Prop:=∀n m,aS P f args (H0 n m) r (H0 n m)
structure St where
 t:Tm
 h:H
inductive aC where
 |normal
 |exit (id:Nat)
 |goto (l:Nat)
 |ret
 |panic (v:Value)
def aC.dH:aC->Exit->Prop
 | .normal,.normal=>True
 | .exit i,.exit j=>i=j
 | .goto i,.goto j=>i=j
 | .ret,.ret=>True
 | .panic v,.panic l=>l=[{v:=v,recovered:=false}]
 |_,_=>False
def Marks(G:aE)(w:World)(h:H)(l:List Deferred):Prop:=l.Nodup/\∀d∈l,∃D,d= {target:= .collected D,args:= #[]}/\w.heap[D]? =some (.deferred (some []))/\¬h.O G D/\¬h.T G D
theorem xo{w:World}{B:Nat}{o:Go.Obj}(h:w.heap[B]? =some o):B<w.heap.size:=by
 rcases Kn B w.heap.size with hb|hb
 ·exact hb
 ·have:w.heap[B]? =none:=by simp;omega
  rw[this] at h;cases h
theorem Marks.mono{G G':aE}{w w':World}{h h':H}{l:List Deferred}(m:Marks G w h l)(T:Trans G w h G' w' h'):Marks G' w' h' l:=by
 refine ⟨m.1,λd hd=>?_⟩;obtain ⟨D,e,h1,h2,h3⟩:=m.2 d hd;have hB:=xo h1;exact ⟨D,e,(T.keep D hB h2 h3).trans h1,λx=>h2 (T.O_new D hB x),λx=>h3 (T.T_new D hB x)⟩
structure Rel(N:Nat)(s:St)(G:aE)(w:World)(a:Act):Prop where
 size:a.tmps.size=N
 t:bQ G w s.t a
 h:aM G s.h w
 df:Marks G w s.h a.defers
def kT(w:World)(l l':List Deferred):Prop:=∀d∈l',d∈l\/∃D,w.heap.size<=D/\d= {target:= .collected D,args:= #[]}
theorem kT.refl{w:World}{l:List Deferred}:kT w l l:=λd h=> .inl h
theorem kT.trans{w w':World}{l l' l'':List Deferred}(a:kT w l l')(hs:w.heap.size<=w'.heap.size)(b:kT w' l' l''):kT w l l'':=by
 intro d h;rcases b d h with h|⟨D,h1,h2⟩
 ·exact a d h
 ·exact .inr ⟨D,aa,h2⟩
def Run(P:Program)(N:Nat)(c:Code)(s:St)(e:aC)(s':St):Prop:=
 (s.h.n<=s'.h.n/\s.h.m<=s'.h.m)/\∀ro,okR c ro->∀G w a,Rel N s G w a->bP G s.h s'.h->c.wpIn (rd ro) 0 P (λe' a' w'=>e.dH e'/\kT w a.defers a'.defers/\∃G',Trans G w s.h G' w' s'.h/\Rel N s' G' w' a') a w
def Wp(P:Program)(N:Nat)(c:AC)(s:St)(Q:aC->St->Prop):Prop:=
 ∀code,cCode P N code=some c->∃e s',Run P N code s e s'/\Q e s'
variable{N:Nat}{s:St}{Q:aC->St->Prop}
theorem okR.seq{a b:Code}{ro:Option Nat}(h:okR (.seq a b) ro):okR a ro/\okR b ro:=by
 rcases h with h|h
 ·exact ⟨.inl h,.inl h⟩
 ·simp only[fA,Jv] at h;exact ⟨.inr h.1,.inr h.2⟩
theorem okR.cond{z:Operand}{a b:Code}{ro:Option Nat}(h:okR (.cond z a b) ro)(c:Bool):okR (if c then a else b) ro:=by
 rcases h with h|h
 ·exact .inl h
 ·simp only[fA,Jv] at h;cases c
  ·exact .inr h.2
  ·exact .inr h.1
theorem okR.block{id:Nat}{a:Code}{ro:Option Nat}(h:okR (.block id a) ro):okR a ro:=h
theorem okR.loop{a:Code}{ro:Option Nat}(h:okR (.loop a) ro):okR a ro:=h
theorem okR.scope{a:Code}{ro:Option Nat}(h:okR (.scope a) ro):okR a ro:=h
theorem okR.find{l:Nat}{ro:Option Nat}:∀{c rest:Code},okR c ro->findLabel c l=some rest->okR rest ro:=by
 intro c rest h hf;rcases h with h|h
 ·exact .inl h
 ·right;induction c generalizing rest with
  |seq a b iha ihb=>
   simp only[fA,Jv] at h;simp only[findLabel] at hf;split at hf
   ·rename_i r hr;cases hf;simp only[fA,Jv];exact ⟨iha hr h.1,h.2⟩
   ·exact ihb hf h.2
  |label l'=>
   simp only[findLabel] at hf;split at hf
   ·cases hf;rfl
   ·cases hf
  |_=>simp[findLabel] at hf
theorem Wp.mono{c:AC}{Q':aC->St->Prop}(h:Wp P N c s Q)(hq:∀e s',Q e s'->Q' e s'):Wp P N c s Q':=
 λcode hc=>let ⟨e,s',r,q⟩:=h code hc;⟨e,s',r,hq e s' q⟩
theorem zf{code:Code}(h:cCode P N code=some .skip):code= .skip:=by
 unfold cCode at h;split at h<;>(try rfl)<;>(try cases h);all_goals (repeat' split at h)<;>(try cases h)<;>simp at h
theorem Wp.skip(h:Q .normal s):Wp P N .skip s Q:=by
 intro code hc;obtain rfl:=zf hc;exact ⟨.normal,s,⟨⟨Jl _,Jl _⟩,λro okc G w a r _=>wpIn_skip ⟨trivial,.refl,G,Trans.refl _ _ _,r⟩⟩,h⟩
theorem zg{code:Code}{id:Nat}(h:cCode P N code=some (.exit id)):code= .exit id:=by
 unfold cCode at h;split at h<;>(try rfl)<;>(try cases h);all_goals (repeat' split at h)<;>(try cases h)<;>(try rfl)<;>simp at h
theorem Wp.exit{id:Nat}(h:Q (.exit id) s):Wp P N (.exit id) s Q:=by
 intro code hc;obtain rfl:=zg hc;exact ⟨.exit id,s,⟨⟨Jl _,Jl _⟩,λro okc G w a r _=>wpIn_exit ⟨rfl,.refl,G,Trans.refl _ _ _,r⟩⟩,h⟩
theorem Bo{code:Code}(h:cCode P N code=some .ret):code= .ret:=by
 unfold cCode at h;split at h<;>(try rfl)<;>(try cases h);all_goals (repeat' split at h)<;>(try cases h)<;>(try rfl)<;>simp at h
theorem Wp.ret(h:Q .ret s):Wp P N .ret s Q:=by
 intro code hc;obtain rfl:=Bo hc;exact ⟨.ret,s,⟨⟨Jl _,Jl _⟩,λro okc G w a r _=>wpIn_ret ⟨trivial,.refl,G,Trans.refl _ _ _,r⟩⟩,h⟩
theorem Bp{code:Code}{x y:AC}(h:cCode P N code=some (.seq x y)):∃a b,code= .seq a b/\cCode P N a=some x/\cCode P N b=some y:=by
 cases code<;>simp only[cCode] at h<;>(try cases h)
 ·(repeat' split at h)<;>cases h
 ·split at h
  ·cases h;exact ⟨_,_,rfl,‹_›,‹_›⟩
  ·cases h
 ·(repeat' split at h)<;>cases h
 all_goals first|(simp at h;done)|((repeat' split at h)<;>cases h;done)
def aC.andThen(K:St->Prop)(Q:aC->St->Prop):aC->St->Prop
 | .normal,s=>K s
 |e,s=>Q e s
theorem Wp.seq{x y:AC}(h:Wp P N x s (aC.andThen (λs'=>Wp P N y s' Q) Q)):Wp P N (.seq x y) s Q:=by
 intro code hc;obtain ⟨a,b,rfl,ha,hb⟩:=Bp hc;obtain ⟨e,s1,r1,q1⟩:=h a ha;cases e with
 |normal=>
  obtain ⟨e2,s2,r2,q2⟩:=q1 b hb;obtain ⟨⟨l1,l2⟩,r1⟩:=r1;obtain ⟨⟨l3,l4⟩,r2⟩:=r2;refine ⟨e2,s2,⟨⟨aa,aa⟩,λro okc G w ac r F=>wpIn_seq (wpIn_mono (r1 ro okc.seq.1 G w ac r (F.sub (Jl _) l3 (Jl _) l4)) ?_)⟩,q2⟩;rintro e' a' w' ⟨h1,h2,G',T1,r'⟩;cases e'<;>simp only[aC.dH] at h1;refine wpIn_mono (r2 ro okc.seq.2 G' w' a' r' (F.step T1)) ?_;rintro e'' a'' w'' ⟨k1,k2,G'',T2,r''⟩;exact ⟨k1,h2.trans T1.size_le k2,G'',T1.trans r.h r'.h T2,r''⟩
 |exit id=>
  refine ⟨.exit id,s1,⟨r1.1,λro okc G w ac r F=>wpIn_seq (wpIn_mono (r1.2 ro okc.seq.1 G w ac r F) ?_)⟩,q1⟩;rintro e' a' w' ⟨h1,h2⟩;cases e'<;>simp only[aC.dH] at h1;exact ⟨h1,h2⟩
 |goto l=>
  refine ⟨.goto l,s1,⟨r1.1,λro okc G w ac r F=>wpIn_seq (wpIn_mono (r1.2 ro okc.seq.1 G w ac r F) ?_)⟩,q1⟩;rintro e' a' w' ⟨h1,h2⟩;cases e'<;>simp only[aC.dH] at h1;exact ⟨h1,h2⟩
 |ret=>
  refine ⟨.ret,s1,⟨r1.1,λro okc G w ac r F=>wpIn_seq (wpIn_mono (r1.2 ro okc.seq.1 G w ac r F) ?_)⟩,q1⟩;rintro e' a' w' ⟨h1,h2⟩;cases e'<;>simp only[aC.dH] at h1;exact ⟨trivial,h2⟩
 |panic v=>
  refine ⟨.panic v,s1,⟨r1.1,λro okc G w ac r F=>wpIn_seq (wpIn_mono (r1.2 ro okc.seq.1 G w ac r F) ?_)⟩,q1⟩;rintro e' a' w' ⟨h1,h2⟩;cases e'<;>simp only[aC.dH] at h1;exact ⟨h1,h2⟩
theorem zh{code:Code}{c:Opd}{x y:AC}(h:cCode P N code=some (.cond c x y)):∃z a b,code= .cond z a b/\opd P 0 z=some c/\cCode P N a=some x/\cCode P N b=some y:=by
 cases code<;>simp only[cCode] at h<;>(try cases h)
 ·(repeat' split at h)<;>cases h
 ·(repeat' split at h)<;>cases h
 ·split at h
  ·cases h;exact ⟨_,_,_,rfl,‹_›,‹_›,‹_›⟩
  ·cases h
 all_goals first|(simp at h;done)|((repeat' split at h)<;>cases h;done)
theorem Wp.cond{c:Opd}{x y:AC}{b:Bool}(hb:ev s.t c= .bool b)(h:Wp P N (if b then x else y) s Q):Wp P N (.cond c x y) s Q:=by
 intro code hc;obtain ⟨z,p,q,rfl,h1,h2,h3⟩:=zh hc;obtain ⟨e,s',r,q⟩:=h (if b then p else q) (by cases b<;>simpa);refine ⟨e,s',⟨r.1,λro okc G w a rel F=>?_⟩,q⟩;have hz:a.eval z= .bool b:=by
  have:=aB h1 rel.t;rw[hb] at this;simpa only[au] using this
 exact wpIn_cond hz (by have:=r.2 ro (okc.cond b) G w a rel F;cases b<;>exact this)
theorem Wp.cond_true{c:Opd}{x y:AC}(hb:ev s.t c= .bool true)(h:Wp P N x s Q):Wp P N (.cond c x y) s Q:=Wp.cond hb h
theorem Wp.cond_false{c:Opd}{x y:AC}(hb:ev s.t c= .bool false)(h:Wp P N y s Q):Wp P N (.cond c x y) s Q:=Wp.cond hb h
theorem Wp.oW{c:Opd}{x y:AC}{b:Bool}(hb:ev s.t c= .bool b)(ht:b=true->Wp P N x s Q)(hf:b=false->Wp P N y s Q):Wp P N (.cond c x y) s Q:=by
 cases b
 ·exact Wp.cond hb (hf rfl)
 ·exact Wp.cond hb (ht rfl)
def aC.inBlock(id:Nat)(Q:aC->St->Prop):aC->St->Prop
 | .exit i,s=>if i=id then Q .normal s else Q (.exit i) s
 |e,s=>Q e s
theorem vd{code:Code}{id:Nat}{x:AC}(h:cCode P N code=some (.block id x)):∃a,code= .block id a/\cCode P N a=some x:=by
 cases code<;>simp only[cCode] at h<;>(try cases h)
 ·(repeat' split at h)<;>cases h
 ·(repeat' split at h)<;>cases h
 ·(repeat' split at h)<;>cases h
 ·simp only[Jo] at h;obtain ⟨a,h1,h2⟩:=h;cases h2;exact ⟨_,rfl,h1⟩
 all_goals first|(simp at h;done)|((repeat' split at h)<;>cases h;done)
theorem Wp.block{id:Nat}{x:AC}(h:Wp P N x s (aC.inBlock id Q)):Wp P N (.block id x) s Q:=by
 intro code hc;obtain ⟨a,rfl,ha⟩:=vd hc;obtain ⟨e,s1,r1,q1⟩:=h a ha;cases e with
 |normal=>
  refine ⟨.normal,s1,⟨r1.1,λro okc G w ac r F=>wpIn_block (wpIn_mono (r1.2 ro okc.block G w ac r F) ?_)⟩,q1⟩;rintro e' a' w' ⟨h1,h2⟩;cases e'<;>simp only[aC.dH] at h1;exact ⟨trivial,h2⟩
 |goto l=>
  refine ⟨.goto l,s1,⟨r1.1,λro okc G w ac r F=>wpIn_block (wpIn_mono (r1.2 ro okc.block G w ac r F) ?_)⟩,q1⟩;rintro e' a' w' ⟨h1,h2⟩;cases e'<;>simp only[aC.dH] at h1;exact ⟨h1,h2⟩
 |ret=>
  refine ⟨.ret,s1,⟨r1.1,λro okc G w ac r F=>wpIn_block (wpIn_mono (r1.2 ro okc.block G w ac r F) ?_)⟩,q1⟩;rintro e' a' w' ⟨h1,h2⟩;cases e'<;>simp only[aC.dH] at h1;exact ⟨trivial,h2⟩
 |panic v=>
  refine ⟨.panic v,s1,⟨r1.1,λro okc G w ac r F=>wpIn_block (wpIn_mono (r1.2 ro okc.block G w ac r F) ?_)⟩,q1⟩;rintro e' a' w' ⟨h1,h2⟩;cases e'<;>simp only[aC.dH] at h1;exact ⟨h1,h2⟩
 |exit i=>
  simp only[aC.inBlock] at q1;by_cases hi:i=id
  ·rw[JC hi] at q1;refine ⟨.normal,s1,⟨r1.1,λro okc G w ac r F=>wpIn_block (wpIn_mono (r1.2 ro okc.block G w ac r F) ?_)⟩,q1⟩;rintro e' a' w' ⟨h1,h2⟩;cases e'<;>simp only[aC.dH] at h1;subst h1;simp only[Exit.inBlock,hi,Jw];exact ⟨trivial,h2⟩
  ·rw[Jr hi] at q1;refine ⟨.exit i,s1,⟨r1.1,λro okc G w ac r F=>wpIn_block (wpIn_mono (r1.2 ro okc.block G w ac r F) ?_)⟩,q1⟩;rintro e' a' w' ⟨h1,h2⟩;cases e'<;>simp only[aC.dH] at h1;subst h1;simp only[Exit.inBlock,hi,Js];exact ⟨rfl,h2⟩
structure aJ(s s':St):Prop where
 n:s.h.n<=s'.h.n
 m:s.h.m<=s'.h.m
 go:∀N G w a,Rel N s G w a->bP G s.h s'.h->∃G',Trans G w s.h G' w s'.h/\Rel N s' G' w a
theorem aJ.trans{s s' s'':St}(a:aJ s s')(b:aJ s' s''):aJ s s'':=by
 refine ⟨JT a.n b.n,JT a.m b.m,λN G w ac r F=>?_⟩;obtain ⟨G1,T1,r1⟩:=a.go N G w ac r (F.sub (Jl _) b.n (Jl _) b.m);obtain ⟨G2,T2,r2⟩:=b.go N G1 w ac r1 (F.step T1);exact ⟨G2,T1.trans r.h r1.h T2,r2⟩
def dP:Obj->Obj->Prop
 | .cells cs,.cells cs'=>aw cs cs'
 | .map es,.map es'=>es=es'
 | .loop N t ps a b st p,o'=>o'= .loop N t ps a b st p
 | .raw c,o'=>o'= .raw c
 | .bk b,.bk b'=>b'=b
 | .bk b,.cells cs=>cs=xg b
 | .cells cs,.bk b=>cs=xg b/\AQ b
 |_,_=>False
theorem dP.refl(o:Obj):dP o o:=by cases o<;>simp[dP,aw.refl]
def HLe(h h':H):Prop:=(∀j o',h'.objs j=some o'->∃o,h.objs j=some o/\dP o o')/\∀t∈h'.toks,t∈h.toks
theorem H.sub.le{h h':H}(s:h'.sub h):HLe h h':=⟨λj o x=>⟨o,s.1 j o x,dP.refl o⟩,s.2⟩
theorem oZ{G:aE}{w:World}:∀{l:List (IntKind × Int)}{vs:List Value},ay G w (xf l) vs↔vs=qu l
 |[],vs=>by simp[xf,qu,ay]
 |p::l,vs=>by
  have ih:= @oZ G w l;simp only[xf,qu,JM,ay,au] at ih |-;constructor
  ·rintro ⟨v,us,rfl,rfl,h⟩;rw[ih.1 h]
  ·rintro rfl;exact ⟨_,_,rfl,rfl,ih.2 rfl⟩
theorem Bq{l:List (IntKind × Int)}:∀v∈qu l,One v:=by
 intro v hv;simp only[qu,JF] at hv;obtain ⟨p,-,rfl⟩:=hv;exact ⟨λa h=>(by cases h),λa h=>(by cases h)⟩
theorem jC.sub{G:aE}{w:World}{o o':Obj}{x:Option Go.Obj}(h:jC G w o x)(s:dP o o'):jC G w o' x:=by
 cases o<;>cases o'<;>simp only[dP] at s
 ·simp only[jC] at h |-;obtain ⟨vs,rest,T,fr,h1,h2,h3⟩:=h;exact ⟨vs,rest,T,fr,h1,s G w vs h2,h3⟩
 ·obtain ⟨rfl,ok⟩:=s;simp only[jC] at h |-;obtain ⟨vs,rest,T,fr,h1,h2,h3⟩:=h;exact ⟨ok,rest,T,fr,by rw[h1,oZ.1 h2],h3.1⟩
 ·subst s;exact h
 any_goals (rw [s];exact h;done)
 ·subst s;simp only[jC] at h |-;obtain ⟨ok,rest,T,fr,h1,h2⟩:=h;exact ⟨_,rest,T,fr,h1,oZ.2 rfl,h2,Bq⟩
theorem aM.le{G:aE}{w:World}{h h':H}(R:aM G h w)(s:HLe h h'):aM G h' w where
 obj id o' ho':=by
  obtain ⟨o,ho,hs⟩:=s.1 id o' ho';obtain ⟨a,b,c,d⟩:=R.obj id o ho;exact ⟨a,b,c,d.sub hs⟩
 inj id id' o o' ho ho':=by
  obtain ⟨p,hp,-⟩:=s.1 id o ho;obtain ⟨p',hp',-⟩:=s.1 id' o' ho';exact R.inj id id' p p' hp hp'
 tok t ht:=R.tok t (s.2 t ht)
 tinj t ht t' ht':=R.tinj t (s.2 t ht) t' (s.2 t' ht')
theorem Trans.le{G:aE}{w:World}{h h':H}(s:HLe h h')(n:h.n<=h'.n)(m:h.m<=h'.m):Trans G w h G w h' where
 dom_le _ x:=x
 dom_new _:= .inl
 ι_eq _ _:=rfl
 tdom_le _ x:=x
 tdom_new _:= .inl
 τ_eq _ _:=rfl
 n_le:=n
 m_le:=m
 size_le:=Jl _
 os:=rfl
 output:=rfl
 form _ _:=bq.refl _
 keep _ _ _ _:=rfl
 own_keep _ _ _:=Lr
 lim_keep _ _ _ _:=rfl
 tok_keep _ _ _ _ e he:=⟨λ_ _=>rfl,λe' he'=>by rw[he] at he';cases he';exact Jl _⟩
 O_new _ _:=λ⟨id,o,ho,e⟩=>let ⟨o',ho',_⟩:=s.1 id o ho;⟨id,o',ho',e⟩
 T_new _ _:=λ⟨t,ht,e⟩=>⟨t,s.2 t ht,e⟩
 objs_new j o x:=let ⟨o',ho',_⟩:=s.1 j o x;.inl ⟨o',ho'⟩
 toks_new t x:= .inl (s.2 t x)
theorem aJ.mk'{t t':Tm}{h h':H}(ht:∀i,ar (t i) (t' i))(hh:HLe h h')(n:h.n<=h'.n)(m:h.m<=h'.m):aJ ⟨t,h⟩ ⟨t',h'⟩:=
 ⟨n,m,λN G w a r _=>⟨G,Trans.le hh n m,⟨r.size,λi=>ht i G w _ (r.t i),r.h.le hh,r.df.mono (Trans.le hh n m)⟩⟩⟩
theorem aJ.tok(t:Tm)(h:H):aJ ⟨t,h⟩ ⟨t,{h with toks:=h.m::h.toks,m:=h.m+1}⟩:=by
 refine ⟨Jl _,LD _,λN G w a r F=>?_⟩;have hm:¬G.tdom h.m:=F.2 h.m (Jl _) (J8 _);let G':aE:={G with tdom:=λx=>G.tdom x\/x=h.m,τ:=upd G.τ h.m none}
 have hτ:G'.τ h.m=none:=by simp[G',upd]
 have hne:∀x,G.tdom x->G'.τ x=G.τ x:=λx hx=>by
  simp only[G',upd];rw[Jr];rintro rfl;exact hm hx
 have T:Trans G w h G' w {h with toks:=h.m::h.toks,m:=h.m+1}:=by
  constructor
  ·exact λ_ x=>x
  ·exact λ_=> .inl
  ·exact λ_ _=>rfl
  ·exact λ_=> .inl
  ·rintro x (hx|rfl)
   ·exact .inl hx
   ·exact .inr ⟨Jl _,J8 _⟩
  ·exact hne
  ·exact Jl _
  ·exact LD _
  ·exact Jl _
  ·rfl
  ·rfl
  ·exact λ_ _=>bq.refl _
  ·exact λ_ _ _ _=>rfl
  ·exact λ_ _ _=>Lr
  ·exact λ_ _ _ _=>rfl
  ·exact λ_ _ _ _ e he=>⟨λ_ _=>rfl,λe' he'=>by
    have:G.lim _=some e':=he';rw[he] at this;cases this;exact Jl _⟩
  ·exact λ_ _ x=>x
  ·rintro B _ ⟨x,hx,e,hte⟩;rcases JB.1 hx with rfl|hx
   ·rw[hτ] at hte;cases hte
   ·exact ⟨x,hx,e,by rw[<-hte];exact (hne x (r.h.tok x hx).1).symm⟩
  ·exact λj o x=> .inl ⟨o,x⟩
  ·intro x hx;rcases JB.1 hx with rfl|hx
   ·exact .inr ⟨Jl _,J8 _⟩
   ·exact .inl hx
 refine ⟨G',T,r.size,λi=>au.mono r.h T _ _ (r.t i),⟨?_,r.h.inj,?_,?_⟩,r.df.mono T⟩
 ·intro id o ho;obtain ⟨q1,q2,q3,q4⟩:=r.h.obj id o ho;exact ⟨q1,q2,q3,q4.mono r.h T⟩
 ·intro x hx;rcases JB.1 hx with rfl|hx
  ·exact ⟨.inr rfl,λB e hte=>by rw[hτ] at hte;cases hte⟩
  ·obtain ⟨q1,q2⟩:=r.h.tok x hx;exact ⟨.inl q1,λB e hte=>q2 B e (by rw[<-hne x q1];exact hte)⟩
 ·intro x hx x' hx' B e e' h1 h2;rcases JB.1 hx with rfl|hx
  ·rw[hτ] at h1;cases h1
  ·rcases JB.1 hx' with rfl|hx'
   ·rw[hτ] at h2;cases h2
   ·exact r.h.tinj x hx x' hx' B e e' (by rw[<-hne x (r.h.tok x hx).1];exact h1) (by rw[<-hne x' (r.h.tok x' hx').1];exact h2)
theorem Run.le{c:Code}{s' s'':St}{e:aC}(h:aJ s s')(r:Run P N c s' e s''):Run P N c s e s'':=by
 obtain ⟨⟨rn,rm⟩,rr⟩:=r;refine ⟨⟨JT h.n rn,JT h.m rm⟩,λro okc G w a rel F=>?_⟩;obtain ⟨G1,T1,rel1⟩:=h.go N G w a rel (F.sub (Jl _) rn (Jl _) rm);refine wpIn_mono (rr ro okc G1 w a rel1 (F.step T1)) ?_;rintro e' a' w' ⟨h1,h2,G',T,r'⟩;exact ⟨h1,h2,G',T1.trans rel.h rel1.h T,r'⟩
theorem Wp.le{c:AC}{s':St}(h:aJ s s')(hw:Wp P N c s' Q):Wp P N c s Q:=
 λcode hc=>let ⟨e,s'',r,q⟩:=hw code hc;⟨e,s'',r.le h,q⟩
theorem qH{code:Code}{x:AC}(h:cCode P N code=some (.loop x)):∃a,code= .loop a/\cCode P N a=some x:=by
 cases code<;>simp only[cCode] at h<;>(try cases h)
 ·(repeat' split at h)<;>cases h
 ·(repeat' split at h)<;>cases h
 ·(repeat' split at h)<;>cases h
 ·simp at h
 ·simp only[Jo] at h;obtain ⟨a,h1,h2⟩:=h;cases h2;exact ⟨_,rfl,h1⟩
 all_goals first|(simp at h;done)|((repeat' split at h)<;>cases h;done)
theorem ve{F:Fence}{n:Nat}{β:Type}{c:Code}{Q:Exit->Act->World->Prop}(I:β->Act->World->Prop)(μ:β->Nat)
  (round:∀b a w,I b a w->c.wpIn F n P (Exit.then (λa' w'=>∃b',I b' a' w'/\μ b'<μ b) Q) a w) {b:β} {a:Act} {w:World} (h₀:I b a w):(Code.loop c).wpIn F n P Q a w:=by
 intro fr k cs hro hb hr;have key:∀j b a w,μ b=j->I b a w->∃e a' w',Q e a' w'/\ArrivesIn (Machine.fenced P F) P (lone (fr.atR a (.code c:: .inLoop c::k)) cs w) fr k cs e a' w':=by
  intro j;induction j using Nat.strongRecOn with
  |_ j ih=>
   intro b a w hn hI;obtain ⟨e,a₁,w₁,hq,harr⟩:=round b a w hI fr (.inLoop c::k) cs hro hb hr;cases e with
   |normal=>
    obtain ⟨b₁,hI₁,hlt⟩:=hq;obtain ⟨e₂,a₂,w₂,hq₂,harr₂⟩:=ih (μ b₁) (hn▸hlt) b₁ a₁ w₁ rfl hI₁;exact ⟨e₂,a₂,w₂,hq₂,.of_steps (StepsIn.trans harr (.one (fenced_calm hb hr rfl) stepR_inLoop)) harr₂⟩
   |exit id=>exact ⟨_,a₁,w₁,hq,.pass (x:= .inLoop c) rfl (λ_ _=> .inl af) harr⟩
   |goto l=>exact ⟨_,a₁,w₁,hq,.pass (x:= .inLoop c) rfl (λ_ _=> .inl af) harr⟩
   |ret=>exact ⟨_,a₁,w₁,hq,.pass (x:= .inLoop c) rfl (λ_ _=> .inl af) harr⟩
   |panic ch=>exact ⟨_,a₁,w₁,hq,.pass (x:= .inLoop c) rfl (λ_ _=> .inl af) harr⟩
   |outgrown=>exact ⟨_,a₁,w₁,hq,.pass (x:= .inLoop c) rfl (λ_ _=> .inl af) harr⟩
 obtain ⟨e,a',w',hq,harr⟩:=key _ b a w rfl h₀;exact ⟨e,a',w',hq,.of_steps (.one (fenced_calm hb hr rfl) stepR_loop) harr⟩
inductive lG{β:Type}(P:Program)(N:Nat)(c:Code)(S:β->St)(μ:β->Nat):β->aC->St->Prop where
 |last {b:β} {e:aC} {s':St} (r:Run P N c (S b) e s') (hne:e≠ .normal):lG P N c S μ b e s'
 |more {b b':β} {e:aC} {s1 s':St} (r:Run P N c (S b) .normal s1) (hle:aJ s1 (S b')) (hlt:μ b'<μ b) (rest:lG P N c S μ b' e s'):lG P N c S μ b e s'
theorem lG.nm{β:Type}{c:Code}{S:β->St}{μ:β->Nat}{b:β}{e:aC}{s':St}(h:lG P N c S μ b e s'):(S b).h.n<=s'.h.n/\(S b).h.m<=s'.h.m:=by
 induction h with
 |last r _=>exact r.1
 |more r hle _ _ ih=>have:=r.1;have:=hle.n;have:=hle.m;omega
theorem Wp.loop{β:Type}(S:β->St)(I:β->Prop)(μ:β->Nat){c:AC}(b0:β)(h0:I b0)(hs:aJ s (S b0))
  (round:∀b,I b->Wp P N c (S b) (aC.andThen (λs'=>∃b',I b'/\μ b'<μ b/\aJ s' (S b')) Q)):Wp P N (.loop c) s Q:=by
 intro code hc;obtain ⟨x,rfl,hx⟩:=qH hc;have ex:∀n b,μ b=n->I b->∃e s',lG P N x S μ b e s'/\Q e s':=by
  intro n;induction n using Nat.strongRecOn with
  |_ n ih=>
   intro b hn hb;obtain ⟨e,s1,r1,q1⟩:=round b hb x hx;cases e with
   |normal=>
    obtain ⟨b',i1,i2,i3⟩:=q1;obtain ⟨e,s',r',q'⟩:=ih (μ b') (hn▸i2) b' rfl i1;exact ⟨e,s',.more r1 i3 i2 r',q'⟩
   |exit id=>exact ⟨_,s1,.last r1 af,q1⟩
   |goto l=>exact ⟨_,s1,.last r1 af,q1⟩
   |ret=>exact ⟨_,s1,.last r1 af,q1⟩
   |panic v=>exact ⟨_,s1,.last r1 af,q1⟩
 obtain ⟨e,s',hcm,q⟩:=ex _ b0 rfl h0;refine ⟨e,s',Run.le hs ⟨hcm.nm,λro okc G0 w0 a0 rel0 F0=>?_⟩,q⟩;refine ve (λb a w=>lG P N x S μ b e s'/\kT w0 a0.defers a.defers/\∃G,Trans G0 w0 (S b0).h G w (S b).h/\Rel N (S b) G w a/\bP G (S b).h s'.h) μ ?_ ⟨hcm,.refl,G0,Trans.refl _ _ _,rel0,F0⟩;rintro b a w ⟨hcm,hd,G,T,rel,F⟩;cases hcm with
 |last r hne=>
  refine wpIn_mono (r.2 ro okc.loop G w a rel F) ?_;rintro e' a' w' ⟨h1,h2,G',T',r'⟩;have:e'≠ .normal:=by
   rintro rfl;cases e<;>simp[aC.dH] at h1 hne
  have hgoal:e.dH e'/\kT w0 a0.defers a'.defers/\∃G',Trans G0 w0 (S b0).h G' w' s'.h/\Rel N s' G' w' a':=⟨h1,hd.trans T.size_le h2,G',T.trans rel0.h rel.h T',r'⟩;cases e'<;>first|exact hgoal|exact absurd rfl this
 |more r hle hlt rest=>
  have nm:=rest.nm;refine wpIn_mono (r.2 ro okc.loop G w a rel (F.sub (Jl _) (JT hle.n nm.1) (Jl _) (JT hle.m nm.2))) ?_;rintro e' a' w' ⟨h1,h2,G',T',r'⟩;cases e'<;>simp only[aC.dH] at h1;rename_i b' s1;have F1:=F.step T';obtain ⟨G2,T2,r2⟩:=hle.go N G' w' a' r' (F1.sub (Jl _) nm.1 (Jl _) nm.2);have T3:=(T.trans rel0.h rel.h T').trans rel0.h r'.h T2;exact ⟨b',⟨rest,hd.trans T.size_le h2,G2,T3,r2,F1.step T2⟩,hlt⟩
def dY:AC->Nat->Option AC
 | .seq a b,l=>match dY a l with
  |some r=>some (.seq r b)
  |none=>dY b l
 | .label l',l=>if l'=l then some .skip else none
 |_,_=>none
theorem vf{l:Nat}:∀{c:Code}{x:AC},cCode P N c=some x->match findLabel c l with|some rest=>∃y,cCode P N rest=some y/\dY x l=some y|none=>dY x l=none:=by
 intro c;induction c with
 |seq a b iha ihb=>
  intro x h;obtain ⟨a',b',he,h1,h2⟩:∃a' b',x= .seq a' b'/\cCode P N a=some a'/\cCode P N b=some b':=by
   simp only[cCode] at h;split at h
   ·cases h;exact ⟨_,_,rfl,‹_›,‹_›⟩
   ·cases h
  subst he;have ga:=iha h1;have gb:=ihb h2;simp only[findLabel,dY];cases hf:findLabel a l with
  |some rest=>
   rw[hf] at ga;obtain ⟨y,y1,y2⟩:=ga;simp only[y2];exact ⟨_,by simp only[cCode,y1,h2],rfl⟩
  |none=>
   rw[hf] at ga;simp only at ga;simp only[ga];exact gb
 |label l'=>
  intro x h;simp only[cCode,JA] at h;subst h;simp only[findLabel,dY];by_cases e:l'=l
  ·simp only[e,KH,Jw];exact ⟨.skip,rfl,rfl⟩
  ·have:(l' == l)=false:=by simpa using e
   simp only[this,Jr e,Jy,Js]
 |skip=>intro x h;simp only[cCode,JA] at h;subst h;simp[findLabel,dY]
 |region id ops draw=>
  intro x h;simp only[cCode] at h
  (repeat' split at h)<;>cases h<;>simp[findLabel,dY]
 |cond z a b _ _=>
  intro x h;simp only[cCode] at h;split at h<;>cases h;simp[findLabel,dY]
 |block id a _=>intro x h;simp only[cCode,Jo] at h;obtain ⟨_,_,rfl⟩:=h;simp[findLabel,dY]
 |loop a _=>intro x h;simp only[cCode,Jo] at h;obtain ⟨_,_,rfl⟩:=h;simp[findLabel,dY]
 |rangeFunc g ps a b _ _=>
  intro x h;simp only[cCode] at h
  (repeat' split at h)<;>cases h<;>simp[findLabel,dY]
 |exit id=>intro x h;simp only[cCode,JA] at h;subst h;simp[findLabel,dY]
 |scope a _=>intro x h;simp only[cCode,Jo] at h;obtain ⟨_,_,rfl⟩:=h;simp[findLabel,dY]
 |goto l'=>intro x h;simp only[cCode,JA] at h;subst h;simp[findLabel,dY]
 |ret=>intro x h;simp only[cCode,JA] at h;subst h;simp[findLabel,dY]
 |refuse=>intro x h;simp[cCode] at h
def kH(F:Fence)(n:Nat)(P:Program)(c cur:Code)(Q:Exit->Act->World->Prop)(a:Act)(w:World):Prop:=
 ∀(b:Frame)(k:List Item)(cs:List Frame),b.roundOf=F.round->F.fn b.fn->F.room (cs.length+1+n)->
  ∃e a' w',Q e a' w'/\ArrivesIn (Machine.fenced P F) P (lone (b.atR a (.code cur:: .inScope c::k)) cs w) b k cs e a' w'
theorem s7{b:Frame}{a:Act}{k:List Item}{cs:List Frame}{w:World}{c:Code}:step P (lone (b.atR a (.code (.scope c)::k)) cs w)= .next (lone (b.atR a (.code c:: .inScope c::k)) cs w):=
 step_lone_go (by simp[stepG,stepG.exec,Frame.atR])
theorem qh{b:Frame}{a:Act}{k:List Item}{cs:List Frame}{w:World}{c:Code}:step P (lone (b.atR a (.inScope c::k)) cs w)= .next (lone (b.atR a k) cs w):=
 step_lone_go (by simp[stepG,stepG.exec,Frame.atR])
theorem kH.start{F:Fence}{n:Nat}{c:Code}{Q:Exit->Act->World->Prop}{a:Act}{w:World}(h:kH F n P c c Q a w):(Code.scope c).wpIn F n P Q a w:=by
 intro b k cs hro hb hr;obtain ⟨e,a₁,w₁,hq,harr⟩:=h b k cs hro hb hr;exact ⟨e,a₁,w₁,hq,.of_steps (.one (fenced_calm hb hr rfl) s7) harr⟩
def Exit.within(F:Fence)(n:Nat)(P:Program)(c:Code)(Q:Exit->Act->World->Prop):Exit->Act->World->Prop
 | .goto l,a,w=>match findLabel c l with
  |some rest=>kH F n P c rest Q a w
  |none=>Q (.goto l) a w
 |e,a,w=>Q e a w
theorem kH.step{F:Fence}{n:Nat}{c cur:Code}{Q:Exit->Act->World->Prop}{a:Act}{w:World}(h:cur.wpIn F n P (Exit.within F n P c Q) a w):kH F n P c cur Q a w:=by
 intro b k cs hro hb hr;obtain ⟨e,a₁,w₁,hq,harr⟩:=h b (.inScope c::k) cs hro hb hr;cases e with
 |normal=>exact ⟨.normal,a₁,w₁,hq,StepsIn.trans harr (.one (fenced_calm hb hr rfl) qh)⟩
 |exit id=>exact ⟨.exit id,a₁,w₁,hq,λk' hk=>harr.1 k' (by simp[exitTo,hk]),λh1 h2=>harr.2 h1 (by simp[exitTo,h2])⟩
 |goto l=>
  simp only[Exit.within] at hq;cases hf:findLabel c l with
  |some rest=>
   rw[hf] at hq;obtain ⟨e₂,a₂,w₂,hq₂,harr₂⟩:=hq b k cs hro hb hr;exact ⟨e₂,a₂,w₂,hq₂,.of_steps (harr.1 _ (by simp[gotoIn,hf])) harr₂⟩
  |none=>
   rw[hf] at hq;exact ⟨.goto l,a₁,w₁,hq,λk' hk=>harr.1 k' (by simp[gotoIn,hf,hk]),λh1 h2=>harr.2 h1 (by simp[gotoIn,hf,h2])⟩
 |ret=>exact ⟨_,a₁,w₁,hq,harr⟩
 |panic ch=>exact ⟨_,a₁,w₁,hq,harr⟩
 |outgrown=>exact ⟨_,a₁,w₁,hq,harr⟩
def IY(P:Program)(N:Nat)(c cur:Code)(s:St)(e:aC)(s':St):Prop:=
 (s.h.n<=s'.h.n/\s.h.m<=s'.h.m)/\∀ro,okR c ro->okR cur ro->∀G w a,Rel N s G w a->bP G s.h s'.h->kH (rd ro) 0 P c cur (λe' a' w'=>e.dH e'/\kT w a.defers a'.defers/\∃G',Trans G w s.h G' w' s'.h/\Rel N s' G' w' a') a w
def WpS(P:Program)(N:Nat)(c cur:AC)(s:St)(Q:aC->St->Prop):Prop:=
 ∀code ccur,cCode P N code=some c->cCode P N ccur=some cur->∃e s',IY P N code ccur s e s'/\Q e s'
theorem vi{code:Code}{x:AC}(h:cCode P N code=some (.scope x)):∃a,code= .scope a/\cCode P N a=some x:=by
 cases code<;>simp only[cCode] at h<;>(try cases h);all_goals first
  |(simp only[Jo] at h
    obtain ⟨a,h1,h2⟩:=h;cases h2;exact ⟨_,rfl,h1⟩)
  |(simp at h;done)
  |((repeat' split at h)<;>cases h;done)
theorem vj{code:Code}{l:Nat}(h:cCode P N code=some (.label l)):code= .label l:=by
 cases code<;>simp only[cCode] at h<;>(try cases h)<;>(try rfl);all_goals first|((repeat' split at h)<;>cases h;done)|(simp at h;done)
theorem zj{code:Code}{l:Nat}(h:cCode P N code=some (.goto l)):code= .goto l:=by
 cases code<;>simp only[cCode] at h<;>(try cases h)<;>(try rfl);all_goals first|((repeat' split at h)<;>cases h;done)|(simp at h;done)
theorem Wp.label{l:Nat}(h:Q .normal s):Wp P N (.label l) s Q:=by
 intro code hc;obtain rfl:=vj hc;exact ⟨.normal,s,⟨⟨Jl _,Jl _⟩,λro okc G w a r _=>wpIn_label ⟨trivial,.refl,G,Trans.refl _ _ _,r⟩⟩,h⟩
theorem Wp.goto{l:Nat}(h:Q (.goto l) s):Wp P N (.goto l) s Q:=by
 intro code hc;obtain rfl:=zj hc;exact ⟨.goto l,s,⟨⟨Jl _,Jl _⟩,λro okc G w a r _=>wpIn_goto ⟨rfl,.refl,G,Trans.refl _ _ _,r⟩⟩,h⟩
theorem Wp.scope{c:AC}(h:WpS P N c c s Q):Wp P N (.scope c) s Q:=by
 intro code hc;obtain ⟨x,rfl,hx⟩:=vi hc;obtain ⟨e,s',r,q⟩:=h x x hx hx;exact ⟨e,s',⟨r.1,λro okc G w a rel F=>(r.2 ro okc.scope okc.scope G w a rel F).start⟩,q⟩
def aC.within(P:Program)(N:Nat)(c:AC)(Q:aC->St->Prop):aC->St->Prop
 | .goto l,s=>match dY c l with
  |some rest=>WpS P N c rest s Q
  |none=>Q (.goto l) s
 |e,s=>Q e s
theorem WpS.step{c cur:AC}(h:Wp P N cur s (aC.within P N c Q)):WpS P N c cur s Q:=by
 intro code ccur hc hcur;obtain ⟨e,s1,r1,q1⟩:=h ccur hcur;cases e with
 |normal=>
  refine ⟨.normal,s1,⟨r1.1,λro okc okd G w ac r F=> .step (wpIn_mono (r1.2 ro okd G w ac r F) ?_)⟩,q1⟩;rintro e' a' w' ⟨h1,h2⟩;cases e'<;>simp only[aC.dH] at h1;exact ⟨trivial,h2⟩
 |ret=>
  refine ⟨.ret,s1,⟨r1.1,λro okc okd G w ac r F=> .step (wpIn_mono (r1.2 ro okd G w ac r F) ?_)⟩,q1⟩;rintro e' a' w' ⟨h1,h2⟩;cases e'<;>simp only[aC.dH] at h1;exact ⟨trivial,h2⟩
 |panic v=>
  refine ⟨.panic v,s1,⟨r1.1,λro okc okd G w ac r F=> .step (wpIn_mono (r1.2 ro okd G w ac r F) ?_)⟩,q1⟩;rintro e' a' w' ⟨h1,h2⟩;cases e'<;>simp only[aC.dH] at h1;exact ⟨h1,h2⟩
 |exit i=>
  refine ⟨.exit i,s1,⟨r1.1,λro okc okd G w ac r F=> .step (wpIn_mono (r1.2 ro okd G w ac r F) ?_)⟩,q1⟩;rintro e' a' w' ⟨h1,h2⟩;cases e'<;>simp only[aC.dH] at h1;exact ⟨h1,h2⟩
 |goto l=>
  simp only[aC.within] at q1;have hfl:=vf (l:=l) hc;cases hf:findLabel code l with
  |none=>
   rw[hf] at hfl;simp only at hfl;rw[hfl] at q1;refine ⟨.goto l,s1,⟨r1.1,λro okc okd G w ac r F=> .step (wpIn_mono (r1.2 ro okd G w ac r F) ?_)⟩,q1⟩;rintro e' a' w' ⟨h1,h2⟩;cases e'<;>simp only[aC.dH] at h1;subst h1;simp only[Exit.within,hf];exact ⟨rfl,h2⟩
  |some rest=>
   rw[hf] at hfl;obtain ⟨y,y1,y2⟩:=hfl;rw[y2] at q1;obtain ⟨e2,s2,r2,q2⟩:=q1 code rest hc y1;obtain ⟨⟨l1,l2⟩,r1⟩:=r1;obtain ⟨⟨l3,l4⟩,r2⟩:=r2;refine ⟨e2,s2,⟨⟨aa,aa⟩,λro okc okd G w ac r F=> .step (wpIn_mono (r1 ro okd G w ac r (F.sub (Jl _) l3 (Jl _) l4)) ?_)⟩,q2⟩;rintro e' a' w' ⟨h1,h2,G',T1,r'⟩;cases e'<;>simp only[aC.dH] at h1;subst h1;simp only[Exit.within,hf];intro b k cs hro hb hr;obtain ⟨e'',a'',w'',⟨k1,k2,G'',T2,r''⟩,harr⟩:=r2 ro okc (okc.find hf) G' w' a' r' (F.step T1) b k cs hro hb hr;exact ⟨e'',a'',w'',⟨k1,h2.trans T1.size_le k2,G'',T1.trans r.h r'.h T2,r''⟩,harr⟩
end
section
variable{P:Program}{N:Nat}
theorem jP{ρ ρ':Opd->AV}:∀{l:List (Nat × Nat × Opd)}{cs:List AV},(∀x∈l.map (λp=>p.2.2),ρ x=ρ' x)->er ρ l cs=er ρ' l cs
 |[],_,_=>rfl
 |(off,n,x)::l,cs,h=>by
  have hx:ρ x=ρ' x:=h x af;simp only[er,hx];split
  ·exact jP λy hy=>h y (by simp at hy |-;exact .inr hy)
  ·rfl
theorem zm{ρ ρ':Opd->AV}{h:H}{op:AOp}(hh:∀x∈bK op,ρ x=ρ' x):aop ρ h op=aop ρ' h op:=by
 cases op with
 |build z parts=>simp only[aop,jP (l:=parts) hh]
 |raw k xs=>
  have e1:xs.map ρ=xs.map ρ':=KD λx hx=>hh x (by simpa [bK] using hx);simp only[aop,e1]
 |buildSl sz parts=>
  have e1:parts.map ρ=parts.map ρ':=KD hh;have e2:parts.all (λx=>decide ((cellsOf (ρ x)).length=sz/\shaped (ρ x)=true))=parts.all (λx=>decide ((cellsOf (ρ' x)).length=sz/\shaped (ρ' x)=true)):=by
   rw[LU];simp only[JS];exact ⟨λk x hx=>by rw[<-hh x hx];exact k x hx,λk x hx=>by rw[hh x hx];exact k x hx⟩
  simp only[aop,e1,e2]
 |mkfn fn a b=>
  have e1:a.map ρ=a.map ρ':=KD λx hx=>hh x (by simp[bK,hx]);have e2:b.map ρ=b.map ρ':=KD λx hx=>hh x (by simp[bK,hx]);simp only[aop,e1,e2]
 |slc str sz x a b c=>
  have e0:ρ x=ρ' x:=hh x (by simp[bK]);have e1:∀y:Option Opd,(∀z∈y.toList,ρ z=ρ' z)->y.map ρ=y.map ρ':=by
   intro y hy;cases y with
   |none=>rfl
   |some z=>simp[hy z af]
  have e2:(c.map λm=>some (ρ m))=(c.map λm=>some (ρ' m)):=by
   cases c with
   |none=>rfl
   |some z=>simp[hh z (by simp[bK])]
  simp only[aop,e0,e1 a (λz hz=>hh z (by simp only[bK,JB,JW];exact .inr (.inl (.inl hz)))),e1 b (λz hz=>hh z (by simp only[bK,JB,JW];exact .inr (.inl (.inr hz)))),e2]
 |call f l=>rfl
 |callv x l=>rfl
 |alloc z=>rfl
 |dead=>rfl
 |pan x=>rfl
 |_=>simp[bK] at hh;simp only[aop,hh]
def iC(l:List Nat)(t:Tm):Tm:=λi=>if l.contains i then t i else .any
theorem fg{l:List Nat}{G:aE}{w:World}{t:Tm}{a:Act}(h:TOn l G w t a):bQ G w (iC l t) a:=by
 intro i;unfold iC;split
 ·rename_i hh;exact h i (by simpa using hh)
 ·simp[au]
theorem jf{l:List Nat}{t:Tm}{xs:List Opd}(h:(tmpsOf xs).all (λi=>l.contains i)=true):∀x∈xs,ev (iC l t) x=ev t x:=by
 intro x hx;cases x with
 |c a=>rfl
 |t i=>
  simp only[ev,iC];rw[JS] at h;have:=h i (by simp only[tmpsOf,List.mem_filterMap];exact ⟨_,hx,rfl⟩);rw[JC this]
def guardOf(t:Tm)(g:Option (Nat × Bool)):Option Bool:=
 match g with
 |none=>some true
 |some (d,w)=>match t d with
  | .bool b=>some (b == w)
  | .sc (.tuple _)=>some false
  |_=>none
theorem cq{ops:Array Oper}{o:Oper}{g:Option (Nat × Bool)}{t:Tm}{a:Act}{G:aE}{w:World}{b:Bool}(hg:mM ops o.guard=some g)(ht:TOn (names ops o) G w t a)(hb:guardOf t g=some b):
  Region.wanted o (yielded ops a.tmps)=b:=by
 unfold Region.wanted;cases hog:o.guard with
 |none=>
  rw[hog] at hg;simp[mM] at hg;subst hg;simp[guardOf] at hb;simp[hb]
 |some jw=>
  obtain ⟨j,want⟩:=jw;rw[hog] at hg;simp only[mM] at hg;split at hg
  ·rename_i d hd;cases hg;simp only[guardOf] at hb;split at hb
   ·rename_i c hc;cases hb;have hr:=ht d (by simp only[names,hog,JW];right;simp[hd]);rw[hc] at hr;simp only[au] at hr;have hy:yielded ops a.tmps j=some c:=by
     unfold yielded;rw[hd];simp only[Option.bind_some];have:a.tmps[d]? =some (.bool c):=by
      cases hk:a.tmps[d]? with
      |none=>simp[hk] at hr;simp[undef] at hr
      |some v=>simp[hk] at hr;rw[hr]
     rw[this]
    simp only[hy];cases c<;>cases want<;>rfl
   ·rename_i xs hc;cases hb;have hr:=ht d (by simp only[names,hog,JW];right;simp[hd]);rw[hc] at hr;simp only[au] at hr;have hy:yielded ops a.tmps j=none:=by
     unfold yielded;rw[hd];simp only[Option.bind_some];cases hk:a.tmps[d]? with
     |none=>rfl
     |some v=>simp[hk] at hr;rw[hr]
    simp only[hy];cases want<;>rfl
   ·cases hb
  ·cases hg
theorem dQ{o:Oper}{op:AOp}(h:cOp P o=some op):∀c,o.op≠ .defer c:=by
 intro c e;unfold cOp at h;rw[e] at h;cases h
theorem lH{ro:Option Nat}{n:Nat}{f:FuncId}{args:Array Value}{w:World}{R:Ending->World->Prop}(h:Calls P f args w R):CallsIn (rd ro) n P f args w R:=by
 have h2:CallsIn Fence.wide n P f args w R:=callsIn_wide.2 h;exact h2
theorem iD{ops:Array Oper}{i:Nat}{o:Oper}{it:aL}{t:Tm}{h h':H}{x:AV}{en:Ent}(ho:ops[i]? =some o)(hit:bB P N ops o=some it)(hg:guardOf t it.guard=some true)(hx:aop (ev t) h it.op=some (x,h',en)):
  ∃h1 h1',Touch h h1 h1' h' en/\gq P ops i o t h1 x h1':=by
 unfold bB at hit;split at hit
 ·rename_i op g hop hgd;split at hit<;>cases hit;rename_i hcond;simp only[Jv] at hcond;have hx':aop (ev (iC (names ops o) t)) h op=some (x,h',en):=by
   rw[zm (jf hcond.2)];exact hx
  obtain ⟨hpl,h1,h1',tc,loc⟩:(∀c,o.op≠ .defer c)/\Loc P o (iC (names ops o) t) h x h' en:=by
   cases hr:xn op with
   |false=>
    have hop:=fW hop (by rintro rfl;simp[aop] at hx) hr;exact ⟨dQ hop,DS hop hx'⟩
   |true=>
    cases op<;>simp[xn] at hr;have hop:=Bn hop;refine ⟨uZ hop,?_⟩;simp only[aop,Jo,JD] at hx';obtain ⟨v,hv,rfl,rfl,rfl⟩:=hx';exact Loc.plain λG w a ht=>ze hop hv ht
  refine ⟨h1,h1',tc,λG w a ht R F K Q hK ro=>?_⟩;obtain ⟨nx,v,w',G',e1,e2,T1,R1,V⟩:=loc G w a (fg ht) R F;unfold wpOpIn;rw[ho];simp only[cq hgd ht hg,Jw];refine ⟨λ_ _=>trivial,?_⟩;rw[Oper.semAt_eq _ _ _ hpl,e1];rcases e2 with rfl|⟨rfl,rfl⟩
  ·rw[Oper.uponIn_value];exact hK G' w' v T1 R1 V
  ·rw[Oper.uponIn_skip];exact hK G' w' undef T1 R1 V
 ·cases hit
theorem gr{ops:Array Oper}{i:Nat}{o:Oper}{it:aL}{t:Tm}{h:H}(ho:ops[i]? =some o)(hit:bB P N ops o=some it)(hg:guardOf t it.guard=some false):
  gq P ops i o t (H0 h.n h.m) (.sc undef) (H0 h.n h.m):=by
 unfold bB at hit;split at hit
 ·rename_i op g hop hgd;split at hit<;>cases hit;intro G w a ht R F K Q hK ro;unfold wpOpIn;rw[ho];simp only[cq hgd ht hg,Js,Jy];refine ⟨λ_ _=>trivial,?_⟩;exact hK G w undef (Trans.refl _ _ _) R (by simp[au])
 ·cases hit
theorem s8{o:Oper}{f:FuncId}{l:List Opd}(h:cOp P o=some (.call f l)):∃c fn,o.op= .call c/\c.callee= .value (.func f)/\lB P c.argTypes.toList c.args.toList=some l/\P.funcs[f]? =some fn/\fn.body.isSome=true/\fn.name≠ "runtime.NumGoroutine" :=by
 unfold cOp at h;split at h
 case h_28 c hop=>
  split at h
  case h_8 f' hc=>
   split at h
   ·split at h
    ·rename_i fn hfn hcond;simp only[Jo] at h;obtain ⟨l',h1,h2⟩:=h;cases h2;exact ⟨c,fn,hop,hc,h1,hfn,hcond.1,hcond.2⟩
    ·cases h
   ·cases h
  all_goals first
   |(cases h;done)
   |((repeat' split at h)<;>(try cases h)<;>simp at h)
 all_goals first
  |(cases h;done)
  |(simp at h;done)
  |((repeat' split at h)<;>(try cases h)<;>(try simp at h);done)
  |skip
theorem qI{o:Oper}{y:Opd}{l:List Opd}(h:cOp P o=some (.callv y l)):∃c z,o.op= .call c/\c.callee= .value z/\opd P 0 z=some y/\lB P c.argTypes.toList c.args.toList=some l:=by
 unfold cOp at h;split at h
 case h_28 c hop=>
  split at h
  case h_9 z _ hc=>
   split at h
   ·rename_i a l' h1 h2;cases h;exact ⟨c,z,hop,hc,h1,h2⟩
   ·cases h
  all_goals first
   |(cases h;done)
   |((repeat' split at h)<;>(try cases h)<;>simp at h)
 all_goals first
  |(cases h;done)
  |(simp at h;done)
  |((repeat' split at h)<;>(try cases h)<;>(try simp at h);done)
theorem dR{f:FuncId}{fn:Func}{args:Array Value}(w:World)(hf:P.funcs[f]? =some fn)(hb:fn.body.isSome=true)(hn:fn.name≠ "runtime.NumGoroutine"):(callFunc f args).run P w= .ok (.enter f args) w:=by
 have hb':fn.body≠none:=by intro h;rw[h] at hb;cases hb
 simp[callFunc,hf,hn,hb']
theorem o5{o:Oper}{f:FuncId}{vals:List AV}{h1 h1':H}{r:AV}(hc:aS P f vals h1 r h1'){G:aE}{w:World}{a:Act}{vs:List Value}(hv:ay G w vals vs)(R:aM G h1 w)(F:bP G h1 h1'){K:Act->World->Prop}{Q:Exit->Act->World->Prop}{ro:Option Nat}(hd:∀c,o.op≠ .defer c)
  (hK:∀G' w' v,Trans G w h1 G' w' h1'->aM G' h1' w'->au G' w' r v->K (a.put o.dst v) w') (hrun:(execOp a.eval o).run P w= .ok (.enter f vs.toArray) w):o.wpIn (rd ro) 0 P a w K Q:=by
 refine ⟨λ_ _=>trivial,?_⟩;rw[Oper.semAt_eq _ _ _ hd,hrun,Oper.uponIn_enter];refine ⟨λh=>by simp[rd,Fence.wide] at h,lH ?_⟩;refine (hc G w vs hv R F).mono ?_;rintro e w' ⟨v,G',rfl,T,R',V⟩;exact hK G' w' v T R' V
theorem gu{ops:Array Oper}{i:Nat}{o:Oper}{it:aL}{t:Tm}{f:FuncId}{l:List Opd}{vals:List AV}{h1 h1':H}{r:AV}(ho:ops[i]? =some o)(hit:bB P N ops o=some it)(hg:guardOf t it.guard=some true)(hop:it.op= .call f l)
  (hs:aw (l.map (ev t)) vals) (hc:aS P f vals h1 r h1'):gq P ops i o t h1 r h1':=by
 unfold bB at hit;split at hit
 ·rename_i op g hcop hgd;split at hit<;>cases hit;rename_i hcond;simp only[Jv] at hcond;simp only at hop;subst hop;have hcop:=fW hcop af rfl;obtain ⟨c,fn,e1,e2,e3,e4,e5,e6⟩:=s8 hcop;intro G w a ht R F K Q hK ro;unfold wpOpIn;rw[ho];simp only[cq hgd ht hg,Jw];have rr:=fI (P:=P) (fg ht) e3;have el:l.map (ev (iC (names ops o) t))=l.map (ev t):=KD λx hx=>jf hcond.2 x (by simpa [bK] using hx);rw[el] at rr;refine o5 hc (hs G w _ rr) R F (dQ hcop) hK ?_;have hargs:(c.args.map a.eval)=(c.args.toList.map a.eval).toArray:=by cases c.args;simp
  simp[execOp,e1,resolve,e2,Act.eval,Deferred.ofValue,invoke,hargs,dR w e4 e5 e6]
 ·cases hit
theorem nH{ops:Array Oper}{i:Nat}{o:Oper}{it:aL}{t:Tm}{f:FuncId}{fn:Func}{y:Opd}{l:List Opd}{first caps vals:List AV}{h1 h1':H}{r:AV}(ho:ops[i]? =some o)(hit:bB P N ops o=some it)(hg:guardOf t it.guard=some true)(hop:it.op= .callv y l)
  (hy:ev t y= .clo (.func f) first caps) (hf:P.funcs[f]? =some fn) (hb:fn.body.isSome=true) (hn:fn.name≠ "runtime.NumGoroutine")
  (hs:aw (first++l.map (ev t)++caps) vals) (hc:aS P f vals h1 r h1'):gq P ops i o t h1 r h1':=by
 unfold bB at hit;split at hit
 ·rename_i op g hcop hgd;split at hit<;>cases hit;rename_i hcond;simp only[Jv] at hcond;simp only at hop;subst hop;have hcop:=fW hcop af rfl;obtain ⟨c,z,e1,e2,e3,e4⟩:=qI hcop;intro G w a ht R F K Q hK ro;unfold wpOpIn;rw[ho];simp only[cq hgd ht hg,Jw];have rr:=fI (P:=P) (fg ht) e4;have rz:=aB (P:=P) e3 (fg ht);have hcut:=jf (t:=t) hcond.2;have el:l.map (ev (iC (names ops o) t))=l.map (ev t):=KD λx hx=>hcut x (by simp[bK,hx]);rw[el] at rr;rw[hcut y (by simp[bK]),hy] at rz;simp only[au] at rz;obtain ⟨vs,us,q1,q2,q3⟩:=rz;refine o5 hc (hs G w _ ((q2.append rr).append q3)) R F (dQ hcop) hK ?_;have hargs:(c.args.map a.eval)=(c.args.toList.map a.eval).toArray:=by cases c.args;simp
  simp[execOp,e1,resolve,e2,q1,Deferred.ofValue,invoke,hargs,dR w hf hb hn]
 ·cases hit
def aq(P:Program)(N:Nat)(items:List aL)(t:Tm)(h:H)(log:List Ent)(K:Tm->H->List Ent->Prop):Prop:=
 ∀ops i,i<=ops.size->cV P N ops (ops.toList.drop i)=some items->
  ∃recs t' h',FE P ops i recs t h t' h'/\K t' h' (log.reverse++recs.map (·.en))/\∀(k:Nat) r it,recs[k]? =some r->items[k]? =some it->bL it.op=false->r.en=aO
theorem aq.nil{t:Tm}{h:H}{log:List Ent}{K:Tm->H->List Ent->Prop}(hk:K t h log.reverse):aq P N [] t h log K:=by
 intro ops i hi hc;have:i=ops.size:=by
  cases hd:ops.toList.drop i with
  |nil=>have:=List.drop_eq_nil_iff.1 hd;simp at this;omega
  |cons o l=>
   rw[hd] at hc;simp only[cV] at hc;split at hc<;>simp at hc
 exact ⟨[],t,h,.nil this,by simpa using hk,by simp⟩
theorem cg{ops:Array Oper}{i:Nat}{it:aL}{its:List aL}(hi:i<=ops.size)(hc:cV P N ops (ops.toList.drop i)=some (it::its)):
  ∃o,ops[i]? =some o/\bB P N ops o=some it/\i+1<=ops.size/\cV P N ops (ops.toList.drop (i+1))=some its:=by
 cases hd:ops.toList.drop i with
 |nil=>rw[hd] at hc;simp[cV] at hc
 |cons o l=>
  rw[hd] at hc;simp only[cV] at hc;split at hc
  ·rename_i a r h1 h2;cases hc;have hlt:i<ops.toList.length:=by
    rcases Kn i ops.toList.length with h|h
    ·exact h
    ·rw[KE h] at hd;cases hd
   have e:=List.drop_eq_getElem_cons hlt;rw[hd] at e;obtain ⟨e1,e2⟩:=List.cons.inj e;have hlt':i<ops.size:=by simpa using hlt
   refine ⟨o,?_,h1,aa,by rw[<-e2];exact h2⟩;rw[JX hlt',e1];simp
  ·cases hc
theorem aq.step{it:aL}{its:List aL}{t:Tm}{h h' h1 h1':H}{x:AV}{en:Ent}{log:List Ent}{K:Tm->H->List Ent->Prop}(tc:Touch h h1 h1' h' en)
  (run:∀(ops:Array Oper) i o,ops[i]? =some o->bB P N ops o=some it->gq P ops i o t h1 x h1') (hen:bL it.op=false->en=aO)
  (rest:aq P N its (bH t it.dst x) h' (en::log) K):aq P N (it::its) t h log K:=by
 intro ops i hi hc;obtain ⟨o,ho,hit,hi',hc'⟩:=cg hi hc;obtain ⟨recs,t',hh',ch,hk,he⟩:=rest ops (i+1) hi' hc';have hdst:it.dst=o.dst:=by
  unfold bB at hit;split at hit
  ·split at hit<;>cases hit;rfl
  ·cases hit
 refine ⟨⟨t,h,h1,h1',h',x,en⟩::recs,t',hh',.cons ho rfl rfl tc (λ_=>run ops i o ho hit) (by rw[<-hdst];exact ch),by simpa using hk,?_⟩;intro k r it' hr hit' ht;cases k with
 |zero=>simp at hr hit';subst hr hit';exact hen ht
 |succ k=>simp at hr hit';exact he k r it' hr hit' ht
theorem xp{ρ:Opd->AV}{h h':H}{op:AOp}{x:AV}{en:Ent}(ht:bL op=false)(hx:aop ρ h op=some (x,h',en)):en=aO\/∃n y,op= .load n y:=by
 cases op<;>simp[bL] at ht<;>simp only[aop] at hx<;>first
  |(simp only[JA,JD] at hx;exact .inl hx.2.2.symm)
  |(simp only[Jo,JD] at hx;obtain ⟨_,_,_,_,h⟩:=hx;exact .inl h.symm)
  |((repeat' split at hx)<;>(first|(cases hx;done)|(cases hx;exact .inl rfl)|(simp only[Jo,JD] at hx;obtain ⟨_,_,_,_,h⟩:=hx;exact .inl h.symm)|skip))
 all_goals simp_all
def bR:List aL->Tm->H->List Ent->List aL × Tm × H × List Ent
 |[],t,h,l=>([],t,h,l)
 |it::its,t,h,l=>match guardOf t it.guard with
  |some true=>(match aop (ev t) h it.op with
   |some (x,h',en)=>bR its (bH t it.dst x) h' (en::l)
   |none=>(it::its,t,h,l))
  |some false=>bR its (bH t it.dst (.sc undef)) h (aO::l)
  |none=>(it::its,t,h,l)
theorem aq.xq{b:List aL}:∀{items its:List aL}{t t':Tm}{h h':H}{log log':List Ent}{K:Tm->H->List Ent->Prop},bR items t h log=(its,t',h',log')->aq P N (its++b) t' h' log' K->aq P N (items++b) t h log K
 |[],its,t,t',h,h',log,log',K,he,hw=>by simp only[bR,JD] at he;obtain ⟨rfl,rfl,rfl,rfl⟩:=he;exact hw
 |it::items,its,t,t',h,h',log,log',K,he,hw=>by
  simp only[bR] at he;split at he
  ·rename_i hg;split at he
   ·rename_i x h2 en hx;have rest:=aq.xq he hw;intro ops i hi hc;obtain ⟨o,ho,hit,hi',hc'⟩:=cg hi hc;obtain ⟨h1,h1',tc,run⟩:=iD ho hit hg hx;obtain ⟨recs,t',hh',ch,hk,hen⟩:=rest ops (i+1) hi' hc';have hdst:it.dst=o.dst:=by
     unfold bB at hit;split at hit
     ·split at hit<;>cases hit;rfl
     ·cases hit
    refine ⟨⟨t,h,h1,h1',h2,x,en⟩::recs,t',hh',.cons ho rfl rfl tc (λ_=>run) (by rw[<-hdst];exact ch),by simpa using hk,?_⟩;intro k r it' hr hit' ht;cases k with
    |zero=>
     simp at hr hit';subst hr hit';rcases xp ht hx with h|⟨n,y,h⟩
     ·exact h
     ·rw[h] at ht;simp[bL] at ht
    |succ k=>simp at hr hit';exact hen k r it' hr hit' ht
   ·simp only[JD] at he;obtain ⟨rfl,rfl,rfl,rfl⟩:=he;exact hw
  ·rename_i hg;have rest:=aq.xq he hw;exact aq.step (bu h) (λops i o ho hit=>gr ho hit hg) (λ_=>rfl) rest
  ·simp only[JD] at he;obtain ⟨rfl,rfl,rfl,rfl⟩:=he;exact hw
theorem aq.eval{items its:List aL}{t t':Tm}{h h':H}{log log':List Ent}{K:Tm->H->List Ent->Prop}(he:bR items t h log=(its,t',h',log'))(hw:aq P N its t' h' log' K):aq P N items t h log K:=by
 have:=aq.xq (b:=[]) he (by rw[JY];exact hw)
 rwa [JY] at this
theorem aq.part(k:Nat){items:List aL}{t t':Tm}{h h':H}{log log':List Ent}{K:Tm->H->List Ent->Prop}(he:bR (items.take k) t h log=([],t',h',log'))(hw:aq P N (items.drop k) t' h' log' K):aq P N items t h log K:=by
 have:=aq.xq (b:=items.drop k) he (by rw[List.nil_append];exact hw)
 rwa [Kj] at this
theorem aq.bE{dst:Option Nat}{g:Option (Nat × Bool)}{f:FuncId}{l:List Opd}{its:List aL}{t:Tm}{h:H}{log:List Ent}{K:Tm->H->List Ent->Prop}{vals:List AV}{r:AV}(hg:guardOf t g=some true)(hs:aw (l.map (ev t)) vals)(hc:aH P f vals r)
  (rest:aq P N its (bH t dst r) h (aO::log) K):aq P N (⟨dst,g,.call f l⟩::its) t h log K:=
 aq.step (bu h) (λops i o ho hit=>gu ho hit hg rfl hs (hc h.n h.m)) (λ_=>rfl) rest
theorem aq.mN{dst:Option Nat}{g:Option (Nat × Bool)}{f:FuncId}{fn:Func}{y:Opd}{l:List Opd}{its:List aL}{t:Tm}{h:H}{log:List Ent}{K:Tm->H->List Ent->Prop}{first caps vals:List AV}{r:AV}(hg:guardOf t g=some true)(hy:ev t y= .clo (.func f) first caps)
  (hf:P.funcs[f]? =some fn) (hb:fn.body.isSome=true) (hn:fn.name≠ "runtime.NumGoroutine") (hs:aw (first++l.map (ev t)++caps) vals) (hc:aH P f vals r)
  (rest:aq P N its (bH t dst r) h (aO::log) K):aq P N (⟨dst,g,.callv y l⟩::its) t h log K:=
 aq.step (bu h) (λops i o ho hit=>nH ho hit hg rfl hy hf hb hn hs (hc h.n h.m)) (λ_=>rfl) rest
theorem aq.gP{dst:Option Nat}{g:Option (Nat × Bool)}{f:FuncId}{l:List Opd}{its:List aL}{t:Tm}{h h' h1 h1':H}{log:List Ent}{en:Ent}{K:Tm->H->List Ent->Prop}{vals:List AV}{r:AV}(hg:guardOf t g=some true)(hs:aw (l.map (ev t)) vals)(hc:aS P f vals h1 r h1')
  (tc:Touch h h1 h1' h' en) (rest:aq P N its (bH t dst r) h' (en::log) K):aq P N (⟨dst,g,.call f l⟩::its) t h log K:=
 aq.step tc (λops i o ho hit=>gu ho hit hg rfl hs hc) (λh=>by simp[bL] at h) rest
end
section
variable{P:Program}{N:Nat}
def rowOf(acc:Array Nat)(o:Oper):Nat:=o.after.foldl (λs e=>if Region.binds .any e then s ||| 2^e.on ||| acc.getD e.on 0 else s) 0
theorem zn{acc:Array Nat}{o:Oper}{j:Nat}(h:(rowOf acc o).testBit j=true):∃e∈o.after,Region.binds .any e=true/\(j=e.on\/(acc.getD e.on 0).testBit j=true):=by
 have key:∀(l:List Edge)(s:Nat),(l.foldl (λs e=>if Region.binds .any e then s ||| 2^e.on ||| acc.getD e.on 0 else s) s).testBit j=true->s.testBit j=true\/∃e∈l,Region.binds .any e=true/\(j=e.on\/(acc.getD e.on 0).testBit j=true):=by
  intro l;induction l with
  |nil=>intro s h;exact .inl h
  |cons e l ih=>
   intro s h;rcases ih _ h with h|⟨e',h1,h2⟩
   ·by_cases hb:Region.binds .any e=true
    ·simp only[hb,Jw,Nat.testBit_or,J7] at h;rcases h with (h|h)|h
     ·exact .inl h
     ·rw[Nat.testBit_two_pow] at h;exact .inr ⟨e,by simp,hb,.inl (by simpa using h.symm:e.on=j).symm⟩
     ·exact .inr ⟨e,by simp,hb,.inr h⟩
    ·simp only[hb,Js,Jy] at h;exact .inl h
   ·exact .inr ⟨e',by simp[h1],h2⟩
 unfold rowOf at h;rw[<-Array.foldl_toList] at h;rcases key _ _ h with h|⟨e,h1,h2⟩
 ·simp at h
 ·exact ⟨e,by simpa using h1,h2⟩
theorem s9(ops:Array Oper):∀(i:Nat) o,ops[i]? =some o->∀j,cL ops j i=true->∃e∈o.after,Region.binds .any e=true/\(j=e.on\/cL ops j e.on=true):=by
 have key:∀(l:List Oper)(acc:Array Nat),let B:=l.foldl (λacc o=>acc.push (rowOf acc o)) acc
   (B.size=acc.size+l.length)/\(∀k,k<acc.size->B.getD k 0=acc.getD k 0)/\∀k o,l[k]? =some o->∀j,(B.getD (acc.size+k) 0).testBit j=true->∃e∈o.after,Region.binds .any e=true/\(j=e.on\/(B.getD e.on 0).testBit j=true):=by
  intro l;induction l with
  |nil=>intro acc;simp
  |cons o l ih=>
   intro acc;obtain ⟨a1,a2,a3⟩:=ih (acc.push (rowOf acc o));simp only[List.foldl_cons];refine ⟨by rw[a1];simp;omega,λk hk=>?_,λk o' ho' j hj=>?_⟩
   ·rw[a2 k ak];simp[K6,hk];rw[Jr aa];rfl
   ·cases k with
    |zero=>
     simp at ho';subst ho';rw[a2 _ af] at hj;simp at hj;obtain ⟨e,h1,h2⟩:=zn hj;refine ⟨e,h1,h2.1,h2.2.imp (λz=>z) λh=>?_⟩;have hlt:e.on<acc.size:=by
      rcases Kn e.on acc.size with h'|h'
      ·exact h'
      ·simp[h'] at h
     rw[a2 _ ak];simp only[Array.getD_eq_getD_getElem?,K6] at h |-;rw[Jr aa];exact h
    |succ k=>
     simp at ho';have:=a3 k o' ho' j (by simpa [KI,Nat.add_comm 1 k] using hj);exact this
 obtain ⟨a1,a2,a3⟩:=key ops.toList #[];have hB:Region.before ops=ops.toList.foldl (λacc o=>acc.push (rowOf acc o)) #[]:=by
  unfold Region.before;rw[<-Array.foldl_toList];rfl
 intro i o ho j hj;unfold cL at hj |-;rw[hB] at hj |-;exact a3 i o (by simpa using ho) j (by simpa using hj)
theorem xr{ops:Array Oper}(h:tidy ops=true):Tidy ops:=by
 unfold tidy at h;simp only[Jv,JS] at h;obtain ⟨h1,h2⟩:=h;have hm:∀(i:Nat) o,ops[i]? =some o->(o,i)∈ops.toList.zipIdx:=by
  intro i o ho;rw[List.mem_iff_getElem?];exact ⟨i,by simp[List.getElem?_zipIdx,ho]⟩
 constructor
 ·intro i o ho e he hbd;have:=h1 (o,i) (hm i o ho);rw[Array.all_eq_true_iff_forall_mem] at this;have:=this e he;simpa [hbd] using this
 ·exact s9 ops
 ·intro i j o o' ho ho' hne d hd hn;have:=h2 (o,i) (hm i o ho);simp only[hd,JS] at this;have:=this (o',j) (hm j o' ho');simp only[J7,Bool.not_eq_true',Li] at this;rcases this with ((h|h)|h)|h
  ·exact absurd h hne
  ·have h3:(names ops o').contains d=true:=by simpa using hn
   rw[h3] at h;cases h
  ·exact .inl h
  ·exact .inr h
def aR:List (Nat × Nat)->List Ent->Prop
 |[],_=>True
 |(i,j)::l,log=>apart (log.getD i aO) (log.getD j aO)/\aR l log
theorem jQ:∀{l:List (Nat × Nat)}{log:List Ent},aR l log->∀{i j:Nat},(i,j)∈l->apart (log.getD i aO) (log.getD j aO)
 |(a,b)::l,log,h,i,j,hm=>by
  rcases JB.1 hm with e|hm
  ·cases e;exact h.1
  ·exact jQ h.2 hm
theorem jg(e:Ent):apart aO e/\apart e aO:=by
 constructor
 ·exact ⟨λid h=>by simp[aO] at h,λid h=>by simp[aO],λt h=>by simp[aO] at h⟩
 ·exact ⟨λid h=>by simp[aO],λid h=>by simp[aO] at h,λt h=>by simp[aO]⟩
def aZ(p:Option (List (Nat × Nat)))(log:List Ent):Prop:=
 match p with
 |none=>True
 |some l=>aR l log
theorem gv{ops:Array Oper}:∀{l:List Oper}{items:List aL},cV P N ops l=some items->items.length=l.length/\∀(k:Nat) o it,l[k]? =some o->items[k]? =some it->bB P N ops o=some it
 |[],items,h=>by simp[cV] at h;subst h;simp
 |o::l,items,h=>by
  simp only[cV] at h;split at h
  ·rename_i a r h1 h2;cases h;obtain ⟨e1,e2⟩:=gv h2;refine ⟨by simp[e1],λk o' it ho hit=>?_⟩;cases k with
   |zero=>simp at ho hit;subst ho hit;exact h1
   |succ k=>simp at ho hit;exact e2 k o' it ho hit
  ·cases h
theorem mh{code:Code}{items:List aL}{p:Option (List (Nat × Nat))}(h:cCode P N code=some (.reg items p)):
  ∃id ops draw,code= .region id ops draw/\cV P N ops ops.toList=some items/\((draw=false/\p=none)\/(draw=true/\P.follows .mixedOrders=true/\tidy ops=true/\p=some (je ops items))):=by
 cases code<;>simp only[cCode] at h<;>(try cases h)
 ·split at h
  ·rename_i id ops draw _ items' hi;split at h
   ·split at h<;>cases h;rename_i hd hcond;simp only[Jv] at hcond;exact ⟨_,_,_,rfl,hi,.inr ⟨hd,hcond.1,hcond.2,rfl⟩⟩
   ·cases h;rename_i hd;exact ⟨_,_,_,rfl,hi,.inl ⟨by simpa using hd,rfl⟩⟩
  ·cases h
 all_goals first|((repeat' split at h)<;>cases h;done)|(simp at h;done)
theorem gw(G:aE)(w w':World)(h:H)(e1:w'.heap=w.heap)(e2:w'.os=w.os)(e3:w'.output=w.output):Trans G w h G w' h where
 dom_le _ x:=x
 dom_new _ x:= .inl x
 ι_eq _ _:=rfl
 tdom_le _ x:=x
 tdom_new _ x:= .inl x
 τ_eq _ _:=rfl
 n_le:=Jl _
 m_le:=Jl _
 size_le:=by rw[e1];exact Jl _
 os:=e2
 output:=e3
 form B _:=by rw[e1];exact bq.refl _
 keep _ _ _ _:=by rw[e1]
 own_keep _ _ _:=Lr
 lim_keep _ _ _ _:=rfl
 tok_keep _ _ _ _ e he:=⟨λ_ _=>cell_of_heap e1 _,λe' he'=>by rw[he] at he';cases he';exact Jl _⟩
 O_new _ _ x:=x
 T_new _ _ x:=x
 objs_new _ o x:= .inl ⟨o,x⟩
 toks_new _ x:= .inl x
theorem aM.draw{G:aE}{w w':World}{h:H}(R:aM G h w)(e1:w'.heap=w.heap)(e2:w'.os=w.os)(e3:w'.output=w.output):aM G h w' where
 obj id o ho:=by
  obtain ⟨a,b,c,d⟩:=R.obj id o ho;exact ⟨a,b,by rw[e1];exact c,by rw[e1];exact d.mono R (gw G w w' h e1 e2 e3)⟩
 inj:=R.inj
 tok t ht:=⟨(R.tok t ht).1,λB e he=>by rw[e1];exact (R.tok t ht).2 B e he⟩
 tinj:=R.tinj
theorem Wp.reg{items:List aL}{p:Option (List (Nat × Nat))}{s:St}{Q:aC->St->Prop}(h:aq P N items s.t s.h [] λt' h' log=>aZ p log/\Q .normal ⟨t',h'⟩):Wp P N (.reg items p) s Q:=by
 intro code hc;obtain ⟨id,ops,draw,rfl,hi,hd⟩:=mh hc;obtain ⟨recs,t',h',ch,⟨hp,hq⟩,hen⟩:=h ops 0 (JJ _) (by simpa using hi);simp only[List.reverse_nil,List.nil_append] at hp;obtain ⟨nm,-,-⟩:=jM ch;obtain ⟨cl,ci⟩:=gv hi;have hN:∀(i:Nat) o d,ops[i]? =some o->o.dst=some d->d<N:=by
  intro i o d ho hdd;have hlt:i<ops.size:=(J0.1 ho).1;have hit:i<items.length:=by rw[cl];simpa using hlt
  have:=ci i o items[i] (by simpa using ho) (Jm hit);generalize items[i]=it at this;unfold bB at this;split at this
  ·split at this<;>cases this;rename_i hcond;simp only[Jv] at hcond;have:=hcond.1;rw[hdd] at this;simpa using this
  ·cases this
 refine ⟨.normal,⟨t',h'⟩,⟨nm,λro okc G w a r F=>?_⟩,hq⟩;rcases hd with ⟨rfl,rfl⟩|⟨rfl,hm,ht,rfl⟩
 ·refine wpIn_region ?_;rw[List.range_eq_range'];have:=yZ ro (Q:=λe' a' w'=>aC.normal.dH e'/\kT w a.defers a'.defers/\∃G',Trans G w s.h G' w' h'/\Rel N ⟨t',h'⟩ G' w' a') hN ch G w a r.size r.t r.h F
   (λG' w' a' T1 t1 R1 s1 d1=>⟨trivial,by rw[d1];exact .refl,G',T1,⟨s1,t1,R1,by rw[d1];exact r.df.mono T1⟩⟩)
  simpa using this
 ·refine wpIn_region_any hm ?_;obtain ⟨a1,a2,-⟩:=gO ch;rw[JG] at a1;have ap:∀i j,i<j->j<ops.size->cL ops i j=false->apart (recs.getD i cN).en (recs.getD j cN).en:=by
   intro i j hij hj hanc;have hir:i<recs.length:=by omega
   have hjr:j<recs.length:=by omega
   have hii:i<items.length:=by rw[cl];simp;omega
   have hjj:j<items.length:=by rw[cl];simp;omega
   have ei:(recs.getD i cN).en=(recs.map (·.en)).getD i aO:=by simp[List.getD,Jm hir]
   have ej:(recs.getD j cN).en=(recs.map (·.en)).getD j aO:=by simp[List.getD,Jm hjr]
   have gi:(recs.getD i cN)=recs[i]:=by simp[List.getD,Jm hir]
   have gj:(recs.getD j cN)=recs[j]:=by simp[List.getD,Jm hjr]
   by_cases ti:bL items[i].op=true
   ·by_cases tj:bL items[j].op=true
    ·rw[ei,ej];refine jQ hp ?_;unfold je;simp only[Lk,Kg,List.mem_filterMap];refine ⟨j,hj,i,hij,?_⟩;unfold cL at hanc;simp[Jm hii,Jm hjj,ti,tj];simpa using hanc
    ·rw[gj,hen j _ _ (Jm hjr) (Jm hjj) (by simpa using tj)];exact (jg _).2
   ·rw[gi,hen i _ _ (Jm hir) (Jm hii) (by simpa using ti)];exact (jg _).1
  let w1:World:={w with drawn:=w.drawn+1}
  have hz:∀k,(Array.replicate ops.size false).getD k false=false:=by intro k;simp[Array.getElem?_replicate];split<;>rfl
  have hz':(λk=>(Array.replicate ops.size false).getD k false)=λ_=>false:=funext hz;have vz:∀{β:Type}(u:Nat->Option β)(n:Nat)(v:β),val u (λ_=>false) n v=v:=by
   intro β u n v;induction n with
   |zero=>rfl
   |succ n ih=>simp only[val,Jy,Js,ih]
  have R1:aM G s.h w1:=r.h.draw rfl rfl rfl;have hk:∀t,t∈(HS recs s.h ops.size h'.n h'.m (λ_=>false)).toks↔t∈s.h.toks:=by
   intro t;rw[lF a1.symm,vz];simp
  have ho:(HS recs s.h ops.size h'.n h'.m (λ_=>false)).objs=s.h.objs:=by
   funext id;simp only[HS];rw[vz]
  refine qG ro (pj:=0) (pv:=undef) (N:=N) (G0:=G) (w0:=w1) (a0:=a) hN (xr ht) ch ap R1 F ?_ (λi h=>by cases h) (λh=>by cases h) ops.size (Array.replicate ops.size false) G w1 a af ?_ ?_ (λk h=>by cases h) r.size rfl ?_ ?_ ?_ ?_ ?_
  ·intro _ G' w' a' T1 t1 R1' s1 d1;exact ⟨trivial,by rw[d1];exact .refl,G',(gw G w w1 s.h rfl rfl rfl).trans r.h R1 T1,⟨s1,t1,R1',by rw[d1];exact r.df.mono ((gw G w w1 s.h rfl rfl rfl).trans r.h R1 T1)⟩⟩
  ·unfold count;exact JT (List.length_filter_le _ _) af
  ·rw[hz'];intro i o _ h;cases h
  ·rw[hz'];intro d;rw[vz];exact au.mono r.h (gw G w w1 s.h rfl rfl rfl) _ _ (r.t d)
  ·rw[hz'];exact R1.same ho λt x=>(hk t).1 x
  ·rw[hz'];exact (Trans.refl G w1 s.h).same rfl (λ_=>Lr) ho hk (Jl _) nm.1 nm.1 (Jl _) nm.2 nm.2
  ·exact λid x=> .inl x
  ·exact λid x=> .inl x
def fL(args:List AV):Tm:=λi=>args.getD i .any
inductive RV where
 |tmp (d:Nat)
 |cell (d:Nat) (n:Option Nat)
def Ga(P:Program):ResultVar->Option RV
 | .tmp t=>some (.tmp t)
 | .cell a t=>if (P.info? t).isSome/\(P.underlying t).isSome then some (.cell a (if bG P t then some (P.cellsOf t) else none)) else none
def o6(P:Program):List ResultVar->Option (List RV)
 |[]=>some []
 |r::l=>match Ga P r,o6 P l with
  |some a,some m=>some (a::m)
  |_,_=>none
def rv(t:Tm)(h:H):RV->Option AV
 | .tmp d=>some (t d)
 | .cell d n=>match t d with
  | .ptr id off=>match h.objs id with
   |some (.cells cs)=>part off n cs
   |_=>none
  |_=>none
def rvs(t:Tm)(h:H):List RV->Option (List AV)
 |[]=>some []
 |r::l=>match rv t h r,rvs t h l with
  |some a,some m=>some (a::m)
  |_,_=>none
def fS(ds:List RV)(t:Tm)(h:H):Option AV:=
 match rvs t h ds with
 |some [x]=>some x
 |some l=>some (.tup l)
 |none=>none
def gx:aC->Prop
 | .normal| .ret=>True
 |_=>False
theorem te{G:aE}{w:World}{n:Nat}:∀{args:List AV}{vs:List Value},ay G w args vs->bQ G w (fL args) {tmps:=vs.toArray++Array.replicate n undef,defers:=[]}:=by
 intro args vs h i;unfold fL;by_cases hi:i<args.length
 ·obtain ⟨v,h1,h2⟩:=h.get (i:=i) (x:=args[i]) (Jm hi);have e:((vs.toArray++Array.replicate n undef).getD i undef)=v:=by
   have hlt:i<vs.length:=by rw[h.length];exact hi
   rw[Jm hlt] at h1;simp[Array.getElem?_append,hlt];exact LV h1
  rw[e];simpa [List.getD,Jm hi] using h2
 ·have:args.getD i .any= .any:=by simp[List.getD,Kv (Nat.le_of_not_lt hi)]
  rw[this];simp[au]
theorem xt{G:aE}{w:World}{t:Tm}{h:H}{a:Act}(ht:bQ G w t a)(R:aM G h w):∀{l:List ResultVar}{ds:List RV}{xs:List AV},o6 P l=some ds->rvs t h ds=some xs->
  ∃vs,(l.mapM (λ| .tmp t=>pure (a.tmps.getD t undef)| .cell b t=>do loadVar t (<-asAddr (a.tmps.getD b undef)):ResultVar->Sem Value)).run P w= .ok vs w/\ay G w xs vs
 |[],ds,xs,h1,h2=>by
  simp[o6] at h1;subst h1;simp[rvs] at h2;subst h2;exact ⟨[],by simp,.nil⟩
 |r::l,ds,xs,h1,h2=>by
  simp only[o6] at h1;split at h1
  ·rename_i d ds' e1 e2;cases h1;simp only[rvs] at h2;split at h2
   ·rename_i x xs' e3 e4;cases h2;obtain ⟨vs,g1,g2⟩:=xt ht R e2 e4;cases r with
    |tmp k=>
     simp[Ga] at e1;subst e1;simp[rv] at e3;subst e3;refine ⟨a.tmps.getD k undef::vs,?_,.cons (ht k) g2⟩;simp only[List.mapM_cons,Sem.run_bind,Sem.run_pure,Result.andThen_ok,g1]
    |cell k ty=>
     simp only[Ga] at e1;split at e1
     ·rename_i hc;cases e1;simp only[rv] at e3;split at e3
      ·rename_i id off hk;split at e3
       ·rename_i cs ho;have r1:=ht k;rw[hk] at r1;simp only[au] at r1;obtain ⟨vs0,rest0,T,fr,hg,hvs,-⟩:=iy R ho;have hcell:∀j v,vs0[j]? =some v->w.cell? ⟨G.ι id,j,none⟩=some v:=by
         intro j v hj;have hj':j<vs0.length:=(Km.1 hj).1;unfold World.cell?;simp only[hg];simpa [JQ hj'] using hj
        have hl:∃v,(loadVar ty ⟨G.ι id,off,none⟩).run P w= .ok v w/\au G w x v:=by
         rcases lD hvs e3 with ⟨e,v,q1,q2⟩|⟨m,e,q1,q2⟩
         ·have hagg:bG P ty=false:=by cases hh:bG P ty<;>simp[hh] at e |-
          exact ⟨v,ix P w ty _ v hc.2 hagg (hcell _ _ q1),q2⟩
         ·have hagg:bG P ty=true:=by cases hh:bG P ty<;>simp[hh] at e |-
          have hm:m=P.cellsOf ty:=by simpa [hagg] using e.symm
          refine ⟨_,gL P w ty (G.ι id) off ((vs0.drop off).take m) hc.1 hc.2 hagg (by simp[hm] at q1 |-;omega) (λj v hj=>hcell _ _ (by
           rw[List.getElem?_take] at hj;split at hj
           ·simpa [Lc] using hj
           ·cases hj)),q2⟩
        obtain ⟨v,q1,q2⟩:=hl;refine ⟨v::vs,?_,.cons q2 g2⟩;have ha:(asAddr (a.tmps.getD k undef)).run P w= .ok ⟨G.ι id,off,none⟩ w:=by rw[r1.2];rfl
        simp only[List.mapM_cons,Sem.run_bind,ha,Sem.run_pure,Result.andThen_ok,q1,g1]
       ·cases e3
      ·cases e3
     ·cases e1
   ·cases h2
  ·cases h1
theorem tf{fn:Func}{ds:List RV}{G:aE}{w:World}{t:Tm}{h:H}{a:Act}{x:AV}(hr:o6 P fn.results.toList=some ds)(ht:bQ G w t a)(R:aM G h w)(hx:fS ds t h=some x):∃v,(results fn a.tmps).run P w= .ok v w/\au G w x v:=by
 unfold fS at hx;have hxs:∃xs,rvs t h ds=some xs/\((∃y,xs=[y]/\x=y)\/(xs.length≠1/\x= .tup xs)):=by
  split at hx
  ·rename_i y e;cases hx;exact ⟨_,e,.inl ⟨_,rfl,rfl⟩⟩
  ·rename_i l hne e;cases hx;refine ⟨_,e,.inr ⟨λhl=>?_,rfl⟩⟩;obtain ⟨y,rfl⟩:=List.length_eq_one_iff.1 hl;exact hne y rfl
  ·cases hx
 obtain ⟨xs,e,hc⟩:=hxs;obtain ⟨vs,g1,g2⟩:=xt (P:=P) ht R hr e;have hm':(fn.results.mapM (λ| .tmp t=>pure (a.tmps.getD t undef)| .cell b t=>do loadVar t (<-asAddr (a.tmps.getD b undef)):ResultVar->Sem Value)).run P w= .ok vs.toArray w:=by
  rw[Array.mapM_eq_mapM_toList];simp only[Sem.run_map,g1,Result.andThen_ok]
 have key:(results fn a.tmps).run P w= .ok (if h:vs.toArray.size=1 then vs.toArray[0] else .tuple vs.toArray) w:=by
  unfold results;rw[Sem.run_bind];exact Kd (λx:Result (Array Value)=>x.andThen λvs w'=>(Pure.pure (if h:vs.size=1 then vs[0] else .tuple vs):Sem Value).run P w') hm'
 rw[key];have hl:=g2.length;rcases hc with ⟨y,rfl,rfl⟩|⟨hn,rfl⟩
 ·simp only[ay] at g2;obtain ⟨v,us,rfl,q1,rfl⟩:=g2;exact ⟨v,by simp,q1⟩
 ·have:¬vs.toArray.size=1:=by simp;omega
  rw[dif_neg this];refine ⟨_,rfl,?_⟩;simp only[au];exact ⟨vs,rfl,g2⟩
theorem da.results{D:Nat}{w:World}(h:w.heap[D]? =some (.deferred (some []))):da D w (w.putObj D (.deferred none)):=
 ⟨by simp,λB hB=>World.putObj_heap_other hB,λc T fr e=>absurd (h.symm.trans e) af,rfl,rfl⟩
theorem rR{F:Fence}{n:Nat}{fn:Func}{tmps:Array Value}{R:Ending->World->Prop}(Ds:Nat->Prop)(I:World->Prop)
  (hI:∀w D,Ds D->I w->w.heap[D]? =some (.deferred (some []))->I (w.putObj D (.deferred none))) (hend:∀w,I w->∃v,(results fn tmps).run P w= .ok v w/\R (.returned v) w):
  ∀(l:List Deferred)(w:World),l.Nodup->(∀d∈l,∃D,Ds D/\d= {target:= .collected D,args:= #[]}/\w.heap[D]? =some (.deferred (some [])))->I w->LeavesInM F n P fn tmps R l .returning w:=by
 intro l;induction l with
 |nil=>intro w _ _ hi;exact hend w hi
 |cons d l ih=>
  intro w hn hm hi;obtain ⟨D,h1,h2,h3⟩:=hm d af;refine ⟨by simp,.inl ⟨D,_,by rw[h2],run_takeDeferred h3,ih _ (List.nodup_cons.1 hn).2 (λd' hd'=>?_) (hI w D h1 hi h3)⟩⟩;obtain ⟨D',k1,k2,k3⟩:=hm d' (by simp[hd']);refine ⟨D',k1,k2,?_⟩;rw[World.putObj_heap_other ?_]
  ·exact k3
  ·rintro rfl;exact (List.nodup_cons.1 hn).1 (by rw[h2,<-k2];exact hd')
theorem zo{f:FuncId}{fn:Func}{code:Code}{ac:AC}{args:List AV}{h:H}{ds:List RV}{Q:AV->H->Prop}(hf:P.funcs[f]? =some fn)(hb:fn.body=some code)(hc:cCode P fn.ntmps code=some ac)(hr:o6 P fn.results.toList=some ds)(hl:args.length<=fn.ntmps)
  (hw:Wp P fn.ntmps ac ⟨fL args,h⟩ λe s'=>gx e/\∃r,fS ds s'.t s'.h=some r/\Q r s'.h):∃r h',aS P f args h r h'/\Q r h':=by
 obtain ⟨e,s',run,he,r,hres,hq⟩:=hw code hc;refine ⟨r,s'.h,?_,hq⟩;intro G w vs hv R F;have hlen:=hv.length;refine callsIn_wide.1 (callsIn_of_wp_marks (F:=rd none) (n:=0) hf hb trivial (wpIn_mono (run.2 none (.inl rfl) G w _ ⟨?_,te hv,R,⟨by simp,by simp⟩⟩ F) ?_) rfl)
 ·simp;omega
 ·rintro e' a' w' ⟨h1,h2,G',T,r'⟩;have key:LeavesInM (rd none) 0 P fn a'.tmps (λe w'=>∃v G',e= .returned v/\Trans G w h G' w' s'.h/\aM G' s'.h w'/\au G' w' r v) a'.defers .returning w':=by
   refine rR (λD=>w.heap.size<=D/\¬s'.h.O G' D/\¬s'.h.T G' D) (λw2=>Trans G w h G' w2 s'.h/\aM G' s'.h w2/\bQ G' w2 s'.t a') ?_ ?_ _ _ r'.df.1 ?_ ⟨T,r'.h,r'.t⟩
   ·rintro w2 D ⟨d1,d2,d3⟩ ⟨T2,R2,t2⟩ hD;have tu:=da.results hD;exact ⟨T2.bI tu d1,R2.bI tu d2,λi=>au.bI tu _ _ (t2 i)⟩
   ·rintro w2 ⟨T2,R2,t2⟩;obtain ⟨v,q1,q2⟩:=tf (P:=P) hr t2 R2 hres;exact ⟨v,q1,v,G',rfl,T2,R2,q2⟩
   ·intro d hd;obtain ⟨D,e,k1,k2,k3⟩:=r'.df.2 d hd;rcases h2 d hd with h|⟨D',k4,e'⟩
    ·simp at h
    ·rw[e] at e';simp only[Deferred.mk.injEq,Target.collected.injEq,K8] at e';subst e';exact ⟨D,⟨k4,k2,k3⟩,e,k1⟩
  cases e<;>cases e'<;>simp only[aC.dH,gx] at h1 he<;>exact key
def aU(P:Program)(f:FuncId)(N:Nat)(ac:AC)(ds:List RV):Prop:=∃fn,P.funcs[f]? =some fn/\fn.ntmps=N/\fn.body.bind (cCode P N)=some ac/\o6 P fn.results.toList=some ds
theorem aU.dF{f:FuncId}{ac:AC}{args:List AV}{h:H}{ds:List RV}{Q:AV->H->Prop}(hF:aU P f N ac ds)(hl:args.length<=N)(hw:Wp P N ac ⟨fL args,h⟩ λe s'=>gx e/\∃r,fS ds s'.t s'.h=some r/\Q r s'.h):∃r h',aS P f args h r h'/\Q r h':=by
 obtain ⟨fn,h1,h2,h3,h4⟩:=hF;subst h2;obtain ⟨code,hb,hc⟩:=J2.1 h3;exact zo h1 hb hc h4 hl hw
def xu(x:AV):Prop:=∀G G' w v,G'.own=G.own->G'.lim=G.lim->au G w x v->au G' w x v
def mO(l:List AV):Prop:=∀G G' w vs,G'.own=G.own->G'.lim=G.lim->ay G w l vs->ay G' w l vs
theorem aS.pure{f:FuncId}{args:List AV}{n m:Nat}{r r':AV}{h':H}(ha:mO args)(hc:aS P f args (H0 n m) r h')(hs:ar r r')(hp:xu r'):aS P f args (H0 n m) r' (H0 n m):=by
 intro G w vs hv R F;let G0:aE:={G with dom:=λ_=>False,tdom:=λ_=>False}
 refine (hc G0 w vs (ha G G0 w vs rfl rfl hv) fJ ⟨λ_ _ _ h=>h,λ_ _ _ h=>h⟩).mono ?_;rintro e w' ⟨v,G',rfl,T,R',V⟩;refine ⟨v,{G' with dom:=G.dom,ι:=G.ι,tdom:=G.tdom,τ:=G.τ},rfl,?_,fJ,hp G' _ w' v rfl rfl (hs G' w' v V)⟩;have hO:∀{G:aE} B,¬(H0 n m).O G B:=λB=>eI B;have hT:∀{G:aE} B,¬(H0 n m).T G B:=λB ⟨t,ht,_⟩=>by simp[H0,H.only] at ht
 constructor
 ·exact λ_ x=>x
 ·exact λ_=> .inl
 ·exact λ_ _=>rfl
 ·exact λ_ x=>x
 ·exact λ_=> .inl
 ·exact λ_ _=>rfl
 ·exact Jl _
 ·exact Jl _
 ·exact T.size_le
 ·exact T.os
 ·exact T.output
 ·exact T.form
 ·exact λB hB _ _=>T.keep B hB (hO B) (hT B)
 ·exact λB hB _=>T.own_keep B hB (hO B)
 ·exact λB hB _ _=>T.lim_keep B hB (hO B) (hT B)
 ·exact λB hB x=>absurd x (hT B)
 ·exact λB _ x=>absurd x (hO B)
 ·exact λB _ x=>absurd x (hT B)
 ·exact λj o x=>by simp[H0,H.only,av] at x
 ·exact λt x=>by simp[H0,H.only] at x
theorem aU.Br{f:FuncId}{ac:AC}{args:List AV}{ds:List RV}{r:AV}(hF:aU P f N ac ds)(hl:args.length<=N)(ha:mO args)(hp:xu r)(hw:∀n m,Wp P N ac ⟨fL args,H0 n m⟩ λe s'=>gx e/\∃q,fS ds s'.t s'.h=some q/\ar q r):aH P f args r:=by
 intro n m;obtain ⟨r',h',cB,hs⟩:=hF.dF (Q:=λr' _=>ar r' r) hl (hw n m);exact cB.pure ha hs hp
end
section
variable{P:Program}{N:Nat}{s:St}{Q:aC->St->Prop}
theorem Wp.cE{items:List aL}{p:Option (List (Nat × Nat))}{y:AC}{t':Tm}{h':H}{log:List Ent}(he:bR items s.t s.h []=([],t',h',log))(hp:aZ p log.reverse)(h:Wp P N y ⟨t',h'⟩ Q):Wp P N (.seq (.reg items p) y) s Q:=
 Wp.seq (Wp.reg (aq.eval he (aq.nil ⟨hp,h⟩)))
theorem Wp.tg{items:List aL}{p:Option (List (Nat × Nat))}{t':Tm}{h':H}{log:List Ent}(he:bR items s.t s.h []=([],t',h',log))(hp:aZ p log.reverse)(h:Q .normal ⟨t',h'⟩):Wp P N (.reg items p) s Q:=
 Wp.reg (aq.eval he (aq.nil ⟨hp,h⟩))
theorem Wp.seqItems{items its:List aL}{p:Option (List (Nat × Nat))}{y:AC}{t':Tm}{h':H}{log:List Ent}(he:bR items s.t s.h []=(its,t',h',log))(h:aq P N its t' h' log λt h l=>aZ p l/\Wp P N y ⟨t,h⟩ Q):Wp P N (.seq (.reg items p) y) s Q:=
 Wp.seq (Wp.reg (aq.eval he h))
theorem Wp.items{items its:List aL}{p:Option (List (Nat × Nat))}{t':Tm}{h':H}{log:List Ent}(he:bR items s.t s.h []=(its,t',h',log))(h:aq P N its t' h' log λt h l=>aZ p l/\Q .normal ⟨t,h⟩):Wp P N (.reg items p) s Q:=
 Wp.reg (aq.eval he h)
def tm:List (Nat × AV)->Tm
 |[]=>λ_=> .any
 |(i,v)::l=>upd (tm l) i v
def aN(t:Tm):List (Nat × AV)->Prop
 |[]=>True
 |(i,v)::l=>ar (t i) v/\aN t l
theorem bc{t:Tm}:∀{l:List (Nat × AV)},aN t l->∀i,ar (t i) (tm l i)
 |[],_,i=>ar.any _
 |(k,v)::l,h,i=>by
  simp only[tm,upd];split
  ·rename_i e;subst e;exact h.1
  ·exact bc h.2 i
theorem aJ.tm{t:Tm}{h:H}{l:List (Nat × AV)}(hs:aN t l):aJ ⟨t,h⟩ ⟨Av.tm l,h⟩:=aJ.mk' (bc hs) h.AR.le (Jl _) (Jl _)
theorem Wp.Hc{β:Type}(S:β->List (Nat × AV))(I:β->Prop)(μ:β->Nat){c:AC}{h:H}{t:Tm}(b0:β)(h0:I b0)(hs:aN t (S b0))
  (round:∀b,I b->Wp P N c ⟨tm (S b),h⟩ (aC.andThen (λs'=>∃b',I b'/\μ b'<μ b/\aJ s' ⟨tm (S b'),h⟩) Q)):Wp P N (.loop c) ⟨t,h⟩ Q:=
 Wp.loop (λb=>⟨tm (S b),h⟩) I μ b0 h0 (aJ.tm hs) round
theorem aN.append{t:Tm}:∀{l m:List (Nat × AV)},aN t l->aN t m->aN t (l++m)
 |[],_,_,h=>h
 |(_,_)::_,_,h,h'=>⟨h.1,aN.append h.2 h'⟩
theorem aN.self{t:Tm}:∀(L:List Nat),aN t (L.map λi=>(i,t i))
 |[]=>trivial
 |_::L=>⟨ar.refl _,aN.self L⟩
theorem Wp.gQ{β:Type}(L:List Nat){K:List (Nat × AV)}{c:AC}{h:H}{t:Tm}(hK:(L.map λi=>(i,t i))=K)(ch:β->List (Nat × AV))(I:β->Prop)(μ:β->Nat)(b0:β)(h0:I b0)(hs:aN t (ch b0))
  (round:∀b,I b->Wp P N c ⟨tm (K++ch b),h⟩ (aC.andThen (λs'=>∃b',I b'/\μ b'<μ b/\aJ s' ⟨tm (K++ch b'),h⟩) Q)):Wp P N (.loop c) ⟨t,h⟩ Q:=
 Wp.Hc (λb=>K++ch b) I μ b0 h0 (aN.append (hK▸aN.self L) hs) round
theorem Wp.eX{β:Type}(L:List Nat){K:List (Nat × AV)}{c:AC}{h:H}{t:Tm}(hK:(L.map λi=>(i,t i))=K)(ch:β->List (Nat × AV))(hp:β->H)(I:β->Prop)(μ:β->Nat)(b0:β)(h0:I b0)(hh:h=hp b0)(hs:aN t (ch b0))
  (round:∀b,I b->Wp P N c ⟨tm (K++ch b),hp b⟩ (aC.andThen (λs'=>∃b',I b'/\μ b'<μ b/\aJ s' ⟨tm (K++ch b'),hp b'⟩) Q)):Wp P N (.loop c) ⟨t,h⟩ Q:=
 Wp.loop (λb=>⟨tm (K++ch b),hp b⟩) I μ b0 h0 (hh▸aJ.tm (aN.append (hK▸aN.self L) hs)) round
theorem ar.int{k:IntKind}{a b:Int}(h:a=b):ar (.int k a) (.int k b):=h▸ar.refl _
theorem ar.of_eq{x y:AV}(h:x=y):ar x y:=h▸ar.refl _
def bw:Cap->Bool
 | .own _=>false
 |_=>true
mutual
def aP:AV->Bool
 | .sl _ xs c=>bw c&&aD xs
 | .ref cs=>aD cs
 | .agg cs=>aD cs
 | .tup cs=>aD cs
 | .ptr _ _| .tsl _ _ _ _ _| .mp _| .yld _=>false
 | .clo _ a b=>aD a&&aD b
 | .ifc _ x=>aP x
 | .slt _ xs ys=>aD xs&&aD ys
 |_=>true
def aD:List AV->Bool
 |[]=>true
 |x::xs=>aP x&&aD xs
end
mutual
theorem dA:∀(x:AV),aP x=true->xu x
 | .any,_=>λ_ _ _ _ _ _ h=>h
 | .int _ _,_=>λ_ _ _ _ _ _ h=>h
 | .bool _,_=>λ_ _ _ _ _ _ h=>h
 | .str _,_=>λ_ _ _ _ _ _ h=>h
 | .sc _,_=>λ_ _ _ _ _ _ h=>h
 | .sl sz xs c,hp=>by
  simp only[aP,Jv] at hp;intro G G' w v e1 e2 h;simp only[au] at h |-;rcases h with h|⟨B,off,C,vs,h1,h2,h3,h4,h5,h6⟩
  ·exact .inl h
  ·refine .inr ⟨B,off,C,vs,h1,h2,h3,gR xs hp.2 G G' w sz vs e1 e2 h4,λi v hv=>?_,?_⟩
   ·rw[e1,e2];exact h5 i v hv
   ·cases c with
    |own t=>simp[bw] at hp
    |any=>trivial
    |exact k=>exact h6
 | .ref cs,hp=>by
  simp only[aP] at hp;intro G G' w v e1 e2 h;simp only[au] at h |-;obtain ⟨B,off,vs,h1,h2,h3⟩:=h;exact ⟨B,off,vs,h1,cm cs hp G G' w vs e1 e2 h2,λi v hv=>by rw[e1,e2];exact h3 i v hv⟩
 | .agg cs,hp=>by
  simp only[aP] at hp;intro G G' w v e1 e2 h;simp only[au] at h |-;obtain ⟨vs,h1,h2⟩:=h;exact ⟨vs,h1,cm cs hp G G' w vs e1 e2 h2⟩
 | .tup cs,hp=>by
  simp only[aP] at hp;intro G G' w v e1 e2 h;simp only[au] at h |-;obtain ⟨vs,h1,h2⟩:=h;exact ⟨vs,h1,cm cs hp G G' w vs e1 e2 h2⟩
 | .ptr _ _,hp=>by simp[aP] at hp
 | .tsl _ _ _ _ _,hp=>by simp[aP] at hp
 | .mp _,hp=>by simp[aP] at hp
 | .yld _,hp=>by simp[aP] at hp
 | .slt sz xs ys,hp=>by
  simp only[aP,Jv] at hp;intro G G' w v e1 e2 h;simp only[au] at h |-;obtain ⟨B,off,C,us,vs,h1,h2,h3,h4,h5,h6⟩:=h;exact ⟨B,off,C,us,vs,h1,h2,h3,gR xs hp.1 G G' w sz us e1 e2 h4,gR ys hp.2 G G' w sz vs e1 e2 h5,λi v hv=>by rw[e1,e2];exact h6 i v hv⟩
 | .clo f a b,hp=>by
  simp only[aP,Jv] at hp;intro G G' w v e1 e2 h;simp only[au] at h |-;obtain ⟨vs,us,h1,h2,h3⟩:=h;exact ⟨vs,us,h1,cm a hp.1 G G' w vs e1 e2 h2,cm b hp.2 G G' w us e1 e2 h3⟩
 | .sup B,_=>λ_ _ _ _ _ _ h=>by simpa only[au] using h
 | .supb B,_=>λG G' w v e1 e2 h=>by
  simp only[au] at h |-;obtain ⟨l,h1,h2|⟨D,off,C,h2,h3,h4⟩⟩:=h
  ·exact ⟨l,h1,.inl h2⟩
  ·exact ⟨l,h1,.inr ⟨D,off,C,h2,h3,λi v hv=>by rw[e1,e2];exact h4 i v hv⟩⟩
 | .wint k,_=>λ_ _ _ _ _ _ h=>by simpa only[au] using h
 | .one,_=>λ_ _ _ _ _ _ h=>by simpa only[au] using h
 | .ifc t x,hp=>by
  simp only[aP] at hp;intro G G' w v e1 e2 h;simp only[au] at h |-;obtain ⟨u,h1,h2⟩:=h;exact ⟨u,h1,dA x hp G G' w u e1 e2 h2⟩
theorem cm:∀(l:List AV),aD l=true->mO l
 |[],_=>λ_ _ _ _ _ _ h=>by simpa only[ay] using h
 |x::xs,hp=>by
  simp only[aD,Jv] at hp;intro G G' w vs e1 e2 h;simp only[ay] at h |-;obtain ⟨v,us,h1,h2,h3⟩:=h;exact ⟨v,us,h1,dA x hp.1 G G' w v e1 e2 h2,cm xs hp.2 G G' w us e1 e2 h3⟩
theorem gR:∀(l:List AV),aD l=true->∀(G G':aE)(w:World)(sz:Nat)(vs:List Value),G'.own=G.own->G'.lim=G.lim->aA G w sz l vs->aA G' w sz l vs
 |[],_=>λ_ _ _ _ _ _ _ h=>by simpa only[aA] using h
 |x::xs,hp=>by
  simp only[aD,Jv] at hp;intro G G' w sz vs e1 e2 h;simp only[aA] at h |-;obtain ⟨v,us,h1,h2,h3,h4⟩:=h;exact ⟨v,us,h1,h2,dA x hp.1 G G' w v e1 e2 h3,gR xs hp.2 G G' w sz us e1 e2 h4⟩
end
theorem bA{α:Type}{f:α->AV}(h:∀x,aP (f x)=true):∀l:List α,aD (l.map f)=true
 |[]=>rfl
 |x::l=>by simp[aD,h x,bA h l]
def strs(l:List (List UInt8)):List AV:=l.map .str
def ints(l:List Int):List AV:=l.map (.int .i64)
theorem zp(l:List Int):aD (ints l)=true:=bA (λ_=>rfl) l
theorem vk(l:List UInt8):aD (az l)=true:=bA (λ_=>rfl) l
theorem th(l:List (List UInt8)):(strs l).length=l.length:=by simp[strs]
theorem fM(l:List Int):(ints l).length=l.length:=by simp[ints]
theorem bj(l:List UInt8):(az l).length=l.length:=by simp[az]
theorem mP(l:List Int)(k:Nat)(d:AV)(h:k<l.length):(ints l).getD k d= .int .i64 (l.getD k 0):=by
 simp[ints,List.getD,La,Jm h]
theorem jh(l:List UInt8)(k:Nat)(d:AV)(h:k<l.length):(az l).getD k d=byte (l.getD k 0):=by
 simp[az,List.getD,La,Jm h]
theorem cR(l:List UInt8):fG (az l)=some l:=by
 induction l with
 |nil=>rfl
 |cons b l ih=>
  have:fG (List.map byte l)=some l:=ih;simp[az,fG,uO,byte,this]
end
def lit:Bool->Bool
 |true=>true
 |false=>true
def pk:Bool->AC->AC->AC
 |true,x,_=>x
 |false,_,y=>y
theorem Wp.bJ{P:Program}{N:Nat}{s:St}{Q:aC->St->Prop}{c:Opd}{x y:AC}{b:Bool}(hb:ev s.t c= .bool b)(_:lit b=true)(h:Wp P N (pk b x y) s Q):Wp P N (.cond c x y) s Q:=by
 cases b
 ·exact Wp.cond_false hb h
 ·exact Wp.cond_true hb h
theorem bx:((false=true)=False)/\(∀b:Bool,(true == b)=b)/\(∀b:Bool,(false == b)= !b)/\((!true)=false)/\((!false)=true):=
 ⟨Jy,Bool.true_beq,Bool.false_beq,Kb,Kf⟩
theorem ax:(∀p:Prop,(p/\p)=p)/\(∀p:Prop,(True/\p)=p)/\(∀p:Prop,(p/\True)=p)/\(∀p:Prop,(True\/p)=True)/\(∀p:Prop,(p\/True)=True)/\(∀n:Nat,0*n=0)/\(∀n:Nat,1*n=n)/\(∀n:Nat,0<=n)
  /\(∀h:Decidable True,@decide True h=true)/\(∀h:Decidable False,@decide False h=false)/\(∀n:Nat,((n:Nat):Int).toNat=n)/\(∀(α:Type)(a b:List α),(a++b).length=a.length+b.length)
  /\(∀(α:Type)(p:α->Bool)(x:α)(l:List α),List.filter p (x::l)=if p x=true then x::List.filter p l else List.filter p l)/\(∀(α:Type)(p:α->Bool),List.filter p []=[])/\(∀(α:Type)(a b:α),(a≠b)= ¬(a=b))/\((¬True)=False)/\((¬False)=True):=
 ⟨JI,KP,K8,Kx,or_true,Nat.zero_mul,KK,JJ,λ_=>JO _,λ_=>decide_false _,Int.toNat_natCast,λ_ _ _=>Ju,λ_ _ _ _=>List.filter_cons,λ_ _=>List.filter_nil,λ_ _ _=>rfl,not_true_eq_false,LI⟩
attribute [go_sem] undef bR guardOf aop ev bH upd fL H0 H.only av bS cellsOf shaped part bin F6 F7 fH kD oH uP oI n5 unop eqB eqP eqN eqA aT gl mm jH cT AS oK oJ eqM slice bound lA setAt er tm
 th fM bj List.getElem?_cons_zero List.getElem?_cons_succ J6 KS Option.map_some Option.map_none Option.bind_some Option.bind_none List.all_cons List.all_nil K3 Ko Bool.and_true
 List.length_cons List.length_nil JM J4 Ka Kz List.take_succ_cons List.take_zero K5 List.take_nil JG Nat.add_zero JY List.nil_append List.cons_append Bool.or_false LJ Bool.or_true Bool.true_or
section
variable{P:Program}{N:Nat}
theorem rS(h:H){tk tk' m':Nat}(htk:tk∈h.toks)(hm:h.m<=m'):Touch h (.only av [tk] h.n h.m) (.only av [tk'] h.n m') {h with toks:=tk'::h.toks.filter (· ≠tk),m:=m'} ⟨[],[],[tk,tk']⟩ where
 sub:=⟨λj o x=>by simp[H.only,av] at x,λt x=>by simp only[H.only,Jz] at x;subst x;exact htk⟩
 n:=rfl
 m:=rfl
 eq:=H.ext (λj=>by simp[H.patch,H.only,av];omega) rfl (by
  simp only[H.patch,H.only,List.singleton_append,Kc,KP];apply List.filter_congr;intro y _;simp) rfl
 rd j x:=by simp[H.only,av] at x
 wr id a b:=by simp only[H.only] at a b;omega
 chg j x hj:=by simp[H.only,av] at x
 tk t x:=by simp only[H.only,Jz] at x;subst x;simp
 tn t x:=by simp only[H.only,Jz] at x;subst x;simp
 le:=Jl _
 lem:=hm
def ji(P:Program)(f:FuncId)(args:Nat->List AV)(r:Nat->AV):Prop:=∀t n m,∃t' m',m<=m'/\aS P f (args t) (.only av [t] n m) (r t') (.only av [t'] n m')
theorem aq.cH{dst:Option Nat}{g:Option (Nat × Bool)}{f:FuncId}{l:List Opd}{its:List aL}{t:Tm}{h:H}{log:List Ent}{K:Tm->H->List Ent->Prop}{args:Nat->List AV}{r:Nat->AV}(tk:Nat)(hg:guardOf t g=some true)(hs:aw (l.map (ev t)) (args tk))(hk:tk∈h.toks)(hc:ji P f args r)
  (rest:∀tk' m',h.m<=m'->aq P N its (bH t dst (r tk')) {h with toks:=tk'::h.toks.filter (· ≠tk),m:=m'} (⟨[],[],[tk,tk']⟩::log) K):aq P N (⟨dst,g,.call f l⟩::its) t h log K:=by
 obtain ⟨tk',m',hm,ha⟩:=hc tk h.n h.m;exact aq.gP hg hs ha (rS h hk hm) (rest tk' m' hm)
variable{s:St}{Q:aC->St->Prop}
theorem Wp.rT{β:Type}(L:List Nat){K:List (Nat × AV)}{c:AC}{h:H}{t:Tm}(hK:(L.map λi=>(i,t i))=K)(ch:β->Nat->List (Nat × AV))(I:β->Prop)(μ:β->Nat)(b0:β)(tk:Nat)(h0:I b0)(hh:h.toks=[tk])(hs:aN t (ch b0 tk))
  (round:∀b tk m,I b->Wp P N c ⟨tm (K++ch b tk),{h with toks:=[tk],m:=m}⟩ (aC.andThen (λs'=>∃b' tk' m',I b'/\μ b'<μ b/\aJ s' ⟨tm (K++ch b' tk'),{h with toks:=[tk'],m:=m'}⟩) Q)):Wp P N (.loop c) ⟨t,h⟩ Q:=by
 refine Wp.eX (β:=β × Nat × Nat) L hK (λj=>ch j.1 j.2.1) (λj=>{h with toks:=[j.2.1],m:=j.2.2}) (λj=>I j.1) (λj=>μ j.1) (b0,tk,h.m) h0 (by cases h;simp only at hh;subst hh;rfl) hs ?_;rintro ⟨b,tk,m⟩ hb;refine Wp.mono (round b tk m hb) ?_;intro e s' h;cases e with
 |normal=>obtain ⟨b',tk',m',h1,h2,h3⟩:=h;exact ⟨(b',tk',m'),h1,h2,h3⟩
 |exit id=>exact h
 |goto l=>exact h
 |ret=>exact h
 |panic v=>exact h
end
section
variable{P:Program}{N:Nat}
end
theorem jR(t:Nat):List.filter (λx=>decide (x≠t)) [t]=[]:=by simp
theorem Gb(k:Nat):(k=k+1)=False:=by simp
theorem Gc(k:Nat):(k+1=k)=False:=by simp
attribute [go_sem] Gb Gc jR Jz JB Kx
structure Fun where
 N:Nat
 ac:AC
 ds:List RV
inductive FT where
 |leaf
 |node (k:Nat) (F:Fun) (l r:FT)
section
variable{P:Program}{T:FT}
theorem aS.tl{f:FuncId}{args:List AV}{r r':AV}{h':H}(ha:mO args)(hc:aS P f args (H0 0 0) r h')(hs:ar r r')(hp:xu r'):aH P f args r':=by
 intro n m G w vs hv R F;let G0:aE:={G with dom:=λ_=>False,tdom:=λ_=>False}
 refine (hc G0 w vs (ha G G0 w vs rfl rfl hv) fJ ⟨λ_ _ _ h=>h,λ_ _ _ h=>h⟩).mono ?_;rintro e w' ⟨v,G',rfl,T,R',V⟩;refine ⟨v,{G' with dom:=G.dom,ι:=G.ι,tdom:=G.tdom,τ:=G.τ},rfl,?_,fJ,hp G' _ w' v rfl rfl (hs G' w' v V)⟩;have hO:∀{G:aE} {n m} B,¬(H0 n m).O G B:=λB=>eI B;have hT:∀{G:aE} {n m} B,¬(H0 n m).T G B:=λB ⟨t,ht,_⟩=>by simp[H0,H.only] at ht
 constructor
 ·exact λ_ x=>x
 ·exact λ_=> .inl
 ·exact λ_ _=>rfl
 ·exact λ_ x=>x
 ·exact λ_=> .inl
 ·exact λ_ _=>rfl
 ·exact Jl _
 ·exact Jl _
 ·exact T.size_le
 ·exact T.os
 ·exact T.output
 ·exact T.form
 ·exact λB hB _ _=>T.keep B hB (hO B) (hT B)
 ·exact λB hB _=>T.own_keep B hB (hO B)
 ·exact λB hB _ _=>T.lim_keep B hB (hO B) (hT B)
 ·exact λB hB x=>absurd x (hT B)
 ·exact λB _ x=>absurd x (hO B)
 ·exact λB _ x=>absurd x (hT B)
 ·exact λj o x=>by simp[H0,H.only,av] at x
 ·exact λt x=>by simp[H0,H.only] at x
theorem aU.aG{f:FuncId}{N:Nat}{ac:AC}{args:List AV}{ds:List RV}{r:AV}(hF:aU P f N ac ds)(hl:args.length<=N)(ha:aD args=true)(hp:aP r=true)(hw:Wp P N ac ⟨fL args,H0 0 0⟩ λe s'=>gx e/\∃q,fS ds s'.t s'.h=some q/\ar q r):aH P f args r:=by
 obtain ⟨r',h',cB,hs⟩:=hF.dF (Q:=λr' _=>ar r' r) hl hw;exact cB.tl (cm _ ha) hs (dA _ hp)
end
section
variable{P:Program}{N:Nat}
def fh(P:Program)(f:FuncId)(args:List AV)(h:H)(v:Value)(h':H):Prop:=
 ∀G w vs,ay G w args vs->aM G h w->bP G h h'->Calls P f vs.toArray w λe w'=>∃G',e= .panicked [{v:=v,recovered:=false}]/\Trans G w h G' w' h'/\aM G' h' w'
def Gd(P:Program)(f:FuncId)(args:List AV)(v:Value):Prop:=∀n m,fh P f args (H0 n m) v (H0 n m)
theorem Bt{o:Oper}{f:FuncId}{vals:List AV}{h1 h1':H}{v:Value}(hc:fh P f vals h1 v h1'){G:aE}{w:World}{a:Act}{vs:List Value}(hv:ay G w vals vs)(R:aM G h1 w)(F:bP G h1 h1'){K:Act->World->Prop}{Q:Exit->Act->World->Prop}{ro:Option Nat}(hd:∀c,o.op≠ .defer c)
  (hK:∀G' w',Trans G w h1 G' w' h1'->aM G' h1' w'->Q (.panic [{v:=v,recovered:=false}]) a w') (hrun:(execOp a.eval o).run P w= .ok (.enter f vs.toArray) w):o.wpIn (rd ro) 0 P a w K Q:=by
 refine ⟨λ_ _=>trivial,?_⟩;rw[Oper.semAt_eq _ _ _ hd,hrun,Oper.uponIn_enter];refine ⟨λh=>by simp[rd,Fence.wide] at h,lH ?_⟩;refine (hc G w vs hv R F).mono ?_;rintro e w' ⟨G',rfl,T,R'⟩;exact hK G' w' T R'
theorem jS{ops:Array Oper}{i:Nat}{o:Oper}{it:aL}{t:Tm}{f:FuncId}{l:List Opd}{vals:List AV}{h1 h1':H}{v:Value}(ho:ops[i]? =some o)(hit:bB P N ops o=some it)(hg:guardOf t it.guard=some true)(hop:it.op= .call f l)
  (hs:aw (l.map (ev t)) vals) (hc:fh P f vals h1 v h1'):jK P ops i o t h1 v h1':=by
 unfold bB at hit;split at hit
 ·rename_i op g hcop hgd;split at hit<;>cases hit;rename_i hcond;simp only[Jv] at hcond;simp only at hop;subst hop;have hcop:=fW hcop af rfl;obtain ⟨c,fn,e1,e2,e3,e4,e5,e6⟩:=s8 hcop;intro G w a ht R F K Q hK ro;unfold wpOpIn;rw[ho];simp only[cq hgd ht hg,Jw];have rr:=fI (P:=P) (fg ht) e3;have el:l.map (ev (iC (names ops o) t))=l.map (ev t):=KD λx hx=>jf hcond.2 x (by simpa [bK] using hx);rw[el] at rr;refine Bt hc (hs G w _ rr) R F (dQ hcop) hK ?_;have hargs:(c.args.map a.eval)=(c.args.toList.map a.eval).toArray:=by cases c.args;simp
  simp[execOp,e1,resolve,e2,Act.eval,Deferred.ofValue,invoke,hargs,dR w e4 e5 e6]
 ·cases hit
theorem DW{o:Oper}{y:Opd}(h:cOp P o=some (.pan y)):∃x,o.op= .panic x/\opd P 0 x=some y:=by
 unfold cOp at h;split at h;all_goals first
  |(cases h;done)
  |(simp only[Jo,AOp.pan.injEq] at h;obtain ⟨a,h1,rfl⟩:=h;exact ⟨_,‹_›,h1⟩)
  |(simp at h;done)
  |((repeat' split at h)<;>(try cases h)<;>(try simp at h);done)
  |skip
theorem vn{ops:Array Oper}{i:Nat}{o:Oper}{it:aL}{t:Tm}{y:Opd}{ty:TypeId}{k:IntKind}{z:Int}{n m:Nat}(ho:ops[i]? =some o)(hit:bB P N ops o=some it)(hg:guardOf t it.guard=some true)(hop:it.op= .pan y)
  (hy:ev t y= .ifc ty (.int k z)):jK P ops i o t (H0 n m) (.iface ty (.int k z)) (H0 n m):=by
 unfold bB at hit;split at hit
 ·rename_i op g hcop hgd;split at hit<;>cases hit;rename_i hcond;simp only[Jv] at hcond;simp only at hop;subst hop;have hcop:=fW hcop af rfl;obtain ⟨x,e1,e2⟩:=DW hcop;intro G w a ht R F K Q hK ro;unfold wpOpIn;rw[ho];simp only[cq hgd ht hg,Jw];have rz:=aB (P:=P) e2 (fg ht);rw[jf (t:=t) hcond.2 y (by simp[bK]),hy] at rz;simp only[au] at rz;obtain ⟨u,q1,q2⟩:=rz;subst q2;refine ⟨λ_ _=>trivial,?_⟩;have hrun:(execOp a.eval o).run P w= .halt (.panic (.iface ty (.int k z))) w:=by
   simp[execOp,e1,q1,run_panic_iface]
  rw[Oper.semAt_eq _ _ _ (dQ hcop),hrun,Oper.uponIn_panic];exact hK G w (Trans.refl _ _ _) R
 ·cases hit
theorem eK.congr{ops:Array Oper}{D D':Nat->Bool}{i:Nat}{recs:List Rec}{t t':Tm}{h h':H}(hc:eK P ops D i recs t h t' h')(hD:∀k,i<=k->D' k=D k):eK P ops D' i recs t h t' h':=by
 induction hc with
 |nil hi=>exact .nil hi
 | @cons i o r rs t t' h h' ho e1 e2 tc run rest ih=>exact .cons ho e1 e2 tc (λhf=>run (by rw[<-hD i (Jl _)];exact hf)) (ih λk hk=>hD k aa)
theorem vp(ro:Option Nat){ops:Array Oper}{D:Nat->Bool}{j:Nat}{rj:Rec}{oj:Oper}{v:Value}{Q:Exit->Act->World->Prop}(hN:∀(i:Nat) o d,ops[i]? =some o->o.dst=some d->d<N)(hoj:ops[j]? =some oj)(hpan:jK P ops j oj rj.t rj.h1 v rj.h1')(hDj:D j=true)(hDk:∀k,D k=true->j<=k):
  ∀{i:Nat}{recs:List Rec}{t t':Tm}{h h':H},i<=j->eK P ops D i recs t h t' h'->recs[j - i]? =some rj->
  ∀(G:aE)(w:World)(a:Act),a.tmps.size=N->bQ G w t a->aM G h w->bP G h h'->
   (∀G' w' a',Trans G w h G' w' {rj.h' with n:=h'.n,m:=h'.m}->aM G' {rj.h' with n:=h'.n,m:=h'.m} w'->a'.tmps.size=N->a'.defers=a.defers->Q (.panic [{v:=v,recovered:=false}]) a' w')->wpOpsIn (rd ro) 0 P ops Q (List.range' i (ops.size - i)) a w:=by
 intro i recs t t' h h' hij hc;induction hc with
 |nil hi=>
  intro hr;simp at hr
 | @cons i o r rs t t' h h' ho e1 e2 tc run rest ih=>
  intro hr G w a hs ht R U hq;have hi:i<ops.size:=(J0.1 ho).1;have:ops.size - i=(ops.size - (i+1))+1:=by omega
  rw[this,Ll,wpOpsIn_cons];have nm:=(jM rest).1;have e3:r.h'.n=r.h1'.n:=by rw[tc.eq];rfl
  have e4:r.h'.m=r.h1'.m:=by rw[tc.eq];rfl
  have F:bP G r.h1 r.h1':=U.sub (by rw[tc.n];exact Jl _) aa (by rw[tc.m];exact Jl _) aa;by_cases hji:i=j
  ·subst hji;simp at hr;subst hr;rw[hoj] at ho;cases ho;refine hpan G w a (λk _=>by rw[e1];exact ht k) (R.sub tc.sub) F _ Q (λG' w' T1 R1=>?_) ro;obtain ⟨R2,T2⟩:=frame R tc.sub tc.n tc.m R1 T1 F;rw[<-tc.eq] at R2 T2;refine hq G' w' a ?_ (R2.same rfl λ_ x=>x) hs rfl;exact T2.same rfl (λ_=>Lr) rfl (λ_=>Lr) (Jl _) nm.1 (JT T2.n_le nm.1) (Jl _) nm.2 (JT T2.m_le nm.2)
  ·have hDi:D i=false:=by
    cases hd:D i with
    |false=>rfl
    |true=>have:=hDk i hd;omega
   refine run hDi G w a (λk _=>ht k) (R.sub tc.sub) F _ Q (λG' w' v T1 R1 V=>?_) ro;obtain ⟨R2,T2⟩:=frame R tc.sub tc.n tc.m R1 T1 F;rw[<-tc.eq] at R2 T2;refine ih aa (by rw[show j - i=(j - (i+1))+1 by omega] at hr;simpa using hr) G' w' _ (by rw[jL];exact hs) (mg (ht.mono R T2) V λk hk=>by rw[hs];exact hN i o k ho hk) R2 (U.step T2) λG'' w'' a'' T3 h2 h3 h4=>?_;exact hq G'' w'' a'' (T2.trans R R2 T3) h2 h3 (h4.trans (put_defers _ _ _))
def FF(l:List (Nat × Nat))(j k:Nat)(ds:List Nat)(it:aL):Bool:=
 (bL it.op&& !l.contains (j,k))||(tmpsOf (bK it.op)).any ds.contains||(match it.guard with|some (d,_)=>ds.contains d|none=>false)
def rU:AOp->Bool
 | .load _ _=>true
 |op=> !bL op
def o7(l:List (Nat × Nat))(j:Nat):List aL->Nat->List Nat->Tm->H->Option (List Ent)
 |[],_,_,_,_=>some []
 |it::its,k,ds,t,h=>
  if FF l j k ds it then (o7 l j its (k+1) (it.dst.toList++ds) (bH t it.dst .any) h).map (aO:: ·)
  else match guardOf t it.guard with
   |some false=>(o7 l j its (k+1) ds (bH t it.dst (.sc undef)) h).map (aO:: ·)
   |some true=>if rU it.op then (match aop (ev t) h it.op with
    |some (x,_,en)=>(o7 l j its (k+1) ds (bH t it.dst x) h).map (en:: ·)
    |none=>none) else none
   |none=>none
def vq(e:Ent):Bool:=e.wr.isEmpty&&e.tk.isEmpty
theorem zq{ρ:Opd->AV}{h h':H}{op:AOp}{x:AV}{en:Ent}(ht:rU op=true)(hx:aop ρ h op=some (x,h',en)):h'=h/\en.wr=[]/\en.tk=[]/\(bL op=false->en=aO):=by
 cases op<;>simp[rU,bL] at ht<;>simp only[aop] at hx<;>first
  |(simp only[JA,JD] at hx;obtain ⟨-,rfl,rfl⟩:=hx;exact ⟨rfl,rfl,rfl,λ_=>rfl⟩)
  |(simp only[Jo,JD] at hx;obtain ⟨_,_,_,rfl,rfl⟩:=hx;exact ⟨rfl,rfl,rfl,λ_=>rfl⟩)
  |((repeat' split at hx)<;>(first|(cases hx;done)|(cases hx;first|exact ⟨rfl,rfl,rfl,λ_=>rfl⟩|exact ⟨rfl,rfl,rfl,λh=>by simp[bL] at h⟩)|(simp only[Jo,JD] at hx;obtain ⟨_,_,_,rfl,rfl⟩:=hx;first|exact ⟨rfl,rfl,rfl,λ_=>rfl⟩|exact ⟨rfl,rfl,rfl,λh=>by simp[bL] at h⟩)|skip))
 all_goals simp_all
def mQ(P:Program)(N:Nat)(ops:Array Oper)(l:List (Nat × Nat)):Prop:=
 ∀(a b:Nat) oa ob ia ib,a<b->ops[a]? =some oa->ops[b]? =some ob->bB P N ops oa=some ia->bB P N ops ob=some ib->bL ia.op=true->bL ib.op=true->(a,b)∉l->cL ops a b=true
theorem og{l:List (Nat × Nat)}{j:Nat}{ops:Array Oper}{itj:aL}{oj:Oper}(hoj:ops[j]? =some oj)(hij:bB P N ops oj=some itj)(htj:bL itj.op=true):
  ∀(its:List aL)(k:Nat)(ds:List Nat)(t:Tm)(h:H)(ents:List Ent),o7 l j its k ds t h=some ents->j<k->k<=ops.size->cV P N ops (ops.toList.drop k)=some its->
  ∃(D:Nat->Bool)(recs:List Rec)(t':Tm)(h':H),eK P ops D k recs t h t' h'/\h'=h/\recs.map (·.en)=ents/\(∀i,D i=true->k<=i)/\
   (∀(i:Nat) r it,recs[i]? =some r->its[i]? =some it->bL it.op=false->r.en=aO)/\
   (Tidy ops->mQ P N ops l->∀(E:Nat->Bool),(∀d∈ds,∃k' o',k'<k/\ops[k']? =some o'/\o'.dst=some d/\E k'=true)->E j=true->(∀i,k<=i->D i=true->E i=true)->∀i,D i=true->∃k',E k'=true/\cL ops k' i=true)
 |[],k,ds,t,h,ents,he,hjk,hk,hc=>by
  simp only[o7,JA] at he;subst he;have:k=ops.size:=by
   cases hd:ops.toList.drop k with
   |nil=>have:=List.drop_eq_nil_iff.1 hd;simp at this;omega
   |cons o l=>
    rw[hd] at hc;simp only[cV] at hc;split at hc<;>simp at hc
  exact ⟨λ_=>false,[],t,h,.nil this,rfl,rfl,λi h=>by (cases h),by simp,λ_ _ _ _ _ _ i h=>by (cases h)⟩
 |it::its,k,ds,t,h,ents,he,hjk,hk,hc=>by
  obtain ⟨o,ho,hit,hk',hc'⟩:=cg hk hc;have hdst:it.dst=o.dst:=by
   unfold bB at hit;split at hit
   ·split at hit<;>cases hit;rfl
   ·cases hit
  have hsub:(tmpsOf (bK it.op)).all (λi=>(names ops o).contains i)=true/\mM ops o.guard=some it.guard:=by
   unfold bB at hit;split at hit
   ·rename_i hg;split at hit<;>cases hit;rename_i hcond;simp only[Jv] at hcond;exact ⟨hcond.2,hg⟩
   ·cases hit
  simp only[o7] at he;split at he
  ·rename_i hdead;simp only[Jo] at he;obtain ⟨es,he,rfl⟩:=he;obtain ⟨D,recs,t',h',ch,hh,hr,hD,hE0,hX⟩:=og hoj hij htj its (k+1) _ _ h es he aa hk' hc';have hDk:D k=false:=by
    cases hd:D k with
    |false=>rfl
    |true=>have:=hD k hd;omega
   refine ⟨λi=>D i||i == k,⟨t,h,H0 h.n h.m,H0 h.n h.m,h,.any,aO⟩::recs,t',h',?_,hh,by simp[hr],?_,?_,?_⟩
   ·refine .cons ho rfl rfl (bu h) (λhf=>by simp at hf) ?_;rw[<-hdst];exact ch.congr λi hi=>by
     have:(i == k)=false:=by simp;omega
     simp[this]
   ·intro i hi;simp only[J7,Li] at hi;rcases hi with hi|hi
    ·have:=hD i hi;omega
    ·omega
   ·intro i r it' hri hiti ht;cases i with
    |zero=>simp at hri;subst hri;rfl
    |succ i=>simp at hri hiti;exact hE0 i r it' hri hiti ht
   ·intro T M E hds hEj hDE i hi;simp only[J7,Li] at hi;have hEk:E k=true:=hDE k (Jl _) af;rcases hi with hi|hi
    ·refine hX T M E ?_ hEj (λi h1 h2=>hDE i aa (by simp[h2])) i hi;intro d hd;simp only[JW,Option.mem_toList] at hd;rcases hd with hd|hd
     ·exact ⟨k,o,aa,ho,by rw[<-hdst];exact hd,hEk⟩
     ·obtain ⟨k',o',h1,h2⟩:=hds d hd;exact ⟨k',o',aa,h2⟩
    ·subst hi;unfold FF at hdead;simp only[J7,Jv,Bool.not_eq_true',List.any_eq_true] at hdead;have byname:∀d,d∈ds->d∈names ops o->∃k',E k'=true/\cL ops k' i=true:=by
      intro d hd hn;obtain ⟨k',o',h1,h2,h3,h4⟩:=hds d hd;refine ⟨k',h4,?_⟩;rcases T.tmp k' i o' o h2 ho aa d h3 hn with h|h
      ·exact h
      ·have:=mK T k' _ h2 h;omega
     rcases hdead with (⟨h1,h2⟩|⟨d,h1,h2⟩)|h1
     ·exact ⟨j,hEj,M j i oj o itj it hjk hoj ho hij hit htj h1 (by simpa using h2)⟩
     ·have:=JS.1 hsub.1 d h1;exact byname d (by simpa using h2) (by simpa using this)
     ·split at h1
      ·rename_i d w hg;refine byname d (by simpa using h1) ?_;have hg2:=hsub.2;rw[hg] at hg2;unfold mM at hg2;split at hg2
       ·cases hg2
       ·rename_i j' w' hog;split at hg2
        ·rename_i d' hd';cases hg2;simp only[names,hog,JW];right;simp[hd']
        ·cases hg2
      ·cases h1
  ·split at he
   ·rename_i hg;simp only[Jo] at he;obtain ⟨es,he,rfl⟩:=he;obtain ⟨D,recs,t',h',ch,hh,hr,hD,hE0,hX⟩:=og hoj hij htj its (k+1) _ _ h es he aa hk' hc';refine ⟨D,⟨t,h,H0 h.n h.m,H0 h.n h.m,h,.sc undef,aO⟩::recs,t',h',.cons ho rfl rfl (bu h) (λ_=>gr ho hit hg) (by rw[<-hdst];exact ch),hh,by simp[hr],λi hi=>by have:=hD i hi;omega,?_,?_⟩
    ·intro i r it' hri hiti ht;cases i with
     |zero=>simp at hri;subst hri;rfl
     |succ i=>simp at hri hiti;exact hE0 i r it' hri hiti ht
    ·intro T M E hds hEj hDE i hi;exact hX T M E (λd hd=>by obtain ⟨k',o',h1,h2⟩:=hds d hd;exact ⟨k',o',aa,h2⟩) hEj (λi h1 h2=>hDE i aa h2) i hi
   ·rename_i hg;split at he
    ·rename_i hq;split at he
     ·rename_i x h2 en hx;simp only[Jo] at he;obtain ⟨es,he,rfl⟩:=he;obtain ⟨q1,q2,q3,q4⟩:=zq hq hx;subst q1;obtain ⟨h1,h1',tc,run⟩:=iD ho hit hg hx;obtain ⟨D,recs,t',h',ch,hh,hr,hD,hE0,hX⟩:=og hoj hij htj its (k+1) _ _ _ es he aa hk' hc';refine ⟨D,⟨t,_,h1,h1',_,x,en⟩::recs,t',h',.cons ho rfl rfl tc (λ_=>run) (by rw[<-hdst];exact ch),hh,by simp[hr],λi hi=>by have:=hD i hi;omega,?_,?_⟩
      ·intro i r it' hri hiti ht;cases i with
       |zero=>simp at hri hiti;subst hri hiti;exact q4 ht
       |succ i=>simp at hri hiti;exact hE0 i r it' hri hiti ht
      ·intro T M E hds hEj hDE i hi;exact hX T M E (λd hd=>by obtain ⟨k',o',h1,h2⟩:=hds d hd;exact ⟨k',o',aa,h2⟩) hEj (λi h1 h2=>hDE i aa h2) i hi
     ·cases he
    ·cases he
   ·cases he
theorem dS{ops:Array Oper}:∀(its:List aL)(k:Nat)(t:Tm)(h:H),k<=ops.size->cV P N ops (ops.toList.drop k)=some its->∃(recs:List Rec)(t':Tm)(D:Nat->Bool),eK P ops D k recs t h t' h/\(∀i,D i=true->k<=i)/\∀r∈recs,r.en=aO
 |[],k,t,h,hk,hc=>by
  have:k=ops.size:=by
   cases hd:ops.toList.drop k with
   |nil=>have:=List.drop_eq_nil_iff.1 hd;simp at this;omega
   |cons o l=>
    rw[hd] at hc;simp only[cV] at hc;split at hc<;>simp at hc
  exact ⟨[],t,λ_=>false,.nil this,λi h=>by (cases h),by simp⟩
 |it::its,k,t,h,hk,hc=>by
  obtain ⟨o,ho,hit,hk',hc'⟩:=cg hk hc;obtain ⟨recs,t',D,ch,hD,he⟩:=dS its (k+1) (bH t o.dst .any) h hk' hc';refine ⟨⟨t,h,H0 h.n h.m,H0 h.n h.m,h,.any,aO⟩::recs,t',λi=>D i||i == k,.cons ho rfl rfl (bu h) (λhf=>by simp at hf) (ch.congr λi hi=>by
   have:(i == k)=false:=by simp;omega
   simp[this]),λi hi=>?_,?_⟩
  ·simp only[J7,Li] at hi;rcases hi with hi|hi
   ·have:=hD i hi;omega
   ·omega
  ·intro r hr;rcases JB.1 hr with rfl|hr
   ·rfl
   ·exact he r hr
def DX(l:List (Nat × Nat))(j:Nat)(log:List Ent):Bool:=l.all λ(a,b)=>(!Nat.beq a j||vq (log.getD b aO))&&(!Nat.beq b j||vq (log.getD a aO))
def He(l:List (Nat × Nat))(j:Nat)(log:List Ent)(h':H):Prop:=∀a b,(a,b)∈l->(a=j->(log.getD b aO).tk=[]/\∀id∈(log.getD b aO).wr,h'.objs id=none)/\(b=j->(log.getD a aO).tk=[]/\(log.getD a aO).wr=[])
theorem Ge{l:List (Nat × Nat)}{j:Nat}{log:List Ent}{h':H}(h:DX l j log=true):He l j log h':=by
 intro a b hab;unfold DX at h;rw[JS] at h;have:=h _ hab;simp only[Jv,J7,Bool.not_eq_true',vq,List.isEmpty_iff] at this;refine ⟨λe=>?_,λe=>?_⟩
 ·subst e;obtain ⟨h1,h2⟩:=this.1.resolve_left af;exact ⟨h2,λid hid=>by rw[h1] at hid;cases hid⟩
 ·subst e;obtain ⟨h1,h2⟩:=this.2.resolve_left af;exact ⟨h2,h1⟩
structure Hf(P:Program)(N:Nat)(p:Option (List (Nat × Nat)))(ops:Array Oper)(i:Nat)(items:List aL)(t:Tm)(h:H)(log:List Ent)(D:Nat->Bool)(recs:List Rec)(t':Tm)(h':H)(j:Nat)(rj:Rec)(oj:Oper)(itj:aL)(v:Value):Prop where
 ch:eK P ops D i recs t h t' h'
 hrj:recs[j - i]? =some rj
 ij:i<=j
 hoj:ops[j]? =some oj
 it:bB P N ops oj=some itj
 tj:bL itj.op=true
 run:jK P ops j oj rj.t rj.h1 v rj.h1'
 Dj:D j=true
 Dk:∀k,D k=true->j<=k
 e0:∀(k:Nat) r it,recs[k]? =some r->items[k]? =some it->bL it.op=false->r.en=aO
 pairs:∀l,p=some l->(Tidy ops->mQ P N ops l->∀k,D k=true->k=j\/∃k',D k'=true/\cL ops k' k=true)/\aR l (log.reverse++recs.map (·.en))/\He l j (log.reverse++recs.map (·.en)) rj.h'
def cC(P:Program)(N:Nat)(p:Option (List (Nat × Nat)))(items:List aL)(t:Tm)(h:H)(log:List Ent)(R:Value->H->Prop):Prop:=
 ∀ops i,i<=ops.size->log.length=i->cV P N ops (ops.toList.drop i)=some items->
  ∃D recs t' h' j rj oj itj v,Hf P N p ops i items t h log D recs t' h' j rj oj itj v/\R v {rj.h' with n:=h'.n,m:=h'.m}
theorem cC.step{p:Option (List (Nat × Nat))}{it:aL}{its:List aL}{t:Tm}{h h' h1 h1':H}{x:AV}{en:Ent}{log:List Ent}{R:Value->H->Prop}(tc:Touch h h1 h1' h' en)
  (run:∀(ops:Array Oper) i o,ops[i]? =some o->bB P N ops o=some it->gq P ops i o t h1 x h1') (hen:bL it.op=false->en=aO)
  (rest:cC P N p its (bH t it.dst x) h' (en::log) R):cC P N p (it::its) t h log R:=by
 intro ops i hi hl hc;obtain ⟨o,ho,hit,hi',hc'⟩:=cg hi hc;obtain ⟨D,recs,t',hh',j,rj,oj,itj,v,A,hR⟩:=rest ops (i+1) hi' (by simp[hl]) hc';have hdst:it.dst=o.dst:=by
  unfold bB at hit;split at hit
  ·split at hit<;>cases hit;rfl
  ·cases hit
 have hij:=A.ij;refine ⟨D,⟨t,h,h1,h1',h',x,en⟩::recs,t',hh',j,rj,oj,itj,v,⟨.cons ho rfl rfl tc (λ_=>run ops i o ho hit) (by rw[<-hdst];exact A.ch),?_,aa,A.hoj,A.it,A.tj,A.run,A.Dj,A.Dk,?_,?_⟩,hR⟩
 ·have e:=A.hrj;rw[show j - i=(j - (i+1))+1 by omega];simpa using e
 ·intro k r it' hr hit' ht;cases k with
  |zero=>simp at hr hit';subst hr hit';exact hen ht
  |succ k=>simp at hr hit';exact A.e0 k r it' hr hit' ht
 ·intro l hl';have:=A.pairs l hl';simpa using this
theorem cC.here{p:Option (List (Nat × Nat))}{it:aL}{its:List aL}{t:Tm}{h h' h1 h1':H}{v:Value}{en:Ent}{log:List Ent}{R:Value->H->Prop}(hj:bL it.op=true)(tc:Touch h h1 h1' h' en)
  (run:∀(ops:Array Oper) i o,ops[i]? =some o->bB P N ops o=some it->jK P ops i o t h1 v h1')
  (hr:∀l,p=some l->∃ents,o7 l log.length its (log.length+1) it.dst.toList (bH t it.dst .any) h'=some ents/\aR l (log.reverse++en::ents)/\DX l log.length (log.reverse++en::ents)=true)
  (hq:R v h'):cC P N p (it::its) t h log R:=by
 intro ops i hi hl hc;obtain ⟨o,ho,hit,hi',hc'⟩:=cg hi hc;have hdst:it.dst=o.dst:=by
  unfold bB at hit;split at hit
  ·split at hit<;>cases hit;rfl
  ·cases hit
 subst hl;cases p with
 |none=>
  obtain ⟨recs,t',D,ch,hD,he⟩:=dS its (log.length+1) (bH t o.dst .any) h' hi' hc';refine ⟨λi=>D i||i == log.length,⟨t,h,h1,h1',h',.any,en⟩::recs,t',h',log.length,⟨t,h,h1,h1',h',.any,en⟩,o,it,v,⟨.cons ho rfl rfl tc (λhf=>by simp at hf) (ch.congr λi hi=>by
   have:(i == log.length)=false:=by simp;omega
   simp[this]),by simp,Jl _,ho,hit,hj,run ops _ o ho hit,by simp,?_,?_,by simp⟩,hq⟩
  ·intro k hk;simp only[J7,Li] at hk;rcases hk with hk|hk
   ·have:=hD k hk;omega
   ·omega
  ·intro k r it' hr hit' ht;cases k with
   |zero=>simp at hr hit';subst hr hit';rw[hj] at ht;cases ht
   |succ k=>
    simp at hr;exact he r (K0 hr)
 |some l=>
  obtain ⟨ents,hrest,hpk,hpb⟩:=hr l rfl;obtain ⟨D,recs,t',h2,ch,rfl,hre,hD,hE0,hX⟩:=og ho hit hj its (log.length+1) _ _ h' ents hrest aa hi' hc';refine ⟨λi=>D i||i == log.length,⟨t,h,h1,h1',h2,.any,en⟩::recs,t',h2,log.length,⟨t,h,h1,h1',h2,.any,en⟩,o,it,v,⟨.cons ho rfl rfl tc (λhf=>by simp at hf) (by
   rw[<-hdst];exact ch.congr λi hi=>by
    have:(i == log.length)=false:=by simp;omega
    simp[this]),by simp,Jl _,ho,hit,hj,run ops _ o ho hit,by simp,?_,?_,?_⟩,hq⟩
  ·intro k hk;simp only[J7,Li] at hk;rcases hk with hk|hk
   ·have:=hD k hk;omega
   ·omega
  ·intro k r it' hr hit' ht;cases k with
   |zero=>simp at hr hit';subst hr hit';rw[hj] at ht;cases ht
   |succ k=>
    simp at hr hit';exact hE0 k r it' hr hit' ht
  ·intro l' hl';cases hl';refine ⟨λT M k hk=>?_,by simpa [hre] using hpk,Ge (by simpa [hre] using hpb)⟩;simp only[J7,Li] at hk;rcases hk with hk|hk
   ·right;refine hX T M (λi=>D i||i == log.length) ?_ af (λi _ h=>by simp[h]) k hk;intro d hd;rw[Option.mem_toList] at hd;exact ⟨log.length,o,aa,ho,by rw[<-hdst];exact hd,by simp⟩
   ·exact .inl hk
theorem Wp.Hg{items:List aL}{p:Option (List (Nat × Nat))}{s:St}{Q:aC->St->Prop}(h:cC P N p items s.t s.h [] λv h'=>Q (.panic v) ⟨λ_=> .any,h'⟩):Wp P N (.reg items p) s Q:=by
 intro code hc;obtain ⟨id,ops,draw,rfl,hi,hd⟩:=mh hc;obtain ⟨D,recs,t',h',j,rj,oj,itj,v,A,hq⟩:=h ops 0 (JJ _) rfl (by simpa using hi);have ch:=A.ch;have hrj:recs[j]? =some rj:=by simpa using A.hrj
 obtain ⟨nm,nm2,-⟩:=jM ch;obtain ⟨cl,ci⟩:=gv hi;have hN:∀(i:Nat) o d,ops[i]? =some o->o.dst=some d->d<N:=by
  intro i o d ho hdd;have hlt:i<ops.size:=(J0.1 ho).1;have hit:i<items.length:=by rw[cl];simpa using hlt
  have:=ci i o items[i] (by simpa using ho) (Jm hit);generalize items[i]=it at this;unfold bB at this;split at this
  ·split at this<;>cases this;rename_i hcond;simp only[Jv] at hcond;have:=hcond.1;rw[hdd] at this;simpa using this
  ·cases this
 refine ⟨.panic v,_,⟨nm,λro okc G w a r F=>?_⟩,hq⟩;rcases hd with ⟨rfl,rfl⟩|⟨rfl,hm,ht,rfl⟩
 ·refine wpIn_region ?_;rw[List.range_eq_range'];have:=vp ro (Q:=λe' a' w'=>(aC.panic v).dH e'/\kT w a.defers a'.defers/\∃G',Trans G w s.h G' w' {rj.h' with n:=h'.n,m:=h'.m}/\Rel N ⟨λ_=> .any,{rj.h' with n:=h'.n,m:=h'.m}⟩ G' w' a') hN A.hoj A.run A.Dj A.Dk (JJ j) ch (by simpa using A.hrj) G w a r.size r.t r.h F
   (λG' w' a' T1 R1 s1 d1=>⟨rfl,by rw[d1];exact .refl,G',T1,⟨s1,λ_=>by simp[au],R1,by rw[d1];exact r.df.mono T1⟩⟩)
  simpa using this
 ·obtain ⟨pD,pk,pb⟩:=A.pairs _ rfl;simp only[List.reverse_nil,List.nil_append] at pk pb;refine wpIn_region_any hm ?_;obtain ⟨a1,a2,-⟩:=gO ch;rw[JG] at a1;have ap:∀i j,i<j->j<ops.size->cL ops i j=false->apart (recs.getD i cN).en (recs.getD j cN).en:=by
   intro i j hij hj hanc;have hir:i<recs.length:=by omega
   have hjr:j<recs.length:=by omega
   have hii:i<items.length:=by rw[cl];simp;omega
   have hjj:j<items.length:=by rw[cl];simp;omega
   have ei:(recs.getD i cN).en=(recs.map (·.en)).getD i aO:=by simp[List.getD,Jm hir]
   have ej:(recs.getD j cN).en=(recs.map (·.en)).getD j aO:=by simp[List.getD,Jm hjr]
   have gi:(recs.getD i cN)=recs[i]:=by simp[List.getD,Jm hir]
   have gj:(recs.getD j cN)=recs[j]:=by simp[List.getD,Jm hjr]
   by_cases ti:bL items[i].op=true
   ·by_cases tj:bL items[j].op=true
    ·rw[ei,ej];refine jQ pk ?_;unfold je;simp only[Lk,Kg,List.mem_filterMap];refine ⟨j,hj,i,hij,?_⟩;unfold cL at hanc;simp[Jm hii,Jm hjj,ti,tj];simpa using hanc
    ·rw[gj,A.e0 j _ _ (Jm hjr) (Jm hjj) (by simpa using tj)];exact (jg _).2
   ·rw[gi,A.e0 i _ _ (Jm hir) (Jm hii) (by simpa using ti)];exact (jg _).1
  have hjs:j<ops.size:=(J0.1 A.hoj).1;have itemAt:∀(k:Nat)(o:Oper),ops[k]? =some o->∃it,items[k]? =some it/\bB P N ops o=some it:=by
   intro k o ho;have hlt:k<ops.size:=(J0.1 ho).1;have hit:k<items.length:=by rw[cl];simpa using hlt
   exact ⟨_,Jm hit,ci k o items[k] (by simpa using ho) (Jm hit)⟩
  have inPairs:∀(a b:Nat) oa ob ia ib,a<b->ops[a]? =some oa->ops[b]? =some ob->bB P N ops oa=some ia->bB P N ops ob=some ib->bL ia.op=true->bL ib.op=true->cL ops a b=false->(a,b)∈je ops items:=by
   intro a b oa ob ia ib hab hoa hob hia hib ta tb hanc;obtain ⟨ia',p1,p2⟩:=itemAt a oa hoa;obtain ⟨ib',p3,p4⟩:=itemAt b ob hob;rw[hia] at p2;rw[hib] at p4;cases p2;cases p4;unfold je;simp only[Lk,Kg,List.mem_filterMap];refine ⟨b,(J0.1 hob).1,a,hab,?_⟩;unfold cL at hanc;simp[p1,p3,ta,tb];simpa using hanc
  have M:mQ P N ops (je ops items):=by
   intro a b oa ob ia ib hab hoa hob hia hib ta tb hn;cases hanc:cL ops a b with
   |true=>rfl
   |false=>exact absurd (inPairs a b oa ob ia ib hab hoa hob hia hib ta tb hanc) hn
  have T:=xr ht;have pD:=pD T M;let w1:World:={w with drawn:=w.drawn+1}
  have hz:∀k,(Array.replicate ops.size false).getD k false=false:=by intro k;simp[Array.getElem?_replicate];split<;>rfl
  have hz':(λk=>(Array.replicate ops.size false).getD k false)=λ_=>false:=funext hz;have vz:∀{β:Type}(u:Nat->Option β)(n:Nat)(v:β),val u (λ_=>false) n v=v:=by
   intro β u n v;induction n with
   |zero=>rfl
   |succ n ih=>simp only[val,Jy,Js,ih]
  have R1:aM G s.h w1:=r.h.draw rfl rfl rfl;have hk:∀t,t∈(HS recs s.h ops.size h'.n h'.m (λ_=>false)).toks↔t∈s.h.toks:=by
   intro t;rw[lF a1.symm,vz];simp
  have ho:(HS recs s.h ops.size h'.n h'.m (λ_=>false)).objs=s.h.objs:=by
   funext id;simp only[HS];rw[vz]
  have T01:=gw G w w1 s.h rfl rfl rfl;refine qG ro (pj:=j) (pv:=v) (N:=N) (G0:=G) (w0:=w1) (a0:=a) hN T ch ap R1 F (λhf=>absurd A.Dj (by simp[hf j])) ?_ ?_ ops.size (Array.replicate ops.size false) G w1 a af ?_ ?_ ?_ r.size rfl ?_ ?_ ?_ ?_ ?_
  ·intro i hDi;exact ⟨⟨A.Dj,hjs⟩,pD i hDi⟩
  ·intro _ o rr hoo hrr;rw[A.hoj] at hoo;cases hoo;rw[hrj] at hrr;cases hrr;refine ⟨A.run,?_,?_⟩
   ·intro k hk hne h1 h2;have hko:=JX hk;obtain ⟨itk,p1,p2⟩:=itemAt k _ hko;have hkr:k<recs.length:=by omega
    have gk:(recs.getD k cN)=recs[k]:=by simp[List.getD,Jm hkr]
    have ek:(recs.getD k cN).en=(recs.map (·.en)).getD k aO:=by simp[List.getD,Jm hkr]
    by_cases tk:bL itk.op=true
    ·rw[ek];rcases Kn k j with hlt|hge
     ·obtain ⟨q1,q2⟩:=(pb _ _ (inPairs k j _ oj itk itj hlt hko A.hoj p2 A.it tk A.tj h1)).2 rfl;exact ⟨q1,λ_=>q2,λid hid=>by rw[q2] at hid;cases hid⟩
     ·obtain ⟨q1,q2⟩:=(pb _ _ (inPairs j k oj _ itj itk aa A.hoj hko A.it p2 A.tj tk h2)).1 rfl;exact ⟨q1,λh=>by omega,q2⟩
    ·rw[gk,A.e0 k _ _ (Jm hkr) p1 (by simpa using tk)];exact ⟨rfl,λ_=>rfl,λid hid=>by cases hid⟩
   ·intro G' w' a' T1 R1' s1 d1;have T2:=T01.trans r.h R1 T1;exact ⟨rfl,by rw[d1];exact .refl,G',T2,⟨s1,λ_=>by simp[au],R1',by rw[d1];exact r.df.mono T2⟩⟩
  ·unfold count;exact JT (List.length_filter_le _ _) af
  ·rw[hz'];intro i o _ h;cases h
  ·intro k _;exact hz k
  ·rw[hz'];intro d;rw[vz];exact au.mono r.h T01 _ _ (r.t d)
  ·rw[hz'];exact R1.same ho λt x=>(hk t).1 x
  ·rw[hz'];exact (Trans.refl G w1 s.h).same rfl (λ_=>Lr) ho hk (Jl _) nm.1 nm.1 (Jl _) nm.2 nm.2
  ·exact λid x=> .inl x
  ·exact λid x=> .inl x
end
section
variable{P:Program}{N:Nat}
theorem qi{F:Fence}{n:Nat}{fn:Func}{tmps:Array Value}{R:Ending->World->Prop}{chain:List PanicEntry}(Ds:Nat->Prop)(I:World->Prop)
  (hI:∀w D,Ds D->I w->w.heap[D]? =some (.deferred (some []))->I (w.putObj D (.deferred none))) (hend:∀w,I w->R (.panicked chain) w):
  ∀(l:List Deferred)(w:World),l.Nodup->(∀d∈l,∃D,Ds D/\d= {target:= .collected D,args:= #[]}/\w.heap[D]? =some (.deferred (some [])))->I w->LeavesInM F n P fn tmps R l (.panicking chain) w:=by
 intro l;induction l with
 |nil=>intro w _ _ hi;exact hend w hi
 |cons d l ih=>
  intro w hn hm hi;obtain ⟨D,h1,h2,h3⟩:=hm d af;refine ⟨by simp,.inl ⟨D,_,by rw[h2],run_takeDeferred h3,ih _ (List.nodup_cons.1 hn).2 (λd' hd'=>?_) (hI w D h1 hi h3)⟩⟩;obtain ⟨D',k1,k2,k3⟩:=hm d' (by simp[hd']);refine ⟨D',k1,k2,?_⟩;rw[World.putObj_heap_other ?_]
  ·exact k3
  ·rintro rfl;exact (List.nodup_cons.1 hn).1 (by rw[h2,<-k2];exact hd')
theorem DY{f:FuncId}{fn:Func}{code:Code}{ac:AC}{args:List AV}{h:H}{Q:Value->H->Prop}(hf:P.funcs[f]? =some fn)(hb:fn.body=some code)(hc:cCode P fn.ntmps code=some ac)(hl:args.length<=fn.ntmps)
  (hw:Wp P fn.ntmps ac ⟨fL args,h⟩ λe s'=>∃v,e= .panic v/\Q v s'.h):∃v h',fh P f args h v h'/\Q v h':=by
 obtain ⟨e,s',run,v,rfl,hq⟩:=hw code hc;refine ⟨v,s'.h,?_,hq⟩;intro G w vs hv R F;have hlen:=hv.length;refine callsIn_wide.1 (callsIn_of_wp_marks (F:=rd none) (n:=0) hf hb trivial (wpIn_mono (run.2 none (.inl rfl) G w _ ⟨?_,te hv,R,⟨by simp,by simp⟩⟩ F) ?_) rfl)
 ·simp;omega
 ·rintro e' a' w' ⟨h1,h2,G',T,r'⟩;have key:LeavesInM (rd none) 0 P fn a'.tmps (λe w'=>∃G',e= .panicked [{v:=v,recovered:=false}]/\Trans G w h G' w' s'.h/\aM G' s'.h w') a'.defers (.panicking [{v:=v,recovered:=false}]) w':=by
   refine qi (λD=>w.heap.size<=D/\¬s'.h.O G' D/\¬s'.h.T G' D) (λw2=>Trans G w h G' w2 s'.h/\aM G' s'.h w2) ?_ ?_ _ _ r'.df.1 ?_ ⟨T,r'.h⟩
   ·rintro w2 D ⟨d1,d2,d3⟩ ⟨T2,R2⟩ hD;have tu:=da.results hD;exact ⟨T2.bI tu d1,R2.bI tu d2⟩
   ·rintro w2 ⟨T2,R2⟩;exact ⟨G',rfl,T2,R2⟩
   ·intro d hd;obtain ⟨D,e,k1,k2,k3⟩:=r'.df.2 d hd;rcases h2 d hd with h|⟨D',k4,e'⟩
    ·simp at h
    ·rw[e] at e';simp only[Deferred.mk.injEq,Target.collected.injEq,K8] at e';subst e';exact ⟨D,⟨k4,k2,k3⟩,e,k1⟩
  cases e'<;>simp only[aC.dH] at h1;subst h1;exact key
theorem aU.Hh{f:FuncId}{ac:AC}{args:List AV}{h:H}{ds:List RV}{Q:Value->H->Prop}(hF:aU P f N ac ds)(hl:args.length<=N)(hw:Wp P N ac ⟨fL args,h⟩ λe s'=>∃v,e= .panic v/\Q v s'.h):∃v h',fh P f args h v h'/\Q v h':=by
 obtain ⟨fn,h1,h2,h3,h4⟩:=hF;subst h2;obtain ⟨code,hb,hc⟩:=J2.1 h3;exact DY h1 hb hc hl hw
end
end Go.Av
end
section
namespace Go.Av
structure mi(D:Nat)(G:aE)(w w':World):Prop where
 size:w'.heap.size=w.heap.size
 same:∀B,B≠D->w'.heap[B]? =w.heap[B]?
 own:G.own D
 form:∀c T fr,w.heap[D]? =some (.cells c T fr)->∃c',w'.heap[D]? =some (.cells c' T fr)/\c'.size=c.size
 os:w'.os=w.os
 out:w'.output=w.output
section
variable{D:Nat}{G:aE}{w w':World}
theorem mi.cell(t:mi D G w w'){B off:Nat}{v:Value}(hB:B≠D)(h:w.cell? ⟨B,off,none⟩=some v):w'.cell? ⟨B,off,none⟩=some v:=by
 have:=t.same B hB;unfold World.cell? at h |-;simpa [this] using h
theorem mi.heap(t:mi D G w w'){B:Nat}{c:Array Value}{T:TypeId}{fr:Nat × Nat}(h:w.heap[B]? =some (.cells c T fr)):∃c',w'.heap[B]? =some (.cells c' T fr)/\c'.size=c.size:=by
 by_cases e:B=D
 ·subst e;exact t.form _ _ _ h
 ·rw[t.same B e];exact ⟨c,h,rfl⟩
theorem Imm.set(t:mi D G w w'){B off:Nat}{vs:List Value}(h:Imm G w B off vs):Imm G w' B off vs:=λi v hv=>
 ⟨t.cell (λe=>(h i v hv).2.2.1 (by rw[e];exact t.own)) (h i v hv).1,(h i v hv).2⟩
theorem cy.set(t:mi D G w w'){c:Cap}{B off len C sz:Nat}(h:cy G w c B off len C sz):cy G w' c B off len C sz:=by
 cases c with
 |any=>trivial
 |exact c=>exact h
 |own k=>
  rcases h with h|⟨h1,h2,cs,T,fr,h3,h4,h5⟩
  ·exact .inl h
  ·obtain ⟨c',k1,k2⟩:=t.heap h3;exact .inr ⟨h1,h2,c',T,fr,k1,by rw[k2];exact h4,by rw[k2];exact h5⟩
mutual
theorem au.set(t:mi D G w w'):∀(x:AV)(v:Value),au G w x v->au G w' x v
 | .any,_,_=>trivial
 | .int k n,_,hv=>hv
 | .bool b,_,hv=>hv
 | .str l,_,hv=>hv
 | .sc x,_,hv=>hv
 | .sl sz xs c,v,hv=>by
  simp only[au] at hv |-;rcases hv with hv|⟨B,off,C,vs,h1,h2,h3,h4,h5,h6⟩
  ·exact .inl hv
  ·exact .inr ⟨B,off,C,vs,h1,h2,h3,aA.set t sz xs vs h4,h5.set t,h6.set t⟩
 | .ref cs,v,hv=>by
  simp only[au] at hv |-;obtain ⟨B,off,vs,h1,h2,h3⟩:=hv;exact ⟨B,off,vs,h1,ay.set t cs vs h2,h3.set t⟩
 | .agg cs,v,hv=>by
  simp only[au] at hv |-;obtain ⟨vs,h1,h2⟩:=hv;exact ⟨vs,h1,ay.set t cs vs h2⟩
 | .tup cs,v,hv=>by
  simp only[au] at hv |-;obtain ⟨vs,h1,h2⟩:=hv;exact ⟨vs,h1,ay.set t cs vs h2⟩
 | .ptr id off,v,hv=>by simpa only[au] using hv
 | .tsl sz id off len cap,v,hv=>by
  simp only[au] at hv |-;obtain ⟨hd,hv⟩:=hv;refine ⟨hd,?_⟩;rcases hv with ⟨C,c,Tt,fr,h1,h2,h3,h4,h5⟩|hv
  ·obtain ⟨c',k1,k2⟩:=t.heap h4;exact .inl ⟨C,c',Tt,fr,h1,h2,h3,k1,by rw[k2];exact h5⟩
  ·exact .inr hv
 | .clo fn a b,v,hv=>by
  simp only[au] at hv |-;obtain ⟨vs,us,h1,h2,h3⟩:=hv;exact ⟨vs,us,h1,ay.set t a vs h2,ay.set t b us h3⟩
 | .ifc k x,v,hv=>by
  simp only[au] at hv |-;obtain ⟨u,h1,h2⟩:=hv;exact ⟨u,h1,au.set t x u h2⟩
 | .mp id,v,hv=>by simpa only[au] using hv
 | .yld id,v,hv=>by simpa only[au] using hv
 | .slt sz xs ys,v,hv=>by
  simp only[au] at hv |-;obtain ⟨B,off,C,us,vs,h1,h2,h3,h4,h5,h6⟩:=hv;exact ⟨B,off,C,us,vs,h1,h2,h3,aA.set t sz xs us h4,aA.set t sz ys vs h5,h6.set t⟩
 | .sup B,v,hv=>by simpa only[au] using hv
 | .supb B,v,hv=>by
  simp only[au] at hv |-;obtain ⟨l,h1,h2|⟨D,off,C,h2,h3,h4⟩⟩:=hv
  ·exact ⟨l,h1,.inl h2⟩
  ·exact ⟨l,h1,.inr ⟨D,off,C,h2,h3,h4.set t⟩⟩
 | .wint k,v,hv=>by simpa only[au] using hv
 | .one,v,hv=>by simpa only[au] using hv
theorem ay.set(t:mi D G w w'):∀(x:List AV)(v:List Value),ay G w x v->ay G w' x v
 |[],_,hv=>by simpa only[ay] using hv
 |x::xs,vs,hv=>by
  simp only[ay] at hv |-;obtain ⟨v,us,h1,h2,h3⟩:=hv;exact ⟨v,us,h1,au.set t x v h2,ay.set t xs us h3⟩
theorem aA.set(t:mi D G w w')(sz:Nat):∀(x:List AV)(v:List Value),aA G w sz x v->aA G w' sz x v
 |[],_,hv=>by simpa only[aA] using hv
 |x::xs,vs,hv=>by
  simp only[aA] at hv |-;obtain ⟨v,us,h1,h2,h3,h4⟩:=hv;exact ⟨v,us,h1,h2,au.set t x v h3,aA.set t sz xs us h4⟩
end
theorem Entries.Hi(t:mi D G w w'):∀(l:List (AV × AV))(e:List MapEntry),Entries G w l e->Entries G w' l e
 |[],_,hv=>hv
 |(k,v)::l,es,hv=>by
  obtain ⟨e,r,h1,h2,h3,h4⟩:=hv;exact ⟨e,r,h1,au.set t k _ h2,au.set t v _ h3,Entries.Hi t l r h4⟩
theorem jC.set(t:mi D G w w'){o:Obj}{x:Option Go.Obj}(hx:jC G w o x):jC G w' o x:=by
 cases o with
 |cells cs=>
  obtain ⟨vs,rest,Tt,fr,h1,h2,h3⟩:=hx;exact ⟨vs,rest,Tt,fr,h1,ay.set t _ _ h2,h3⟩
 |map es=>
  obtain ⟨en,k,h1,h2⟩:=hx;exact ⟨en,k,h1,Entries.Hi t _ _ h2⟩
 |loop N tt ps asg body st pend=>
  obtain ⟨r,h1,h2,h3,h4⟩:=hx;exact ⟨r,h1,h2,λi=>au.set t _ _ (h3 i),h4⟩
 |raw c=>exact hx
 |bk c=>exact hx
theorem aM.set{h:H}(R:aM G h w)(t:mi D G w w')(hD:¬h.O G D):aM G h w' where
 obj id o ho:=by
  obtain ⟨a,b,c,d⟩:=R.obj id o ho;have hne:G.ι id≠D:=λe=>hD ⟨id,o,ho,e⟩;exact ⟨a,b,by rw[t.size];exact c,by rw[t.same _ hne];exact d.set t⟩
 inj:=R.inj
 tok k hk:=⟨(R.tok k hk).1,λB e he=>by rw[t.size];exact (R.tok k hk).2 B e he⟩
 tinj:=R.tinj
theorem Trans.set{G0:aE}{w0:World}{h0 h:H}(T:Trans G0 w0 h0 G w h)(t:mi D G w w')(hD:w0.heap.size<=D):Trans G0 w0 h0 G w' h where
 dom_le:=T.dom_le
 dom_new:=T.dom_new
 ι_eq:=T.ι_eq
 tdom_le:=T.tdom_le
 tdom_new:=T.tdom_new
 τ_eq:=T.τ_eq
 n_le:=T.n_le
 m_le:=T.m_le
 size_le:=by rw[t.size];exact T.size_le
 os:=t.os.trans T.os
 output:=t.out.trans T.output
 form B hB:=by rw[t.same B aa];exact T.form B hB
 keep B hB h1 h2:=by rw[t.same B aa];exact T.keep B hB h1 h2
 own_keep:=T.own_keep
 lim_keep:=T.lim_keep
 tok_keep B hB h1 h2 e he:=⟨λj hj=>by
  have:=(T.tok_keep B hB h1 h2 e he).1 j hj;rw[<-this];have hs:=t.same B aa;unfold World.cell?;simp only[hs],(T.tok_keep B hB h1 h2 e he).2⟩
 O_new:=T.O_new
 T_new:=T.T_new
 objs_new:=T.objs_new
 toks_new:=T.toks_new
def mj(G:aE)(D:Nat):aE:={G with own:=λB=>B=D\/G.own B}
theorem tp{o:Go.Obj}{h:H}(R:aM G h w)(hp:cM w w' o):Trans G w h (mj G w.heap.size) w' h/\aM (mj G w.heap.size) h w'/\¬h.O (mj G w.heap.size) w.heap.size/\¬h.T (mj G w.heap.size) w.heap.size:=by
 have T:Trans G w h (mj G w.heap.size) w' h:=by
  constructor
  ·exact λ_ x=>x
  ·exact λ_ x=> .inl x
  ·exact λ_ _=>rfl
  ·exact λ_ x=>x
  ·exact λ_ x=> .inl x
  ·exact λ_ _=>rfl
  ·exact Jl _
  ·exact Jl _
  ·rw[hp.size];omega
  ·exact hp.2.1
  ·exact hp.2.2
  ·intro B hB;rw[hp.old hB];exact bq.refl _
  ·exact λB hB _ _=>hp.old hB
  ·intro B hB _;simp only[mj];constructor
   ·rintro (e|x)
    ·omega
    ·exact x
   ·exact .inr
  ·exact λ_ _ _ _=>rfl
  ·intro B hB ht _ e he;refine ⟨λj _=>by unfold World.cell?;simp only[hp.old hB],λe' he'=>?_⟩;have he':G.lim B=some e':=he';rw[he] at he';cases he';exact Jl _
  ·exact λ_ _ x=>x
  ·exact λ_ _ x=>x
  ·exact λj o x=> .inl ⟨o,x⟩
  ·exact λt x=> .inl x
 refine ⟨T,⟨?_,R.inj,?_,R.tinj⟩,?_,?_⟩
 ·intro id o ho;obtain ⟨a,b,c,d⟩:=R.obj id o ho;refine ⟨a,.inr b,by rw[hp.size];show G.ι id<_;omega,?_⟩;show jC _ w' o w'.heap[G.ι id]?;rw[hp.old c];exact jC.mono R T d
 ·intro t ht;refine ⟨(R.tok t ht).1,λB e he=>?_⟩;obtain ⟨a,b,c⟩:=(R.tok t ht).2 B e he;refine ⟨a,?_,by rw[hp.size];omega⟩;rintro (e|x)
  ·omega
  ·exact b x
 ·rintro ⟨id,o,ho,e⟩;have:=(R.obj id o ho).2.2.1;have e:G.ι id=w.heap.size:=e;omega
 ·rintro ⟨t,ht,e,he⟩;have:=((R.tok t ht).2 _ e he).2.2;omega
theorem zr{D:Nat}{v x:Value}{T:TypeId}{fr:Nat × Nat}(hh:w.heap[D]? =some (.cells #[v] T fr))(ho:G.own D):mi D G w (w.setCell ⟨D,0,none⟩ x) where
 size:=by simp[World.setCell]
 same B hB:=by
  simp only[World.setCell,KV];rw[Jr (λe=>hB e.symm)]
 own:=ho
 form c T fr hc:=by
  simp only[World.setCell,KV,Jw,hc,Option.map_some];exact ⟨_,rfl,by simp⟩
 os:=rfl
 out:=rfl
theorem xv{D:Nat}{v x:Value}{T:TypeId}{fr:Nat × Nat}(hh:w.heap[D]? =some (.cells #[v] T fr)):(w.setCell ⟨D,0,none⟩ x).heap[D]? =some (.cells #[x] T fr):=by
 simp only[World.setCell,KV,Jw,hh,Option.map_some];rfl
end
end Go.Av
end
section
set_option maxRecDepth 10000
namespace Go.Av
section
variable{P:Program}
def vr(sz bytes:Nat):AC:=(.seq (.reg [⟨some 2,none,.mov (.c (.sl sz [] (.exact 0)))⟩] none)
 (.seq (.seq (.reg [⟨some 3,none,.mov (.t 0)⟩,⟨some 4,none,.eqN false (.t 3)⟩] none)
 (.cond (.t 4) (.seq (.reg [⟨some 2,none,.mov (.c (.sl sz [] (.exact 0)))⟩] none)
 .ret) .skip))
 (.seq (.reg [⟨some 5,none,.buildSl sz []⟩,⟨some 6,none,.mov (.t 0)⟩,⟨some 7,none,.app false sz bytes (.t 5) (.t 6)⟩,⟨some 2,none,.mov (.t 7)⟩] none)
 .ret)))
theorem ar.own{sz:Nat}{xs:List AV}{t:Nat}:ar (.sl sz xs (.own t)) (.sl sz xs .any):=ar.cap
theorem ar.Bu{sz:Nat}{a:Option Addr}{C:Nat}(h:C=0\/∃B off,a=some ⟨B,off,none⟩):ar (.sc (.slice a 0 C)) (.sl sz [] .any):=by
 intro G w v hv;simp only[au] at hv;subst hv;unfold au;rcases h with rfl|⟨B,off,rfl⟩
 ·exact .inl ⟨rfl,⟨a,rfl⟩,trivial⟩
 ·exact .inr ⟨B,off,C,[],rfl,JJ _,by simp,by simp[aA],Imm.nil,trivial⟩
theorem aS.tq{f:FuncId}{sz:Nat}{c:Cap}{rest:List AV}{h h':H}{r:AV}(hc:∀a C,(C=0\/∃B off,a=some ⟨B,off,none⟩)->aS P f (.sc (.slice a 0 C)::rest) h r h'):aS P f (.sl sz [] c::rest) h r h':=by
 intro G w vs hv R F;simp only[ay] at hv;obtain ⟨v,us,rfl,hv,hr⟩:=hv;simp only[au] at hv;rcases hv with ⟨-,⟨a,rfl⟩,-⟩|⟨B,off,C,ws,rfl,-⟩
 ·exact hc a 0 (.inl rfl) G w _ (.cons (by simp[au]) hr) R F
 ·exact hc _ C (.inr ⟨B,off,rfl⟩) G w _ (.cons (by simp[au]) hr) R F
theorem zt{f:FuncId}{sz bytes:Nat}(hF:aU P f 8 (vr sz bytes) [.tmp 2])(xs:List AV)(hp:aD xs=true)(hb:xs.length*bytes<=140737488355328)(hl:xs.length<4611686018427387904):aH P f [.sl sz xs .any] (.sl sz xs .any):=by
 cases xs with
 |nil=>
  intro n m;refine aS.tq λa C hC=>?_;have:aH P f [.sc (.slice a 0 C)] (.sl sz [] .any):=by
   refine hF.Br af (cm _ rfl) (dA _ rfl) λn m=>?_;unfold vr;refine Wp.cE (by simp only[go_sem,reduceIte,Nat.reduceEqDiff,Nat.reduceAdd,bx];exact rfl) ag ?_;refine Wp.seq ?_;refine Wp.cE (by simp only[go_sem,reduceIte,Nat.reduceEqDiff,Nat.reduceAdd,bx];exact rfl) ag ?_;cases ha:a.isNone with
   |true=>
    refine Wp.cond_true (by simp only[go_sem,reduceIte,Nat.reduceEqDiff,Nat.reduceAdd,bx,ha]) ?_;refine Wp.cE (by simp only[go_sem,reduceIte,Nat.reduceEqDiff,Nat.reduceAdd,bx];exact rfl) ag ?_;refine Wp.ret ⟨trivial,_,rfl,?_⟩;simp only[go_sem,reduceIte,Nat.reduceEqDiff,Nat.reduceAdd,bx];exact ar.cap
   |false=>
    refine Wp.cond_false (by simp only[go_sem,reduceIte,Nat.reduceEqDiff,Nat.reduceAdd,bx,ha]) ?_;refine Wp.skip ?_;refine Wp.le (s':=⟨tm [(0,.sl sz [] .any)],_⟩) (aJ.tm ⟨ar.Bu hC,trivial⟩) ?_;refine Wp.cE (by simp only[go_sem,reduceIte,Nat.reduceEqDiff,Nat.reduceAdd,bx,Nat.zero_mul,JJ,JI,or_true,Jw,Nat.reduceMul,Nat.reduceLT,Nat.reduceLeDiff,JO];exact rfl) ag ?_;refine Wp.ret ⟨trivial,_,rfl,?_⟩;simp only[go_sem,reduceIte,Nat.reduceEqDiff,Nat.reduceAdd,bx];exact ar.cap
  exact this n m
 |cons x xs=>
  refine hF.Br af (cm _ (by simp[aD,aP,bw] at hp |-;exact hp)) (dA _ (by simp[aD,aP,bw] at hp |-;exact hp)) λn m=>?_;unfold vr;refine Wp.cE (by simp only[go_sem,reduceIte,Nat.reduceEqDiff,Nat.reduceAdd,bx];exact rfl) ag ?_;refine Wp.seq ?_;refine Wp.cE (by simp only[go_sem,reduceIte,Nat.reduceEqDiff,Nat.reduceAdd,bx];exact rfl) ag ?_;refine Wp.cond_false (by simp only[go_sem,reduceIte,Nat.reduceEqDiff,Nat.reduceAdd,bx]) ?_;refine Wp.skip ?_;simp only[List.length_cons] at hb hl;have h1:(0+(xs.length+1))*bytes<=140737488355328:=by rw[JG];exact hb
  have h2:0+(xs.length+1)<4611686018427387904:=by omega
  refine Wp.cE (by simp only[go_sem,reduceIte,Nat.reduceEqDiff,Nat.reduceAdd,bx,Nat.zero_mul,JJ,JI,or_true,Kx,Jw,Nat.reduceMul,Nat.reduceLT,Nat.reduceLeDiff,JO,hb,hl];exact rfl) ag ?_;refine Wp.ret ⟨trivial,_,rfl,?_⟩;simp only[go_sem,reduceIte,Nat.reduceEqDiff,Nat.reduceAdd,bx];exact ar.cap
def OLe(f f':Nat->Option Obj):Prop:=∀j o',f' j=some o'->∃o,f j=some o/\dP o o'
theorem OLe.none(f:Nat->Option Obj):OLe f av:=λj o h=>by cases h
theorem OLe.upd{f f':Nat->Option Obj}{i:Nat}{o o':Obj}(h:OLe f f')(hs:dP o o'):OLe (upd f i (some o)) (upd f' i (some o')):=by
 intro j p hp;simp only[Go.Av.upd] at hp |-;split at hp
 ·rename_i e;rw[JC e];cases hp;exact ⟨o,rfl,hs⟩
 ·rename_i e;rw[Jr e];exact h j p hp
theorem aJ.of{t t':Tm}{f f':Nat->Option Obj}{n n' m m':Nat}{k k':List Nat}(ht:∀i,ar (t i) (t' i))(ho:OLe f f')(hk:∀x∈k',x∈k)(hn:n<=n')(hm:m<=m'):aJ ⟨t,⟨f,n,k,m⟩⟩ ⟨t',⟨f',n',k',m'⟩⟩:=
 aJ.mk' ht ⟨ho,hk⟩ hn hm
theorem ar.eL{sz:Nat}{xs:List AV}{k t:Nat}(h:k=xs.length):ar (.sl sz xs (.exact k)) (.sl sz xs (.own t)):=by
 intro G w v hv;unfold au at hv |-;rcases hv with ⟨a,b,-⟩|⟨B,off,C,vs,h1,h2,h3,h4,h5,h6⟩
 ·exact .inl ⟨a,b,trivial⟩
 ·exact .inr ⟨B,off,C,vs,h1,h2,h3,h4,h5,.inl (by simp only[cy] at h6;omega)⟩
end
end Go.Av
end
section
namespace Go.Av
open Classical in
section
variable{P:Program}{G:aE}{h:H}{w:World}
def H.DO(h:H)(G:aE)(d:Nat->Bool)(B:Nat):Prop:=∃id o,d id=true/\h.objs id=some o/\G.ι id=B
def H.drop(h:H)(d:Nat->Bool):H:={h with objs:=λj=>if d j then none else h.objs j}
noncomputable def aE.frz(G:aE)(h:H)(d:Nat->Bool):aE:=
 {G with own:=λB=>G.own B/\¬h.DO G d B,lim:=λB=>if h.DO G d B then none else G.lim B}
theorem Gf{d:Nat->Bool}{B:Nat}(x:h.DO G d B):h.O G B:=by
 obtain ⟨id,o,-,a,b⟩:=x;exact ⟨id,o,a,b⟩
theorem aV(d:Nat->Bool):Trans G w h (G.frz h d) w (h.drop d):=by
 have hsub:∀B,(h.drop d).O (G.frz h d) B->h.O G B:=by
  rintro B ⟨id,o,a,b⟩;simp only[H.drop] at a;split at a
  ·cases a
  ·exact ⟨id,o,a,b⟩
 constructor
 ·exact λ_ x=>x
 ·exact λ_=> .inl
 ·exact λ_ _=>rfl
 ·exact λ_ x=>x
 ·exact λ_=> .inl
 ·exact λ_ _=>rfl
 ·exact Jl _
 ·exact Jl _
 ·exact Jl _
 ·rfl
 ·rfl
 ·intro B hB;exact bq.refl _
 ·exact λ_ _ _ _=>rfl
 ·intro B hB hO;have:¬h.DO G d B:=λx=>hO (Gf x);simp[aE.frz,this]
 ·intro B hB hO hT;have:¬h.DO G d B:=λx=>hO (Gf x);simp[aE.frz,this]
 ·intro B hB hT hO e he;have:¬h.DO G d B:=λx=>hO (Gf x);refine ⟨λ_ _=>rfl,λe' he'=>?_⟩;simp only[aE.frz,this,Js] at he';rw[he] at he';cases he';exact Jl _
 ·exact λB _ x=>hsub B x
 ·exact λB _ x=>x
 ·intro j o a;simp only[H.drop] at a;split at a
  ·cases a
  ·exact .inl ⟨o,a⟩
 ·exact λt x=> .inl x
theorem ml(R:aM G h w)(d:Nat->Bool):aM (G.frz h d) (h.drop d) w:=by
 have hd:∀{id o},(h.drop d).objs id=some o->h.objs id=some o/\d id=false:=by
  intro id o a;simp only[H.drop] at a;split at a
  ·cases a
  ·rename_i q;exact ⟨a,by simpa using q⟩
 constructor
 ·intro id o a;obtain ⟨a,q⟩:=hd a;obtain ⟨r1,r2,r3,r4⟩:=R.obj id o a;refine ⟨r1,⟨r2,?_⟩,r3,?_⟩
  ·rintro ⟨id',o',x1,x2,x3⟩;have:=R.inj _ _ _ _ x2 a x3;subst this;rw[x1] at q;cases q
  ·cases o with
   |cells cs=>
    obtain ⟨vs,rest,T,fr,y1,y2,y3⟩:=r4;exact ⟨vs,rest,T,fr,y1,ay.mono R (aV d) _ _ y2,y3⟩
   |map es=>
    obtain ⟨en,clock,y1,y2⟩:=r4;exact ⟨en,clock,y1,Entries.mono R (aV d) _ _ y2⟩
   |loop N t ps asg body st pend=>
    obtain ⟨r,y1,y2,y3,y4⟩:=r4;exact ⟨r,y1,y2,λi=>au.mono R (aV d) _ _ (y3 i),y4⟩
   |raw c=>exact r4
   |bk c=>exact r4
 ·intro id id' o o' a b e;exact R.inj _ _ _ _ (hd a).1 (hd b).1 e
 ·intro t ht;obtain ⟨r1,r2⟩:=R.tok t ht;refine ⟨r1,λB e q=>?_⟩;obtain ⟨x1,x2,x3⟩:=r2 B e q;have:¬h.DO G d B:=by
   rintro ⟨id,o,y1,y2,y3⟩;have:=(R.obj id o y2).2.1;rw[y3] at this;exact x2 this
  refine ⟨by simp only[aE.frz,this,Js];exact x1,λx=>x2 x.1,x3⟩
 ·exact λt ht t' ht' B e e' a b=>R.tinj t ht t' ht' B e e' a b
theorem kI{v:Value}(h:One v):v.cells= #[v]:=by
 obtain ⟨a,b⟩:=h;cases v<;>first|rfl|exact absurd rfl (a _)|exact absurd rfl (b _)
theorem DZ(R:aM G h w){d:Nat->Bool}{id off len:Nat}{c:Option Nat}{cs:List AV}{v:Value}(ho:h.objs id=some (.cells cs))(hd:d id=true)(hl:off+len<=cs.length)(r:au G w (.tsl 1 id off len c) v):
  au (G.frz h d) w (.sl 1 ((cs.drop off).take len) .any) v:=by
 simp only[au] at r;obtain ⟨-,⟨C,cc,Tt,fr,rfl,⟨h2,-⟩,-⟩|⟨h0,⟨a,rfl⟩,-⟩⟩:=r
 ·obtain ⟨-,r2,r3,vs,rest,T,fr',y1,y2,y3,y4⟩:=R.obj id _ ho;have hlen:=ay.length y2;have hx:ay (G.frz h d) w ((cs.drop off).take len) ((vs.drop off).take len):=ay.mono R (aV d) _ _ (ay.take len (ay.drop off y2));have h1:∀v∈(vs.drop off).take len,One v:=λv hv=>y4 v (Le (List.mem_of_mem_take hv));have he:=dy (sz:=1) hx (λv hv=>by rw[kI (h1 v hv)];rfl);have hfl:((vs.drop off).take len).flatMap (·.cells.toList)=(vs.drop off).take len:=by
   have:∀l:List Value,(∀v∈l,One v)->l.flatMap (·.cells.toList)=l:=by
    intro l;induction l with
    |nil=>intro _;rfl
    |cons x l ih=>intro hl;rw[Kw,kI (hl x af),ih (λv hv=>hl v (by simp[hv]))];rfl
   exact this _ h1
  rw[hfl] at he;unfold au;refine .inr ⟨G.ι id,off,C,(vs.drop off).take len,?_,?_,?_,he,?_,trivial⟩
  ·rw[JU,JR];congr 1;omega
  ·rw[JU];omega
  ·simp only[JU,JR];omega
  ·intro i v hi;have hi':=(Km.1 hi).1;rw[JU,JR] at hi';have hv1:vs[off+i]? =some v:=by
    rw[List.getElem?_take_of_lt aa,Lc] at hi;exact hi
   refine ⟨?_,h1 v (K0 hi),?_,?_⟩
   ·unfold World.cell?;simp only[y1];simp[JQ (show off+i<vs.length by omega),hv1]
   ·exact λx=>x.2 ⟨id,_,hd,ho,rfl⟩
   ·intro e he';have:h.DO G d (G.ι id):=⟨id,_,hd,ho,rfl⟩;simp[aE.frz,this] at he'
 ·subst h0;unfold au;exact .inl ⟨by simp,⟨_,rfl⟩,trivial⟩
theorem D0(R:aM G h w){d:Nat->Bool}{id off:Nat}{cs:List AV}{v:Value}(ho:h.objs id=some (.cells cs))(hd:d id=true)(r:au G w (.ptr id off) v):
  au (G.frz h d) w (.ref (cs.drop off)) v:=by
 simp only[au] at r;obtain ⟨-,rfl⟩:=r;obtain ⟨-,r2,r3,vs,rest,T,fr',y1,y2,y3,y4⟩:=R.obj id _ ho;unfold au;refine ⟨G.ι id,off,vs.drop off,rfl,ay.mono R (aV d) _ _ (ay.drop off y2),?_⟩;intro i v hi;have hv1:vs[off+i]? =some v:=by rw[Lc] at hi;exact hi
 have hi':=(Km.1 hv1).1;refine ⟨?_,y4 v (K0 hv1),?_,?_⟩
 ·unfold World.cell?;simp only[y1];simp[JQ hi',hv1]
 ·exact λx=>x.2 ⟨id,_,hd,ho,rfl⟩
 ·intro e he';have:h.DO G d (G.ι id):=⟨id,_,hd,ho,rfl⟩;simp[aE.frz,this] at he'
mutual
def unT(h:H)(d:Nat->Bool):AV->AV
 | .tsl sz id off len c=>if sz=1/\d id=true then (match h.objs id with
  |some (.cells cs)=>if off+len<=cs.length then .sl 1 ((cs.drop off).take len) .any else .any
  |_=> .any) else .tsl sz id off len c
 | .ptr id off=>if d id=true then (match h.objs id with
  |some (.cells cs)=> .ref (cs.drop off)
  |_=> .any) else .ptr id off
 | .agg xs=> .agg (rW h d xs)
 | .tup xs=> .tup (rW h d xs)
 | .clo fn a b=> .clo fn (rW h d a) (rW h d b)
 |x=>x
def rW(h:H)(d:Nat->Bool):List AV->List AV
 |[]=>[]
 |x::xs=>unT h d x::rW h d xs
end
mutual
theorem oh(R:aM G h w)(d:Nat->Bool):∀(x:AV)(v:Value),au G w x v->au (G.frz h d) w (unT h d x) v
 | .tsl sz id off len c,v,r=>by
  unfold unT;split
  ·rename_i hs;obtain ⟨rfl,hd⟩:=hs;split
   ·rename_i cs ho;split
    ·rename_i hl;exact DZ R ho hd hl r
    ·simp[au]
   ·simp[au]
  ·exact au.mono R (aV d) _ _ r
 | .agg xs,v,r=>by
  simp only[unT,au] at r |-;obtain ⟨vs,e,r⟩:=r;exact ⟨vs,e,jT R d xs vs r⟩
 | .tup xs,v,r=>by
  simp only[unT,au] at r |-;obtain ⟨vs,e,r⟩:=r;exact ⟨vs,e,jT R d xs vs r⟩
 | .any,v,r=>by simp[unT,au]
 | .int k n,v,r=>by unfold unT;exact au.mono R (aV d) _ _ r
 | .bool b,v,r=>by unfold unT;exact au.mono R (aV d) _ _ r
 | .str l,v,r=>by unfold unT;exact au.mono R (aV d) _ _ r
 | .sc x,v,r=>by unfold unT;exact au.mono R (aV d) _ _ r
 | .sl sz xs c,v,r=>by unfold unT;exact au.mono R (aV d) _ _ r
 | .ref cs,v,r=>by unfold unT;exact au.mono R (aV d) _ _ r
 | .ptr id off,v,r=>by
  unfold unT;split
  ·rename_i hd;split
   ·rename_i cs ho;exact D0 R ho hd r
   ·simp[au]
  ·exact au.mono R (aV d) _ _ r
 | .clo fn a b,v,r=>by
  simp only[unT,au] at r |-;obtain ⟨vs,us,e,r1,r2⟩:=r;exact ⟨vs,us,e,jT R d a vs r1,jT R d b us r2⟩
 | .ifc t x,v,r=>by unfold unT;exact au.mono R (aV d) _ _ r
 | .mp id,v,r=>by unfold unT;exact au.mono R (aV d) _ _ r
 | .yld id,v,r=>by unfold unT;exact au.mono R (aV d) _ _ r
 | .slt sz xs ys,v,r=>by unfold unT;exact au.mono R (aV d) _ _ r
 | .sup B,v,r=>by unfold unT;exact au.mono R (aV d) _ _ r
 | .supb B,v,r=>by unfold unT;exact au.mono R (aV d) _ _ r
 | .wint k,v,r=>by unfold unT;exact au.mono R (aV d) _ _ r
 | .one,v,r=>by unfold unT;exact au.mono R (aV d) _ _ r
theorem jT(R:aM G h w)(d:Nat->Bool):∀(xs:List AV)(vs:List Value),ay G w xs vs->ay (G.frz h d) w (rW h d xs) vs
 |[],vs,r=>by simpa [rW,ay] using r
 |x::xs,vs,r=>by
  simp only[rW,ay] at r |-;obtain ⟨v,us,e,r1,r2⟩:=r;exact ⟨v,us,e,oh R d x v r1,jT R d xs us r2⟩
end
theorem aS.frz{f:FuncId}{args:List AV}{h h':H}{r:AV}(hc:aS P f args h r h')(d:Nat->Bool):aS P f args h (unT h' d r) (h'.drop d):=by
 intro G w vs hv R F;refine (hc G w vs hv R F).mono ?_;rintro e w' ⟨v,G',rfl,T,R',V⟩;exact ⟨v,G'.frz h' d,rfl,T.trans R R' (aV d),ml R' d,oh R' d _ _ V⟩
theorem aU.D1{f:FuncId}{N:Nat}{ac:AC}{args:List AV}{ds:List RV}{r:AV}(hF:aU P f N ac ds)(hl:args.length<=N)(ha:aD args=true)(hp:aP r=true)(hw:Wp P N ac ⟨fL args,H0 0 0⟩ λe s'=>gx e/\∃q,fS ds s'.t s'.h=some q/\ar (unT s'.h (λ_=>true) q) r):aH P f args r:=by
 obtain ⟨r',h',cB,hs⟩:=hF.dF (Q:=λr' h'=>ar (unT h' (λ_=>true) r') r) hl hw;exact (cB.frz _).tl (cm _ ha) hs (dA _ hp)
end
end Go.Av
end
section
namespace Go.Av
section
variable{P:Program}{G:aE}{h:H}{w:World}
theorem o8{sz:Nat}:∀(rows:List (List AV))(vs:List Value),(∀x∈rows,x.length=sz)->ay G w rows.flatten vs->aA G w sz (rows.map .agg) vs
 |[],vs,_,h=>by simpa [ay,aA] using h
 |x::rows,vs,hl,h=>by
  have hx:=hl x af;have h1:=ay.take sz h;have h2:=ay.drop sz h;rw[List.flatten_cons,List.take_left' hx] at h1;rw[List.flatten_cons,List.drop_left' hx] at h2;have hn:(vs.take sz).length=sz:=by have:=ay.length h1;omega
  simp only[JM,aA];refine ⟨.agg (vs.take sz).toArray,vs.drop sz,by simp[Value.cells],by simpa [Value.cells] using hn,?_,o8 rows _ (λy hy=>hl y (by simp[hy])) h2⟩;simp only[au];exact ⟨_,rfl,h1⟩
theorem nI{sz:Nat}:∀(rows:List (List AV)),(∀x∈rows,x.length=sz)->rows.flatten.length=rows.length*sz
 |[],_=>by simp
 |x::rows,h=>by
  have:=nI rows λy hy=>h y (by simp[hy]);have hx:=h x af;simp[this,hx,Kr];omega
open Classical in
theorem o9(R:aM G h w){d:Nat->Bool}{sz id:Nat}{rows:List (List AV)}{c:Option Nat}{v:Value}(hr:∀x∈rows,x.length=sz)(ho:h.objs id=some (.cells rows.flatten))(hd:d id=true)(r:au G w (.tsl sz id 0 rows.length c) v):
  au (G.frz h d) w (.sl sz (rows.map .agg) .any) v:=by
 simp only[au] at r;obtain ⟨-,⟨C,cc,Tt,fr,rfl,⟨h2,-⟩,-⟩|⟨h0,⟨a,rfl⟩,-⟩⟩:=r
 ·obtain ⟨-,r2,r3,vs,rest,T,fr',y1,y2,y3,y4⟩:=R.obj id _ ho;have hlen:=ay.length y2;have hfl:=nI rows hr;have hx:ay (G.frz h d) w rows.flatten vs:=ay.mono R (aV d) _ _ y2;unfold au;refine .inr ⟨G.ι id,0,C,vs,by simp,by simpa using h2,by simp;omega,o8 rows vs hr hx,?_,trivial⟩;intro i v hi;have hi':=(Km.1 hi).1;refine ⟨?_,y4 v (K0 hi),?_,?_⟩
  ·unfold World.cell?;simp only[y1,JG];simp[JQ hi',hi]
  ·exact λx=>x.2 ⟨id,_,hd,ho,rfl⟩
  ·intro e he';have:h.DO G d (G.ι id):=⟨id,_,hd,ho,rfl⟩;simp[aE.frz,this] at he'
 ·have:rows=[]:=Ld.1 h0;subst this;unfold au;exact .inl ⟨by simp,⟨_,rfl⟩,trivial⟩
def UpK(h:H)(q r:AV):Prop:=ar q r\/∃(rows:List (List AV))(id sz:Nat)(rest:List AV),q= .tup (.tsl sz id 0 rows.length none::rest)/\(∀x∈rows,x.length=sz)/\h.objs id=some (.cells rows.flatten)/\ar (.tup (.sl sz (rows.map .agg) .any::rest)) r
theorem aS.upK{f:FuncId}{args:List AV}{h h':H}{q r:AV}(hc:aS P f args h q h')(u:UpK h' q r):aS P f args h r (h'.drop λ_=>true):=by
 intro G w vs hv R F;refine (hc G w vs hv R F).mono ?_;rintro e w' ⟨v,G',rfl,T,R',V⟩;refine ⟨v,G'.frz h' λ_=>true,rfl,T.trans R R' (aV _),ml R' _,?_⟩;rcases u with hs|⟨rows,id,sz,rest,rfl,hr,ho,hs⟩
 ·exact hs _ _ _ (au.mono R' (aV _) _ _ V)
 ·refine hs _ _ _ ?_;simp only[au,ay] at V |-;obtain ⟨vs',e,v1,us,rfl,V1,V2⟩:=V;exact ⟨_,e,v1,us,rfl,by simpa only[au] using o9 R' hr ho rfl (by simpa only[au] using V1),ay.mono R' (aV _) _ _ V2⟩
end
section
variable{P:Program}{N:Nat}{o:Oper}{t:Tm}{h:H}{en:Ent}
theorem zu{x:AV}(h:shaped x=true):bS x=true\/∃cs,x= .agg cs:=by
 unfold shaped at h;simp only[J7] at h;rcases h with h|h
 ·exact .inl h
 ·cases x<;>simp at h;exact .inr ⟨_,rfl⟩
theorem eu{G:aE}{w:World}{sz:Nat}:∀{els:List AV}{vs:List Value},aA G w sz els vs->els.all shaped=true->ay G w (els.flatMap cellsOf) vs
 |[],vs,h,_=>by simpa [aA,ay] using h
 |x::els,vs,h,ha=>by
  simp only[aA] at h;obtain ⟨v,us,rfl,h1,h2,h3⟩:=h;simp only[List.all_cons,Jv] at ha;rw[Kw];exact (cU h2 (zu ha.1)).append (eu h3 ha.2)
theorem Bv{c:Call}{zs zx:Operand}{ys yx:Opd}{T U e:TypeId}{d:TypeDesc}{i:TypeInfo}{s:Nat}{els:List AV}(hop:o.op= .call c)(hc:c.callee= .builtin .append)(ha:c.args.toList=[zs,zx])(hta:c.argTypes.toList=[T,U])
  (hT:P.underlying T=some (.slice e)) (hU:P.underlying U=some d) (hd:(∃e',d= .slice e')\/d= .string) (hi:P.info? e=some i) (hz:i.zero.any (λz=>z.cells.size == i.size)=true) (hsz:0<i.size)
  (hys:opd P T zs=some ys) (hyx:opd P U zx=some yx) (hs:ev t ys= .sl s [] (.exact 0)) (hx:∃s' c',ev t yx= .sl s' els c'/\s'=i.size) (hsh:els.all shaped=true) (hne:0<els.length)
  (hb:els.length*i.bytes<=140737488355328) (hlen:els.length<4611686018427387904):
  Loc P o t h (.tsl i.size h.n 0 els.length none) {h with objs:=upd h.objs h.n (some (.cells (els.flatMap cellsOf))),n:=h.n+1} ⟨[],[h.n],[]⟩:=by
 have ha':c.args= #[zs,zx]:=by rw[<-Array.toArray_toList (xs:=c.args),ha]
 have hta':c.argTypes= #[T,U]:=by rw[<-Array.toArray_toList (xs:=c.argTypes),hta]
 obtain ⟨z,hz1,hz2⟩:∃z,i.zero=some z/\z.cells.size=i.size:=by
  cases hzz:i.zero with
  |none=>rw[hzz] at hz;simp at hz
  |some z=>rw[hzz] at hz;exact ⟨z,rfl,by simpa using hz⟩
 refine ⟨_,_,gd h _,λG w a ht R F=>?_⟩;have r1:=aB hys ht;have r2:=aB hyx ht;rw[hs] at r1;obtain ⟨s',c',hx,hs'⟩:=hx;rw[hx] at r2;obtain ⟨news,n1,n2,n3⟩:=iz (P:=P) (.inl hs') r2;have hbase:∃a0,a.eval zs= .slice a0 0 0:=by
  simp only[au,cy] at r1;rcases r1 with ⟨-,h,-⟩|⟨B,off,C,vs,q1,-,-,-,-,q6⟩
  ·exact h
  ·subst q6;exact ⟨_,by simpa using q1⟩
 obtain ⟨a0,ha0⟩:=hbase;obtain ⟨w',C,rest,e1,e2,e3,e4⟩:=dO (ty:=o.type) hT hU hd hi hz1 hz2 hsz n1 (lZ a0) aa (Jl _) (by simpa using hb) (by simpa using hlen);rw[List.nil_append] at e2;simp only[JG] at e1 e3 e4;have hnl:=n2.length;obtain ⟨G',T1,R1,V⟩:=n9 (m:=h.m) (sz:=i.size) e2 (eu n2 hsh) n3 (kE F (by simp[H.only])) e3 aa;refine ⟨.value _,_,w',G',?_,.inl rfl,T1,R1,V⟩;simp[execOp,hop,resolve,hc,ha',hta',invoke,builtin,ha0,e1]
theorem rX{ty e:TypeId}{len:Nat}{parts:Array (Nat × Operand)}{ys:List Opd}{z:Value}(hop:o.op= .buildSlice ty len parts)(hu:P.underlying ty=some (.slice e))(hi:(P.info? e).isSome=true)(hn:parts.size=len)(hpos:0<P.cellsOf e)
  (hz:(P.info? e).bind (·.zero)=some z) (hzs:z.cells.size=P.cellsOf e)
  (hys:fV P e 0 parts.toList=some ys) (hs:∀y∈ys,(cellsOf (ev t y)).length=P.cellsOf e/\shaped (ev t y)=true) (hle:ys.length*P.cellsOf e<=16777216):
  Loc P o t h (.tsl (P.cellsOf e) h.n 0 ys.length none) {h with objs:=upd h.objs h.n (some (.cells ((ys.map (ev t)).flatMap cellsOf))),n:=h.n+1} ⟨[],[h.n],[]⟩:=by
 refine ⟨_,_,gd h _,λG w a ht R F=>?_⟩;obtain ⟨r1,r2,r3⟩:=gM ht hys;simp only[Array.length_toList,hn] at r2 r3;have hsz:∀v∈parts.toList.map (λp=>a.eval p.2),v.cells.size=P.cellsOf e/\∀u∈v.cells.toList,One u:=by
  intro v hv;obtain ⟨k,hk⟩:=List.getElem?_of_mem hv;have hlt:k<(parts.toList.map (λp=>a.eval p.2)).length:=by
   rcases Kn k (parts.toList.map (λp=>a.eval p.2)).length with h|h
   ·exact h
   ·rw[Kv h] at hk;cases hk
  have hlt':k<ys.length:=by simp at hlt;omega
  obtain ⟨u,hu1,hu2⟩:=r1.get (i:=k) (x:=ev t ys[k]) (by simp[Jm hlt']);have e:u=v:=LV (hu1.symm.trans hk);subst e;obtain ⟨s1,s2⟩:=hs ys[k] (KG hlt');obtain ⟨c1,c2⟩:=dh hu2 s2;have:=c1.length;exact ⟨by simpa [s1] using this,cells_one c1 c2⟩
 generalize hV:parts.toList.map (λp=>a.eval p.2)=vals at*
 have hvl:vals.length=len:=by rw[<-hV];simp[hn]
 have he:=dy r1 λv hv=>(hsz v hv).1;have hfl:(vals.flatMap (·.cells.toList)).length=len*P.cellsOf e:=by
  have:=he.length;rw[this];simp[r3]
 have hfill:∀cells:Array Value,cells.size=len*P.cellsOf e->Instr.fill (λi=>some (i*P.cellsOf e,P.cellsOf e)) cells ((parts.map λ(i,x)=>(i,a.eval x)).toList)=some (vals.flatMap (·.cells.toList)).toArray:=by
  intro cells hc;have hz:(parts.map λ(i,x)=>(i,a.eval x)).toList=(List.range' 0 vals.length).zip vals:=by
   have:∀l:List (Nat × Operand),l.map (λ(i,x)=>(i,a.eval x))=(l.map (·.1)).zip (l.map λp=>a.eval p.2):=by
    intro l;induction l with
    |nil=>rfl
    |cons p l ih=>simp[ih]
   rw[Array.toList_map,this,r2,hV,hvl]
  rw[hz];have:=jb (sz:=P.cellsOf e) (cells:=cells) vals 0 [] cells af af (by rw[hc,hvl];simp) (λv hv=>(hsz v hv).1);simpa using this
 have hle':¬(len*P.cellsOf e>16777216):=by rw[<-r3];omega
 obtain ⟨G',T1,R1,V⟩:=n9 (m:=h.m) (sz:=P.cellsOf e) (len:=len) (C:=len) (rest:=[]) (vs:=vals.flatMap λv:Value=>v.cells.toList) (dg w (.cells ((vals.flatMap λv:Value=>v.cells.toList)++[]).toArray e (0,0))) (eu he (by
  rw[List.all_map];exact JS.2 λy hy=>(hs y hy).2)) (by
  intro u hu;obtain ⟨v,hv,hu'⟩:=Lk.1 hu;exact (hsz v hv).2 u hu') (kE F (by simp[H.only])) ⟨Jl _,by
  have:=Nat.le_mul_of_pos_right len hpos;omega⟩ (by rw[hfl];simp)
 rw[JY] at T1 R1 V;refine ⟨.value (.slice (some ⟨w.heap.size,0,none⟩) len len),_,_,G',?_,.inl rfl,T1,R1,by rw[r3];exact V⟩;obtain ⟨i,hi1,hi2⟩:=J2.1 hz;have hle2:¬(16777216<len*P.cellsOf e):=by omega
 have hmap:∀(zc:Array Value),((Array.range (len*P.cellsOf e)).map (zc[· %zc.size]!)).size=len*P.cellsOf e:=by intro zc;simp
 have hrz:(zeroValue e).run P w= .ok z w:=by simp[zeroValue,typeInfo,hi1,hi2]
 simp only[execOp,hop,Sem.run_bind,Instr.buildSlice,run_underlying hu,Result.andThen_ok,bT P w e hi,Jr hle2,Sem.run_pure,Sem.run_ite,hrz,hfill _ (hmap _)];by_cases h0:len*P.cellsOf e=0
 ·rw[JC h0];simp[newRow]
 ·rw[Jr h0];simp[newRow]
theorem Bw{c:Call}{zs zx:Operand}{ys yx:Opd}{T U e:TypeId}{d:TypeDesc}{i:TypeInfo}{s s':Nat}{xs:List AV}{cp c':Cap}(hop:o.op= .call c)(hc:c.callee= .builtin .append)(ha:c.args.toList=[zs,zx])(hta:c.argTypes.toList=[T,U])
  (hT:P.underlying T=some (.slice e)) (hU:P.underlying U=some d) (hd:(∃e',d= .slice e')\/d= .string) (hi:P.info? e=some i)
  (hys:opd P T zs=some ys) (hyx:opd P U zx=some yx) (hs:ev t ys= .sl s xs cp) (hx:ev t yx= .sl s' [] c'):Loc P o t h (.sl s xs cp) h aO:=by
 have ha':c.args= #[zs,zx]:=by rw[<-Array.toArray_toList (xs:=c.args),ha]
 have hta':c.argTypes= #[T,U]:=by rw[<-Array.toArray_toList (xs:=c.argTypes),hta]
 refine Loc.plain λG w a ht=>?_;have r1:=aB hys ht;have r2:=aB hyx ht;rw[hs] at r1;rw[hx] at r2;obtain ⟨news,n1,n2,-⟩:=iz (P:=P) (sz:=i.size) (.inr rfl) r2;have hnn:news=[]:=by simpa [aA] using n2
 subst hnn;obtain ⟨base,len,C,hv,hlC⟩:∃base len C,a.eval zs= .slice base len C/\len<=C:=by
  simp only[au] at r1;rcases r1 with ⟨-,⟨a0,h⟩,-⟩|⟨B,off,C,vs,q1,q2,-⟩
  ·exact ⟨_,_,_,h,Jl _⟩
  ·exact ⟨_,_,_,q1,q2⟩
 have hrun:=run_append_fits (ty:=o.type) (base:=base) (sLen:=len) (sCap:=C) (w':=w) hT hU hd hi n1 (by simpa using hlC) (by cases base<;>simp[storeCells]);refine ⟨a.eval zs,?_,r1⟩;simp[execOp,hop,resolve,hc,ha',hta',invoke,builtin,hv] at hrun |-;rw[hrun];rfl
def jj(ρ:Opd->AV)(h:H):AOp->Option (AV × H × Ent)
 | .app false sz bytes s x=>match ρ s,ρ x with
  | .sl s xs c,.sl _ [] _=>some (.sl s xs c,h,aO)
  | .sl _ [] (.exact 0),.sl s' els _=>if s'=sz/\els.all shaped=true/\0<els.length/\els.length*bytes<=140737488355328/\els.length<4611686018427387904 then
    some (.tsl sz h.n 0 els.length none,{h with objs:=upd h.objs h.n (some (.cells (els.flatMap cellsOf))),n:=h.n+1},⟨[],[h.n],[]⟩) else none
  |_,_=>none
 | .buildSl sz parts=>if parts.all (λx=>(cellsOf (ρ x)).length=sz/\shaped (ρ x))=true/\parts.length*sz<=16777216 then
   some (.tsl sz h.n 0 parts.length none,{h with objs:=upd h.objs h.n (some (.cells ((parts.map ρ).flatMap cellsOf))),n:=h.n+1},⟨[],[h.n],[]⟩) else none
 |_=>none
theorem xw{sz bytes:Nat}{ys yx:Opd}(h:cOp P o=some (.app false sz bytes ys yx)):∃c zs zx T U e e' i,o.op= .call c/\c.callee= .builtin .append/\c.args.toList=[zs,zx]/\c.argTypes.toList=[T,U]/\
  opd P T zs=some ys/\opd P U zx=some yx/\P.underlying T=some (.slice e)/\P.underlying U=some (.slice e')/\P.info? e=some i/\0<i.size/\(i.zero.any λz=>z.cells.size == i.size)=true/\i.size=sz/\i.bytes=bytes:=by
 unfold cOp at h;split at h
 case h_28 c hop=>
  split at h
  case h_7 hcal=>
   split at h
   ·rename_i zs zx T U ha hta;split at h
    ·split at h
     ·split at h
      ·rename_i hq;cases h;exact ⟨c,zs,zx,T,U,_,_,_,hop,hcal,ha,hta,‹_›,‹_›,‹_›,‹_›,‹_›,hq.1,hq.2,rfl,rfl⟩
      ·cases h
     ·cases h
    ·(repeat' split at h)<;>(try cases h)<;>simp at h
    ·(repeat' split at h)<;>(try cases h)<;>simp at h
    ·cases h
   ·cases h
  all_goals first
   |(cases h;done)
   |((repeat' split at h)<;>(try cases h)<;>simp at h)
 all_goals first
  |(cases h;done)
  |(simp at h;done)
  |((repeat' split at h)<;>(try cases h)<;>(try simp at h);done)
  |skip
theorem nJ{sz:Nat}{ys:List Opd}(h:cOp P o=some (.buildSl sz ys)):∃ty e len parts z,o.op= .buildSlice ty len parts/\P.underlying ty=some (.slice e)/\(P.info? e).isSome=true/\parts.size=len/\0<P.cellsOf e/\(P.info? e).bind (·.zero)=some z/\z.cells.size=P.cellsOf e/\
  fV P e 0 parts.toList=some ys/\sz=P.cellsOf e:=by
 unfold cOp at h;split at h
 case h_7 ty len parts hop=>
  split at h
  ·split at h
   ·rename_i hq;simp only[Jo] at h;obtain ⟨l,h1,h2⟩:=h;cases h2;obtain ⟨q1,q2,q3,q4⟩:=hq;cases hz:(P.info? _).bind (·.zero) with
    |none=>rw[hz] at q4;simp at q4
    |some z=>rw[hz] at q4;exact ⟨ty,_,len,parts,z,hop,‹_›,q2,q1,q3,hz,by simpa using q4,h1,rfl⟩
   ·cases h
  ·cases h
 all_goals first
  |(cases h;done)
  |(simp at h;done)
  |((repeat' split at h)<;>(try cases h)<;>(try simp at h);done)
  |skip
theorem Bx{op:AOp}{x:AV}{h':H}(hc:cOp P o=some op)(hx:jj (ev t) h op=some (x,h',en)):Loc P o t h x h' en:=by
 cases op<;>(try (simp [jj] at hx;done))
 case app str sz bytes s x0=>
  cases str<;>(try (simp [jj] at hx;done));obtain ⟨c,zs,zx,T,U,e,e',i,hop,hcal,ha,hta,hys,hyx,hT,hU,hi,hs1,hs2,rfl,rfl⟩:=xw hc;simp only[jj] at hx;split at hx
  ·cases hx;exact Bw hop hcal ha hta hT hU (.inl ⟨_,rfl⟩) hi hys hyx ‹_› ‹_›
  ·split at hx
   ·rename_i hq;cases hx;exact Bv hop hcal ha hta hT hU (.inl ⟨_,rfl⟩) hi hs2 hs1 hys hyx ‹_› ⟨_,_,‹_›,hq.1⟩ hq.2.1 hq.2.2.1 hq.2.2.2.1 hq.2.2.2.2
   ·cases hx
  ·cases hx
 case buildSl sz parts=>
  obtain ⟨ty,e,len,ps,z,hop,hu,hi,hn,hpos,hz,hzs,hys,rfl⟩:=nJ hc;simp only[jj] at hx;split at hx
  ·rename_i hq;cases hx;exact rX hop hu hi hn hpos hz hzs hys (λy hy=>by simpa using JS.1 hq.1 y hy) hq.2
  ·cases hx
theorem vv{ρ ρ':Opd->AV}{op:AOp}(hx:∀y∈bK op,ρ y=ρ' y):jj ρ h op=jj ρ' h op:=by
 cases op<;>(try rfl)
 case app str sz bytes s x0=>
  cases str
  ·simp only[jj,hx s (by simp[bK]),hx x0 (by simp[bK])]
  ·rfl
 case buildSl sz parts=>
  have e1:parts.map ρ=parts.map ρ':=KD λy hy=>hx y (by simpa [bK] using hy);have e2:parts.all (λx=>(cellsOf (ρ x)).length=sz/\shaped (ρ x))=parts.all (λx=>(cellsOf (ρ' x)).length=sz/\shaped (ρ' x)):=by
   refine LU.2 ?_;simp only[JS];exact ⟨λh y hy=>by rw[<-hx y (by simpa [bK] using hy)];exact h y hy,λh y hy=>by rw[hx y (by simpa [bK] using hy)];exact h y hy⟩
  simp only[jj,e1,e2]
theorem qJ{ops:Array Oper}{i:Nat}{o:Oper}{it:aL}{t:Tm}{h h':H}{x:AV}{en:Ent}(ho:ops[i]? =some o)(hit:bB P N ops o=some it)(hg:guardOf t it.guard=some true)(hx:jj (ev t) h it.op=some (x,h',en)):
  ∃h1 h1',Touch h h1 h1' h' en/\gq P ops i o t h1 x h1':=by
 unfold bB at hit;split at hit
 ·rename_i op g hop hgd;split at hit<;>cases hit;rename_i hcond;simp only[Jv] at hcond;have hop:=fW hop (by rintro rfl;simp[jj] at hx) (by cases op<;>first|rfl|(simp [jj] at hx));have hx':jj (ev (iC (names ops o) t)) h op=some (x,h',en):=by
   rw[vv (jf hcond.2)];exact hx
  obtain ⟨h1,h1',tc,loc⟩:=Bx hop hx';refine ⟨h1,h1',tc,λG w a ht R F K Q hK ro=>?_⟩;obtain ⟨nx,v,w',G',e1,e2,T1,R1,V⟩:=loc G w a (fg ht) R F;unfold wpOpIn;rw[ho];simp only[cq hgd ht hg,Jw];refine ⟨λ_ _=>trivial,?_⟩;rw[Oper.semAt_eq _ _ _ (dQ hop),e1];rcases e2 with rfl|⟨rfl,rfl⟩
  ·rw[Oper.uponIn_value];exact hK G' w' v T1 R1 V
  ·rw[Oper.uponIn_skip];exact hK G' w' undef T1 R1 V
 ·cases hit
theorem aq.opT{dst:Option Nat}{g:Option (Nat × Bool)}{op:AOp}{its:List aL}{t:Tm}{h h':H}{log:List Ent}{en:Ent}{K:Tm->H->List Ent->Prop}{x:AV}(hg:guardOf t g=some true)(hx:jj (ev t) h op=some (x,h',en))(ht:bL op=true)
  (rest:aq P N its (bH t dst x) h' (en::log) K):aq P N (⟨dst,g,op⟩::its) t h log K:=by
 intro ops i hi hc;obtain ⟨o,ho,hit,hi',hc'⟩:=cg hi hc;obtain ⟨h1,h1',tc,run⟩:=qJ ho hit hg hx;obtain ⟨recs,t',hh',ch,hk,hen⟩:=rest ops (i+1) hi' hc';have hdst:dst=o.dst:=by
  unfold bB at hit;split at hit
  ·split at hit<;>cases hit;rfl
  ·cases hit
 refine ⟨⟨t,h,h1,h1',h',x,en⟩::recs,t',hh',.cons ho rfl rfl tc (λ_=>run) (by rw[<-hdst];exact ch),by simpa using hk,?_⟩;intro k r it' hr hit' ht';cases k with
 |zero=>
  simp at hr hit';subst hr hit';rw[ht] at ht';cases ht'
 |succ k=>simp at hr hit';exact hen k r it' hr hit' ht'
theorem vw(h:H){id:Nat}{ob:Obj}(ho:h.objs id=some ob):Touch h (.only (upd av id (some ob)) [] h.n h.m) (H0 h.n h.m) {h with objs:=λj=>if j=id then none else h.objs j} ⟨[],[id],[]⟩ where
 sub:=(eJ h ho).sub
 n:=rfl
 m:=rfl
 eq:=H.ext (λj=>by
  simp only[H.patch,H0,H.only,upd,av];by_cases e:j=id
  ·subst e;simp
  ·simp[e];omega) rfl (by simp[H.patch,H0,H.only,fy]) rfl
 rd j x:=by
  simp only[H.only,upd,av] at x;split at x
  ·rename_i e;subst e;simp
  ·cases x
 wr id a b:=by simp only[H0,H.only] at a b;omega
 chg j x hj:=by
  simp only[H.only,upd,av] at x;split at x
  ·rename_i e;subst e;simp at hj
  ·cases x
 tk t x:=by simp[H.only] at x
 tn t x:=by simp[H0,H.only] at x
 le:=Jl _
 lem:=Jl _
end
end Go.Av
end
section
namespace Go.Av
variable{P:Program}{N:Nat}{s:St}{Q:aC->St->Prop}
def aC.noGoto(Q:aC->St->Prop):aC->St->Prop
 | .goto _,_=>False
 |e,s=>Q e s
theorem Wp.By{c:AC}(h:Wp P N c s (aC.noGoto Q)):Wp P N (.scope c) s Q:=by
 refine Wp.scope (WpS.step (Wp.mono h ?_));intro e s' h;cases e with
 |normal=>exact h
 |exit id=>exact h
 |goto l=>exact h.elim
 |ret=>exact h
 |panic v=>exact h
theorem aJ.tmN{t:Tm}{f f':Nat->Option Obj}{n n' m:Nat}{k:List Nat}{l:List (Nat × AV)}(hn:n<=n')(ho:OLe f f')(h:aN t l):aJ ⟨t,⟨f,n,k,m⟩⟩ ⟨Go.Av.tm l,⟨f',n',k,m⟩⟩:=
 aJ.trans (aJ.tm h) (aJ.of (λi=>ar.refl _) ho (λx hx=>hx) hn (Jl _))
theorem OLe.skip{f:Nat->Option Obj}{i:Nat}{o:Option Obj}(h:f i=Option.none):OLe (Go.Av.upd f i o) f:=by
 intro j p hp;refine ⟨p,?_,dP.refl p⟩;simp only[Go.Av.upd];split
 ·rename_i e;subst e;rw[h] at hp;cases hp
 ·exact hp
theorem OLe.at{g:Nat->Option Obj}{k:Nat}{A:Obj}(h:g k=some A):OLe g (Go.Av.upd av k (some A)):=by
 intro j p hp;simp only[Go.Av.upd,av] at hp;split at hp
 ·rename_i e;subst e;cases hp;exact ⟨_,h,dP.refl _⟩
 ·cases hp
theorem Wp.tv{β:Type}(L:List Nat){K:List (Nat × AV)}{c:AC}{h:H}{t:Tm}(hK:(L.map λi=>(i,t i))=K)(ch:β->List (Nat × AV))(I:β->Prop)(μ:β->Nat)(b0:β)(h0:I b0)(hs:aN t (ch b0))
  (round:∀b n,h.n<=n->I b->Wp P N c ⟨tm (K++ch b),{h with n:=n}⟩ (aC.andThen (λs'=>∃b' n',h.n<=n'/\I b'/\μ b'<μ b/\aJ s' ⟨tm (K++ch b'),{h with n:=n'}⟩) Q)):Wp P N (.loop c) ⟨t,h⟩ Q:=by
 refine Wp.eX (β:=β × Nat) L hK (λj=>ch j.1) (λj=>{h with n:=j.2}) (λj=>h.n<=j.2/\I j.1) (λj=>μ j.1) (b0,h.n) ⟨Jl _,h0⟩ rfl hs ?_;rintro ⟨b,n⟩ ⟨hn,hb⟩;refine Wp.mono (round b n hn hb) ?_;intro e s' h;cases e with
 |normal=>obtain ⟨b',n',h1,h2,h3,h4⟩:=h;exact ⟨(b',n'),⟨h1,h2⟩,h3,h4⟩
 |exit id=>exact h
 |goto l=>exact h
 |ret=>exact h
 |panic v=>exact h
theorem Wp.iE{β:Type}(L:List Nat){K:List (Nat × AV)}{c:AC}{h:H}{t:Tm}(hK:(L.map λi=>(i,t i))=K)(ch:β->Nat->List (Nat × AV))(I:β->Prop)(μ:β->Nat)(b0:β)(tk:Nat)(h0:I b0)(hh:h.toks=[tk])(hs:aN t (ch b0 tk))
  (round:∀b tk n m,h.n<=n->I b->Wp P N c ⟨tm (K++ch b tk),⟨h.objs,n,[tk],m⟩⟩ (aC.andThen (λs'=>∃b' tk' n' m',h.n<=n'/\I b'/\μ b'<μ b/\aJ s' ⟨tm (K++ch b' tk'),⟨h.objs,n',[tk'],m'⟩⟩) Q)):Wp P N (.loop c) ⟨t,h⟩ Q:=by
 refine Wp.eX (β:=β × Nat × Nat × Nat) L hK (λj=>ch j.1 j.2.1) (λj=>⟨h.objs,j.2.2.1,[j.2.1],j.2.2.2⟩) (λj=>h.n<=j.2.2.1/\I j.1) (λj=>μ j.1) (b0,tk,h.n,h.m) ⟨Jl _,h0⟩ (by cases h;simp only at hh;subst hh;rfl) hs ?_;rintro ⟨b,tk,n,m⟩ ⟨hn,hb⟩;refine Wp.mono (round b tk n m hn hb) ?_;intro e s' h;cases e with
 |normal=>obtain ⟨b',tk',n',m',h1,h2,h3,h4⟩:=h;exact ⟨(b',tk',n',m'),⟨h1,h2⟩,h3,h4⟩
 |exit id=>exact h
 |goto l=>exact h
 |ret=>exact h
 |panic v=>exact h
end Go.Av
end
