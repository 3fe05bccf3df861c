/- Parts of a proof: a layer of abstract values over the model, the functions' walks, plain laws. -/
import Derived.Test.YtjnoobmaedgooaaGreatZReA
set_option linter.unusedSimpArgs false
set_option linter.unusedVariables false
section
namespace Go.Av
theorem nf:∀{k1 ks:List EK}{xs ys:List AV}{b:Bool},bw (k1++ks) xs ys=some b->∃b1 b2,bw k1 (xs.take k1.length) (ys.take k1.length)=some b1/\bw ks (xs.drop k1.length) (ys.drop k1.length)=some b2/\b=(b1&&b2)
 |[],ks,xs,ys,b,h=>⟨true,b,by simp[bw],by simpa using h,by simp⟩
 |k::k1,ks,xs,ys,b,h=>by
  cases xs with
  |nil=>simp[bw] at h
  |cons x xs=>
   cases ys with
   |nil=>simp[bw] at h
   |cons y ys=>
    simp only[List.cons_append,bw] at h;split at h
    ·rename_i p q hp hq;cases h;obtain ⟨b1,b2,h1,h2,h3⟩:=nf hq;exact ⟨p&&b1,b2,by simp[bw,hp,h1],by simpa using h2,by rw[h3,Bool.and_assoc]⟩
    ·cases h
open Classical in
section
variable{P:Program}{G:aT}{w:World}
theorem qK{e:Nat}{inner:List Field->Option (List EK)}(hin:∀gs k1,inner gs=some k1->∀(X Y:Array Value) xs ys b,aE G w xs X.toList->aE G w ys Y.toList->bw k1 xs ys=some b->(Op.eqFields e X Y gs).run P w= .ok b w){X Y:Array Value}:
  ∀{i:Nat}{fs:List Field}{ks:List EK}{xs ys:List AV}{b:Bool},kK P inner i fs=some ks->aE G w xs (X.toList.drop i)->aE G w ys (Y.toList.drop i)->bw ks xs ys=some b->
  (Op.eqFields (e+1) X Y fs).run P w= .ok b w
 |i,[],ks,xs,ys,b,hf,r1,r2,h=>by
  simp only[kK,Om] at hf;subst hf;cases xs<;>cases ys<;>simp only[bw] at h<;>first|(cases h;done)|skip
  cases h;simp[Op.eqFields]
 |i,f::fs,ks,xs,ys,b,hf,r1,r2,h=>by
  simp only[kK] at hf;split at hf
  ·rename_i k hk;split at hf
   ·rename_i ks' hks;split at hf
    ·rename_i hn;obtain ⟨hn,ho⟩:=hn;cases hf;cases xs with
     |nil=>simp[bw] at h
     |cons x xs=>
      cases ys with
      |nil=>simp[bw] at h
      |cons y ys=>
       simp only[aE] at r1 r2;obtain ⟨v,vs,e1,r1,q1⟩:=r1;obtain ⟨u,us,e2,r2,q2⟩:=r2;have g1:X[i]? =some v:=by
        have:=Pj (λl=>l[0]?) e1;simpa using this
       have g2:Y[i]? =some u:=by
        have:=Pj (λl=>l[0]?) e2;simpa using this
       have t1:X.toList.drop (i+1)=vs:=by
        have:=Pj (List.drop 1) e1;simpa [PK] using this
       have t2:Y.toList.drop (i+1)=us:=by
        have:=Pj (List.drop 1) e2;simpa [PK] using this
       simp only[bw] at h;split at h
       ·rename_i p q hp hq;cases h;have rec':=qK hin (X:=X) (Y:=Y) (i:=i+1) hks (t1▸q1) (t2▸q2) hq;simp only[Op.eqFields,hn,ne_eq,not_false_eq_true,Of,Sem.run_bind,ho,dQ hk g1,dQ hk g2,Result.andThen_ok,nz hk r1 r2 hp];cases p
        ·simp
        ·simpa using rec'
       ·cases h
    ·cases hf
   ·cases hf
  ·split at hf
   ·rename_i gs hu;split at hf
    ·rename_i k1 hk1;split at hf
     ·rename_i ks' hks;split at hf
      ·rename_i hc;obtain ⟨hn,ho,hst,hsz,hi⟩:=hc;cases hf;obtain ⟨b1,b2,h1,h2,rfl⟩:=nf h;have hfs:P.fieldsOf f.type=gs:=by simp[Program.fieldsOf,hu]
       have hag:bQ P f.type=true:=by simp[bQ,hu]
       have hpart:∀Z:Array Value,(Go.part f.type Z i).run P w= .ok (.agg (Z.extract i (i+k1.length))) w:=λZ=>by
        simp[Go.part,jX P w f.type (by rw[hu];rfl),hag,cH P w f.type hi,hsz]
       have hex:∀Z:Array Value,(Z.extract i (i+k1.length)).toList=(Z.toList.drop i).take k1.length:=λZ=>by
        simp[List.extract_eq_take_drop]
       have hin1:=hin gs.toList k1 hk1 (X.extract i (i+k1.length)) (Y.extract i (i+k1.length)) _ _ b1 (by rw[hex];exact aE.take _ r1) (by rw[hex];exact aE.take _ r2) h1;have heq:(Op.equalIn (e+1) f.type (.agg (X.extract i (i+k1.length))) (.agg (Y.extract i (i+k1.length)))).run P w= .ok b1 w:=by
        rw[run_equalIn_struct w e f.type _ _ (by rw[hfs];exact hu) hst,hfs];exact hin1
       have rec':=qK hin (X:=X) (Y:=Y) (i:=i+k1.length) hks (by have:=aE.drop k1.length r1;rwa [PK] at this) (by have:=aE.drop k1.length r2;rwa [PK] at this) h2;simp only[Op.eqFields,hn,ne_eq,not_false_eq_true,Of,Sem.run_bind,ho,hpart,Result.andThen_ok,heq];cases b1
       ·simp
       ·simpa using rec'
      ·cases hf
     ·cases hf
    ·cases hf
   ·cases hf
theorem Bd:∀{d e:Nat}{fs:List Field}{ks:List EK},n9 P d fs=some ks->∀(X Y:Array Value)(xs ys:List AV)(b:Bool),aE G w xs X.toList->aE G w ys Y.toList->bw ks xs ys=some b->(Op.eqFields (d+e+1) X Y fs).run P w= .ok b w
 |0,e,fs,ks,hf,X,Y,xs,ys,b,r1,r2,h=>by
  rw[Oo];exact qK (inner:=λ_=>none) (λ_ _ h=>by cases h) hf (by simpa using r1) (by simpa using r2) h
 |d+1,e,fs,ks,hf,X,Y,xs,ys,b,r1,r2,h=>by
  have e1:d+1+e+1=(d+e+1)+1:=by omega
  rw[e1];exact qK (inner:=n9 P d) (λgs k1 hk X Y xs ys b q1 q2 q3=>Bd (e:=e) hk X Y xs ys b q1 q2 q3) hf (by simpa using r1) (by simpa using r2) h
variable{t:Tm}{a:Act}{o:Oper}
theorem CE{op:BinOp}{neg:Bool}{ks:List EK}{fs:Array Field}{xT yT:TypeId}{x y:Operand}{b c:Opd}{z:AV}(hop:o.op= .binOp op xT x y yT)(hT:P.underlying xT=some (.struct fs))(hf:n9 P 3 fs.toList=some ks)
  (hh:P.stoodInHeld xT=false) (hg:P.eqGuardType P.depth xT=false)
  (hn:op= .eql/\neg=false\/op= .neq/\neg=true) (h1:opd P xT x=some b) (h2:opd P yT y=some c)
  (ht:cG G w t a) (hz:eqA neg ks (ev t b) (ev t c)=some z):Plain P G w a o z:=by
 have r1:=aK h1 ht;have r2:=aK h2 ht;generalize ev t b=X at*
 generalize ev t c=Y at*
 unfold Plain;simp only[execOp,hop];generalize hx:a.eval x=vx at*
 generalize hy:a.eval y=vy at*
 unfold eqA at hz;split at hz
 ·rename_i p q;simp only[Oc] at hz;obtain ⟨r,hr,rfl⟩:=hz;simp only[aC] at r1 r2;obtain ⟨vs,rfl,r1⟩:=r1;obtain ⟨us,rfl,r2⟩:=r2;have hfs:P.fieldsOf xT=fs:=by simp[Program.fieldsOf,hT]
  have key:(Op.equalIn 10000 xT (.agg vs.toArray) (.agg us.toArray)).run P w= .ok r w:=by
   rw[run_equalIn_struct w 9999 xT _ _ (by rw[hfs];exact hT) hh,hfs];exact Bd (d:=3) (e:=9995) hf _ _ _ _ _ (by simpa using r1) (by simpa using r2) hr
  rcases hn with ⟨rfl,rfl⟩|⟨rfl,rfl⟩
  ·exact ⟨.bool r,by simp[run_eqGuard_agg w _ _ _ _ _ _ hg,run_eql_struct,key],by simp[aC]⟩
  ·exact ⟨.bool (!r),by simp[run_eqGuard_agg w _ _ _ _ _ _ hg,run_neq_struct,key],by simp[aC]⟩
 ·cases hz
end
section
variable{P:Program}{t:Tm}{o:Oper}{h h':H}{x:AV}{en:Ent}
theorem ot{e:TypeId}(h:Et P e=true):P.underlying e=some (.int .u8):=by
 unfold Et at h;split at h
 ·assumption
 ·cases h
theorem CG{mx:Option Operand}{m:Option Opd}(h:lM P mx=some m)(hm:m.isNone=true):mx=none/\m=none:=by
 cases m with
 |some _=>cases hm
 |none=>
  cases mx with
  |none=>exact ⟨rfl,rfl⟩
  |some q=>simp[lM] at h
theorem HD{op:AOp}(hc:cOp P o=some op)(hx:aop (ev t) h op=some (x,h',en)):Loc P o t h x h' en:=by
 unfold cOp at hc;split at hc
 ·
  simp only[Oc] at hc;obtain ⟨y,hy,rfl⟩:=hc;simp only[aop,Om,Ow] at hx;obtain ⟨rfl,rfl,rfl⟩:=hx;exact Loc.plain λG w a ht=>tI (.inl ‹_›) hy ht
 ·
  simp only[Oc] at hc;obtain ⟨y,hy,rfl⟩:=hc;simp only[aop,Om,Ow] at hx;obtain ⟨rfl,rfl,rfl⟩:=hx;exact Loc.plain λG w a ht=>tI (.inr ‹_›) hy ht
 ·
  split at hc<;>cases hc;simp only[aop] at hx;split at hx<;>cases hx;exact Loc.plain λG w a ht=>yG ‹_› ‹_› ‹_› ‹_› ht ‹_›
 ·
  split at hc
  ·simp only[Oc] at hc;obtain ⟨b,hb,rfl⟩:=hc;simp only[aop] at hx;split at hx<;>cases hx;exact Ct ‹_› ‹_› hb ‹_›
  ·cases hc
 ·
  simp only[Oc] at hc;obtain ⟨y,hy,rfl⟩:=hc;simp only[aop] at hx;split at hx
  ·split at hx<;>cases hx;exact Bb ‹_› hy (.inl ‹_›) ‹_›
  ·split at hx
   ·rename_i hcell;cases hx;exact Bb ‹_› hy (.inr ⟨hcell,rfl⟩) (by simp[hcell])
   ·cases hx
 ·
  split at hc
  ·split at hc
   ·split at hc<;>cases hc;simp only[aop,Oc,Ow] at hx;obtain ⟨cs,hcs,rfl,rfl,rfl⟩:=hx;exact Loc.plain λG w a ht=>Cw ‹_› ‹_› ‹_› ‹_› ‹_› ‹_› hcs ht
   ·cases hc
  ·cases hc
 ·
  split at hc
  ·rename_i e hu;split at hc
   ·rename_i hcond;obtain ⟨c1,c2,c3,c4⟩:=hcond;simp only[Oc] at hc;obtain ⟨ys,hys,rfl⟩:=hc;simp only[aop] at hx;split at hx
    ·rename_i hp;obtain ⟨p1,p2⟩:=hp;cases hx;obtain ⟨z,hz1,hz2⟩:∃z,(P.info? e).bind (·.zero)=some z/\z.cells.size=P.cellsOf e:=by
      cases hz:(P.info? e).bind (·.zero) with
      |none=>rw[hz] at c4;simp at c4
      |some z=>rw[hz] at c4;exact ⟨z,rfl,by simpa using c4⟩
     refine wE ‹_› ‹_› c2 c1 c3 hz1 hz2 hys (λy hy=>?_) p2;rw[OK] at p1;simpa using p1 y hy
    ·cases hx
   ·cases hc
  ·cases hc
 ·
  split at hc
  ·rename_i hcond;simp only[Oc] at hc;obtain ⟨y,hy,rfl⟩:=hc;simp only[aop] at hx;split at hx
   ·rename_i cs hcs;simp only[Oc,Ow] at hx;obtain ⟨v,hv,rfl,rfl,rfl⟩:=hx;refine Loc.plain λG w a ht=>?_;have r:=aK hy ht;rw[hcs] at r;simp only[aC] at r;obtain ⟨B,off,vs,e1,e2,e3⟩:=r;exact nB ‹_› hcond.1 hcond.2 hy ht e1 e2 (λj v hj=>(e3 j v hj).1) hv
   ·split at hx
    ·simp only[Oc,Ow] at hx;obtain ⟨v,hv,rfl,rfl,rfl⟩:=hx;exact Ew ‹_› hcond.1 hcond.2 hy ‹_› ‹_› hv
    ·cases hx
   ·cases hx
  ·cases hc
 ·
  split at hc
  ·rename_i hcond;split at hc<;>cases hc;simp only[aop] at hx;split at hx
   ·split at hx
    ·split at hx
     ·rename_i hq;obtain ⟨q1,q2,q3⟩:=hq;cases hx;exact Cu ‹_› hcond.1 hcond.2 ‹_› ‹_› ‹_› ‹_› q1 q2 q3
     ·cases hx
    ·cases hx
   ·cases hx
  ·cases hc
 ·
  split at hc
  ·split at hc
   ·split at hc<;>cases hc<;>
    ·simp only[aop,Oc,Ow] at hx;obtain ⟨v,hv,rfl,rfl,rfl⟩:=hx;exact Loc.plain λG w a ht=>Cm ‹_› ‹_› ah ‹_› ‹_› ht hv
   ·split at hc
    ·split at hc<;>cases hc<;>
     ·simp only[aop] at hx;split at hx
      ·split at hx
       ·simp only[Om,Ow] at hx;obtain ⟨rfl,rfl,rfl⟩:=hx;first
         |exact Bc (neg:=false) ‹_› ‹_› ‹_› (.inl ⟨rfl,rfl⟩) ‹_› ‹_› ‹_› ‹_› ‹_› ‹_›
         |exact Bc (neg:=true) ‹_› ‹_› ‹_› (.inr ⟨rfl,rfl⟩) ‹_› ‹_› ‹_› ‹_› ‹_› ‹_›
       ·cases hx
      ·simp only[Om,Ow] at hx;obtain ⟨rfl,rfl,rfl⟩:=hx;first
        |exact Loc.plain λG w a ht=>jW (neg:=false) ‹_› ‹_› (.inl ⟨rfl,rfl⟩) ‹_› ‹_› ht (by simp only[eqP, *];try rfl)
        |exact Loc.plain λG w a ht=>jW (neg:=true) ‹_› ‹_› (.inr ⟨rfl,rfl⟩) ‹_› ‹_› ht (by simp only[eqP, *];try rfl)
      ·simp only[Om,Ow] at hx;obtain ⟨rfl,rfl,rfl⟩:=hx;first
        |exact Loc.plain λG w a ht=>jW (neg:=false) ‹_› ‹_› (.inl ⟨rfl,rfl⟩) ‹_› ‹_› ht (by simp only[eqP, *];try rfl)
        |exact Loc.plain λG w a ht=>jW (neg:=true) ‹_› ‹_› (.inr ⟨rfl,rfl⟩) ‹_› ‹_› ht (by simp only[eqP, *];try rfl)
      ·cases hx
    ·split at hc<;>cases hc<;>
     ·simp only[aop,Oc,Ow] at hx;obtain ⟨v,hv,rfl,rfl,rfl⟩:=hx;exact Loc.plain λG w a ht=>jW ‹_› ‹_› ah ‹_› ‹_› ht hv
   ·split at hc
    ·split at hc
     ·rename_i hcond;split at hc<;>cases hc<;>
      ·simp only[aop,Oc,Ow] at hx;obtain ⟨v,hv,rfl,rfl,rfl⟩:=hx;exact Loc.plain λG w a ht=>CE ‹_› ‹_› ‹_› hcond.1 hcond.2 ah ‹_› ‹_› ht hv
     ·cases hc
    ·cases hc
   ·split at hc<;>cases hc<;>
    ·simp only[aop,Oc,Ow] at hx;obtain ⟨v,hv,rfl,rfl,rfl⟩:=hx;exact Loc.plain λG w a ht=>CA ‹_› ‹_› rfl ah ‹_› ht hv
   ·split at hc<;>cases hc<;>
    ·simp only[aop,Oc,Ow] at hx;obtain ⟨v,hv,rfl,rfl,rfl⟩:=hx;exact Loc.plain λG w a ht=>Cn ‹_› ‹_› rfl ah ‹_› ht hv
   ·cases hc
   ·cases hc;simp only[aop,Oc,Ow] at hx;obtain ⟨v,hv,rfl,rfl,rfl⟩:=hx;exact Loc.plain λG w a ht=>Cl ‹_› ‹_› ‹_› ht hv
  ·cases hc
 ·
  simp only[Oc] at hc;obtain ⟨y,hy,rfl⟩:=hc;simp only[aop,Oc,Ow] at hx;obtain ⟨v,hv,rfl,rfl,rfl⟩:=hx;exact Loc.plain λG w a ht=>Ev ‹_› hy ht hv
 ·
  split at hc
  ·cases hc;simp only[aop] at hx;split at hx
   ·rename_i e1 e2;cases e1;cases hx;exact Loc.plain λG w a ht=>rH ‹_› ‹_› ‹_› ‹_› e2 ht
   ·rename_i e1 e2;cases e1
   ·rename_i e1 e2;cases e1
   ·rename_i e1 e2;cases e1
   ·rename_i e1 e2;cases e1
   ·cases hx
  ·split at hc<;>cases hc;rename_i hcond;have he:=ot hcond.1;simp only[aop] at hx;split at hx
   ·rename_i e1 e2;cases e1
   ·rename_i e1 e2;split at hx
    ·simp only[Oc,Ow] at hx;obtain ⟨v,hv,rfl,rfl,rfl⟩:=hx;exact Loc.plain λG w a ht=>Cv ‹_› ‹_› he ‹_› ‹_› e2 ‹_› hv ht
    ·cases hx
   ·rename_i e1 e2;cases e1
   ·rename_i e1 e2;cases e1
   ·rename_i e1 e2;cases e1
   ·cases hx
  ·split at hc<;>cases hc;rename_i hcond;have he:=ot hcond.1;simp only[aop] at hx;split at hx
   ·rename_i e1 e2;cases e1
   ·rename_i e1 e2;cases e1
   ·rename_i e1 e2;cases hx;exact Hz ‹_› ‹_› ‹_› he ‹_› e2
   ·rename_i e1 e2;cases hx;exact Ey ‹_› ‹_› ‹_› he ‹_› e2
   ·rename_i e1 e2;cases e1
   ·cases hx
  ·cases hc;simp only[aop] at hx;split at hx
   ·rename_i e1 e2;cases e1
   ·rename_i e1 e2;cases e1
   ·rename_i e1 e2;cases e1
   ·rename_i e1 e2;cases e1
   ·rename_i e1 e2;cases hx;exact Loc.plain λG w a ht=>rI ‹_› ‹_› ‹_› ‹_› e2 ht
   ·cases hx
  ·split at hc<;>cases hc;simp[aop] at hx
  ·cases hc
 ·
  split at hc<;>cases hc;simp only[aop,Om,Ow] at hx;obtain ⟨rfl,rfl,rfl⟩:=hx;exact Loc.plain λG w a ht=>yH ‹_› ‹_› ‹_› ht
 ·
  split at hc
  ·split at hc
   ·split at hc
    ·split at hc
     ·split at hc<;>cases hc;rename_i hcond;simp only[aop] at hx;split at hx
      ·split at hx
       ·rename_i hq;obtain ⟨q1,q2,q3,q4,q5⟩:=hq;cases hx;exact Ez ‹_› ‹_› ‹_› ‹_› hcond.1 hcond.2 ‹_› ‹_› ‹_› ‹_› ‹_› q1 q2 q3 q4 q5
       ·cases hx
      ·cases hx
     ·cases hc
    ·cases hc
   ·cases hc
  ·cases hc
 ·
  split at hc
  ·split at hc<;>cases hc;rename_i hm;simp only[aop,Oc,Ow] at hx;obtain ⟨v,hv,rfl,rfl,rfl⟩:=hx;obtain ⟨hmx0,rfl⟩:=CG ‹_› hm;exact Loc.plain λG w a ht=>tL (e:=0) ‹_› (.inl ⟨rfl,‹_›,hmx0,rfl⟩) ‹_› ‹_› ‹_› ‹_› ht (λh=>absurd rfl h) hv
  ·split at hc<;>cases hc;rename_i hcond;simp only[aop,Oc,Ow] at hx;obtain ⟨v,hv,rfl,rfl,rfl⟩:=hx;refine Loc.plain λG w a ht=>tL (e:= ‹_›) ‹_› (.inr ⟨rfl,‹_›,hcond.1,rfl⟩) ‹_› ‹_› ‹_› ‹_› ht ?_ hv;intro hm hh;rcases hcond.2 with h|h
   ·exact hm (by simpa using h)
   ·rw[hh] at h;cases h
  ·cases hc
 ·
  split at hc
  ·split at hc
   ·split at hc<;>cases hc;rename_i hcond;simp only[aop] at hx;split at hx
    ·cases hx;exact Loc.plain λG w a ht=>qg ‹_› ‹_› ‹_› hcond.1 hcond.2 ‹_› ht (.inl ⟨_,‹_›,rfl⟩)
    ·cases hx;exact Loc.plain λG w a ht=>qg ‹_› ‹_› ‹_› hcond.1 hcond.2 ‹_› ht (.inr ⟨_,_,‹_›,rfl⟩)
    ·cases hx
   ·cases hc
  ·cases hc
 ·
  split at hc
  ·split at hc
   ·split at hc<;>cases hc;rename_i hcond;simp only[aop] at hx;split at hx
    ·simp only[Oc,Ow] at hx;obtain ⟨v,hv,rfl,rfl,rfl⟩:=hx;exact Loc.plain λG w a ht=>Cr ‹_› ‹_› ‹_› hcond.1 hcond.2 ‹_› ht ‹_› hv
    ·cases hx
   ·cases hc
  ·cases hc
 ·
  split at hc
  ·split at hc<;>cases hc;rename_i hcond;simp only[aop] at hx;split at hx
   ·split at hx
    ·rename_i hq;obtain ⟨rfl,q2,q3⟩:=hq;split at hx
     ·rename_i hsh;cases hx;refine Loc.plain λG w a ht=>qh ‹_› ‹_› hcond ‹_› ‹_› ht ‹_› q2 (.inl ⟨_,_,‹_›,q3,rfl,?_⟩);unfold shaped at hsh;generalize List.getD _ _ _=X at hsh;cases hcx:cL X
      ·rw[hcx,PI] at hsh;right;cases X<;>simp only[Oq] at hsh;exact ⟨_,rfl⟩
      ·exact .inl rfl
     ·cases hx
    ·cases hx
   ·split at hx
    ·rename_i hq;cases hx;obtain ⟨rfl,q2,q3⟩:=hq;exact Loc.plain λG w a ht=>qh ‹_› ‹_› hcond ‹_› ‹_› ht ‹_› q2 (.inr ⟨_,_,_,_,‹_›,q3,rfl⟩)
    ·cases hx
   ·cases hx
  ·cases hc
 ·
  split at hc<;>cases hc;simp only[aop] at hx;split at hx
  ·split at hx
   ·rename_i hq;cases hx;exact Loc.plain λG w a ht=>Cp ‹_› ‹_› ‹_› ‹_› ht ‹_› ‹_› hq
   ·cases hx
  ·cases hx
 ·
  split at hc<;>cases hc
  ·simp only[aop,Om,Ow] at hx;obtain ⟨rfl,rfl,rfl⟩:=hx;exact tQ ‹_› ‹_› (.inl rfl)
  ·simp only[aop,Om,Ow] at hx;obtain ⟨rfl,rfl,rfl⟩:=hx;exact tQ ‹_› ‹_› (.inr ⟨_,_,rfl⟩)
 ·
  split at hc
  ·split at hc
   ·simp only[Oc] at hc;obtain ⟨zz,hzz,rfl⟩:=hc;simp only[aop] at hx;split at hx
    ·split at hx
     ·simp only[Oc,Ow] at hx;obtain ⟨r,hr,rfl,rfl,rfl⟩:=hx;exact Cy ‹_› ‹_› ‹_› ‹_› hzz ‹_› ‹_› ‹_› ‹_› ‹_› hr
     ·cases hx
    ·cases hx;exact Loc.plain λG w a ht=>uW ‹_› ‹_› ‹_› ‹_› hzz ‹_› ‹_› ht ‹_› ‹_›
    ·cases hx
   ·split at hc
    ·split at hc
     ·simp only[Oc] at hc;obtain ⟨zz,hzz,rfl⟩:=hc;simp only[aop] at hx;split at hx
      ·split at hx
       ·simp only[Oc,Ow] at hx;obtain ⟨r,hr,rfl,rfl,rfl⟩:=hx;exact yM ‹_› ‹_› ‹_› ‹_› ‹_› ‹_› hzz ‹_› ‹_› ‹_› ‹_› ‹_› hr
       ·cases hx
      ·cases hx
     ·cases hc
    ·cases hc
   ·cases hc
  ·cases hc
 ·
  split at hc
  ·split at hc
   ·cases hc;simp only[aop] at hx;split at hx
    ·split at hx
     ·simp only[Oc,Ow] at hx;obtain ⟨r,hr,rfl,rfl,rfl⟩:=hx;exact wH (.inl ‹_›) ‹_› ‹_› ‹_› ‹_› ‹_› ‹_› ‹_› ‹_› hr
     ·cases hx
    ·cases hx
   ·split at hc
    ·split at hc
     ·cases hc;simp only[aop] at hx;split at hx
      ·split at hx
       ·simp only[Oc,Ow] at hx;obtain ⟨r,hr,rfl,rfl,rfl⟩:=hx;exact tR (.inl ‹_›) ‹_› ‹_› ‹_› ‹_› ‹_› ‹_› ‹_› ‹_› ‹_› ‹_› hr
       ·cases hx
      ·cases hx
     ·cases hc
    ·cases hc
   ·cases hc
  ·cases hc
 ·
  split at hc
  ·split at hc
   ·cases hc;simp only[aop] at hx;split at hx
    ·split at hx
     ·simp only[Oc,Ow] at hx;obtain ⟨r,hr,rfl,rfl,rfl⟩:=hx;exact wH (.inr ‹_›) ‹_› ‹_› ‹_› ‹_› ‹_› ‹_› ‹_› ‹_› hr
     ·cases hx
    ·cases hx
   ·split at hc
    ·split at hc
     ·cases hc;simp only[aop] at hx;split at hx
      ·split at hx
       ·simp only[Oc,Ow] at hx;obtain ⟨r,hr,rfl,rfl,rfl⟩:=hx;exact tR (.inr ‹_›) ‹_› ‹_› ‹_› ‹_› ‹_› ‹_› ‹_› ‹_› ‹_› ‹_› hr
       ·cases hx
      ·cases hx
     ·cases hc
    ·cases hc
   ·cases hc
  ·cases hc
 ·
  simp only[Oc] at hc;obtain ⟨y,hy,rfl⟩:=hc;simp only[aop] at hx;split at hx
  ·simp only[Oc,Ow] at hx;obtain ⟨v,hv,rfl,rfl,rfl⟩:=hx;exact Loc.plain λG w a ht=>Co ‹_› hy ht ‹_› hv
  ·cases hx
 ·
  simp only[Oc] at hc;obtain ⟨y,hy,rfl⟩:=hc;simp only[aop] at hx;split at hx
  ·rename_i e1;cases hx;rw[<-e1];exact Loc.plain λG w a ht=>qf ‹_› hy ht (.inl ⟨_,_,e1⟩)
  ·rename_i e1;cases hx;rw[<-e1];exact Loc.plain λG w a ht=>qf ‹_› hy ht (.inr ⟨_,e1⟩)
  ·cases hx
 ·
  split at hc
  ·cases hc
  ·rename_i hnot _;simp only[Oc] at hc;obtain ⟨y,hy,rfl⟩:=hc;simp only[aop,Om,Ow] at hx;obtain ⟨rfl,rfl,rfl⟩:=hx;exact Loc.plain λG w a ht=>Cq ‹_› ‹_› (λq e=>hnot q (by rw[<-e])) hy ht
  ·cases hc
 ·
  simp only[Oc] at hc;obtain ⟨y,hy,rfl⟩:=hc;simp[aop] at hx
 ·
  rename_i c hop;split at hc
  ·
   split at hc
   ·rename_i x0 t0 ha hta;split at hc<;>cases hc
    ·simp only[aop] at hx;split at hx<;>cases hx
     ·exact Loc.plain λG w a ht=>pf hop ‹_› ha hta ‹_› ht (.inl ⟨‹_›,_,‹_›,rfl⟩)
     ·exact Loc.plain λG w a ht=>yI hop ‹_› ha hta ‹_› ht ‹_› ‹_›
     all_goals (rename_i e1 _;cases e1)
    ·simp only[aop] at hx;split at hx<;>cases hx
     ·rename_i e1 _;cases e1
     ·rename_i e1 _;cases e1
     ·exact Loc.plain λG w a ht=>pf hop ‹_› ha hta ‹_› ht (.inr ⟨⟨_,‹_›⟩,.inl ⟨_,_,_,‹_›,rfl⟩⟩)
     ·exact Loc.plain λG w a ht=>pf hop ‹_› ha hta ‹_› ht (.inr ⟨⟨_,‹_›⟩,.inr ⟨_,_,_,_,‹_›⟩⟩)
    ·simp only[aop] at hx;split at hx
     ·split at hx
      ·simp only[Om,Ow] at hx;obtain ⟨rfl,rfl,rfl⟩:=hx;exact EB hop ‹_› ha hta ‹_› ‹_› ‹_› ‹_›
      ·cases hx
     ·simp only[Om,Ow] at hx;obtain ⟨rfl,rfl,rfl⟩:=hx;exact Loc.plain λG w a ht=>wI hop ‹_› ha hta ‹_› ‹_› ht ‹_›
     ·cases hx
   ·cases hc
  ·
   split at hc
   ·rename_i x0 t0 ha hta;split at hc<;>cases hc;simp only[aop] at hx;split at hx<;>cases hx
    ·exact Loc.plain λG w a ht=>tJ hop ‹_› ha hta ‹_› ht ‹_› (.inl ⟨_,_,‹_›⟩)
    ·exact Loc.plain λG w a ht=>tJ hop ‹_› ha hta ‹_› ht ‹_› (.inr ⟨_,_,_,_,‹_›⟩)
   ·cases hc
  ·
   rename_i hcal;split at hc
   ·rename_i z1 z2 T0 ts0 ha hta;split at hc
    ·split at hc
     ·cases hc;simp only[aop] at hx;split at hx
      ·split at hx
       ·simp only[Oc,Ow] at hx;obtain ⟨r,hr,rfl,rfl,rfl⟩:=hx;exact EA hop hcal ha hta ‹_› ‹_› ‹_› ‹_› ‹_› ‹_› ‹_› hr
       ·cases hx
      ·cases hx
     ·split at hc
      ·split at hc
       ·cases hc;simp only[aop] at hx;split at hx
        ·split at hx
         ·simp only[Oc,Ow] at hx;obtain ⟨r,hr,rfl,rfl,rfl⟩:=hx;exact CD hop hcal ha hta ‹_› ‹_› ‹_› ‹_› ‹_› ‹_› ‹_› ‹_› ‹_› hr
         ·cases hx
        ·cases hx
       ·cases hc
      ·cases hc
     ·cases hc
    ·cases hc
   ·cases hc
  ·
   rename_i hcal;split at hc
   ·rename_i z1 z2 ha;split at hc<;>cases hc;simp only[aop,Oc,Ow] at hx;obtain ⟨v,hv,rfl,rfl,rfl⟩:=hx;exact Loc.plain λG w a ht=>wA (mx:=false) hop hcal ha ‹_› ‹_› ht hv
   ·cases hc
  ·
   rename_i hcal;split at hc
   ·rename_i z1 z2 ha;split at hc<;>cases hc;simp only[aop,Oc,Ow] at hx;obtain ⟨v,hv,rfl,rfl,rfl⟩:=hx;exact Loc.plain λG w a ht=>wA (mx:=true) hop hcal ha ‹_› ‹_› ht hv
   ·cases hc
  ·
   rename_i hcal;split at hc
   ·rename_i z0 T0 ha hta;split at hc
    ·split at hc
     ·rename_i i hi;split at hc
      ·split at hc
       ·split at hc<;>cases hc;rename_i hcond;simp only[aop] at hx;split at hx
        ·split at hx
         ·rename_i hv hl0;cases hx;subst hl0;exact Loc.plain λG w a ht=>yJ hop hcal ha hta ‹_› ht hv ⟨_,‹_›⟩
         ·split at hx
          ·split at hx
           ·rename_i hq;obtain ⟨rfl,q2,q3,q4⟩:=hq;cases hx;exact HB hop hcal ha hta ‹_› hi ‹_› hcond.1 ‹_› hcond.2 ‹_› ‹_› ‹_› ‹_› q2 q3 q4
           ·cases hx
          ·cases hx
        ·cases hx
       ·cases hc
      ·cases hc
     ·cases hc
    ·cases hc
   ·cases hc
  ·
   rename_i hcal;split at hc
   ·rename_i zs zx T U ha hta;split at hc
    ·split at hc
     ·rename_i i hi;split at hc<;>cases hc;rename_i hcond;simp only[aop] at hx;split at hx
      ·split at hx
       ·rename_i hq;obtain ⟨q1,q2,q3,q4⟩:=hq;split at hx
        ·split at hx
         ·rename_i hk;cases hx;exact qJ hop hcal ha hta ‹_› ‹_› (.inl ⟨_,rfl⟩) hi hcond.2 hcond.1 ‹_› ‹_› ‹_› (.inl ⟨_,_,‹_›,q2⟩) q3 q4 (.inr ⟨_,rfl,hk.1,hk.2,rfl,rfl⟩)
         ·cases hx
        ·split at hx
         ·rename_i hk;cases hx;exact qJ hop hcal ha hta ‹_› ‹_› (.inl ⟨_,rfl⟩) hi hcond.2 hcond.1 ‹_› ‹_› ‹_› (.inl ⟨_,_,‹_›,q2⟩) q3 q4 (.inl ⟨⟨_,rfl,hk⟩,q1,rfl,rfl⟩)
         ·cases hx
        ·cases hx
       ·cases hx
      ·rename_i e1 _ _;cases e1
      ·cases hx
     ·cases hc
    ·split at hc
     ·rename_i i hi;split at hc<;>cases hc;rename_i hcond;simp only[aop] at hx;split at hx
      ·rename_i e1 _ _;cases e1
      ·split at hx
       ·rename_i hq;obtain ⟨q1,q2,q3,q4⟩:=hq;have hbl:∀l:List UInt8,(aD l).length=l.length:=λl=>by simp[aD]
        rw[<-hbl] at q3 q4;split at hx
        ·split at hx
         ·rename_i hk;cases hx;exact qJ hop hcal ha hta ‹_› ‹_› (.inr rfl) hi hcond.2 ae ‹_› ‹_› ‹_› (.inr ⟨_,‹_›,rfl,q2⟩) q3 q4 (.inr ⟨_,rfl,hk.1,hk.2,rfl,rfl⟩)
         ·cases hx
        ·split at hx
         ·rename_i hk;cases hx;exact qJ hop hcal ha hta ‹_› ‹_› (.inr rfl) hi hcond.2 ae ‹_› ‹_› ‹_› (.inr ⟨_,‹_›,rfl,q2⟩) q3 q4 (.inl ⟨⟨_,rfl,hk⟩,q1,rfl,rfl⟩)
         ·cases hx
        ·cases hx
       ·cases hx
      ·cases hx
     ·cases hc
    ·split at hc
     ·rename_i i hi;split at hc
      ·rename_i b hbz;split at hc<;>cases hc;rename_i hcond;obtain ⟨z,hz1,hz2⟩:=Oe.1 hbz;have hz3:z.cells.size=i.size:=by
        have:=hcond.2;rw[hz1] at this;simpa using this
       simp only[aop] at hx;split at hx
       ·split at hx
        ·rename_i hq;obtain ⟨q1,q2,q3,q4,q5,q6⟩:=hq;split at hx
         ·split at hx
          ·rename_i hk;cases hx;exact wF hop hcal ha hta ‹_› ‹_› hi hz1 hz3 hz2 hcond.1 ‹_› ‹_› ‹_› ‹_› q2 q5 q6 q3 q4 (.inr ⟨_,rfl,hk.1,hk.2,rfl,rfl⟩)
          ·cases hx
         ·split at hx
          ·rename_i hk;cases hx;exact wF hop hcal ha hta ‹_› ‹_› hi hz1 hz3 hz2 hcond.1 ‹_› ‹_› ‹_› ‹_› q2 q5 q6 q3 q4 (.inl ⟨⟨_,rfl,hk⟩,q1,rfl,rfl⟩)
          ·cases hx
         ·cases hx
        ·cases hx
       ·cases hx
      ·cases hc
     ·cases hc
    ·cases hc
   ·cases hc
  ·
   split at hc
   ·split at hc
    ·simp only[Oc] at hc;obtain ⟨l,hl,rfl⟩:=hc;simp[aop] at hx
    ·cases hc
   ·cases hc
  ·split at hc<;>cases hc;simp[aop] at hx
  ·cases hc
 ·cases hc
end
section
variable{P:Program}{ops:Array Oper}
def rd(ro:Option Nat):Fence:={Fence.wide with round:=ro}
def names(ops:Array Oper)(o:Oper):List Nat:=
 o.dst.toList++(o.op.operands.toList.filterMap λ| .tmp t=>some t|_=>none)++(match o.guard with|some (j,_)=>((ops[j]?).bind (·.dst)).toList|none=>[])
def TOn(l:List Nat)(G:aT)(w:World)(t:Tm)(a:Act):Prop:=∀i∈l,aC G w (t i) (a.tmps.getD i undef)
def bL(t:Tm)(d:Option Nat)(x:AV):Tm:=
 match d with
 |some d=>upd t d x
 |none=>t
structure Rec where
 t:Tm
 h:H
 h1:H
 h1':H
 h':H
 x:AV
 en:Ent
def iH(P:Program)(ops:Array Oper)(i:Nat)(o:Oper)(t:Tm)(h1:H)(x:AV)(h1':H):Prop:=
 ∀G w a,TOn (names ops o) G w t a->bj G h1 w->cB G h1 h1'->∀(K:Act->World->Prop) Q,
  (∀G' w' v,Trans G w h1 G' w' h1'->bj G' h1' w'->aC G' w' x v->K (a.put o.dst v) w')->∀ro,wpOpIn (rd ro) 0 P ops Q i K a w
def kO(P:Program)(ops:Array Oper)(i:Nat)(o:Oper)(t:Tm)(h1:H)(v:Value)(h1':H):Prop:=
 ∀G w a,TOn (names ops o) G w t a->bj G h1 w->cB G h1 h1'->∀(K:Act->World->Prop) Q,
  (∀G' w',Trans G w h1 G' w' h1'->bj G' h1' w'->Q (.panic [{v:=v,recovered:=false}]) a w')->∀ro,wpOpIn (rd ro) 0 P ops Q i K a w
inductive fC(P:Program)(ops:Array Oper)(D:Nat->Bool):Nat->List Rec->Tm->H->Tm->H->Prop where
 |nil {i:Nat} {t:Tm} {h:H} (hi:i=ops.size):fC P ops D i [] t h t h
 |cons {i:Nat} {o:Oper} {r:Rec} {rs:List Rec} {t t':Tm} {h h':H} (ho:ops[i]? =some o) (e1:r.t=t) (e2:r.h=h) (tc:Touch h r.h1 r.h1' r.h' r.en) (run:D i=false->iH P ops i o t r.h1 r.x r.h1')
   (rest:fC P ops D (i+1) rs (bL t o.dst r.x) r.h' t' h'):fC P ops D i (r::rs) t h t' h'
abbrev JH(P:Program)(ops:Array Oper):Nat->List Rec->Tm->H->Tm->H->Prop:=fC P ops λ_=>false
theorem lS(a:Act)(d:Option Nat)(v:Value):(a.put d v).tmps.size=a.tmps.size:=by
 cases d<;>simp[Act.put]
theorem put_defers(a:Act)(d:Option Nat)(v:Value):(a.put d v).defers=a.defers:=by
 cases d<;>simp[Act.put]
theorem ow{G:aT}{w:World}{t:Tm}{a:Act}{d:Option Nat}{x:AV}{v:Value}(ht:cG G w t a)(hv:aC G w x v)(hd:∀k,d=some k->k<a.tmps.size):cG G w (bL t d x) (a.put d v):=by
 intro i;cases d with
 |none=>exact ht i
 |some k=>
  have hk:=hd k rfl;simp only[bL,upd,Act.put];by_cases e:i=k
  ·subst e;simp[QJ,hk];exact hv
  ·have:=ht i;simp only[Ob e];have e2:(a.tmps.setIfInBounds k v).getD i undef=a.tmps.getD i undef:=by
    simp[QJ,Ql e]
   rw[e2];exact this
theorem cG.mono{G G':aT}{w w':World}{h h':H}{t:Tm}{a:Act}(R:bj G h w)(T:Trans G w h G' w' h')(ht:cG G w t a):cG G' w' t a:=λi=>aC.mono R T _ _ (ht i)
theorem kd{D:Nat->Bool}:∀{i:Nat}{recs:List Rec}{t t':Tm}{h h':H},fC P ops D i recs t h t' h'->(h.n<=h'.n/\h.m<=h'.m)/\
  (∀(k:Nat)(r:Rec),recs[k]? =some r->(h.n<=r.h1.n/\r.h1'.n<=h'.n)/\(h.m<=r.h1.m/\r.h1'.m<=h'.m))/\
  (∀(k l:Nat)(r s:Rec),k<l->recs[k]? =some r->recs[l]? =some s->r.h1'.n<=s.h1.n/\r.h1'.m<=s.h1.m):=by
 intro i recs t t' h h' hc;induction hc with
 |nil hi=>exact ⟨⟨N4 _,N4 _⟩,by simp,by simp⟩
 | @cons i o r rs t t' h h' ho e1 e2 tc run rest ih=>
  obtain ⟨⟨a1,a2⟩,a3,a4⟩:=ih;have n1:=tc.n;have m1:=tc.m;have n2:r.h'.n=r.h1'.n:=by rw[tc.eq];rfl
  have m2:r.h'.m=r.h1'.m:=by rw[tc.eq];rfl
  have n3:=tc.le;have m3:=tc.lem;refine ⟨⟨ae,ae⟩,?_,?_⟩
  ·intro k q hq;cases k with
   |zero=>simp at hq;subst hq;exact ⟨⟨ae,ae⟩,⟨ae,ae⟩⟩
   |succ k=>
    simp at hq;obtain ⟨⟨b1,b2⟩,b3,b4⟩:=a3 k q hq;exact ⟨⟨ae,ae⟩,⟨ae,ae⟩⟩
  ·intro k l q s hkl hq hs;cases l with
   |zero=>omega
   |succ l=>
    simp at hs;cases k with
    |zero=>
     simp at hq;subst hq;obtain ⟨⟨b1,b2⟩,b3,b4⟩:=a3 l s hs;exact ⟨ae,ae⟩
    |succ k=>
     simp at hq;exact a4 k l q s ae hq hs
theorem cB.sub{G:aT}{h h' k k':H}(F:cB G h h')(a:h.n<=k.n)(b:k'.n<=h'.n)(c:h.m<=k.m)(d:k'.m<=h'.m):cB G k k':=
 ⟨λid x y=>F.1 id ae ae,λt x y=>F.2 t ae ae⟩
theorem cB.step{G G':aT}{w w':World}{h h1 h':H}(F:cB G h h')(T:Trans G w h G' w' h1):cB G' h1 h':=by
 constructor
 ·intro id x y hd;rcases T.dom_new id hd with z|⟨z1,z2⟩
  ·exact F.1 id (OI T.n_le x) y z
  ·omega
 ·intro id x y hd;rcases T.tdom_new id hd with z|⟨z1,z2⟩
  ·exact F.2 id (OI T.m_le x) y z
  ·omega
theorem CH(ro:Option Nat){N:Nat}{Q:Exit->Act->World->Prop}(hN:∀(i:Nat) o d,ops[i]? =some o->o.dst=some d->d<N):∀{i:Nat}{recs:List Rec}{t t':Tm}{h h':H},JH P ops i recs t h t' h'->
  ∀(G:aT)(w:World)(a:Act),a.tmps.size=N->cG G w t a->bj G h w->cB G h h'->
   (∀G' w' a',Trans G w h G' w' h'->cG G' w' t' a'->bj G' h' w'->a'.tmps.size=N->a'.defers=a.defers->Q .normal a' w')->wpOpsIn (rd ro) 0 P ops Q (List.range' i (ops.size - i)) a w:=by
 intro i recs t t' h h' hc;induction hc with
 |nil hi=>
  intro G w a hs ht R U hq;subst hi;simp only[Nat.sub_self,List.range'_zero,wpOpsIn];exact hq G w a (Trans.refl _ _ _) ht R hs rfl
 | @cons i o r rs t t' h h' ho e1 e2 tc run rest ih=>
  intro G w a hs ht R U hq;have hi:i<ops.size:=(O5.1 ho).1;have:ops.size - i=(ops.size - (i+1))+1:=by omega
  rw[this,Qz,wpOpsIn_cons];have nm:=(kd rest).1;have e3:r.h'.n=r.h1'.n:=by rw[tc.eq];rfl
  have e4:r.h'.m=r.h1'.m:=by rw[tc.eq];rfl
  have F:cB G r.h1 r.h1':=U.sub (by rw[tc.n];exact N4 _) ae (by rw[tc.m];exact N4 _) ae;refine run rfl G w a (λk _=>ht k) (R.sub tc.sub) F _ Q (λG' w' v T1 R1 V=>?_) ro;obtain ⟨R2,T2⟩:=frame R tc.sub tc.n tc.m R1 T1 F;rw[<-tc.eq] at R2 T2;refine ih G' w' _ (by rw[lS];exact hs) (ow (ht.mono R T2) V λk hk=>by rw[hs];exact hN i o k ho hk) R2 (U.step T2) λG'' w'' a'' T3 h1 h2 h3 h4=>?_;exact hq G'' w'' a'' (T2.trans R R2 T3) h1 h2 h3 (h4.trans (put_defers _ _ _))
def val{β:Type}(u:Nat->Option β)(S:Nat->Bool):Nat->β->β
 |0,v=>v
 |k+1,v=>if S k then (u k).getD (val u S k v) else val u S k v
theorem val_congr{β:Type}{u:Nat->Option β}{S S':Nat->Bool}{v:β}:∀{n:Nat},(∀k,k<n->S k=S' k)->val u S n v=val u S' n v
 |0,_=>rfl
 |n+1,h=>by simp only[val,h n ae,val_congr (n:=n) λk hk=>h k ae]
theorem kP{β:Type}{u:Nat->Option β}{S S':Nat->Bool}{v:β}{i:Nat}(hS:S i=false)(hS':∀k,S' k=(S k||k == i)):
  ∀{n:Nat},i<n->(∀j,i<j->j<n->S j=true->u i≠none->u j=none)->val u S' n v=(u i).getD (val u S n v)
 |0,h,_=>by omega
 |n+1,h,hu=>by
  by_cases e:n=i
  ·subst e;simp only[val,hS,hS'];simp only[PI,BEq.rfl,Of,Oq,Od];rw[val_congr (S:=S') (S':=S)];intro k hk;rw[hS'];have:(k == n)=false:=by simp;omega
   simp[this]
  ·have ih:=kP (u:=u) (v:=v) hS hS' (n:=n) ae λj a b=>hu j a ae;have en:(n == i)=false:=by simp;exact e
   simp only[val,hS',en,Qe,ih];by_cases hSn:S n=true
   ·simp only[hSn,Of];have:=hu n ae ae hSn;cases hui:u i with
    |none=>rfl
    |some y=>rw[this (by simp[hui])];rfl
   ·simp only[hSn,Od,Oq]
theorem gQ{β:Type}{u:Nat->Option β}{S:Nat->Bool}{v:β}{j:Nat}(h1:∀k,k<j->S k=false->u k=none):∀{n:Nat},j<=n->(∀k,j<=k->k<n->S k=true->u k=none)->val u S n v=val u (λ_=>true) j v
 |0,h,_=>by
  have:j=0:=by omega
  subst this;rfl
 |n+1,h,h2=>by
  by_cases e:j=n+1
  ·subst e;have key:∀m,m<=n+1->val u S m v=val u (λ_=>true) m v:=by
    intro m;induction m with
    |zero=>intro _;rfl
    |succ m ih=>
     intro hm;simp only[val,ih ae,Of];by_cases hs:S m=true
     ·simp[hs]
     ·simp only[hs,Od,Oq];rw[h1 m ae (by simpa using hs)];rfl
   exact key _ (N4 _)
  ·have ih:=gQ (u:=u) (v:=v) h1 (n:=n) ae λk a b=>h2 k a ae;simp only[val,ih];by_cases hs:S n=true
   ·simp only[hs,Of];rw[h2 n ae ae hs];rfl
   ·simp only[hs,Od,Oq]
def apart(e f:Ent):Prop:=(∀id,id∈e.wr->id∉f.rd/\id∉f.wr)/\(∀id,id∈f.wr->id∉e.rd/\id∉e.wr)/\(∀t,t∈e.tk->t∉f.tk)
theorem apart.symm{e f:Ent}(h:apart e f):apart f e:=⟨h.2.1,h.1,λt a b=>h.2.2 t b a⟩
def cZ:Rec:=⟨λ_=> .any,⟨λ_=>none,0,[],0⟩,⟨λ_=>none,0,[],0⟩,⟨λ_=>none,0,[],0⟩,⟨λ_=>none,0,[],0⟩,.any,aU⟩
def tU(ops:Array Oper)(recs:List Rec)(d:Nat)(i:Nat):Option AV:=if ((ops[i]?).bind (·.dst))=some d then some (recs.getD i cZ).x else none
def oU(recs:List Rec)(id:Nat)(i:Nat):Option (Option Obj):=
 let r:=recs.getD i cZ
 if ((r.h1.objs id).isSome\/(r.h1.n<=id/\id<r.h1'.n))/\id∈r.en.wr then some (r.h1'.objs id) else none
def kU(recs:List Rec)(t:Nat)(i:Nat):Option Bool:=
 let r:=recs.getD i cZ
 if t∈r.h1.toks\/t∈r.h1'.toks then some (decide (t∈r.h1'.toks)) else none
theorem Touch.objs{h h1 h1' h':H}{en:Ent}(tc:Touch h h1 h1' h' en)(id:Nat):h'.objs id=if ((h1.objs id).isSome\/(h1.n<=id/\id<h1'.n))/\id∈en.wr then h1'.objs id else h.objs id:=by
 rw[tc.eq];simp only[H.patch];by_cases c:((h1.objs id).isSome\/(h1.n<=id/\id<h1'.n))
 ·by_cases hw:id∈en.wr
  ·simp[c,hw]
  ·simp only[c,hw,and_false,Of,Od];have hs:(h1.objs id).isSome:=by
    rcases c with c|c
    ·exact c
    ·exact absurd (tc.wr id c.1 c.2) hw
   rw[tc.chg id hs hw];obtain ⟨o,ho⟩:=QC.1 hs;rw[ho,tc.sub.1 id o ho]
 ·simp[c]
theorem Touch.toks{h h1 h1' h':H}{en:Ent}(tc:Touch h h1 h1' h' en)(t:Nat):t∈h'.toks↔(t∈h1'.toks\/(t∈h.toks/\t∉h1.toks)):=by
 rw[tc.eq];simp[H.patch,OS,Pe]
theorem jC{D:Nat->Bool}:∀{i:Nat}{recs:List Rec}{t t':Tm}{h h':H},fC P ops D i recs t h t' h'->i+recs.length=ops.size/\(∀k r,recs[k]? =some r->∃o,ops[i+k]? =some o/\Touch r.h r.h1 r.h1' r.h' r.en/\(D (i+k)=false->iH P ops (i+k) o r.t r.h1 r.x r.h1'))/\
  (∀r,recs[0]? =some r->r.t=t/\r.h=h)/\(∀k r r',recs[k]? =some r->recs[k+1]? =some r'->r'.t=bL r.t ((ops[i+k]?).bind (·.dst)) r.x/\r'.h=r.h')/\
  (∀r,recs.getLast? =some r->t'=bL r.t ((ops[i+(recs.length - 1)]?).bind (·.dst)) r.x/\h'=r.h')/\(recs=[]->t'=t/\h'=h):=by
 intro i recs t t' h h' hc;induction hc with
 |nil hi=>exact ⟨by simpa using hi,by simp,by simp,by simp,by simp,by simp⟩
 | @cons i o r rs t t' h h' ho e1 e2 tc run rest ih=>
  obtain ⟨a1,a2,a3,a4,a5,a6⟩:=ih;subst e1 e2;refine ⟨by simp;omega,?_,by simp,?_,?_,by simp⟩
  ·intro k q hq;cases k with
   |zero=>simp at hq;subst hq;exact ⟨o,by simpa using ho,tc,by simpa using run⟩
   |succ k=>
    simp at hq;have:=a2 k q hq
    rwa [show i+1+k=i+(k+1) by omega] at this
  ·intro k q q' hq hq';cases k with
   |zero=>
    simp at hq hq';subst hq;obtain ⟨b1,b2⟩:=a3 q' (by simpa using hq');exact ⟨by simp[ho,b1],b2⟩
   |succ k=>
    simp at hq hq';have:=a4 k q q' hq hq'
    rwa [show i+1+k=i+(k+1) by omega] at this
  ·intro q hq;cases rs with
   |nil=>
    simp at hq;subst hq;obtain ⟨b1,b2⟩:=a6 rfl;exact ⟨by simp[ho,b1],b2⟩
   |cons r2 rs2=>
    rw[List.getLast?_cons_cons] at hq;have:=a5 q hq;simp only[List.length_cons,Nat.add_sub_cancel] at this |-
    rwa [show i+1+rs2.length=i+(rs2.length+1) by omega] at this
end
section
variable{P:Program}{ops:Array Oper}
def dA(ops:Array Oper)(i j:Nat):Bool:=((Region.before ops).getD j 0).testBit i
structure kf(ops:Array Oper)(recs:List Rec)(t0:Tm)(h0:H)(i:Nat)(t:Tm)(h:H):Prop where
 t:∀d,t d=val (tU ops recs d) (λ_=>true) i (t0 d)
 o:∀id,h.objs id=val (oU recs id) (λ_=>true) i (h0.objs id)
 k:∀tk,decide (tk∈h.toks)=val (kU recs tk) (λ_=>true) i (decide (tk∈h0.toks))
theorem lT{recs:List Rec}{t0:Tm}{h0:H}{i:Nat}{r:Rec}(hr:recs[i]? =some r)(tc:Touch r.h r.h1 r.h1' r.h' r.en)(p:kf ops recs t0 h0 i r.t r.h):
  kf ops recs t0 h0 (i+1) (bL r.t ((ops[i]?).bind (·.dst)) r.x) r.h':=by
 have hg:recs.getD i cZ=r:=by simp[List.getD,hr]
 constructor
 ·intro d;simp only[val,Of,tU,hg,<-p.t];cases e:(ops[i]?).bind (·.dst) with
  |none=>simp[bL]
  |some k=>
   simp only[bL,upd];by_cases hd:d=k
   ·subst hd;simp
   ·rw[Ob hd,Ob (by simpa using Ql hd)];rfl
 ·intro id;simp only[val,Of,oU,hg,<-p.o,tc.objs id];split<;>rfl
 ·intro tk;simp only[val,Of,kU,hg,<-p.k];have:=tc.toks tk;by_cases c:tk∈r.h1.toks\/tk∈r.h1'.toks
  ·rw[Oi c];simp only[Option.getD_some,Ra,this];constructor
   ·rintro (h|⟨h1,h2⟩)
    ·exact h
    ·exact c.resolve_left h2
   ·exact .inl
  ·rw[Ob c];simp only[Option.getD_none,Ra,this];simp only[not_or] at c;constructor
   ·rintro (h|h)
    ·exact absurd h c.2
    ·exact h.1
   ·intro h;exact .inr ⟨h,c.1⟩
theorem EC{D:Nat->Bool}{recs:List Rec}{t0 t':Tm}{h0 h':H}(hc:fC P ops D 0 recs t0 h0 t' h'):(∀i r,recs[i]? =some r->kf ops recs t0 h0 i r.t r.h)/\kf ops recs t0 h0 ops.size t' h':=by
 obtain ⟨a1,a2,a3,a4,a5,a6⟩:=jC hc;have base:kf ops recs t0 h0 0 t0 h0:=⟨λ_=>rfl,λ_=>rfl,λ_=>rfl⟩;have key:∀i r,recs[i]? =some r->kf ops recs t0 h0 i r.t r.h:=by
  intro i;induction i with
  |zero=>intro r hr;obtain ⟨e1,e2⟩:=a3 r hr;rw[e1,e2];exact base
  |succ i ih=>
   intro r' hr';have hlt:i<recs.length:=by
    have:i+1<recs.length:=by
     rcases Py (i+1) recs.length with h|h
     ·exact h
     ·rw[Pq h] at hr';cases hr'
    omega
   obtain ⟨o,_,tc,_⟩:=a2 i recs[i] (N5 hlt);obtain ⟨e1,e2⟩:=a4 i recs[i] r' (N5 hlt) hr';rw[e1,e2];simpa using lT (N5 hlt) tc (ih _ (N5 hlt))
 refine ⟨key,?_⟩;by_cases he:recs=[]
 ·obtain ⟨e1,e2⟩:=a6 he;subst he;simp at a1;rw[e1,e2,<-a1];exact base
 ·have hpos:0<recs.length:=Qn.2 he;have hlt:recs.length - 1<recs.length:=by omega
  have hl:recs.getLast? =some recs[recs.length - 1]:=by
   rw[List.getLast?_eq_getElem?];exact N5 hlt
  obtain ⟨e1,e2⟩:=a5 _ hl;obtain ⟨o,_,tc,_⟩:=a2 _ _ (N5 hlt);have:=lT (N5 hlt) tc (key _ _ (N5 hlt));rw[e1,e2];simp only[Oo] at this a1 |-;have hn:recs.length - 1+1=ops.size:=by omega
  rwa [hn] at this
structure Tidy(ops:Array Oper):Prop where
 back:∀(i:Nat) o,ops[i]? =some o->∀e∈o.after,Region.binds .any e=true->e.on<i
 anc:∀(i:Nat) o,ops[i]? =some o->∀j,dA ops j i=true->∃e∈o.after,Region.binds .any e=true/\(j=e.on\/dA ops j e.on=true)
 tmp:∀(i j:Nat) o o',ops[i]? =some o->ops[j]? =some o'->i≠j->∀d,o.dst=some d->d∈names ops o'->dA ops i j=true\/dA ops j i=true
def ED(ops:Array Oper)(S:Nat->Bool):Prop:=∀(i:Nat) o,ops[i]? =some o->S i=true->∀e∈o.after,Region.binds .any e=true->S e.on=true
theorem EE{S:Nat->Bool}(T:Tidy ops)(hS:ED ops S):∀(i:Nat) o,ops[i]? =some o->(∀e∈o.after,Region.binds .any e=true->S e.on=true)->∀j,dA ops j i=true->S j=true:=by
 intro i;induction i using Nat.strongRecOn with
 |_ i ih=>
  intro o ho he j hj;obtain ⟨e,hm,hbd,h⟩:=T.anc i o ho j hj;rcases h with rfl|h
  ·exact he e hm hbd
  ·have hlt:=T.back i o ho e hm hbd;have hsz:e.on<ops.size:=Nat.lt_trans hlt (O5.1 ho).1;exact ih e.on hlt ops[e.on] (O3 hsz) (λe' he'=>hS e.on _ (O3 hsz) (he e hm hbd) e' he') j h
def HS(recs:List Rec)(h0:H)(n:Nat)(ne me:Nat)(S:Nat->Bool):H where
 objs id:=val (oU recs id) S n (h0.objs id)
 n:=ne
 toks:=(h0.toks++recs.flatMap (λr=>r.h1'.toks)).filter λt=>val (kU recs t) S n (decide (t∈h0.toks))
 m:=me
theorem jM{u:Nat->Option Bool}{S:Nat->Bool}:∀{n:Nat},val u S n false=true->∃i,i<n/\u i=some true
 |0,h=>by simp[val] at h
 |n+1,h=>by
  simp only[val] at h;by_cases hs:S n=true
  ·simp only[hs,Of] at h;cases hu:u n with
   |none=>rw[hu] at h;obtain ⟨i,a,b⟩:=jM (n:=n) h;exact ⟨i,ae,b⟩
   |some y=>rw[hu] at h;simp at h;subst h;exact ⟨n,ae,hu⟩
  ·simp only[hs,Od,Oq] at h;obtain ⟨i,a,b⟩:=jM (n:=n) h;exact ⟨i,ae,b⟩
theorem nD{recs:List Rec}{h0:H}{n ne me:Nat}{S:Nat->Bool}(hn:n=recs.length)(t:Nat):t∈(HS recs h0 n ne me S).toks↔val (kU recs t) S n (decide (t∈h0.toks))=true:=by
 simp only[HS,Pe,OS,QT];refine ⟨λh=>h.2,λh=>⟨?_,h⟩⟩;by_cases h0t:t∈h0.toks
 ·exact .inl h0t
 ·rw[N6 h0t] at h;obtain ⟨i,hi,hu⟩:=jM h;rw[hn] at hi;refine .inr ⟨recs[i],Pk hi,?_⟩;simp only[kU,List.getD,N5 hi,Option.getD_some] at hu;split at hu
  ·simpa using hu
  ·cases hu
def count(n:Nat)(S:Nat->Bool):Nat:=((List.range n).filter λk=> !S k).length
theorem count_insert{n i:Nat}{S S':Nat->Bool}(hS:S i=false)(hS':∀k,S' k=(S k||k == i))(hi:i<n):count n S'+1=count n S:=by
 unfold count;induction n with
 |zero=>omega
 |succ n ih=>
  simp only[List.range_succ,List.filter_append,Og];by_cases e:n=i
  ·subst e;have:(List.range n).filter (λk=> !S' k)=(List.range n).filter (λk=> !S k):=by
    apply List.filter_congr;intro k hk;have:(k == n)=false:=by simp at hk |-;omega
    simp[hS',this]
   rw[this];simp[hS',hS]
  ·have:=ih ae;have en:(n == i)=false:=by simp;exact e
   have e2:([n].filter λk=> !S' k)=[n].filter λk=> !S k:=by simp[List.filter_cons,hS',en]
   rw[e2];omega
theorem yN{n:Nat}{S:Nat->Bool}(h:count n S=0):∀k,k<n->S k=true:=by
 intro k hk;unfold count at h;rw[List.length_eq_zero_iff,List.filter_eq_nil_iff] at h;simpa using h k (by simpa using hk)
theorem ph(ops:Array Oper)(listed:Array Bool)(T:Tidy ops){i:Nat}{o:Oper}(ho:ops[i]? =some o):i∈Region.ready .any ops listed↔listed.getD i true=false/\∀e∈o.after,Region.binds .any e=true->listed.getD e.on false=true:=by
 have hi:i<ops.size:=(O5.1 ho).1;simp only[Region.ready,Pe,O6,hi,PC,ho,Option.map_some,Option.getD_some,Oh,Qv];refine and_congr_right λ_=>?_;rw[Array.all_eq_true_iff_forall_mem];constructor
 ·intro h e he hb;have:=h e he;simpa [hb] using this
 ·intro h e he;cases hb:Region.binds .any e with
  |false=>rfl
  |true=>simp[h e he hb]
theorem nE(T:Tidy ops){k:Nat}:∀(q:Nat) oq,ops[q]? =some oq->dA ops k q=true->k<q:=by
 intro q;induction q using Nat.strongRecOn with
 |_ q ihq=>
  intro oq hoq hq';obtain ⟨e,hm,hbd,hh⟩:=T.anc q oq hoq k hq';have hb:=T.back q oq hoq e hm hbd;rcases hh with rfl|hh
  ·exact hb
  ·have hsz:e.on<ops.size:=Nat.lt_trans hb (O5.1 hoq).1;exact Nat.lt_trans (ihq e.on hb _ (O3 hsz) hh) hb
theorem Trans.toSub{G G':aT}{w w':World}{h h' h2:H}(T:Trans G w h G' w' h')(hs:h2.sub h')(hn:h2.n=h'.n)(hm:h2.m=h'.m):Trans G w h G' w' h2:=
 {T with
  O_new:=λB hB x=>T.O_new B hB (by obtain ⟨id,o,ho,e⟩:=x;exact ⟨id,o,hs.1 _ _ ho,e⟩)
  T_new:=λB hB x=>T.T_new B hB (by obtain ⟨t,ht,e⟩:=x;exact ⟨t,hs.2 t ht,e⟩)
  objs_new:=λj o hj=>by rw[hn];exact T.objs_new j o (hs.1 _ _ hj)
  toks_new:=λt ht=>by rw[hm];exact T.toks_new t (hs.2 t ht)
  n_le:=by rw[hn];exact T.n_le
  m_le:=by rw[hm];exact T.m_le
  dom_new:=by rw[hn];exact T.dom_new
  tdom_new:=by rw[hm];exact T.tdom_new}
theorem tS(ro:Option Nat){D:Nat->Bool}{pj:Nat}{pv:Value}{N:Nat}{Q:Exit->Act->World->Prop}(hN:∀(i:Nat) o d,ops[i]? =some o->o.dst=some d->d<N)(T:Tidy ops){recs:List Rec}{t0 t':Tm}{h0 h':H}(hc:fC P ops D 0 recs t0 h0 t' h')
  (ap:∀i j,i<j->j<ops.size->dA ops i j=false->apart (recs.getD i cZ).en (recs.getD j cZ).en)
  {G0:aT} {w0:World} {a0:Act} (R0:bj G0 h0 w0) (F0:cB G0 h0 h')
  (hq:(∀i,D i=false)->∀G' w' a',Trans G0 w0 h0 G' w' h'->cG G' w' t' a'->bj G' h' w'->a'.tmps.size=N->a'.defers=a0.defers->Q .normal a' w')
  (hD:∀i,D i=true->(D pj=true/\pj<ops.size)/\(i=pj\/∃k,D k=true/\dA ops k i=true))
  (hP:D pj=true->∀o r,ops[pj]? =some o->recs[pj]? =some r->kO P ops pj o r.t r.h1 pv r.h1'/\(∀k,k<ops.size->k≠pj->dA ops k pj=false->dA ops pj k=false->(recs.getD k cZ).en.tk=[]/\(k<pj->(recs.getD k cZ).en.wr=[])/\∀id∈(recs.getD k cZ).en.wr,r.h'.objs id=none)/\
   ∀G' w' a',Trans G0 w0 h0 G' w' {r.h' with n:=h'.n,m:=h'.m}->bj G' {r.h' with n:=h'.n,m:=h'.m} w'->a'.tmps.size=N->a'.defers=a0.defers->Q (.panic [{v:=pv,recovered:=false}]) a' w'):
  ∀(fuel:Nat)(listed:Array Bool)(G:aT)(w:World)(a:Act),listed.size=ops.size->count ops.size (λk=>listed.getD k false)<=fuel->ED ops (λk=>listed.getD k false)->(∀k,D k=true->listed.getD k false=false)->
   a.tmps.size=N->a.defers=a0.defers->(∀d,aC G w (val (tU ops recs d) (λk=>listed.getD k false) ops.size (t0 d)) (a.tmps.getD d undef))->
   bj G (HS recs h0 ops.size h'.n h'.m (λk=>listed.getD k false)) w->Trans G0 w0 h0 G w (HS recs h0 ops.size h'.n h'.m (λk=>listed.getD k false))->
   (∀id,G.dom id->G0.dom id\/∃k,k<ops.size/\listed.getD k false=true/\(recs.getD k cZ).h1.n<=id/\id<(recs.getD k cZ).h1'.n)->
   (∀id,G.tdom id->G0.tdom id\/∃k,k<ops.size/\listed.getD k false=true/\(recs.getD k cZ).h1.m<=id/\id<(recs.getD k cZ).h1'.m)->
   wpAnyIn (rd ro) 0 P .any ops Q fuel listed a w:=by
 obtain ⟨a1,a2,a3,a4,a5,a6⟩:=jC hc;obtain ⟨pre,preEnd⟩:=EC hc;rw[Oo] at a1;have full:∀(listed:Array Bool)(G:aT)(w:World)(a:Act),(∀k,k<ops.size->listed.getD k false=true)->(∀k,D k=true->listed.getD k false=false)->a.tmps.size=N->a.defers=a0.defers->(∀d,aC G w (val (tU ops recs d) (λk=>listed.getD k false) ops.size (t0 d)) (a.tmps.getD d undef))->
   bj G (HS recs h0 ops.size h'.n h'.m (λk=>listed.getD k false)) w->Trans G0 w0 h0 G w (HS recs h0 ops.size h'.n h'.m (λk=>listed.getD k false))->Q .normal a w:=by
  intro listed G w a hall hlj hs hd ht R Tr;have hDf:∀i,D i=false:=by
   intro i;cases hi:D i with
   |false=>rfl
   |true=>
    obtain ⟨⟨d1,d2⟩,-⟩:=hD i hi;have:=hlj pj d1;rw[hall pj d2] at this;cases this
  have ho:(HS recs h0 ops.size h'.n h'.m (λk=>listed.getD k false)).objs=h'.objs:=by
   funext id;simp only[HS];rw[val_congr (S':=λ_=>true) hall,<-preEnd.o]
  have hk:∀t,t∈(HS recs h0 ops.size h'.n h'.m (λk=>listed.getD k false)).toks↔t∈h'.toks:=by
   intro t;rw[nD a1.symm,val_congr (S':=λ_=>true) hall,<-preEnd.k];simp
  refine hq hDf G w a (Tr.same rfl (λ_=>QL) ho.symm (λt=>(hk t).symm) (N4 _) (N4 _) Tr.n_le (N4 _) (N4 _) Tr.m_le) ?_ (R.same ho.symm λt x=>(hk t).2 x) hs hd;intro d;have:=ht d
  rwa [val_congr (S':=λ_=>true) hall,<-preEnd.t] at this
 have noready:∀(listed:Array Bool),listed.size=ops.size->Region.ready .any ops listed=[]->∀k,k<ops.size->listed.getD k false=true:=by
  intro listed hls hr k;induction k using Nat.strongRecOn with
  |_ k ih=>
   intro hk;cases hl:listed.getD k false with
   |true=>rfl
   |false=>
    exfalso;have ho:=O3 hk;have:k∈Region.ready .any ops listed:=by
     rw[ph ops listed T ho];refine ⟨?_,λe he hbd=>?_⟩
     ·have hk':k<listed.size:=by omega
      simp[hk'] at hl |-;exact hl
     ·have:=T.back k _ ho e he hbd;exact ih e.on this ae
    rw[hr] at this;cases this
 intro fuel;induction fuel with
 |zero=>
  intro listed G w a hls hcnt hcl hlj hs hd ht R Tr _ _;have hall:=yN (Nat.le_zero.1 hcnt);refine ⟨?_,full listed G w a hall hlj hs hd ht R Tr⟩;rw[List.eq_nil_iff_forall_not_mem];intro i hi;have hlt:i<ops.size:=by simp[Region.ready] at hi;exact hi.1
  rw[ph ops listed T (O3 hlt)] at hi;have h1:=hall i hlt;have h2:=hi.1;have hk':i<listed.size:=by omega
  simp[hk'] at h1 h2;rw[h1] at h2;cases h2
 |succ fuel ih=>
  intro listed G w a hls hcnt hcl hlj hs hd ht R Tr hdom htdom;refine ⟨λhr=>full listed G w a (noready listed hls hr) hlj hs hd ht R Tr,λi hi=>?_⟩;have hlt:i<ops.size:=by simp[Region.ready] at hi;exact hi.1
  have ho:=O3 hlt;have hltr:i<recs.length:=by omega
  have hr:=N5 hltr;obtain ⟨o',ho',tc,run⟩:=a2 i _ hr;rw[Oo] at ho' run;obtain rfl:ops[i]=o':=Rh (ho.symm.trans ho');rw[ph ops listed T ho] at hi;obtain ⟨hli,hedges⟩:=hi;have hil:i<listed.size:=by omega
  have hSi:listed.getD i false=false:=by simp[hil] at hli |-;exact hli
  have hgr:recs.getD i cZ=recs[i]:=by simp[List.getD,hr]
  generalize hrr:recs[i]=r at*
  have p:=pre i r hr;have ancS:=EE T hcl i _ ho hedges;have late:∀k,i<k->k<ops.size->listed.getD k false=true->dA ops i k=false:=by
   intro k h1 h2 h3;cases hb:dA ops i k with
   |false=>rfl
   |true=>
    have:=EE T hcl k _ (O3 h2) (hcl k _ (O3 h2) h3) i hb;rw[hSi] at this;cases this
  have early:∀k,k<i->listed.getD k false=false->dA ops k i=false:=by
   intro k h1 h3;cases hb:dA ops k i with
   |false=>rfl
   |true=>rw[ancS k hb] at h3;cases h3
  have apI:∀k,k<ops.size->((k<i/\listed.getD k false=false)\/(i<k/\listed.getD k false=true))->apart (recs.getD k cZ).en r.en:=by
   intro k hk h;rcases h with ⟨h1,h2⟩|⟨h1,h2⟩
   ·have:=ap k i h1 hlt (early k h1 h2);rwa [hgr] at this
   ·have:=(ap i k h1 hk (late k h1 hk h2)).symm;rwa [hgr] at this
  have hobj:∀id,id∈r.en.rd\/id∈r.en.wr->(HS recs h0 ops.size h'.n h'.m (λk=>listed.getD k false)).objs id=r.h.objs id:=by
   intro id hid;simp only[HS];rw[p.o];have none_of:∀k,k<ops.size->((k<i/\listed.getD k false=false)\/(i<k/\listed.getD k false=true))->oU recs id k=none:=by
    intro k hk h;have hap:=apI k hk h;simp only[oU];rw[Ob];rintro ⟨_,hw⟩;have:=hap.1 id hw;rcases hid with h|h
    ·exact this.1 h
    ·exact this.2 h
   refine gQ (λk h1 h2=>none_of k ae (.inl ⟨h1,h2⟩)) (Nat.le_of_lt hlt) λk h1 h2 h3=>?_;rcases Py i k with h|h
   ·exact none_of k h2 (.inr ⟨h,h3⟩)
   ·have:k=i:=by omega
    subst this;rw[hSi] at h3;cases h3
  have htok:∀t,t∈r.en.tk->(t∈(HS recs h0 ops.size h'.n h'.m (λk=>listed.getD k false)).toks↔t∈r.h.toks):=by
   intro t hid;rw[nD a1.symm];have none_of:∀k,k<ops.size->((k<i/\listed.getD k false=false)\/(i<k/\listed.getD k false=true))->kU recs t k=none:=by
    intro k hk h;have hap:=apI k hk h;have hkr:k<recs.length:=by omega
    obtain ⟨ok,_,tck,_⟩:=a2 k _ (N5 hkr);have hgk:recs.getD k cZ=recs[k]:=by simp[List.getD,N5 hkr]
    rw[hgk] at hap;simp only[kU,hgk];rw[Ob];rintro (hw|hw)
    ·exact hap.2.2 t (tck.tk t hw) hid
    ·exact hap.2.2 t (tck.tn t hw) hid
   have:=gQ (u:=kU recs t) (S:=λk=>listed.getD k false) (v:=decide (t∈h0.toks)) (λk h1 h2=>none_of k ae (.inl ⟨h1,h2⟩)) (Nat.le_of_lt hlt) λk h1 h2 h3=>by
    rcases Py i k with h|h
    ·exact none_of k h2 (.inr ⟨h,h3⟩)
    ·have:k=i:=by omega
     subst this;rw[hSi] at h3;cases h3
   rw[this,<-p.k];simp
  have htmp:∀d,d∈names ops ops[i]->val (tU ops recs d) (λk=>listed.getD k false) ops.size (t0 d)=r.t d:=by
   intro d hdn;rw[p.t];have none_of:∀k,k<ops.size->((k<i/\listed.getD k false=false)\/(i<k/\listed.getD k false=true))->tU ops recs d k=none:=by
    intro k hk h;simp only[tU];rw[Ob];intro hdst;rw[O3 hk] at hdst;have hne:k≠i:=by omega
    rcases T.tmp k i _ _ (O3 hk) ho hne d hdst hdn with hx|hx
    ·rcases h with ⟨h1,h2⟩|⟨h1,h2⟩
     ·rw[early k h1 h2] at hx;cases hx
     ·
      have:=ancS k hx;have:=nE T i _ ho hx;omega
    ·rcases h with ⟨h1,h2⟩|⟨h1,h2⟩
     ·have:=nE T k _ (O3 hk) hx;omega
     ·rw[late k h1 hk h2] at hx;cases hx
   refine gQ (λk h1 h2=>none_of k ae (.inl ⟨h1,h2⟩)) (Nat.le_of_lt hlt) λk h1 h2 h3=>?_;rcases Py i k with h|h
   ·exact none_of k h2 (.inr ⟨h,h3⟩)
   ·have:k=i:=by omega
    subst this;rw[hSi] at h3;cases h3
  obtain ⟨-,nm2,nm3⟩:=kd hc;have F:cB G r.h1 r.h1':=by
   obtain ⟨⟨b1,b2⟩,b3,b4⟩:=nm2 i r hr;constructor
   ·intro id c1 c2 hd';rcases hdom id hd' with hd'|⟨k,hk,hSk,d1,d2⟩
    ·exact F0.1 id ae ae hd'
    ·have hkr:k<recs.length:=by omega
     have hgk:recs.getD k cZ=recs[k]:=by simp[List.getD,N5 hkr]
     rw[hgk] at d1 d2;rcases Nat.lt_trichotomy k i with h|h|h
     ·have:=(nm3 k i _ _ h (N5 hkr) hr).1;omega
     ·subst h;rw[hSi] at hSk;cases hSk
     ·have:=(nm3 i k _ _ h hr (N5 hkr)).1;omega
   ·intro id c1 c2 hd';rcases htdom id hd' with hd'|⟨k,hk,hSk,d1,d2⟩
    ·exact F0.2 id ae ae hd'
    ·have hkr:k<recs.length:=by omega
     have hgk:recs.getD k cZ=recs[k]:=by simp[List.getD,N5 hkr]
     rw[hgk] at d1 d2;rcases Nat.lt_trichotomy k i with h|h|h
     ·have:=(nm3 k i _ _ h (N5 hkr) hr).2;omega
     ·subst h;rw[hSi] at hSk;cases hSk
     ·have:=(nm3 i k _ _ h hr (N5 hkr)).2;omega
  generalize hSdef:(λk=>listed.getD k false)=S at*
  have hSk:∀k,listed.getD k false=S k:=λk=>by rw[<-hSdef]
  let HSi:H:={HS recs h0 ops.size h'.n h'.m S with n:=r.h.n,m:=r.h.m}
  have Ri:bj G HSi w:=R.same rfl λ_ x=>x;have hsub:r.h1.sub HSi:=by
   refine ⟨λj o hj=>?_,λt ht'=>?_⟩
   ·show (HS recs h0 ops.size h'.n h'.m S).objs j=some o;rw[hobj j (tc.rd j (by rw[hj];rfl))];exact tc.sub.1 j o hj
   ·show t∈(HS recs h0 ops.size h'.n h'.m S).toks;rw[htok t (tc.tk t ht')];exact tc.sub.2 t ht'
  have hS':∀k,(listed.setIfInBounds i true).getD k false=(S k||k == i):=by
   intro k;rw[<-hSk];by_cases e:k=i
   ·subst e;simp[hil]
   ·simp[QJ,Ql e,e]
  generalize hSdef':(λk=>(listed.setIfInBounds i true).getD k false)=S';have hS2:∀k,S' k=(S k||k == i):=λk=>by rw[<-hSdef'];exact hS' k
  have hSi':S i=false:=by rw[<-hSk];exact hSi
  have apJ:∀j,i<j->j<ops.size->S j=true->apart (recs.getD j cZ).en r.en:=λj h1 h2 h3=>apI j h2 (.inr ⟨h1,(hSk j).trans h3⟩);have eobj:∀id,(HS recs h0 ops.size h'.n h'.m S').objs id=(HSi.patch r.h1 r.h1').objs id:=by
   intro id;have hv:=kP (u:=oU recs id) (v:=h0.objs id) hSi' hS2 hlt (λj h1 h2 h3 hne=>by
    have hap:=apJ j h1 h2 h3;simp only[oU];rw[Ob];rintro ⟨_,hw⟩;apply hne;simp only[oU,hgr];rw[Ob];rintro ⟨_,hw'⟩;exact (hap.1 id hw).2 hw')
   show val (oU recs id) S' ops.size (h0.objs id)=_;rw[hv];simp only[oU,hgr,H.patch];by_cases c:((r.h1.objs id).isSome\/(r.h1.n<=id/\id<r.h1'.n))
   ·by_cases hw:id∈r.en.wr
    ·simp[c,hw]
    ·simp only[c,hw,and_false,Od,Of,Option.getD_none];have hs:(r.h1.objs id).isSome:=by
      rcases c with c|c
      ·exact c
      ·exact absurd (tc.wr id c.1 c.2) hw
     rw[tc.chg id hs hw];show (HS recs h0 ops.size h'.n h'.m S).objs id=_;rw[hobj id (tc.rd id hs)];obtain ⟨o,hoo⟩:=QC.1 hs;rw[hoo];exact tc.sub.1 id o hoo
   ·simp only[c,false_and,Od,Option.getD_none];rfl
  have etok:∀tk,tk∈(HS recs h0 ops.size h'.n h'.m S').toks↔tk∈(HSi.patch r.h1 r.h1').toks:=by
   intro tk;have hv:=kP (u:=kU recs tk) (v:=decide (tk∈h0.toks)) hSi' hS2 hlt (λj h1 h2 h3 hne=>by
    have hap:=apJ j h1 h2 h3;have hjr:j<recs.length:=by omega
    obtain ⟨ok,_,tck,_⟩:=a2 j _ (N5 hjr);have hgk:recs.getD j cZ=recs[j]:=by simp[List.getD,N5 hjr]
    rw[hgk] at hap;simp only[kU,hgk];rw[Ob];intro hw;apply hne;simp only[kU,hgr];rw[Ob];intro hw';have h1:tk∈recs[j].en.tk:=hw.elim (tck.tk tk) (tck.tn tk);have h2:tk∈r.en.tk:=hw'.elim (tc.tk tk) (tc.tn tk);exact hap.2.2 tk h1 h2)
   rw[nD a1.symm,hv];have hm:=nD (recs:=recs) (h0:=h0) (ne:=h'.n) (me:=h'.m) (S:=S) a1.symm tk;simp only[H.patch,OS,Pe];simp only[kU,hgr];by_cases c:tk∈r.h1.toks\/tk∈r.h1'.toks
   ·rw[Oi c];simp only[Option.getD_some,Ov];constructor
    ·exact .inl
    ·rintro (h|⟨h1,h2⟩)
     ·exact h
     ·exact c.resolve_left (by simpa using h2)
   ·rw[Ob c];simp only[Option.getD_none];rw[<-hm];simp only[not_or] at c;constructor
    ·intro h;exact .inr ⟨h,by simpa using c.1⟩
    ·rintro (h|h)
     ·exact absurd h c.2
     ·exact h.1
  have nmi:=nm2 i r hr;have n0:=tc.n;have m0:=tc.m;have le0:=tc.le;have lem0:=tc.lem;have hle:=Tr.n_le;have hlem:=Tr.m_le;simp only[HS] at hle hlem;have after:∀G' w',Trans G w r.h1 G' w' r.h1'->bj G' r.h1' w'->Trans G w HSi G' w' (HSi.patch r.h1 r.h1')/\bj G' (HS recs h0 ops.size h'.n h'.m S') w'/\Trans G0 w0 h0 G' w' (HS recs h0 ops.size h'.n h'.m S'):=by
   intro G' w' T1 R1;obtain ⟨R2,T2⟩:=frame Ri hsub tc.n tc.m R1 T1 F;have T3:Trans G w {HS recs h0 ops.size h'.n h'.m S with n:=h0.n,m:=h0.m} G' w' (HS recs h0 ops.size h'.n h'.m S'):=
    T2.same rfl (λ_=>QL) (funext eobj) etok (by show h0.n<=r.h.n;omega) (by show r.h1'.n<=h'.n;omega) hle (by show h0.m<=r.h.m;omega) (by show r.h1'.m<=h'.m;omega) hlem
   have T4:=Tr.trans' (h'':=HS recs h0 ops.size h'.n h'.m S') (h2:={HS recs h0 ops.size h'.n h'.m S with n:=h0.n,m:=h0.m}) R0 rfl (λ_=>QL) (N4 _) (N4 _) hle (N4 _) (N4 _) hlem R T3;exact ⟨T2,R2.same (funext eobj) λt x=>(etok t).1 x,T4⟩
  have tset:∀d,val (tU ops recs d) S' ops.size (t0 d)=bL (λd=>val (tU ops recs d) S ops.size (t0 d)) ops[i].dst r.x d:=by
   intro d;have hv:=kP (u:=tU ops recs d) (v:=t0 d) hSi' hS2 hlt (λj h1 h2 h3 hne=>by
    simp only[tU];rw[Ob];intro hdj;apply hne;simp only[tU];rw[Ob];intro hdi;rw[ho] at hdi;rw[O3 h2] at hdj;rcases T.tmp i j _ _ ho (O3 h2) ae d hdi (by simp only[names,OS];left;left;rw[show ops[j].dst=some d from hdj];simp) with hx|hx
    ·rw[late j h1 h2 ((hSk j).trans h3)] at hx;cases hx
    ·have:=nE T i _ ho hx;omega)
   rw[hv];simp only[tU,ho,Option.bind_some,hgr];cases hd':ops[i].dst with
   |none=>simp[bL]
   |some k=>
    simp only[bL,upd];by_cases e:d=k
    ·subst e;simp
    ·rw[Ob e,Ob (by simpa using Ql e)];rfl
  cases hDi:D i with
  |true=>
   obtain ⟨⟨d1,d2⟩,d3⟩:=hD i hDi;have eij:i=pj:=by
    rcases d3 with e|⟨k,dk,e⟩
    ·exact e
    ·exfalso;have h1:listed.getD k false=true:=ancS k e;have h2:=hlj k dk;rw[h1] at h2;cases h2
   subst eij;obtain ⟨pr,un,hqp⟩:=hP d1 _ r ho hr;refine pr G w a (λd hd'=>by rw[<-htmp d hd'];exact ht d) (Ri.sub hsub) F _ Q (λG' w' T1 R1=>?_) ro;obtain ⟨-,R3,T3⟩:=after G' w' T1 R1;have px:=lT hr tc p;have unS:∀k,k<ops.size->((k<i+1/\S' k=false)\/(i+1<=k/\S' k=true))->(recs.getD k cZ).en.tk=[]/\∀id∈(recs.getD k cZ).en.wr,r.h'.objs id=none:=by
    intro k hk h;rw[hS2] at h;have hne:k≠i:=by
     rintro rfl;rcases h with ⟨h1,h2⟩|⟨h1,h2⟩
     ·simp at h2
     ·omega
    have hbe:(k == i)=false:=by simpa using hne
    rw[hbe,Qe] at h;rcases h with ⟨h1,h2⟩|⟨h1,h2⟩
    ·have:=un k hk hne (early k ae ((hSk k).trans h2)) (by
      cases hb:dA ops i k with
      |false=>rfl
      |true=>have:=nE T k _ (O3 hk) hb;omega)
     exact ⟨this.1,this.2.2⟩
    ·have:=un k hk hne (by
      cases hb:dA ops k i with
      |false=>rfl
      |true=>have:=nE T i _ ho hb;omega) (late k ae hk ((hSk k).trans h2))
     exact ⟨this.1,this.2.2⟩
   have eo:∀id o,r.h'.objs id=some o->(HS recs h0 ops.size h'.n h'.m S').objs id=some o:=by
    intro id o hid;have none_of:∀k,k<ops.size->((k<i+1/\S' k=false)\/(i+1<=k/\S' k=true))->oU recs id k=none:=by
     intro k hk h;simp only[oU];rw[Ob];rintro ⟨_,hw⟩;have:=(unS k hk h).2 id hw;rw[this] at hid;cases hid
    have e:=gQ (v:=h0.objs id) (λk h1 h2=>none_of k ae (.inl ⟨h1,h2⟩)) ae λk h1 h2 h3=>none_of k h2 (.inr ⟨h1,h3⟩);show val (oU recs id) S' ops.size (h0.objs id)=some o;rw[e,<-px.o];exact hid
   have et:∀tk,tk∈(HS recs h0 ops.size h'.n h'.m S').toks↔tk∈r.h'.toks:=by
    intro tk;rw[nD a1.symm];have none_of:∀k,k<ops.size->((k<i+1/\S' k=false)\/(i+1<=k/\S' k=true))->kU recs tk k=none:=by
     intro k hk h;have hkr:k<recs.length:=by omega
     obtain ⟨ok,_,tck,_⟩:=a2 k _ (N5 hkr);have hgk:recs.getD k cZ=recs[k]:=by simp[List.getD,N5 hkr]
     have hz:=(unS k hk h).1;rw[hgk] at hz;simp only[kU,hgk];rw[Ob];rintro (hw|hw)
     ·have:=tck.tk tk hw;rw[hz] at this;cases this
     ·have:=tck.tn tk hw;rw[hz] at this;cases this
    have e:=gQ (v:=decide (tk∈h0.toks)) (λk h1 h2=>none_of k ae (.inl ⟨h1,h2⟩)) ae λk h1 h2 h3=>none_of k h2 (.inr ⟨h1,h3⟩);rw[e,<-px.k];simp
   have hsubX:H.sub {r.h' with n:=h'.n,m:=h'.m} (HS recs h0 ops.size h'.n h'.m S'):=⟨λj o hj=>eo j o hj,λt x=>(et t).2 x⟩;refine hqp G' w' a (T3.toSub hsubX rfl rfl) (R3.sub hsubX) hs hd
  |false=>
  refine run hDi G w a (λd hd'=>by rw[<-htmp d hd'];exact ht d) (Ri.sub hsub) F _ Q (λG' w' v T1 R1 V=>?_) ro;obtain ⟨T2,R2,T4⟩:=after G' w' T1 R1;have hput:cG G' w' (bL (λd=>val (tU ops recs d) S ops.size (t0 d)) ops[i].dst r.x) (a.put ops[i].dst v):=
   ow (cG.mono Ri T2 ht) V λk hk=>by rw[hs];exact hN i _ k ho hk
  refine ih (listed.setIfInBounds i true) G' w' _ (by simpa using hls) ?_ ?_ ?_ (by rw[lS];exact hs) (by rw[put_defers];exact hd) ?_ ?_ ?_ ?_ ?_
  ·rw[hSdef'];have:=count_insert hSi' hS2 hlt;omega
  ·rw[hSdef'];intro j oj hoj hj e he hbd;rw[hS2] at hj |-;by_cases ej:j=i
   ·subst ej;obtain rfl:ops[j]=oj:=Rh (ho.symm.trans hoj);rw[<-hSk,hedges e he hbd];rfl
   ·have:S j=true:=by simpa [ej] using hj
    rw[hcl j oj hoj this e he hbd];rfl
  ·intro k d1;rw[show (listed.setIfInBounds i true).getD k false=S' k from congrFun hSdef' k,hS2,<-hSk,hlj k d1];have:k≠i:=by rintro rfl;rw[d1] at hDi;cases hDi
   simpa using this
  ·rw[hSdef'];intro d;rw[tset d];exact hput d
  ·rw[hSdef'];exact R2
  ·rw[hSdef'];exact T4
  ·intro id hd';rcases T1.dom_new id hd' with h|h
   ·rcases hdom id h with h|⟨k,h1,h2,h3⟩
    ·exact .inl h
    ·exact .inr ⟨k,h1,by rw[hS',<-hSk,h2];rfl,h3⟩
   ·exact .inr ⟨i,hlt,by rw[hS'];simp,by rw[hgr];exact h⟩
  ·intro id hd';rcases T1.tdom_new id hd' with h|h
   ·rcases htdom id h with h|⟨k,h1,h2,h3⟩
    ·exact .inl h
    ·exact .inr ⟨k,h1,by rw[hS',<-hSk,h2];rfl,h3⟩
   ·exact .inr ⟨i,hlt,by rw[hS'];simp,by rw[hgr];exact h⟩
end
end Go.Av
end
section
namespace Go.Av
open Go
theorem NL(s:List UInt8)(i:Nat):(ByteArray.mk s.toArray)[i]! =s.getD i 0:=by
 by_cases h:i<s.length
 ·have h2:i<(ByteArray.mk s.toArray).size:=by simpa [ByteArray.size] using h
  rw[getElem!_pos _ i h2];simp[ByteArray.getElem_eq_getElem_data,h]
 ·have h2:¬i<(ByteArray.mk s.toArray).size:=by simpa [ByteArray.size] using h
  rw[getElem!_neg _ i h2];simp[h];rfl
theorem Kc(P:Program)(w:World)(s:List UInt8)(n:Int):(Extern.BytealgIndexByte.indexByte #[.string ⟨s.toArray⟩,.int .u8 n]).run P w= .ok (.int .i64 (match (List.range s.length).find? λi=>s.getD i 0 == UInt8.ofNat n.toNat with|some i=>(i:Int)|none=> -1)) w:=by
 have hs:(ByteArray.mk s.toArray).size=s.length:=by simp[ByteArray.size]
 have hf:(λi=>(ByteArray.mk s.toArray)[i]! == n.toNat.toUInt8)=λi=>s.getD i 0 == UInt8.ofNat n.toNat:=by
  funext i;rw[NL]
 change Sem.run P (match (List.range (ByteArray.mk s.toArray).size).find? λi=>(ByteArray.mk s.toArray)[i]! == n.toNat.toUInt8 with|some i=>pure (goInt i)|none=>pure (goInt (-1))) w=_;rw[hs,hf];cases (List.range s.length).find? λi=>s.getD i 0 == UInt8.ofNat n.toNat<;>rfl
open Classical in
section
variable{P:Program}{G:aT}{w:World}{t:Tm}{a:Act}{o:Oper}{h:H}{x:AV}
theorem EF{op:AOp}(h:fU P o=some op):∃k xs,op= .raw k xs:=by
 unfold fU at h
 repeat' split at h
 all_goals first
  |(cases h;done)
  |(cases h;exact ⟨_,_,rfl⟩)
  |(simp only[Oc] at h;obtain ⟨_,_,rfl⟩:=h;exact ⟨_,_,rfl⟩)
theorem CI(k:RK)(xs:List Opd):cOp P o≠some (.raw k xs):=by
 intro h;unfold cOp at h
 repeat' split at h
 all_goals first
  |(cases h;done)
  |(simp at h;done)
  |skip
theorem yO{op:AOp}(h:fU P o=some op):∀c,o.op≠ .defer c:=by
 intro c e;unfold fU at h;rw[e] at h;cases h
theorem wL(ht:cG G w t a){e:TypeId}:∀{l:List (Nat × Operand)}{ps:List (Nat × Nat)}{xs:List Opd}{cs cs':List AV}{vs:List Value},jV P e l=some (ps,xs)->mD ps (xs.map (ev t)) cs=some cs'->aE G w cs vs->
   ∃vs',Instr.fill (λi=>some (i*P.cellsOf e,P.cellsOf e)) vs.toArray (l.map λp=>(p.1,a.eval p.2))=some vs'.toArray/\aE G w cs' vs'
 |[],ps,xs,cs,cs',vs,h1,h2,h3=>by
  simp only[jV,Om,Ow] at h1;obtain ⟨rfl,rfl⟩:=h1;simp[mD] at h2;subst h2;exact ⟨vs,by simp[Instr.fill],h3⟩
 |(i,x)::l,ps,xs,cs,cs',vs,h1,h2,h3=>by
  simp only[jV] at h1;split at h1
  ·rename_i b r hb hr;simp only[Om,Ow] at h1;obtain ⟨rfl,rfl⟩:=h1;simp only[OJ,mD] at h2;split at h2
   ·rename_i hc;obtain ⟨c1,c2,c3⟩:=hc;have rx:=aK hb ht;obtain ⟨s1,s2⟩:=eE rx c3;have hsz:(a.eval x).cells.size=P.cellsOf e:=by have:=s1.length;simpa [c1] using this
    have hl:=h3.length;have hnew:aE G w (setAt cs (i*P.cellsOf e) (cellsOf (ev t b))) (vs.take (i*P.cellsOf e)++(a.eval x).cells.toList++vs.drop (i*P.cellsOf e+P.cellsOf e)):=by
     unfold setAt;rw[c1];exact ((h3.take _).append s1).append (h3.drop _)
    obtain ⟨vs',e1,e2⟩:=wL ht (ps:=r.1) (xs:=r.2) hr h2 hnew;refine ⟨vs',?_,e2⟩;rw[OJ,rE (place:=λi=>some (i*P.cellsOf e,P.cellsOf e)) (off:=i*P.cellsOf e) rfl hsz ar];exact e1
   ·cases h2
  ·cases h1
theorem lU{name:String}{g:Array Value->Sem Value}(hg:Extern.allGenericRows.lookup name=none)(ht:Extern.allTypedRows.lookup name=none)(ha:Extern.allRows.lookup name=some g)(hn:Extern.allNextRows.lookup name=none)
  {fn:Func} (h:fn.name=name) (ho:Extern.allNextRows.lookup fn.origin=none):Extern.find fn=some g/\Extern.findNext fn=none:=by
 unfold Extern.find Extern.findNext;simp[h,hg,ht,ha,hn,ho]
theorem HE{k:FloatKind}{xs:List Opd}(hc:fU P o=some (.raw (.i2f k) xs)):∃src dst z b q,o.op= .convert src dst z/\opd P src z=some b/\P.underlying src=some (.int q)/\P.underlying dst=some (.float k)/\xs=[b]:=by
 unfold fU at hc
 repeat' split at hc
 all_goals first
  |(cases hc;done)
  |(simp at hc;done)
  |(cases hc;exact ⟨_,_,_,_,_,‹_›,‹_›,‹_›,‹_›,rfl⟩)
theorem HF{k:IntKind}{xs:List Opd}(hc:fU P o=some (.raw (.f2i k) xs)):∃src dst z b q,o.op= .convert src dst z/\opd P src z=some b/\P.underlying src=some (.float q)/\P.underlying dst=some (.int k)/\xs=[b]:=by
 unfold fU at hc
 repeat' split at hc
 all_goals first
  |(cases hc;done)
  |(simp at hc;done)
  |(cases hc;exact ⟨_,_,_,_,_,‹_›,‹_›,‹_›,‹_›,rfl⟩)
theorem EG{sz len:Nat}{n:Option Nat}{xs:List Opd}(hc:fU P o=some (.raw (.aidx sz n len) xs)):∃ty z i b c e,o.op= .index ty z i/\opd P ty z=some b/\opd P 0 i=some c/\P.underlying ty=some (.array len e)/\(P.info? e).isSome=true/\(P.underlying e).isSome=true/\sz=P.cellsOf e/\n=(if bQ P e then some (P.cellsOf e) else none)/\xs=[b,c]:=by
 unfold fU at hc
 repeat' split at hc
 all_goals first
  |(cases hc;done)
  |(simp at hc;done)
  |(rename_i hq hg;cases hc;exact ⟨_,_,_,_,_,_,‹_›,‹_›,‹_›,‹_›,hq.1,hq.2,rfl,by simp[hg],rfl⟩)
theorem CJ{sz len:Nat}{xs:List Opd}(hc:fU P o=some (.raw (.paddr sz len) xs)):∃ty z i b c e,o.op= .indexAddr ty z i/\opd P 0 z=some b/\opd P 0 i=some c/\P.underlying ty=some (.array len e)/\(P.info? e).isSome=true/\sz=P.cellsOf e/\xs=[b,c]:=by
 unfold fU at hc
 repeat' split at hc
 all_goals first
  |(cases hc;done)
  |(simp at hc;done)
  |(rename_i hq;cases hc;exact ⟨_,_,_,_,_,_,‹_›,‹_›,‹_›,‹_›,hq,rfl,rfl⟩)
theorem yP{zero:List AV}{ps:List (Nat × Nat)}{xs:List Opd}(hc:fU P o=some (.raw (.abuild zero ps) xs)):∃ty parts n e z,o.op= .build ty parts/\P.underlying ty=some (.array n e)/\(P.info? ty).bind (·.zero)=some z/\dd P ty z=some (.agg zero)/\jV P e parts.toList=some (ps,xs)/\(P.info? e).isSome=true:=by
 unfold fU at hc
 repeat' split at hc
 all_goals first
  |(cases hc;done)
  |(simp at hc;done)
  |(rename_i hq;cases hc;exact ⟨_,_,_,_,_,‹_›,‹_›,‹_›,‹_›,‹_›,hq⟩)
theorem EH{xs:List Opd}(hc:fU P o=some (.raw .cplx xs)):∃c z1 z2 b1 b2,o.op= .call c/\c.callee= .builtin .complex/\c.args.toList=[z1,z2]/\opd P 0 z1=some b1/\opd P 0 z2=some b2/\xs=[b1,b2]:=by
 unfold fU at hc
 repeat' split at hc
 all_goals first
  |(cases hc;done)
  |(simp at hc;done)
  |(cases hc;exact ⟨_,_,_,_,_,‹_›,‹_›,‹_›,‹_›,‹_›,rfl⟩)
theorem CL{re:Bool}{xs:List Opd}(hc:fU P o=some (.raw (.cpart re) xs)):∃c z b,o.op= .call c/\c.callee= .builtin (if re then .real else .imag)/\c.args.toList=[z]/\opd P 0 z=some b/\xs=[b]:=by
 unfold fU at hc
 repeat' split at hc
 all_goals first
  |(cases hc;done)
  |(simp at hc;done)
  |(simp only[Oc,Om,AOp.raw.injEq,RK.cpart.injEq] at hc;obtain ⟨b,hb,rfl,rfl⟩:=hc;exact ⟨_,_,_,‹_›,by simpa using ‹_›,‹_›,hb,rfl⟩)
theorem wM{k:RK}{xs:List Opd}(hk:k= .fbits\/k= .fofbits)(hc:fU P o=some (.raw k xs)):∃c z b f fn,o.op= .call c/\c.callee= .value (.func f)/\c.args.toList=[z]/\opd P 0 z=some b/\xs=[b]/\P.funcs[f]? =some fn/\fn.body.isNone=true/\fn.origin= "" /\fn.name=(match k with| .fbits=> "math.Float64bits" |_=> "math.Float64frombits"):=by
 rcases hk with rfl|rfl;all_goals
  unfold fU at hc
  repeat' split at hc
  all_goals first
   |(cases hc;done)
   |(simp at hc;done)
   |(rename_i hq;simp only[Oc,Om,AOp.raw.injEq,PC] at hc;obtain ⟨b,hb,rfl⟩:=hc;exact ⟨_,_,_,_,_,‹_›,‹_›,‹_›,hb,rfl,‹_›,hq.1,hq.2.2,hq.2.1⟩)
theorem CM{xs:List Opd}(hc:fU P o=some (.raw .ibyte xs)):∃c z1 z2 b1 b2 f fn,o.op= .call c/\c.callee= .value (.func f)/\c.args.toList=[z1,z2]/\opd P 0 z1=some b1/\opd P 0 z2=some b2/\xs=[b1,b2]/\P.funcs[f]? =some fn/\fn.body.isNone=true/\fn.origin= "" /\fn.name= "internal/bytealg.IndexByteString" :=by
 unfold fU at hc
 repeat' split at hc
 all_goals first
  |(cases hc;done)
  |(simp at hc;done)
  |(cases hc;rename_i hq _ _ _ _ _ _;exact ⟨_,_,_,_,_,_,_,‹_›,‹_›,‹_›,‹_›,‹_›,rfl,‹_›,hq.1,hq.2.2,hq.2.1⟩)
  |(cases hc;rename_i hq _ _ _ _;exact ⟨_,_,_,_,_,_,_,‹_›,‹_›,‹_›,‹_›,‹_›,rfl,‹_›,hq.1,hq.2.2,hq.2.1⟩)
theorem HG{len:Nat}{xs:List Opd}(hc:fU P o=some (.raw (.s2a len) xs)):∃arr z b e,o.op= .sliceToArrayPointer arr z/\opd P 0 z=some b/\P.underlying arr=some (.array len e)/\xs=[b]:=by
 unfold fU at hc
 repeat' split at hc
 all_goals first
  |(cases hc;done)
  |(simp at hc;done)
  |(cases hc;exact ⟨_,_,_,_,‹_›,‹_›,‹_›,rfl⟩)
theorem CN{neg:Bool}{n:Nat}{k:EK}{xs:List Opd}(hc:fU P o=some (.raw (.eqarr neg n k) xs)):∃op xT x y yT b c e,o.op= .binOp op xT x y yT/\opd P xT x=some b/\opd P yT y=some c/\P.underlying xT=some (.array n e)/\iE P e=some k/\P.eqGuardType P.depth xT=false/\(P.info? e).isSome=true/\P.cellsOf e=1/\(op= .eql/\neg=false\/op= .neq/\neg=true)/\xs=[b,c]:=by
 unfold fU at hc
 repeat' split at hc
 all_goals first
  |(cases hc;done)
  |(simp at hc;done)
  |(cases hc;have hq:= ‹P.eqGuardType P.depth _=false/\(P.info? _).isSome=true/\P.cellsOf _=1›;exact ⟨_,_,_,_,_,_,_,_,‹_›,‹_›,‹_›,‹_›,‹_›,hq.1,hq.2.1,hq.2.2,.inl ⟨rfl,rfl⟩,rfl⟩)
  |(cases hc;have hq:= ‹P.eqGuardType P.depth _=false/\(P.info? _).isSome=true/\P.cellsOf _=1›;exact ⟨_,_,_,_,_,_,_,_,‹_›,‹_›,‹_›,‹_›,‹_›,hq.1,hq.2.1,hq.2.2,.inr ⟨rfl,rfl⟩,rfl⟩)
theorem CO{d n:Nat}{e:TypeId}{k:EK}{xT:TypeId}{X Y:Array Value}{xs ys:List AV}{b:Bool}(hu:P.underlying xT=some (.array n e))(hi:(P.info? e).isSome=true)(hce:P.cellsOf e=1)(hk:iE P e=some k)
  (r1:aE G w xs X.toList) (r2:aE G w ys Y.toList) (h:bw (List.replicate n k) xs ys=some b):(Op.equalIn (d+2) xT (.agg X) (.agg Y)).run P w= .ok b w:=by
 have heq:∀{x y:AV}{v u:Value}{b:Bool},aC G w x v->aC G w y u->iX k x y=some b->(Op.equalIn (d+1) e v u).run P w= .ok b w:=λr1 r2 h=>nz hk r1 r2 h;rw[show d+2=(d+1)+1 from rfl];generalize d+1=q at heq;simp only[Op.equalIn,Sem.run_bind,run_underlying hu,Result.andThen_ok,cH P w e hi,hce];rw[Std.Legacy.Range.forIn_eq_forIn_range'];simp only[Std.Legacy.Range.size,Nat.sub_zero,Nat.add_sub_cancel,Nat.div_one,O4];have hL:∃i m,List.range' 0 n 1=List.range' i m/\aE G w xs (X.toList.drop i)/\aE G w ys (Y.toList.drop i)/\bw (List.replicate m k) xs ys=some b:=⟨0,n,rfl,by simpa using r1,by simpa using r2,h⟩;clear r1 r2 h hu;generalize List.range' 0 n 1=L at*
 induction L generalizing xs ys b with
 |nil=>
  obtain ⟨i,m,hL,q1,q2,h⟩:=hL;cases m with
  |succ m=>simp[Qz] at hL
  |zero=>
   cases xs<;>cases ys<;>simp only[List.replicate_zero,bw] at h<;>first|(cases h;done)|skip
   cases h;simp
 |cons j L ih=>
  obtain ⟨i,m,hL,q1,q2,h⟩:=hL;cases m with
  |zero=>simp at hL
  |succ m=>
   rw[Qz] at hL;simp only[Pf] at hL;obtain ⟨rfl,hL⟩:=hL;rw[List.replicate_succ] at h;cases xs with
   |nil=>simp[bw] at h
   |cons x xs=>
    cases ys with
    |nil=>simp[bw] at h
    |cons y ys=>
     simp only[aE] at q1 q2;obtain ⟨v,vs,e1,r1,q1⟩:=q1;obtain ⟨u,us,e2,r2,q2⟩:=q2;have g1:X[j]? =some v:=by
      have:=Pj (λl=>l[0]?) e1;simpa using this
     have g2:Y[j]? =some u:=by
      have:=Pj (λl=>l[0]?) e2;simpa using this
     have t1:X.toList.drop (j+1)=vs:=by
      have:=Pj (List.drop 1) e1;simpa [PK] using this
     have t2:Y.toList.drop (j+1)=us:=by
      have:=Pj (List.drop 1) e2;simpa [PK] using this
     simp only[bw] at h;split at h
     ·rename_i p c hp hc;cases h;have rec':=ih ⟨j+1,m,hL,t1▸q1,t2▸q2,hc⟩;simp only[List.forIn_cons,Sem.run_bind,dQ hk g1,dQ hk g2,Result.andThen_ok,heq r1 r2 hp];cases p
      ·simp
      ·simpa using rec'
     ·cases h
theorem EI:∀{xs:List AV}{vs:List Value},aL G w 1 xs vs->xs.all cL=true->aE G w xs vs
 |[],vs,h,_=>by simpa [aL,aE] using h
 |x::xs,vs,h,hc=>by
  simp only[List.all_cons,Oh] at hc;simp only[aL] at h;obtain ⟨v,us,rfl,hv,hx,hr⟩:=h;have h1:=dU hx (.inl hc.1);have e:cellsOf x=[x]:=by cases x<;>first|rfl|(simp [cL] at hc)
  rw[e] at h1;exact aE.append h1 (EI hr hc.2)
theorem yQ:Extern.allGenericRows.lookup "internal/bytealg.IndexByteString" =none/\Extern.allTypedRows.lookup "internal/bytealg.IndexByteString" =none/\Extern.allNextRows.lookup "internal/bytealg.IndexByteString" =none:=⟨by kernel_rfl,by kernel_rfl,by kernel_rfl⟩
theorem Ll:Extern.allRows.lookup "internal/bytealg.IndexByteString" =some Extern.BytealgIndexByte.indexByte:=by kernel_rfl
theorem EJ{c:Call}{z1 z2:Operand}{f:FuncId}{fn:Func}{g:Array Value->Sem Value}{v:Value}{ty:TypeId}(hcal:c.callee= .value (.func f))(ha:c.args= #[z1,z2])(hf:P.funcs[f]? =some fn)(hb:fn.body.isNone=true)(hn:fn.name≠ "runtime.NumGoroutine")
  (h1:Extern.find fn=some g) (h2:Extern.findNext fn=none) (hg:(g #[a.eval z1,a.eval z2]).run P w= .ok v w):(do let d <-resolve a.eval c ty;invoke d.target d.args:Sem Next).run P w= .ok (.value v) w:=by
 have hb':fn.body=none:=by simpa using hb
 have he:a.eval (.func f)= .func (.func f) #[] #[]:=rfl;simp[resolve,hcal,ha,he,Deferred.ofValue,invoke,callFunc,hf,hn,hb',h1,h2,hg]
theorem mF{k:IntKind}{n:Int}{v:Value}(h:aC G w (.int k n) v):v= .int k n:=by simpa [aC] using h
theorem po{u v:Value}(h:aC G w (.sc u) v):v=u:=by simpa [aC] using h
theorem yR:Extern.allNextRows.lookup "" =none:=by kernel_rfl
theorem yS:Extern.allGenericRows.lookup "math.Float64bits" =none/\Extern.allTypedRows.lookup "math.Float64bits" =none/\Extern.allNextRows.lookup "math.Float64bits" =none:=⟨by kernel_rfl,by kernel_rfl,by kernel_rfl⟩
theorem yU:Extern.allGenericRows.lookup "math.Float64frombits" =none/\Extern.allTypedRows.lookup "math.Float64frombits" =none/\Extern.allNextRows.lookup "math.Float64frombits" =none:=⟨by kernel_rfl,by kernel_rfl,by kernel_rfl⟩
theorem Lm:Extern.allRows.lookup "math.Float64bits" =some Extern.MathFloatBits.float64bits:=by kernel_rfl
theorem Ln:Extern.allRows.lookup "math.Float64frombits" =some Extern.MathFloatBits.float64frombits:=by kernel_rfl
theorem wN{c:Call}{z:Operand}{f:FuncId}{fn:Func}{g:Array Value->Sem Value}{v:Value}{ty:TypeId}(hcal:c.callee= .value (.func f))(ha:c.args= #[z])(hf:P.funcs[f]? =some fn)(hb:fn.body.isNone=true)(hn:fn.name≠ "runtime.NumGoroutine")
  (h1:Extern.find fn=some g) (h2:Extern.findNext fn=none) (hg:(g #[a.eval z]).run P w= .ok v w):(do let d <-resolve a.eval c ty;invoke d.target d.args:Sem Next).run P w= .ok (.value v) w:=by
 have hb':fn.body=none:=by simpa using hb
 have he:a.eval (.func f)= .func (.func f) #[] #[]:=rfl;simp[resolve,hcal,ha,he,Deferred.ofValue,invoke,callFunc,hf,hn,hb',h1,h2,hg]
theorem yV{k:IntKind}{n:Int}:aC G w (.int k n) (.int k n):=by simp[aC]
theorem wO{u:Value}:aC G w (.sc u) u:=by simp[aC]
theorem CQ{k:RK}{xs:List Opd}(hc:fU P o=some (.raw k xs))(hx:iu k (xs.map (ev t))=some x)(ht:cG G w t a):Plain P G w a o x:=by
 cases k with
 |i2f k=>
  obtain ⟨src,dst,z,b,q,hop,h1,h2,h3,rfl⟩:=HE hc;have r1:=aK h1 ht;simp only[OJ,OQ,iu] at hx;split at hx<;>try (cases hx;done)
  rename_i e;simp only[Pf,Qk] at e;rw[e] at r1;cases hx;refine ⟨_,?_,wO⟩;simp only[execOp,hop,mF r1];simp[run_convert_int_float w src dst _ _ _ (by rw[h2];rfl) h3]
 |f2i k=>
  obtain ⟨src,dst,z,b,q,hop,h1,h2,h3,rfl⟩:=HF hc;have r1:=aK h1 ht;simp only[OJ,OQ,iu] at hx;split at hx<;>try (cases hx;done)
  rename_i e;simp only[Pf,Qk] at e;rw[e] at r1;simp only[Oc] at hx;obtain ⟨n,hn,rfl⟩:=hx;refine ⟨_,?_,yV⟩;simp only[execOp,hop,po r1];simp[run_convert_float_int w src dst _ _ _ _ (by rw[h2];rfl) h3 hn]
 |cplx=>
  obtain ⟨c,z1,z2,b1,b2,hop,hcal,ha,h1,h2,rfl⟩:=EH hc;have r1:=aK h1 ht;have r2:=aK h2 ht;have ha':c.args= #[z1,z2]:=by rw[<-Array.toArray_toList (xs:=c.args),ha]
  simp only[OJ,OQ,iu] at hx;split at hx<;>try (cases hx;done)
  rename_i e;simp only[Pf,Qk] at e;rw[e.1] at r1;rw[e.2] at r2;split at hx<;>cases hx;rename_i ek;subst ek;refine ⟨_,?_,wO⟩;simp[execOp,hop,resolve,hcal,ha',po r1,po r2,invoke,builtin,run_complex]
 |cpart re=>
  obtain ⟨c,z,b,hop,hcal,ha,h1,rfl⟩:=CL hc;have r1:=aK h1 ht;have ha':c.args= #[z]:=by rw[<-Array.toArray_toList (xs:=c.args),ha]
  simp only[OJ,OQ,iu] at hx;split at hx<;>try (cases hx;done)
  rename_i e;simp only[Pf,Qk] at e;rw[e] at r1;cases hx;cases re
  ·refine ⟨_,?_,wO⟩;simp at hcal;simp[execOp,hop,resolve,hcal,ha',po r1,invoke,builtin,run_imag]
  ·refine ⟨_,?_,wO⟩;simp at hcal;simp[execOp,hop,resolve,hcal,ha',po r1,invoke,builtin,run_real]
 |fbits=>
  obtain ⟨c,z,b,f,fn,hop,hcal,ha,h1,rfl,hf,hb,ho,hn⟩:=wM (.inl rfl) hc;obtain ⟨e1,e2⟩:=lU yS.1 yS.2.1 Lm yS.2.2 hn (by rw[ho];exact yR);have r1:=aK h1 ht;have ha':c.args= #[z]:=by rw[<-Array.toArray_toList (xs:=c.args),ha]
  simp only[OJ,OQ,iu] at hx;split at hx<;>try (cases hx;done)
  rename_i e;simp only[Pf,Qk] at e;rw[e] at r1;cases hx;refine ⟨_,?_,yV⟩;simp only[execOp,hop];exact wN hcal ha' hf hb (by rw[hn];simp) e1 e2 (by rw[po r1];rfl)
 |fofbits=>
  obtain ⟨c,z,b,f,fn,hop,hcal,ha,h1,rfl,hf,hb,ho,hn⟩:=wM (.inr rfl) hc;obtain ⟨e1,e2⟩:=lU yU.1 yU.2.1 Ln yU.2.2 hn (by rw[ho];exact yR);have r1:=aK h1 ht;have ha':c.args= #[z]:=by rw[<-Array.toArray_toList (xs:=c.args),ha]
  simp only[OJ,OQ,iu] at hx;split at hx<;>try (cases hx;done)
  rename_i e;simp only[Pf,Qk] at e;rw[e] at r1;cases hx;refine ⟨_,?_,wO⟩;simp only[execOp,hop];exact wN hcal ha' hf hb (by rw[hn];simp) e1 e2 (by rw[mF r1];rfl)
 |ibyte=>
  obtain ⟨c,z1,z2,b1,b2,f,fn,hop,hcal,ha,h1,h2,rfl,hf,hb,ho,hn⟩:=CM hc;obtain ⟨e1,e2⟩:=lU yQ.1 yQ.2.1 Ll yQ.2.2 hn (by rw[ho];exact yR);have r1:=aK h1 ht;have r2:=aK h2 ht;have ha':c.args= #[z1,z2]:=by rw[<-Array.toArray_toList (xs:=c.args),ha]
  simp only[OJ,OQ,iu] at hx;split at hx<;>try (cases hx;done)
  rename_i s n q;simp only[Pf,Qk] at q;rw[q.1] at r1;rw[q.2] at r2;split at hx<;>cases hx;rename_i hq;refine ⟨_,?_,yV⟩;simp only[execOp,hop];refine EJ hcal ha' hf hb (by rw[hn];simp) e1 e2 ?_;have r1':a.eval z1= .string ⟨s.toArray⟩:=by simpa [aC] using r1
  rw[r1',mF r2];exact Kc P w s n
 |aidx sz n len=>
  obtain ⟨ty,z,i,b,c,e,hop,h1,h2,hu,hi,hui,rfl,rfl,rfl⟩:=EG hc;have r1:=aK h1 ht;have r2:=aK h2 ht;simp only[OJ,OQ,iu] at hx;split at hx<;>try (cases hx;done)
  rename_i q;simp only[Pf,Qk] at q;rw[q.1] at r1;rw[q.2] at r2;split at hx<;>try (cases hx;done)
  rename_i hq;simp only[aC] at r1;obtain ⟨vs,hv,hr⟩:=r1;obtain ⟨v,e1,e2⟩:=wB P w e _ _ vs hi hui hr hx;exact ⟨v,by simp[execOp,hop,Instr.index,run_underlying hu,hv,mF r2,asIntOf,hq.1,hq.2,cH P w e hi,e1],e2⟩
 |paddr sz len=>
  obtain ⟨ty,z,i,b,c,e,hop,h1,h2,hu,hi,rfl,rfl⟩:=CJ hc;have r1:=aK h1 ht;have r2:=aK h2 ht;simp only[OJ,OQ,iu] at hx;split at hx<;>try (cases hx;done)
  ·rename_i q;simp only[Pf,Qk] at q;rw[q.1] at r1;rw[q.2] at r2;split at hx<;>cases hx;rename_i hq;simp only[aC] at r1;obtain ⟨hd,hv⟩:=r1;refine .mk (v:= .pointer (some ⟨G.ι _,_,none⟩)) ?_ (by simp only[aC];exact ⟨hd,rfl⟩);simp[execOp,hop,Instr.indexAt,run_underlying hu,hv,mF r2,asIntOf,Instr.sureAddr,hq.1,hq.2,cH P w e hi,add_plain]
  ·rename_i q;simp only[Pf,Qk] at q;rw[q.1] at r1;rw[q.2] at r2;split at hx<;>cases hx;rename_i hq;simp only[aC] at r1;obtain ⟨B,off,vs,hv,hr,him⟩:=r1;refine .mk (v:= .pointer (some ⟨B,_,none⟩)) ?_ (by simp only[aC];exact ⟨B,_,_,rfl,hr.drop _,him.drop _⟩);simp[execOp,hop,Instr.indexAt,run_underlying hu,hv,mF r2,asIntOf,Instr.sureAddr,hq.1,hq.2,cH P w e hi,add_plain]
 |abuild zero ps=>
  obtain ⟨ty,parts,n,e,z,hop,hu,hz,hzc,hps,hi⟩:=yP hc;simp only[iu,Oc] at hx;obtain ⟨cs,hcs,rfl⟩:=hx;have r:=eQ (G:=G) (w:=w) hzc;simp only[aC] at r;obtain ⟨vs,rfl,hr⟩:=r;obtain ⟨vs',e1,e2⟩:=wL ht hps hcs hr;refine ⟨.agg vs'.toArray,?_,by simp only[aC];exact ⟨vs',rfl,e2⟩⟩;obtain ⟨i,hi1,hi2⟩:=Oe.1 hz;have hmap:(parts.map λ(i,x)=>(i,a.eval x)).toList=parts.toList.map λp=>(p.1,a.eval p.2):=by simp
  simp only[execOp,hop,Instr.build,Sem.run_bind,zeroValue,typeInfo,run_program,hi1,hi2,Result.andThen_ok,Sem.run_pure,run_underlying hu,cH P w e hi,Value.cells,hmap,e1]
 |slp sz n=>simp[iu] at hx
 |cpy=>simp[iu] at hx
 |s2a len=>
  obtain ⟨arr,z,b,e,hop,h1,hu,rfl⟩:=HG hc;have r1:=aK h1 ht;simp only[OJ,OQ,iu] at hx;split at hx<;>try (cases hx;done)
  rename_i q;simp only[Pf,Qk] at q;rw[q] at r1;split at hx<;>cases hx;rename_i hq;obtain ⟨rfl,q1,q2,q3⟩:=hq;simp only[aC] at r1;rcases r1 with ⟨rfl,-,-⟩|⟨B,off,C,vs,hv,-,-,he,him,-⟩
  ·simp at q2;omega
  ·refine ⟨.pointer (some ⟨B,off,none⟩),?_,by simp only[aC];exact ⟨B,off,vs,rfl,EI he q3,him⟩⟩;simp[execOp,hop,Instr.arrayAt,run_underlying hu,hv,Nat.not_lt.2 q2]
 |eqarr neg n k=>
  obtain ⟨op,xT,x0,y0,yT,b,c,e,hop,h1,h2,hu,hk,hg,hi,hce,hn,rfl⟩:=CN hc;have r1:=aK h1 ht;have r2:=aK h2 ht;simp only[OJ,OQ,iu] at hx;split at hx<;>try (cases hx;done)
  rename_i q;simp only[Pf,Qk] at q;rw[q.1] at r1;rw[q.2] at r2;simp only[Oc] at hx;obtain ⟨r,hr,rfl⟩:=hx;unfold Plain;simp only[execOp,hop];generalize a.eval x0=vx at*
  generalize a.eval y0=vy at*
  simp only[aC] at r1 r2;obtain ⟨vs,rfl,r1⟩:=r1;obtain ⟨us,rfl,r2⟩:=r2;have key:(Op.equalIn 10000 xT (.agg vs.toArray) (.agg us.toArray)).run P w= .ok r w:=CO (d:=9998) hu hi hce hk (by simpa using r1) (by simpa using r2) hr;rcases hn with ⟨rfl,rfl⟩|⟨rfl,rfl⟩
  ·exact ⟨.bool r,by simp[run_eqGuard_agg w _ _ _ _ _ _ hg,run_eql_struct,key],by simp[aC]⟩
  ·exact ⟨.bool (!r),by simp[run_eqGuard_agg w _ _ _ _ _ _ hg,run_neq_struct,key],by simp[aC]⟩
end
end Go.Av
end
section
namespace Go.Av
structure aX where
 dst:Option Nat
 guard:Option (Nat × Bool)
 op:AOp
inductive AC where
 |skip
 |reg (items:List aX) (pairs:Option (List (Nat × Nat)))
 |seq (a b:AC)
 |cond (c:Opd) (a b:AC)
 |block (id:Nat) (a:AC)
 |loop (a:AC)
 |exit (id:Nat)
 |ret
 |scope (a:AC)
 |label (l:Nat)
 |goto (l:Nat)
 |tv (g:Opd) (ps:List Nat) (asg body:AC)
def bI:AOp->List Opd
 | .mov x| .box x| .eqN _ x| .un _ x| .conv _ x| .load _ x| .faddr _ x| .fld _ _ x| .ext x _| .nilck x| .len _ x| .clr _ _ x| .mlen x| .eqM _ x| .cap x| .ifc _ x| .pan x=>[x]
 | .pick a b c| .mput a b c| .mputK _ a b c=>[a,b,c]
 | .alloc _| .mkmap| .dead=>[]
 | .build _ parts=>parts.map λp=>p.2.2
 | .buildSl _ parts=>parts
 | .store _ x y| .bin _ x y| .eqB _ x y| .eqA _ _ x y| .mm _ x y| .mlook _ _ x y| .mdel x y| .mlookK _ _ _ x y| .mdelK _ x y| .eqP _ x y| .eqQ _ x y| .iaddr _ x y| .idx x y| .mksl _ _ _ x y| .app _ _ _ x y| .appz _ _ _ x y=>[x,y]
 | .mkfn _ a b=>a++b
 | .slc _ _ x a b c=>x::(a.toList++b.toList++c.toList)
 | .call _ l=>l
 | .callv x l=>x::l
 | .raw _ l=>l
def tmpsOf(l:List Opd):List Nat:=l.filterMap λ| .t i=>some i|_=>none
def lW(ops:Array Oper):Option (Nat × Bool)->Option (Option (Nat × Bool))
 |none=>some none
 |some (j,w)=>match (ops[j]?).bind (·.dst) with
  |some d=>some (some (d,w))
  |none=>none
def EL(P:Program)(o:Oper):Option AOp:=some (match cOp P o with
 |some q=>q
 |none=>(fU P o).getD .dead)
def tT:AOp->Bool
 | .raw _ _=>true
 |_=>false
theorem EM{P:Program}{o:Oper}{k:RK}{xs:List Opd}(h:EL P o=some (.raw k xs)):fU P o=some (.raw k xs):=by
 simp only[EL,Om] at h;split at h
 ·rename_i q hc;subst h;exact absurd hc (CI _ _)
 ·cases hb:fU P o with
  |none=>rw[hb] at h;simp at h
  |some q=>rw[hb] at h;simp at h;rw[h]
theorem gY{P:Program}{o:Oper}{op:AOp}(h:EL P o=some op)(hn:op≠ .dead)(hr:tT op=false):cOp P o=some op:=by
 simp only[EL,Om] at h;cases hc:cOp P o with
 |none=>
  rw[hc] at h;simp only at h;cases hb:fU P o with
  |none=>rw[hb] at h;exact absurd h.symm hn
  |some q=>
   rw[hb] at h;obtain ⟨k,xs,rfl⟩:=EF hb;simp at h;subst h;simp[tT] at hr
 |some q=>rw[hc] at h;simp at h;rw[h]
def bP(P:Program)(N:Nat)(ops:Array Oper)(o:Oper):Option aX:=
 match EL P o,lW ops o.guard with
 |some op,some g=>if o.dst.all (λd=>decide (d<N))&&(tmpsOf (bI op)).all (λi=>(names ops o).contains i) then some ⟨o.dst,g,op⟩ else none
 |_,_=>none
def dL(P:Program)(N:Nat)(ops:Array Oper):List Oper->Option (List aX)
 |[]=>some []
 |o::l=>match bP P N ops o,dL P N ops l with
  |some a,some r=>some (a::r)
  |_,_=>none
def bN:AOp->Bool
 | .alloc _| .box _| .load _ _| .store _ _ _| .conv .s2b _| .conv .s2s _| .mksl _ _ _ _ _| .app _ _ _ _ _| .appz _ _ _ _ _| .clr _ _ _| .mkmap| .mlook _ _ _ _| .mput _ _ _| .mdel _ _| .mlen _| .mlookK _ _ _ _ _| .mputK _ _ _ _| .mdelK _ _ _| .eqQ _ _ _| .buildSl _ _| .call _ _| .callv _ _| .pan _| .raw (.slp _ _) _| .raw .cpy _=>true
 |_=>false
def tidy(ops:Array Oper):Bool:=
 let b:=Region.before ops
 let l:=ops.toList.zipIdx
 (l.all λ(o,i)=>o.after.all λe=> !Region.binds .any e||decide (e.on<i))&&
 l.all λ(o,i)=>match o.dst with
  |none=>true
  |some d=>l.all λ(o',j)=>i == j|| !(names ops o').contains d||(b.getD j 0).testBit i||(b.getD i 0).testBit j
def kQ(ops:Array Oper)(items:List aX):List (Nat × Nat):=
 let b:=Region.before ops
 (List.range ops.size).flatMap λj=>(List.range j).filterMap λi=>
  if (match items[i]?,items[j]? with|some x,some y=>bN x.op&&bN y.op|_,_=>false)&& !(b.getD j 0).testBit i then some (i,j) else none
def fu:Code->Bool
 | .rangeFunc _ _ _ _=>false
 | .seq a b=>fu a&&fu b
 | .cond _ a b=>fu a&&fu b
 | .block _ a=>fu a
 | .loop a=>fu a
 | .scope a=>fu a
 |_=>true
def okR(c:Code)(ro:Option Nat):Prop:=ro=none\/fu c=true
def cCode(P:Program)(N:Nat):Code->Option AC
 | .skip=>some .skip
 | .region _ ops draw=>match dL P N ops ops.toList with
  |some items=>if draw then (if P.follows .mixedOrders&&tidy ops then some (.reg items (some (kQ ops items))) else none) else some (.reg items none)
  |none=>none
 | .seq a b=>match cCode P N a,cCode P N b with
  |some x,some y=>some (.seq x y)
  |_,_=>none
 | .cond c a b=>match opd P 0 c,cCode P N a,cCode P N b with
  |some c,some x,some y=>some (.cond c x y)
  |_,_,_=>none
 | .block id a=>(cCode P N a).map (.block id)
 | .loop a=>(cCode P N a).map .loop
 | .exit id=>some (.exit id)
 | .ret=>some .ret
 | .scope a=>(cCode P N a).map .scope
 | .label l=>some (.label l)
 | .goto l=>some (.goto l)
 | .rangeFunc g ps asg body=>match opd P 0 g,cCode P N asg,cCode P N body with
  |some g,some x,some y=>if fu asg&&fu body then some (.tv g ps.toList x y) else none
  |_,_,_=>none
 | .refuse _=>none
def ay(x y:AV):Prop:=∀G w v,aC G w x v->aC G w y v
theorem ay.refl(x:AV):ay x x:=λ_ _ _ h=>h
theorem ay.trans{x y z:AV}(a:ay x y)(b:ay y z):ay x z:=λG w v h=>b G w v (a G w v h)
theorem ay.any(x:AV):ay x .any:=λ_ _ _ _=>by simp[aC]
def aA(l m:List AV):Prop:=∀G w vs,aE G w l vs->aE G w m vs
theorem aA.refl(l:List AV):aA l l:=λ_ _ _ h=>h
theorem aA.nil:aA [] []:=aA.refl _
theorem aA.cons{x y:AV}{l m:List AV}(a:ay x y)(b:aA l m):aA (x::l) (y::m):=by
 intro G w vs h;simp only[aE] at h |-;obtain ⟨v,us,e,h1,h2⟩:=h;exact ⟨v,us,e,a G w v h1,b G w us h2⟩
theorem ay.cap{sz:Nat}{xs:List AV}{c:Cap}:ay (.sl sz xs c) (.sl sz xs .any):=by
 intro G w v h;simp only[aC] at h |-;rcases h with ⟨a,b,_⟩|⟨B,off,C,vs,h1,h2,h3,h4,h5,h6⟩
 ·exact .inl ⟨a,b,by simp[kI]⟩
 ·exact .inr ⟨B,off,C,vs,h1,h2,h3,h4,h5,by simp[dc]⟩
theorem ay.agg{l m:List AV}(a:aA l m):ay (.agg l) (.agg m):=by
 intro G w v h;simp only[aC] at h |-;obtain ⟨vs,e,h⟩:=h;exact ⟨vs,e,a G w vs h⟩
theorem ay.tup{l m:List AV}(a:aA l m):ay (.tup l) (.tup m):=by
 intro G w v h;simp only[aC] at h |-;obtain ⟨vs,e,h⟩:=h;exact ⟨vs,e,a G w vs h⟩
section
variable{P:Program}
def bB(P:Program)(f:FuncId)(args:List AV)(h:H)(r:AV)(h':H):Prop:=
 ∀G w vs,aE G w args vs->bj G h w->cB G h h'->Calls P f vs.toArray w λe w'=>∃v G',e= .returned v/\Trans G w h G' w' h'/\bj G' h' w'/\aC G' w' r v
def H0(n m:Nat):H:= .only aB [] n m
def aI(P:Program)(f:FuncId)(args:List AV)(r:AV):Prop:=∀n m,bB P f args (H0 n m) r (H0 n m)
structure St where
 t:Tm
 h:H
inductive aO where
 |normal
 |exit (id:Nat)
 |goto (l:Nat)
 |ret
 |panic (v:Value)
def aO.eZ:aO->Exit->Prop
 | .normal,.normal=>True
 | .exit i,.exit j=>i=j
 | .goto i,.goto j=>i=j
 | .ret,.ret=>True
 | .panic v,.panic l=>l=[{v:=v,recovered:=false}]
 |_,_=>False
def Marks(G:aT)(w:World)(h:H)(l:List Deferred):Prop:=l.Nodup/\∀d∈l,∃D,d= {target:= .collected D,args:= #[]}/\w.heap[D]? =some (.deferred (some []))/\¬h.O G D/\¬h.T G D
theorem uY{w:World}{B:Nat}{o:Go.Obj}(h:w.heap[B]? =some o):B<w.heap.size:=by
 rcases Py B w.heap.size with hb|hb
 ·exact hb
 ·have:w.heap[B]? =none:=by simp;omega
  rw[this] at h;cases h
theorem Marks.mono{G G':aT}{w w':World}{h h':H}{l:List Deferred}(m:Marks G w h l)(T:Trans G w h G' w' h'):Marks G' w' h' l:=by
 refine ⟨m.1,λd hd=>?_⟩;obtain ⟨D,e,h1,h2,h3⟩:=m.2 d hd;have hB:=uY h1;exact ⟨D,e,(T.keep D hB h2 h3).trans h1,λx=>h2 (T.O_new D hB x),λx=>h3 (T.T_new D hB x)⟩
structure Rel(N:Nat)(s:St)(G:aT)(w:World)(a:Act):Prop where
 size:a.tmps.size=N
 t:cG G w s.t a
 h:bj G s.h w
 df:Marks G w s.h a.defers
def lX(w:World)(l l':List Deferred):Prop:=∀d∈l',d∈l\/∃D,w.heap.size<=D/\d= {target:= .collected D,args:= #[]}
theorem lX.refl{w:World}{l:List Deferred}:lX w l l:=λd h=> .inl h
theorem lX.trans{w w':World}{l l' l'':List Deferred}(a:lX w l l')(hs:w.heap.size<=w'.heap.size)(b:lX w' l' l''):lX w l l'':=by
 intro d h;rcases b d h with h|⟨D,h1,h2⟩
 ·exact a d h
 ·exact .inr ⟨D,ae,h2⟩
def Run(P:Program)(N:Nat)(c:Code)(s:St)(e:aO)(s':St):Prop:=
 (s.h.n<=s'.h.n/\s.h.m<=s'.h.m)/\∀ro,okR c ro->∀G w a,Rel N s G w a->cB G s.h s'.h->c.wpIn (rd ro) 0 P (λe' a' w'=>e.eZ e'/\lX w a.defers a'.defers/\∃G',Trans G w s.h G' w' s'.h/\Rel N s' G' w' a') a w
def Wp(P:Program)(N:Nat)(c:AC)(s:St)(Q:aO->St->Prop):Prop:=
 ∀code,cCode P N code=some c->∃e s',Run P N code s e s'/\Q e s'
variable{N:Nat}{s:St}{Q:aO->St->Prop}
theorem okR.seq{a b:Code}{ro:Option Nat}(h:okR (.seq a b) ro):okR a ro/\okR b ro:=by
 rcases h with h|h
 ·exact ⟨.inl h,.inl h⟩
 ·simp only[fu,Oh] at h;exact ⟨.inr h.1,.inr h.2⟩
theorem okR.cond{z:Operand}{a b:Code}{ro:Option Nat}(h:okR (.cond z a b) ro)(c:Bool):okR (if c then a else b) ro:=by
 rcases h with h|h
 ·exact .inl h
 ·simp only[fu,Oh] at h;cases c
  ·exact .inr h.2
  ·exact .inr h.1
theorem okR.block{id:Nat}{a:Code}{ro:Option Nat}(h:okR (.block id a) ro):okR a ro:=h
theorem okR.loop{a:Code}{ro:Option Nat}(h:okR (.loop a) ro):okR a ro:=h
theorem okR.scope{a:Code}{ro:Option Nat}(h:okR (.scope a) ro):okR a ro:=h
theorem okR.find{l:Nat}{ro:Option Nat}:∀{c rest:Code},okR c ro->findLabel c l=some rest->okR rest ro:=by
 intro c rest h hf;rcases h with h|h
 ·exact .inl h
 ·right;induction c generalizing rest with
  |seq a b iha ihb=>
   simp only[fu,Oh] at h;simp only[findLabel] at hf;split at hf
   ·rename_i r hr;cases hf;simp only[fu,Oh];exact ⟨iha hr h.1,h.2⟩
   ·exact ihb hf h.2
  |label l'=>
   simp only[findLabel] at hf;split at hf
   ·cases hf;rfl
   ·cases hf
  |_=>simp[findLabel] at hf
theorem Wp.mono{c:AC}{Q':aO->St->Prop}(h:Wp P N c s Q)(hq:∀e s',Q e s'->Q' e s'):Wp P N c s Q':=
 λcode hc=>let ⟨e,s',r,q⟩:=h code hc;⟨e,s',r,hq e s' q⟩
theorem CR{code:Code}(h:cCode P N code=some .skip):code= .skip:=by
 unfold cCode at h;split at h<;>(try rfl)<;>(try cases h);all_goals (repeat' split at h)<;>(try cases h)<;>simp at h
theorem Wp.skip(h:Q .normal s):Wp P N .skip s Q:=by
 intro code hc;obtain rfl:=CR hc;exact ⟨.normal,s,⟨⟨N4 _,N4 _⟩,λro okc G w a r _=>wpIn_skip ⟨trivial,.refl,G,Trans.refl _ _ _,r⟩⟩,h⟩
theorem CT{code:Code}{id:Nat}(h:cCode P N code=some (.exit id)):code= .exit id:=by
 unfold cCode at h;split at h<;>(try rfl)<;>(try cases h);all_goals (repeat' split at h)<;>(try cases h)<;>(try rfl)<;>simp at h
theorem Wp.exit{id:Nat}(h:Q (.exit id) s):Wp P N (.exit id) s Q:=by
 intro code hc;obtain rfl:=CT hc;exact ⟨.exit id,s,⟨⟨N4 _,N4 _⟩,λro okc G w a r _=>wpIn_exit ⟨rfl,.refl,G,Trans.refl _ _ _,r⟩⟩,h⟩
theorem EN{code:Code}(h:cCode P N code=some .ret):code= .ret:=by
 unfold cCode at h;split at h<;>(try rfl)<;>(try cases h);all_goals (repeat' split at h)<;>(try cases h)<;>(try rfl)<;>simp at h
theorem Wp.ret(h:Q .ret s):Wp P N .ret s Q:=by
 intro code hc;obtain rfl:=EN hc;exact ⟨.ret,s,⟨⟨N4 _,N4 _⟩,λro okc G w a r _=>wpIn_ret ⟨trivial,.refl,G,Trans.refl _ _ _,r⟩⟩,h⟩
theorem EO{code:Code}{x y:AC}(h:cCode P N code=some (.seq x y)):∃a b,code= .seq a b/\cCode P N a=some x/\cCode P N b=some y:=by
 cases code<;>simp only[cCode] at h<;>(try cases h)
 ·(repeat' split at h)<;>cases h
 ·split at h
  ·cases h;exact ⟨_,_,rfl,‹_›,‹_›⟩
  ·cases h
 ·(repeat' split at h)<;>cases h
 all_goals first|(simp at h;done)|((repeat' split at h)<;>cases h;done)
def aO.andThen(K:St->Prop)(Q:aO->St->Prop):aO->St->Prop
 | .normal,s=>K s
 |e,s=>Q e s
theorem Wp.seq{x y:AC}(h:Wp P N x s (aO.andThen (λs'=>Wp P N y s' Q) Q)):Wp P N (.seq x y) s Q:=by
 intro code hc;obtain ⟨a,b,rfl,ha,hb⟩:=EO hc;obtain ⟨e,s1,r1,q1⟩:=h a ha;cases e with
 |normal=>
  obtain ⟨e2,s2,r2,q2⟩:=q1 b hb;obtain ⟨⟨l1,l2⟩,r1⟩:=r1;obtain ⟨⟨l3,l4⟩,r2⟩:=r2;refine ⟨e2,s2,⟨⟨ae,ae⟩,λro okc G w ac r F=>wpIn_seq (wpIn_mono (r1 ro okc.seq.1 G w ac r (F.sub (N4 _) l3 (N4 _) l4)) ?_)⟩,q2⟩;rintro e' a' w' ⟨h1,h2,G',T1,r'⟩;cases e'<;>simp only[aO.eZ] at h1;refine wpIn_mono (r2 ro okc.seq.2 G' w' a' r' (F.step T1)) ?_;rintro e'' a'' w'' ⟨k1,k2,G'',T2,r''⟩;exact ⟨k1,h2.trans T1.size_le k2,G'',T1.trans r.h r'.h T2,r''⟩
 |exit id=>
  refine ⟨.exit id,s1,⟨r1.1,λro okc G w ac r F=>wpIn_seq (wpIn_mono (r1.2 ro okc.seq.1 G w ac r F) ?_)⟩,q1⟩;rintro e' a' w' ⟨h1,h2⟩;cases e'<;>simp only[aO.eZ] at h1;exact ⟨h1,h2⟩
 |goto l=>
  refine ⟨.goto l,s1,⟨r1.1,λro okc G w ac r F=>wpIn_seq (wpIn_mono (r1.2 ro okc.seq.1 G w ac r F) ?_)⟩,q1⟩;rintro e' a' w' ⟨h1,h2⟩;cases e'<;>simp only[aO.eZ] at h1;exact ⟨h1,h2⟩
 |ret=>
  refine ⟨.ret,s1,⟨r1.1,λro okc G w ac r F=>wpIn_seq (wpIn_mono (r1.2 ro okc.seq.1 G w ac r F) ?_)⟩,q1⟩;rintro e' a' w' ⟨h1,h2⟩;cases e'<;>simp only[aO.eZ] at h1;exact ⟨trivial,h2⟩
 |panic v=>
  refine ⟨.panic v,s1,⟨r1.1,λro okc G w ac r F=>wpIn_seq (wpIn_mono (r1.2 ro okc.seq.1 G w ac r F) ?_)⟩,q1⟩;rintro e' a' w' ⟨h1,h2⟩;cases e'<;>simp only[aO.eZ] at h1;exact ⟨h1,h2⟩
theorem CU{code:Code}{c:Opd}{x y:AC}(h:cCode P N code=some (.cond c x y)):∃z a b,code= .cond z a b/\opd P 0 z=some c/\cCode P N a=some x/\cCode P N b=some y:=by
 cases code<;>simp only[cCode] at h<;>(try cases h)
 ·(repeat' split at h)<;>cases h
 ·(repeat' split at h)<;>cases h
 ·split at h
  ·cases h;exact ⟨_,_,_,rfl,‹_›,‹_›,‹_›⟩
  ·cases h
 all_goals first|(simp at h;done)|((repeat' split at h)<;>cases h;done)
theorem Wp.cond{c:Opd}{x y:AC}{b:Bool}(hb:ev s.t c= .bool b)(h:Wp P N (if b then x else y) s Q):Wp P N (.cond c x y) s Q:=by
 intro code hc;obtain ⟨z,p,q,rfl,h1,h2,h3⟩:=CU hc;obtain ⟨e,s',r,q⟩:=h (if b then p else q) (by cases b<;>simpa);refine ⟨e,s',⟨r.1,λro okc G w a rel F=>?_⟩,q⟩;have hz:a.eval z= .bool b:=by
  have:=aK h1 rel.t;rw[hb] at this;simpa only[aC] using this
 exact wpIn_cond hz (by have:=r.2 ro (okc.cond b) G w a rel F;cases b<;>exact this)
theorem Wp.cond_true{c:Opd}{x y:AC}(hb:ev s.t c= .bool true)(h:Wp P N x s Q):Wp P N (.cond c x y) s Q:=Wp.cond hb h
theorem Wp.cond_false{c:Opd}{x y:AC}(hb:ev s.t c= .bool false)(h:Wp P N y s Q):Wp P N (.cond c x y) s Q:=Wp.cond hb h
theorem Wp.kS{c:Opd}{x y:AC}{b:Bool}(hb:ev s.t c= .bool b)(ht:b=true->Wp P N x s Q)(hf:b=false->Wp P N y s Q):Wp P N (.cond c x y) s Q:=by
 cases b
 ·exact Wp.cond hb (hf rfl)
 ·exact Wp.cond hb (ht rfl)
def aO.inBlock(id:Nat)(Q:aO->St->Prop):aO->St->Prop
 | .exit i,s=>if i=id then Q .normal s else Q (.exit i) s
 |e,s=>Q e s
theorem yW{code:Code}{id:Nat}{x:AC}(h:cCode P N code=some (.block id x)):∃a,code= .block id a/\cCode P N a=some x:=by
 cases code<;>simp only[cCode] at h<;>(try cases h)
 ·(repeat' split at h)<;>cases h
 ·(repeat' split at h)<;>cases h
 ·(repeat' split at h)<;>cases h
 ·simp only[Oc] at h;obtain ⟨a,h1,h2⟩:=h;cases h2;exact ⟨_,rfl,h1⟩
 all_goals first|(simp at h;done)|((repeat' split at h)<;>cases h;done)
theorem Wp.block{id:Nat}{x:AC}(h:Wp P N x s (aO.inBlock id Q)):Wp P N (.block id x) s Q:=by
 intro code hc;obtain ⟨a,rfl,ha⟩:=yW hc;obtain ⟨e,s1,r1,q1⟩:=h a ha;cases e with
 |normal=>
  refine ⟨.normal,s1,⟨r1.1,λro okc G w ac r F=>wpIn_block (wpIn_mono (r1.2 ro okc.block G w ac r F) ?_)⟩,q1⟩;rintro e' a' w' ⟨h1,h2⟩;cases e'<;>simp only[aO.eZ] at h1;exact ⟨trivial,h2⟩
 |goto l=>
  refine ⟨.goto l,s1,⟨r1.1,λro okc G w ac r F=>wpIn_block (wpIn_mono (r1.2 ro okc.block G w ac r F) ?_)⟩,q1⟩;rintro e' a' w' ⟨h1,h2⟩;cases e'<;>simp only[aO.eZ] at h1;exact ⟨h1,h2⟩
 |ret=>
  refine ⟨.ret,s1,⟨r1.1,λro okc G w ac r F=>wpIn_block (wpIn_mono (r1.2 ro okc.block G w ac r F) ?_)⟩,q1⟩;rintro e' a' w' ⟨h1,h2⟩;cases e'<;>simp only[aO.eZ] at h1;exact ⟨trivial,h2⟩
 |panic v=>
  refine ⟨.panic v,s1,⟨r1.1,λro okc G w ac r F=>wpIn_block (wpIn_mono (r1.2 ro okc.block G w ac r F) ?_)⟩,q1⟩;rintro e' a' w' ⟨h1,h2⟩;cases e'<;>simp only[aO.eZ] at h1;exact ⟨h1,h2⟩
 |exit i=>
  simp only[aO.inBlock] at q1;by_cases hi:i=id
  ·rw[Oi hi] at q1;refine ⟨.normal,s1,⟨r1.1,λro okc G w ac r F=>wpIn_block (wpIn_mono (r1.2 ro okc.block G w ac r F) ?_)⟩,q1⟩;rintro e' a' w' ⟨h1,h2⟩;cases e'<;>simp only[aO.eZ] at h1;subst h1;simp only[Exit.inBlock,hi,Of];exact ⟨trivial,h2⟩
  ·rw[Ob hi] at q1;refine ⟨.exit i,s1,⟨r1.1,λro okc G w ac r F=>wpIn_block (wpIn_mono (r1.2 ro okc.block G w ac r F) ?_)⟩,q1⟩;rintro e' a' w' ⟨h1,h2⟩;cases e'<;>simp only[aO.eZ] at h1;subst h1;simp only[Exit.inBlock,hi,Od];exact ⟨rfl,h2⟩
structure aM(s s':St):Prop where
 n:s.h.n<=s'.h.n
 m:s.h.m<=s'.h.m
 go:∀N G w a,Rel N s G w a->cB G s.h s'.h->∃G',Trans G w s.h G' w s'.h/\Rel N s' G' w a
theorem aM.trans{s s' s'':St}(a:aM s s')(b:aM s' s''):aM s s'':=by
 refine ⟨OI a.n b.n,OI a.m b.m,λN G w ac r F=>?_⟩;obtain ⟨G1,T1,r1⟩:=a.go N G w ac r (F.sub (N4 _) b.n (N4 _) b.m);obtain ⟨G2,T2,r2⟩:=b.go N G1 w ac r1 (F.step T1);exact ⟨G2,T1.trans r.h r1.h T2,r2⟩
def cm:Obj->Obj->Prop
 | .cells cs,.cells cs'=>aA cs cs'
 | .map es,.map es'=>es=es'
 | .loop N t ps a b st p,o'=>o'= .loop N t ps a b st p
 | .raw c,o'=>o'= .raw c
 | .bk b,.bk b'=>b'=b
 | .bk b,.cells cs=>cs=AX b
 | .cells cs,.bk b=>cs=AX b/\J8 b
 |_,_=>False
theorem cm.refl(o:Obj):cm o o:=by cases o<;>simp[cm,aA.refl]
def HLe(h h':H):Prop:=(∀j o',h'.objs j=some o'->∃o,h.objs j=some o/\cm o o')/\∀t∈h'.toks,t∈h.toks
theorem H.sub.le{h h':H}(s:h'.sub h):HLe h h':=⟨λj o x=>⟨o,s.1 j o x,cm.refl o⟩,s.2⟩
theorem rM{G:aT}{w:World}:∀{l:List (IntKind × Int)}{vs:List Value},aE G w (AW l) vs↔vs=tG l
 |[],vs=>by simp[AW,tG,aE]
 |p::l,vs=>by
  have ih:= @rM G w l;simp only[AW,tG,OJ,aE,aC] at ih |-;constructor
  ·rintro ⟨v,us,rfl,rfl,h⟩;rw[ih.1 h]
  ·rintro rfl;exact ⟨_,_,rfl,rfl,ih.2 rfl⟩
theorem EP{l:List (IntKind × Int)}:∀v∈tG l,One v:=by
 intro v hv;simp only[tG,OC] at hv;obtain ⟨p,-,rfl⟩:=hv;exact ⟨λa h=>(by cases h),λa h=>(by cases h)⟩
theorem lE.sub{G:aT}{w:World}{o o':Obj}{x:Option Go.Obj}(h:lE G w o x)(s:cm o o'):lE G w o' x:=by
 cases o<;>cases o'<;>simp only[cm] at s
 ·simp only[lE] at h |-;obtain ⟨vs,rest,T,fr,h1,h2,h3⟩:=h;exact ⟨vs,rest,T,fr,h1,s G w vs h2,h3⟩
 ·obtain ⟨rfl,ok⟩:=s;simp only[lE] at h |-;obtain ⟨vs,rest,T,fr,h1,h2,h3⟩:=h;exact ⟨ok,rest,T,fr,by rw[h1,rM.1 h2],h3.1⟩
 ·subst s;exact h
 any_goals (rw [s];exact h;done)
 ·subst s;simp only[lE] at h |-;obtain ⟨ok,rest,T,fr,h1,h2⟩:=h;exact ⟨_,rest,T,fr,h1,rM.2 rfl,h2,EP⟩
theorem bj.le{G:aT}{w:World}{h h':H}(R:bj G h w)(s:HLe h h'):bj G h' w where
 obj id o' ho':=by
  obtain ⟨o,ho,hs⟩:=s.1 id o' ho';obtain ⟨a,b,c,d⟩:=R.obj id o ho;exact ⟨a,b,c,d.sub hs⟩
 inj id id' o o' ho ho':=by
  obtain ⟨p,hp,-⟩:=s.1 id o ho;obtain ⟨p',hp',-⟩:=s.1 id' o' ho';exact R.inj id id' p p' hp hp'
 tok t ht:=R.tok t (s.2 t ht)
 tinj t ht t' ht':=R.tinj t (s.2 t ht) t' (s.2 t' ht')
theorem Trans.le{G:aT}{w:World}{h h':H}(s:HLe h h')(n:h.n<=h'.n)(m:h.m<=h'.m):Trans G w h G w h' where
 dom_le _ x:=x
 dom_new _:= .inl
 ι_eq _ _:=rfl
 tdom_le _ x:=x
 tdom_new _:= .inl
 τ_eq _ _:=rfl
 n_le:=n
 m_le:=m
 size_le:=N4 _
 os:=rfl
 output:=rfl
 form _ _:=bS.refl _
 keep _ _ _ _:=rfl
 own_keep _ _ _:=QL
 lim_keep _ _ _ _:=rfl
 tok_keep _ _ _ _ e he:=⟨λ_ _=>rfl,λe' he'=>by rw[he] at he';cases he';exact N4 _⟩
 O_new _ _:=λ⟨id,o,ho,e⟩=>let ⟨o',ho',_⟩:=s.1 id o ho;⟨id,o',ho',e⟩
 T_new _ _:=λ⟨t,ht,e⟩=>⟨t,s.2 t ht,e⟩
 objs_new j o x:=let ⟨o',ho',_⟩:=s.1 j o x;.inl ⟨o',ho'⟩
 toks_new t x:= .inl (s.2 t x)
theorem aM.mk'{t t':Tm}{h h':H}(ht:∀i,ay (t i) (t' i))(hh:HLe h h')(n:h.n<=h'.n)(m:h.m<=h'.m):aM ⟨t,h⟩ ⟨t',h'⟩:=
 ⟨n,m,λN G w a r _=>⟨G,Trans.le hh n m,⟨r.size,λi=>ht i G w _ (r.t i),r.h.le hh,r.df.mono (Trans.le hh n m)⟩⟩⟩
theorem aM.tok(t:Tm)(h:H):aM ⟨t,h⟩ ⟨t,{h with toks:=h.m::h.toks,m:=h.m+1}⟩:=by
 refine ⟨N4 _,Nat.le_succ _,λN G w a r F=>?_⟩;have hm:¬G.tdom h.m:=F.2 h.m (N4 _) (OL _);let G':aT:={G with tdom:=λx=>G.tdom x\/x=h.m,τ:=upd G.τ h.m none}
 have hτ:G'.τ h.m=none:=by simp[G',upd]
 have hne:∀x,G.tdom x->G'.τ x=G.τ x:=λx hx=>by
  simp only[G',upd];rw[Ob];rintro rfl;exact hm hx
 have T:Trans G w h G' w {h with toks:=h.m::h.toks,m:=h.m+1}:=by
  constructor
  ·exact λ_ x=>x
  ·exact λ_=> .inl
  ·exact λ_ _=>rfl
  ·exact λ_=> .inl
  ·rintro x (hx|rfl)
   ·exact .inl hx
   ·exact .inr ⟨N4 _,OL _⟩
  ·exact hne
  ·exact N4 _
  ·exact Nat.le_succ _
  ·exact N4 _
  ·rfl
  ·rfl
  ·exact λ_ _=>bS.refl _
  ·exact λ_ _ _ _=>rfl
  ·exact λ_ _ _=>QL
  ·exact λ_ _ _ _=>rfl
  ·exact λ_ _ _ _ e he=>⟨λ_ _=>rfl,λe' he'=>by
    have:G.lim _=some e':=he';rw[he] at this;cases this;exact N4 _⟩
  ·exact λ_ _ x=>x
  ·rintro B _ ⟨x,hx,e,hte⟩;rcases OA.1 hx with rfl|hx
   ·rw[hτ] at hte;cases hte
   ·exact ⟨x,hx,e,by rw[<-hte];exact (hne x (r.h.tok x hx).1).symm⟩
  ·exact λj o x=> .inl ⟨o,x⟩
  ·intro x hx;rcases OA.1 hx with rfl|hx
   ·exact .inr ⟨N4 _,OL _⟩
   ·exact .inl hx
 refine ⟨G',T,r.size,λi=>aC.mono r.h T _ _ (r.t i),⟨?_,r.h.inj,?_,?_⟩,r.df.mono T⟩
 ·intro id o ho;obtain ⟨q1,q2,q3,q4⟩:=r.h.obj id o ho;exact ⟨q1,q2,q3,q4.mono r.h T⟩
 ·intro x hx;rcases OA.1 hx with rfl|hx
  ·exact ⟨.inr rfl,λB e hte=>by rw[hτ] at hte;cases hte⟩
  ·obtain ⟨q1,q2⟩:=r.h.tok x hx;exact ⟨.inl q1,λB e hte=>q2 B e (by rw[<-hne x q1];exact hte)⟩
 ·intro x hx x' hx' B e e' h1 h2;rcases OA.1 hx with rfl|hx
  ·rw[hτ] at h1;cases h1
  ·rcases OA.1 hx' with rfl|hx'
   ·rw[hτ] at h2;cases h2
   ·exact r.h.tinj x hx x' hx' B e e' (by rw[<-hne x (r.h.tok x hx).1];exact h1) (by rw[<-hne x' (r.h.tok x' hx').1];exact h2)
theorem Run.le{c:Code}{s' s'':St}{e:aO}(h:aM s s')(r:Run P N c s' e s''):Run P N c s e s'':=by
 obtain ⟨⟨rn,rm⟩,rr⟩:=r;refine ⟨⟨OI h.n rn,OI h.m rm⟩,λro okc G w a rel F=>?_⟩;obtain ⟨G1,T1,rel1⟩:=h.go N G w a rel (F.sub (N4 _) rn (N4 _) rm);refine wpIn_mono (rr ro okc G1 w a rel1 (F.step T1)) ?_;rintro e' a' w' ⟨h1,h2,G',T,r'⟩;exact ⟨h1,h2,G',T1.trans rel.h rel1.h T,r'⟩
theorem Wp.le{c:AC}{s':St}(h:aM s s')(hw:Wp P N c s' Q):Wp P N c s Q:=
 λcode hc=>let ⟨e,s'',r,q⟩:=hw code hc;⟨e,s'',r.le h,q⟩
theorem tV{code:Code}{x:AC}(h:cCode P N code=some (.loop x)):∃a,code= .loop a/\cCode P N a=some x:=by
 cases code<;>simp only[cCode] at h<;>(try cases h)
 ·(repeat' split at h)<;>cases h
 ·(repeat' split at h)<;>cases h
 ·(repeat' split at h)<;>cases h
 ·simp at h
 ·simp only[Oc] at h;obtain ⟨a,h1,h2⟩:=h;cases h2;exact ⟨_,rfl,h1⟩
 all_goals first|(simp at h;done)|((repeat' split at h)<;>cases h;done)
theorem yX{F:Fence}{n:Nat}{β:Type}{c:Code}{Q:Exit->Act->World->Prop}(I:β->Act->World->Prop)(μ:β->Nat)
  (round:∀b a w,I b a w->c.wpIn F n P (Exit.then (λa' w'=>∃b',I b' a' w'/\μ b'<μ b) Q) a w) {b:β} {a:Act} {w:World} (h₀:I b a w):(Code.loop c).wpIn F n P Q a w:=by
 intro fr k cs hro hb hr;have key:∀j b a w,μ b=j->I b a w->∃e a' w',Q e a' w'/\ArrivesIn (Machine.fenced P F) P (lone (fr.atR a (.code c:: .inLoop c::k)) cs w) fr k cs e a' w':=by
  intro j;induction j using Nat.strongRecOn with
  |_ j ih=>
   intro b a w hn hI;obtain ⟨e,a₁,w₁,hq,harr⟩:=round b a w hI fr (.inLoop c::k) cs hro hb hr;cases e with
   |normal=>
    obtain ⟨b₁,hI₁,hlt⟩:=hq;obtain ⟨e₂,a₂,w₂,hq₂,harr₂⟩:=ih (μ b₁) (hn▸hlt) b₁ a₁ w₁ rfl hI₁;exact ⟨e₂,a₂,w₂,hq₂,.of_steps (StepsIn.trans harr (.one (fenced_calm hb hr rfl) stepR_inLoop)) harr₂⟩
   |exit id=>exact ⟨_,a₁,w₁,hq,.pass (x:= .inLoop c) rfl (λ_ _=> .inl ah) harr⟩
   |goto l=>exact ⟨_,a₁,w₁,hq,.pass (x:= .inLoop c) rfl (λ_ _=> .inl ah) harr⟩
   |ret=>exact ⟨_,a₁,w₁,hq,.pass (x:= .inLoop c) rfl (λ_ _=> .inl ah) harr⟩
   |panic ch=>exact ⟨_,a₁,w₁,hq,.pass (x:= .inLoop c) rfl (λ_ _=> .inl ah) harr⟩
   |outgrown=>exact ⟨_,a₁,w₁,hq,.pass (x:= .inLoop c) rfl (λ_ _=> .inl ah) harr⟩
 obtain ⟨e,a',w',hq,harr⟩:=key _ b a w rfl h₀;exact ⟨e,a',w',hq,.of_steps (.one (fenced_calm hb hr rfl) stepR_loop) harr⟩
inductive nF{β:Type}(P:Program)(N:Nat)(c:Code)(S:β->St)(μ:β->Nat):β->aO->St->Prop where
 |last {b:β} {e:aO} {s':St} (r:Run P N c (S b) e s') (hne:e≠ .normal):nF P N c S μ b e s'
 |more {b b':β} {e:aO} {s1 s':St} (r:Run P N c (S b) .normal s1) (hle:aM s1 (S b')) (hlt:μ b'<μ b) (rest:nF P N c S μ b' e s'):nF P N c S μ b e s'
theorem nF.nm{β:Type}{c:Code}{S:β->St}{μ:β->Nat}{b:β}{e:aO}{s':St}(h:nF P N c S μ b e s'):(S b).h.n<=s'.h.n/\(S b).h.m<=s'.h.m:=by
 induction h with
 |last r _=>exact r.1
 |more r hle _ _ ih=>have:=r.1;have:=hle.n;have:=hle.m;omega
theorem Wp.loop{β:Type}(S:β->St)(I:β->Prop)(μ:β->Nat){c:AC}(b0:β)(h0:I b0)(hs:aM s (S b0))
  (round:∀b,I b->Wp P N c (S b) (aO.andThen (λs'=>∃b',I b'/\μ b'<μ b/\aM s' (S b')) Q)):Wp P N (.loop c) s Q:=by
 intro code hc;obtain ⟨x,rfl,hx⟩:=tV hc;have ex:∀n b,μ b=n->I b->∃e s',nF P N x S μ b e s'/\Q e s':=by
  intro n;induction n using Nat.strongRecOn with
  |_ n ih=>
   intro b hn hb;obtain ⟨e,s1,r1,q1⟩:=round b hb x hx;cases e with
   |normal=>
    obtain ⟨b',i1,i2,i3⟩:=q1;obtain ⟨e,s',r',q'⟩:=ih (μ b') (hn▸i2) b' rfl i1;exact ⟨e,s',.more r1 i3 i2 r',q'⟩
   |exit id=>exact ⟨_,s1,.last r1 ah,q1⟩
   |goto l=>exact ⟨_,s1,.last r1 ah,q1⟩
   |ret=>exact ⟨_,s1,.last r1 ah,q1⟩
   |panic v=>exact ⟨_,s1,.last r1 ah,q1⟩
 obtain ⟨e,s',hcm,q⟩:=ex _ b0 rfl h0;refine ⟨e,s',Run.le hs ⟨hcm.nm,λro okc G0 w0 a0 rel0 F0=>?_⟩,q⟩;refine yX (λb a w=>nF P N x S μ b e s'/\lX w0 a0.defers a.defers/\∃G,Trans G0 w0 (S b0).h G w (S b).h/\Rel N (S b) G w a/\cB G (S b).h s'.h) μ ?_ ⟨hcm,.refl,G0,Trans.refl _ _ _,rel0,F0⟩;rintro b a w ⟨hcm,hd,G,T,rel,F⟩;cases hcm with
 |last r hne=>
  refine wpIn_mono (r.2 ro okc.loop G w a rel F) ?_;rintro e' a' w' ⟨h1,h2,G',T',r'⟩;have:e'≠ .normal:=by
   rintro rfl;cases e<;>simp[aO.eZ] at h1 hne
  have hgoal:e.eZ e'/\lX w0 a0.defers a'.defers/\∃G',Trans G0 w0 (S b0).h G' w' s'.h/\Rel N s' G' w' a':=⟨h1,hd.trans T.size_le h2,G',T.trans rel0.h rel.h T',r'⟩;cases e'<;>first|exact hgoal|exact absurd rfl this
 |more r hle hlt rest=>
  have nm:=rest.nm;refine wpIn_mono (r.2 ro okc.loop G w a rel (F.sub (N4 _) (OI hle.n nm.1) (N4 _) (OI hle.m nm.2))) ?_;rintro e' a' w' ⟨h1,h2,G',T',r'⟩;cases e'<;>simp only[aO.eZ] at h1;rename_i b' s1;have F1:=F.step T';obtain ⟨G2,T2,r2⟩:=hle.go N G' w' a' r' (F1.sub (N4 _) nm.1 (N4 _) nm.2);have T3:=(T.trans rel0.h rel.h T').trans rel0.h r'.h T2;exact ⟨b',⟨rest,hd.trans T.size_le h2,G2,T3,r2,F1.step T2⟩,hlt⟩
def fB:AC->Nat->Option AC
 | .seq a b,l=>match fB a l with
  |some r=>some (.seq r b)
  |none=>fB b l
 | .label l',l=>if l'=l then some .skip else none
 |_,_=>none
theorem yY{l:Nat}:∀{c:Code}{x:AC},cCode P N c=some x->match findLabel c l with|some rest=>∃y,cCode P N rest=some y/\fB x l=some y|none=>fB x l=none:=by
 intro c;induction c with
 |seq a b iha ihb=>
  intro x h;obtain ⟨a',b',he,h1,h2⟩:∃a' b',x= .seq a' b'/\cCode P N a=some a'/\cCode P N b=some b':=by
   simp only[cCode] at h;split at h
   ·cases h;exact ⟨_,_,rfl,‹_›,‹_›⟩
   ·cases h
  subst he;have ga:=iha h1;have gb:=ihb h2;simp only[findLabel,fB];cases hf:findLabel a l with
  |some rest=>
   rw[hf] at ga;obtain ⟨y,y1,y2⟩:=ga;simp only[y2];exact ⟨_,by simp only[cCode,y1,h2],rfl⟩
  |none=>
   rw[hf] at ga;simp only at ga;simp only[ga];exact gb
 |label l'=>
  intro x h;simp only[cCode,Om] at h;subst h;simp only[findLabel,fB];by_cases e:l'=l
  ·simp only[e,PJ,Of];exact ⟨.skip,rfl,rfl⟩
  ·have:(l' == l)=false:=by simpa using e
   simp only[this,Ob e,Oq,Od]
 |skip=>intro x h;simp only[cCode,Om] at h;subst h;simp[findLabel,fB]
 |region id ops draw=>
  intro x h;simp only[cCode] at h
  (repeat' split at h)<;>cases h<;>simp[findLabel,fB]
 |cond z a b _ _=>
  intro x h;simp only[cCode] at h;split at h<;>cases h;simp[findLabel,fB]
 |block id a _=>intro x h;simp only[cCode,Oc] at h;obtain ⟨_,_,rfl⟩:=h;simp[findLabel,fB]
 |loop a _=>intro x h;simp only[cCode,Oc] at h;obtain ⟨_,_,rfl⟩:=h;simp[findLabel,fB]
 |rangeFunc g ps a b _ _=>
  intro x h;simp only[cCode] at h
  (repeat' split at h)<;>cases h<;>simp[findLabel,fB]
 |exit id=>intro x h;simp only[cCode,Om] at h;subst h;simp[findLabel,fB]
 |scope a _=>intro x h;simp only[cCode,Oc] at h;obtain ⟨_,_,rfl⟩:=h;simp[findLabel,fB]
 |goto l'=>intro x h;simp only[cCode,Om] at h;subst h;simp[findLabel,fB]
 |ret=>intro x h;simp only[cCode,Om] at h;subst h;simp[findLabel,fB]
 |refuse=>intro x h;simp[cCode] at h
def mG(F:Fence)(n:Nat)(P:Program)(c cur:Code)(Q:Exit->Act->World->Prop)(a:Act)(w:World):Prop:=
 ∀(b:Frame)(k:List Item)(cs:List Frame),b.roundOf=F.round->F.fn b.fn->F.room (cs.length+1+n)->
  ∃e a' w',Q e a' w'/\ArrivesIn (Machine.fenced P F) P (lone (b.atR a (.code cur:: .inScope c::k)) cs w) b k cs e a' w'
theorem wP{b:Frame}{a:Act}{k:List Item}{cs:List Frame}{w:World}{c:Code}:step P (lone (b.atR a (.code (.scope c)::k)) cs w)= .next (lone (b.atR a (.code c:: .inScope c::k)) cs w):=
 step_lone_go (by simp[stepG,stepG.exec,Frame.atR])
theorem tw{b:Frame}{a:Act}{k:List Item}{cs:List Frame}{w:World}{c:Code}:step P (lone (b.atR a (.inScope c::k)) cs w)= .next (lone (b.atR a k) cs w):=
 step_lone_go (by simp[stepG,stepG.exec,Frame.atR])
theorem mG.start{F:Fence}{n:Nat}{c:Code}{Q:Exit->Act->World->Prop}{a:Act}{w:World}(h:mG F n P c c Q a w):(Code.scope c).wpIn F n P Q a w:=by
 intro b k cs hro hb hr;obtain ⟨e,a₁,w₁,hq,harr⟩:=h b k cs hro hb hr;exact ⟨e,a₁,w₁,hq,.of_steps (.one (fenced_calm hb hr rfl) wP) harr⟩
def Exit.within(F:Fence)(n:Nat)(P:Program)(c:Code)(Q:Exit->Act->World->Prop):Exit->Act->World->Prop
 | .goto l,a,w=>match findLabel c l with
  |some rest=>mG F n P c rest Q a w
  |none=>Q (.goto l) a w
 |e,a,w=>Q e a w
theorem mG.step{F:Fence}{n:Nat}{c cur:Code}{Q:Exit->Act->World->Prop}{a:Act}{w:World}(h:cur.wpIn F n P (Exit.within F n P c Q) a w):mG F n P c cur Q a w:=by
 intro b k cs hro hb hr;obtain ⟨e,a₁,w₁,hq,harr⟩:=h b (.inScope c::k) cs hro hb hr;cases e with
 |normal=>exact ⟨.normal,a₁,w₁,hq,StepsIn.trans harr (.one (fenced_calm hb hr rfl) tw)⟩
 |exit id=>exact ⟨.exit id,a₁,w₁,hq,λk' hk=>harr.1 k' (by simp[exitTo,hk]),λh1 h2=>harr.2 h1 (by simp[exitTo,h2])⟩
 |goto l=>
  simp only[Exit.within] at hq;cases hf:findLabel c l with
  |some rest=>
   rw[hf] at hq;obtain ⟨e₂,a₂,w₂,hq₂,harr₂⟩:=hq b k cs hro hb hr;exact ⟨e₂,a₂,w₂,hq₂,.of_steps (harr.1 _ (by simp[gotoIn,hf])) harr₂⟩
  |none=>
   rw[hf] at hq;exact ⟨.goto l,a₁,w₁,hq,λk' hk=>harr.1 k' (by simp[gotoIn,hf,hk]),λh1 h2=>harr.2 h1 (by simp[gotoIn,hf,h2])⟩
 |ret=>exact ⟨_,a₁,w₁,hq,harr⟩
 |panic ch=>exact ⟨_,a₁,w₁,hq,harr⟩
 |outgrown=>exact ⟨_,a₁,w₁,hq,harr⟩
def NM(P:Program)(N:Nat)(c cur:Code)(s:St)(e:aO)(s':St):Prop:=
 (s.h.n<=s'.h.n/\s.h.m<=s'.h.m)/\∀ro,okR c ro->okR cur ro->∀G w a,Rel N s G w a->cB G s.h s'.h->mG (rd ro) 0 P c cur (λe' a' w'=>e.eZ e'/\lX w a.defers a'.defers/\∃G',Trans G w s.h G' w' s'.h/\Rel N s' G' w' a') a w
def WpS(P:Program)(N:Nat)(c cur:AC)(s:St)(Q:aO->St->Prop):Prop:=
 ∀code ccur,cCode P N code=some c->cCode P N ccur=some cur->∃e s',NM P N code ccur s e s'/\Q e s'
theorem yZ{code:Code}{x:AC}(h:cCode P N code=some (.scope x)):∃a,code= .scope a/\cCode P N a=some x:=by
 cases code<;>simp only[cCode] at h<;>(try cases h);all_goals first
  |(simp only[Oc] at h
    obtain ⟨a,h1,h2⟩:=h;cases h2;exact ⟨_,rfl,h1⟩)
  |(simp at h;done)
  |((repeat' split at h)<;>cases h;done)
theorem y7{code:Code}{l:Nat}(h:cCode P N code=some (.label l)):code= .label l:=by
 cases code<;>simp only[cCode] at h<;>(try cases h)<;>(try rfl);all_goals first|((repeat' split at h)<;>cases h;done)|(simp at h;done)
theorem CV{code:Code}{l:Nat}(h:cCode P N code=some (.goto l)):code= .goto l:=by
 cases code<;>simp only[cCode] at h<;>(try cases h)<;>(try rfl);all_goals first|((repeat' split at h)<;>cases h;done)|(simp at h;done)
theorem Wp.label{l:Nat}(h:Q .normal s):Wp P N (.label l) s Q:=by
 intro code hc;obtain rfl:=y7 hc;exact ⟨.normal,s,⟨⟨N4 _,N4 _⟩,λro okc G w a r _=>wpIn_label ⟨trivial,.refl,G,Trans.refl _ _ _,r⟩⟩,h⟩
theorem Wp.goto{l:Nat}(h:Q (.goto l) s):Wp P N (.goto l) s Q:=by
 intro code hc;obtain rfl:=CV hc;exact ⟨.goto l,s,⟨⟨N4 _,N4 _⟩,λro okc G w a r _=>wpIn_goto ⟨rfl,.refl,G,Trans.refl _ _ _,r⟩⟩,h⟩
theorem Wp.scope{c:AC}(h:WpS P N c c s Q):Wp P N (.scope c) s Q:=by
 intro code hc;obtain ⟨x,rfl,hx⟩:=yZ hc;obtain ⟨e,s',r,q⟩:=h x x hx hx;exact ⟨e,s',⟨r.1,λro okc G w a rel F=>(r.2 ro okc.scope okc.scope G w a rel F).start⟩,q⟩
def aO.within(P:Program)(N:Nat)(c:AC)(Q:aO->St->Prop):aO->St->Prop
 | .goto l,s=>match fB c l with
  |some rest=>WpS P N c rest s Q
  |none=>Q (.goto l) s
 |e,s=>Q e s
theorem WpS.step{c cur:AC}(h:Wp P N cur s (aO.within P N c Q)):WpS P N c cur s Q:=by
 intro code ccur hc hcur;obtain ⟨e,s1,r1,q1⟩:=h ccur hcur;cases e with
 |normal=>
  refine ⟨.normal,s1,⟨r1.1,λro okc okd G w ac r F=> .step (wpIn_mono (r1.2 ro okd G w ac r F) ?_)⟩,q1⟩;rintro e' a' w' ⟨h1,h2⟩;cases e'<;>simp only[aO.eZ] at h1;exact ⟨trivial,h2⟩
 |ret=>
  refine ⟨.ret,s1,⟨r1.1,λro okc okd G w ac r F=> .step (wpIn_mono (r1.2 ro okd G w ac r F) ?_)⟩,q1⟩;rintro e' a' w' ⟨h1,h2⟩;cases e'<;>simp only[aO.eZ] at h1;exact ⟨trivial,h2⟩
 |panic v=>
  refine ⟨.panic v,s1,⟨r1.1,λro okc okd G w ac r F=> .step (wpIn_mono (r1.2 ro okd G w ac r F) ?_)⟩,q1⟩;rintro e' a' w' ⟨h1,h2⟩;cases e'<;>simp only[aO.eZ] at h1;exact ⟨h1,h2⟩
 |exit i=>
  refine ⟨.exit i,s1,⟨r1.1,λro okc okd G w ac r F=> .step (wpIn_mono (r1.2 ro okd G w ac r F) ?_)⟩,q1⟩;rintro e' a' w' ⟨h1,h2⟩;cases e'<;>simp only[aO.eZ] at h1;exact ⟨h1,h2⟩
 |goto l=>
  simp only[aO.within] at q1;have hfl:=yY (l:=l) hc;cases hf:findLabel code l with
  |none=>
   rw[hf] at hfl;simp only at hfl;rw[hfl] at q1;refine ⟨.goto l,s1,⟨r1.1,λro okc okd G w ac r F=> .step (wpIn_mono (r1.2 ro okd G w ac r F) ?_)⟩,q1⟩;rintro e' a' w' ⟨h1,h2⟩;cases e'<;>simp only[aO.eZ] at h1;subst h1;simp only[Exit.within,hf];exact ⟨rfl,h2⟩
  |some rest=>
   rw[hf] at hfl;obtain ⟨y,y1,y2⟩:=hfl;rw[y2] at q1;obtain ⟨e2,s2,r2,q2⟩:=q1 code rest hc y1;obtain ⟨⟨l1,l2⟩,r1⟩:=r1;obtain ⟨⟨l3,l4⟩,r2⟩:=r2;refine ⟨e2,s2,⟨⟨ae,ae⟩,λro okc okd G w ac r F=> .step (wpIn_mono (r1 ro okd G w ac r (F.sub (N4 _) l3 (N4 _) l4)) ?_)⟩,q2⟩;rintro e' a' w' ⟨h1,h2,G',T1,r'⟩;cases e'<;>simp only[aO.eZ] at h1;subst h1;simp only[Exit.within,hf];intro b k cs hro hb hr;obtain ⟨e'',a'',w'',⟨k1,k2,G'',T2,r''⟩,harr⟩:=r2 ro okc (okc.find hf) G' w' a' r' (F.step T1) b k cs hro hb hr;exact ⟨e'',a'',w'',⟨k1,h2.trans T1.size_le k2,G'',T1.trans r.h r'.h T2,r''⟩,harr⟩
end
section
variable{P:Program}{N:Nat}
theorem lY{ρ ρ':Opd->AV}:∀{l:List (Nat × Nat × Opd)}{cs:List AV},(∀x∈l.map (λp=>p.2.2),ρ x=ρ' x)->fF ρ l cs=fF ρ' l cs
 |[],_,_=>rfl
 |(off,n,x)::l,cs,h=>by
  have hx:ρ x=ρ' x:=h x ah;simp only[fF,hx];split
  ·exact lY λy hy=>h y (by simp at hy |-;exact .inr hy)
  ·rfl
theorem CW{ρ ρ':Opd->AV}{h:H}{op:AOp}(hh:∀x∈bI op,ρ x=ρ' x):aop ρ h op=aop ρ' h op:=by
 cases op with
 |build z parts=>simp only[aop,lY (l:=parts) hh]
 |raw k xs=>
  have e1:xs.map ρ=xs.map ρ':=Pb λx hx=>hh x (by simpa [bI] using hx);simp only[aop,e1]
 |buildSl sz parts=>
  have e1:parts.map ρ=parts.map ρ':=Pb hh;have e2:parts.all (λx=>decide ((cellsOf (ρ x)).length=sz/\shaped (ρ x)=true))=parts.all (λx=>decide ((cellsOf (ρ' x)).length=sz/\shaped (ρ' x)=true)):=by
   rw[Q5];simp only[OK];exact ⟨λk x hx=>by rw[<-hh x hx];exact k x hx,λk x hx=>by rw[hh x hx];exact k x hx⟩
  simp only[aop,e1,e2]
 |mkfn fn a b=>
  have e1:a.map ρ=a.map ρ':=Pb λx hx=>hh x (by simp[bI,hx]);have e2:b.map ρ=b.map ρ':=Pb λx hx=>hh x (by simp[bI,hx]);simp only[aop,e1,e2]
 |slc str sz x a b c=>
  have e0:ρ x=ρ' x:=hh x (by simp[bI]);have e1:∀y:Option Opd,(∀z∈y.toList,ρ z=ρ' z)->y.map ρ=y.map ρ':=by
   intro y hy;cases y with
   |none=>rfl
   |some z=>simp[hy z ah]
  have e2:(c.map λm=>some (ρ m))=(c.map λm=>some (ρ' m)):=by
   cases c with
   |none=>rfl
   |some z=>simp[hh z (by simp[bI])]
  simp only[aop,e0,e1 a (λz hz=>hh z (by simp only[bI,OA,OS];exact .inr (.inl (.inl hz)))),e1 b (λz hz=>hh z (by simp only[bI,OA,OS];exact .inr (.inl (.inr hz)))),e2]
 |call f l=>rfl
 |callv x l=>rfl
 |alloc z=>rfl
 |dead=>rfl
 |pan x=>rfl
 |_=>simp[bI] at hh;simp only[aop,hh]
def jD(l:List Nat)(t:Tm):Tm:=λi=>if l.contains i then t i else .any
theorem fO{l:List Nat}{G:aT}{w:World}{t:Tm}{a:Act}(h:TOn l G w t a):cG G w (jD l t) a:=by
 intro i;unfold jD;split
 ·rename_i hh;exact h i (by simpa using hh)
 ·simp[aC]
theorem jN{l:List Nat}{t:Tm}{xs:List Opd}(h:(tmpsOf xs).all (λi=>l.contains i)=true):∀x∈xs,ev (jD l t) x=ev t x:=by
 intro x hx;cases x with
 |c a=>rfl
 |t i=>
  simp only[ev,jD];rw[OK] at h;have:=h i (by simp only[tmpsOf,List.mem_filterMap];exact ⟨_,hx,rfl⟩);rw[Oi this]
def guardOf(t:Tm)(g:Option (Nat × Bool)):Option Bool:=
 match g with
 |none=>some true
 |some (d,w)=>match t d with
  | .bool b=>some (b == w)
  | .sc (.tuple _)=>some false
  |_=>none
theorem cN{ops:Array Oper}{o:Oper}{g:Option (Nat × Bool)}{t:Tm}{a:Act}{G:aT}{w:World}{b:Bool}(hg:lW ops o.guard=some g)(ht:TOn (names ops o) G w t a)(hb:guardOf t g=some b):
  Region.wanted o (yielded ops a.tmps)=b:=by
 unfold Region.wanted;cases hog:o.guard with
 |none=>
  rw[hog] at hg;simp[lW] at hg;subst hg;simp[guardOf] at hb;simp[hb]
 |some jw=>
  obtain ⟨j,want⟩:=jw;rw[hog] at hg;simp only[lW] at hg;split at hg
  ·rename_i d hd;cases hg;simp only[guardOf] at hb;split at hb
   ·rename_i c hc;cases hb;have hr:=ht d (by simp only[names,hog,OS];right;simp[hd]);rw[hc] at hr;simp only[aC] at hr;have hy:yielded ops a.tmps j=some c:=by
     unfold yielded;rw[hd];simp only[Option.bind_some];have:a.tmps[d]? =some (.bool c):=by
      cases hk:a.tmps[d]? with
      |none=>simp[hk] at hr;simp[undef] at hr
      |some v=>simp[hk] at hr;rw[hr]
     rw[this]
    simp only[hy];cases c<;>cases want<;>rfl
   ·rename_i xs hc;cases hb;have hr:=ht d (by simp only[names,hog,OS];right;simp[hd]);rw[hc] at hr;simp only[aC] at hr;have hy:yielded ops a.tmps j=none:=by
     unfold yielded;rw[hd];simp only[Option.bind_some];cases hk:a.tmps[d]? with
     |none=>rfl
     |some v=>simp[hk] at hr;rw[hr]
    simp only[hy];cases want<;>rfl
   ·cases hb
  ·cases hg
theorem eS{o:Oper}{op:AOp}(h:cOp P o=some op):∀c,o.op≠ .defer c:=by
 intro c e;unfold cOp at h;rw[e] at h;cases h
theorem kT{ro:Option Nat}{n:Nat}{f:FuncId}{args:Array Value}{w:World}{R:Ending->World->Prop}(h:Calls P f args w R):CallsIn (rd ro) n P f args w R:=by
 have h2:CallsIn Fence.wide n P f args w R:=callsIn_wide.2 h;exact h2
theorem ja{ops:Array Oper}{i:Nat}{o:Oper}{it:aX}{t:Tm}{h h':H}{x:AV}{en:Ent}(ho:ops[i]? =some o)(hit:bP P N ops o=some it)(hg:guardOf t it.guard=some true)(hx:aop (ev t) h it.op=some (x,h',en)):
  ∃h1 h1',Touch h h1 h1' h' en/\iH P ops i o t h1 x h1':=by
 unfold bP at hit;split at hit
 ·rename_i op g hop hgd;split at hit<;>cases hit;rename_i hcond;simp only[Oh] at hcond;have hx':aop (ev (jD (names ops o) t)) h op=some (x,h',en):=by
   rw[CW (jN hcond.2)];exact hx
  obtain ⟨hpl,h1,h1',tc,loc⟩:(∀c,o.op≠ .defer c)/\Loc P o (jD (names ops o) t) h x h' en:=by
   cases hr:tT op with
   |false=>
    have hop:=gY hop (by rintro rfl;simp[aop] at hx) hr;exact ⟨eS hop,HD hop hx'⟩
   |true=>
    cases op<;>simp[tT] at hr;have hop:=EM hop;refine ⟨yO hop,?_⟩;simp only[aop,Oc,Ow] at hx';obtain ⟨v,hv,rfl,rfl,rfl⟩:=hx';exact Loc.plain λG w a ht=>CQ hop hv ht
  refine ⟨h1,h1',tc,λG w a ht R F K Q hK ro=>?_⟩;obtain ⟨nx,v,w',G',e1,e2,T1,R1,V⟩:=loc G w a (fO ht) R F;unfold wpOpIn;rw[ho];simp only[cN hgd ht hg,Of];refine ⟨λ_ _=>trivial,?_⟩;rw[Oper.semAt_eq _ _ _ hpl,e1];rcases e2 with rfl|⟨rfl,rfl⟩
  ·rw[Oper.uponIn_value];exact hK G' w' v T1 R1 V
  ·rw[Oper.uponIn_skip];exact hK G' w' undef T1 R1 V
 ·cases hit
theorem gR{ops:Array Oper}{i:Nat}{o:Oper}{it:aX}{t:Tm}{h:H}(ho:ops[i]? =some o)(hit:bP P N ops o=some it)(hg:guardOf t it.guard=some false):
  iH P ops i o t (H0 h.n h.m) (.sc undef) (H0 h.n h.m):=by
 unfold bP at hit;split at hit
 ·rename_i op g hop hgd;split at hit<;>cases hit;intro G w a ht R F K Q hK ro;unfold wpOpIn;rw[ho];simp only[cN hgd ht hg,Od,Oq];refine ⟨λ_ _=>trivial,?_⟩;exact hK G w undef (Trans.refl _ _ _) R (by simp[aC])
 ·cases hit
theorem wQ{o:Oper}{f:FuncId}{l:List Opd}(h:cOp P o=some (.call f l)):∃c fn,o.op= .call c/\c.callee= .value (.func f)/\ny P c.argTypes.toList c.args.toList=some l/\P.funcs[f]? =some fn/\fn.body.isSome=true/\fn.name≠ "runtime.NumGoroutine" :=by
 unfold cOp at h;split at h
 case h_28 c hop=>
  split at h
  case h_8 f' hc=>
   split at h
   ·split at h
    ·rename_i fn hfn hcond;simp only[Oc] at h;obtain ⟨l',h1,h2⟩:=h;cases h2;exact ⟨c,fn,hop,hc,h1,hfn,hcond.1,hcond.2⟩
    ·cases h
   ·cases h
  all_goals first
   |(cases h;done)
   |((repeat' split at h)<;>(try cases h)<;>simp at h)
 all_goals first
  |(cases h;done)
  |(simp at h;done)
  |((repeat' split at h)<;>(try cases h)<;>(try simp at h);done)
  |skip
theorem tW{o:Oper}{y:Opd}{l:List Opd}(h:cOp P o=some (.callv y l)):∃c z,o.op= .call c/\c.callee= .value z/\opd P 0 z=some y/\ny P c.argTypes.toList c.args.toList=some l:=by
 unfold cOp at h;split at h
 case h_28 c hop=>
  split at h
  case h_9 z _ hc=>
   split at h
   ·rename_i a l' h1 h2;cases h;exact ⟨c,z,hop,hc,h1,h2⟩
   ·cases h
  all_goals first
   |(cases h;done)
   |((repeat' split at h)<;>(try cases h)<;>simp at h)
 all_goals first
  |(cases h;done)
  |(simp at h;done)
  |((repeat' split at h)<;>(try cases h)<;>(try simp at h);done)
theorem eF{f:FuncId}{fn:Func}{args:Array Value}(w:World)(hf:P.funcs[f]? =some fn)(hb:fn.body.isSome=true)(hn:fn.name≠ "runtime.NumGoroutine"):(callFunc f args).run P w= .ok (.enter f args) w:=by
 have hb':fn.body≠none:=by intro h;rw[h] at hb;cases hb
 simp[callFunc,hf,hn,hb']
theorem rN{o:Oper}{f:FuncId}{vals:List AV}{h1 h1':H}{r:AV}(hc:bB P f vals h1 r h1'){G:aT}{w:World}{a:Act}{vs:List Value}(hv:aE G w vals vs)(R:bj G h1 w)(F:cB G h1 h1'){K:Act->World->Prop}{Q:Exit->Act->World->Prop}{ro:Option Nat}(hd:∀c,o.op≠ .defer c)
  (hK:∀G' w' v,Trans G w h1 G' w' h1'->bj G' h1' w'->aC G' w' r v->K (a.put o.dst v) w') (hrun:(execOp a.eval o).run P w= .ok (.enter f vs.toArray) w):o.wpIn (rd ro) 0 P a w K Q:=by
 refine ⟨λ_ _=>trivial,?_⟩;rw[Oper.semAt_eq _ _ _ hd,hrun,Oper.uponIn_enter];refine ⟨λh=>by simp[rd,Fence.wide] at h,kT ?_⟩;refine (hc G w vs hv R F).mono ?_;rintro e w' ⟨v,G',rfl,T,R',V⟩;exact hK G' w' v T R' V
theorem eG{ops:Array Oper}{i:Nat}{o:Oper}{it:aX}{t:Tm}{f:FuncId}{l:List Opd}{vals:List AV}{h1 h1':H}{r:AV}(ho:ops[i]? =some o)(hit:bP P N ops o=some it)(hg:guardOf t it.guard=some true)(hop:it.op= .call f l)
  (hs:aA (l.map (ev t)) vals) (hc:bB P f vals h1 r h1'):iH P ops i o t h1 r h1':=by
 unfold bP at hit;split at hit
 ·rename_i op g hcop hgd;split at hit<;>cases hit;rename_i hcond;simp only[Oh] at hcond;simp only at hop;subst hop;have hcop:=gY hcop ah rfl;obtain ⟨c,fn,e1,e2,e3,e4,e5,e6⟩:=wQ hcop;intro G w a ht R F K Q hK ro;unfold wpOpIn;rw[ho];simp only[cN hgd ht hg,Of];have rr:=iv (P:=P) (fO ht) e3;have el:l.map (ev (jD (names ops o) t))=l.map (ev t):=Pb λx hx=>jN hcond.2 x (by simpa [bI] using hx);rw[el] at rr;refine rN hc (hs G w _ rr) R F (eS hcop) hK ?_;have hargs:(c.args.map a.eval)=(c.args.toList.map a.eval).toArray:=by cases c.args;simp
  simp[execOp,e1,resolve,e2,Act.eval,Deferred.ofValue,invoke,hargs,eF w e4 e5 e6]
 ·cases hit
theorem ql{ops:Array Oper}{i:Nat}{o:Oper}{it:aX}{t:Tm}{f:FuncId}{fn:Func}{y:Opd}{l:List Opd}{first caps vals:List AV}{h1 h1':H}{r:AV}(ho:ops[i]? =some o)(hit:bP P N ops o=some it)(hg:guardOf t it.guard=some true)(hop:it.op= .callv y l)
  (hy:ev t y= .clo (.func f) first caps) (hf:P.funcs[f]? =some fn) (hb:fn.body.isSome=true) (hn:fn.name≠ "runtime.NumGoroutine")
  (hs:aA (first++l.map (ev t)++caps) vals) (hc:bB P f vals h1 r h1'):iH P ops i o t h1 r h1':=by
 unfold bP at hit;split at hit
 ·rename_i op g hcop hgd;split at hit<;>cases hit;rename_i hcond;simp only[Oh] at hcond;simp only at hop;subst hop;have hcop:=gY hcop ah rfl;obtain ⟨c,z,e1,e2,e3,e4⟩:=tW hcop;intro G w a ht R F K Q hK ro;unfold wpOpIn;rw[ho];simp only[cN hgd ht hg,Of];have rr:=iv (P:=P) (fO ht) e4;have rz:=aK (P:=P) e3 (fO ht);have hcut:=jN (t:=t) hcond.2;have el:l.map (ev (jD (names ops o) t))=l.map (ev t):=Pb λx hx=>hcut x (by simp[bI,hx]);rw[el] at rr;rw[hcut y (by simp[bI]),hy] at rz;simp only[aC] at rz;obtain ⟨vs,us,q1,q2,q3⟩:=rz;refine rN hc (hs G w _ ((q2.append rr).append q3)) R F (eS hcop) hK ?_;have hargs:(c.args.map a.eval)=(c.args.toList.map a.eval).toArray:=by cases c.args;simp
  simp[execOp,e1,resolve,e2,q1,Deferred.ofValue,invoke,hargs,eF w hf hb hn]
 ·cases hit
def az(P:Program)(N:Nat)(items:List aX)(t:Tm)(h:H)(log:List Ent)(K:Tm->H->List Ent->Prop):Prop:=
 ∀ops i,i<=ops.size->dL P N ops (ops.toList.drop i)=some items->
  ∃recs t' h',JH P ops i recs t h t' h'/\K t' h' (log.reverse++recs.map (·.en))/\∀(k:Nat) r it,recs[k]? =some r->items[k]? =some it->bN it.op=false->r.en=aU
theorem az.nil{t:Tm}{h:H}{log:List Ent}{K:Tm->H->List Ent->Prop}(hk:K t h log.reverse):az P N [] t h log K:=by
 intro ops i hi hc;have:i=ops.size:=by
  cases hd:ops.toList.drop i with
  |nil=>have:=List.drop_eq_nil_iff.1 hd;simp at this;omega
  |cons o l=>
   rw[hd] at hc;simp only[dL] at hc;split at hc<;>simp at hc
 exact ⟨[],t,h,.nil this,by simpa using hk,by simp⟩
theorem cD{ops:Array Oper}{i:Nat}{it:aX}{its:List aX}(hi:i<=ops.size)(hc:dL P N ops (ops.toList.drop i)=some (it::its)):
  ∃o,ops[i]? =some o/\bP P N ops o=some it/\i+1<=ops.size/\dL P N ops (ops.toList.drop (i+1))=some its:=by
 cases hd:ops.toList.drop i with
 |nil=>rw[hd] at hc;simp[dL] at hc
 |cons o l=>
  rw[hd] at hc;simp only[dL] at hc;split at hc
  ·rename_i a r h1 h2;cases hc;have hlt:i<ops.toList.length:=by
    rcases Py i ops.toList.length with h|h
    ·exact h
    ·rw[Pg h] at hd;cases hd
   have e:=P7 hlt;rw[hd] at e;obtain ⟨e1,e2⟩:=List.cons.inj e;have hlt':i<ops.size:=by simpa using hlt
   refine ⟨o,?_,h1,ae,by rw[<-e2];exact h2⟩;rw[O3 hlt',e1];simp
  ·cases hc
theorem az.step{it:aX}{its:List aX}{t:Tm}{h h' h1 h1':H}{x:AV}{en:Ent}{log:List Ent}{K:Tm->H->List Ent->Prop}(tc:Touch h h1 h1' h' en)
  (run:∀(ops:Array Oper) i o,ops[i]? =some o->bP P N ops o=some it->iH P ops i o t h1 x h1') (hen:bN it.op=false->en=aU)
  (rest:az P N its (bL t it.dst x) h' (en::log) K):az P N (it::its) t h log K:=by
 intro ops i hi hc;obtain ⟨o,ho,hit,hi',hc'⟩:=cD hi hc;obtain ⟨recs,t',hh',ch,hk,he⟩:=rest ops (i+1) hi' hc';have hdst:it.dst=o.dst:=by
  unfold bP at hit;split at hit
  ·split at hit<;>cases hit;rfl
  ·cases hit
 refine ⟨⟨t,h,h1,h1',h',x,en⟩::recs,t',hh',.cons ho rfl rfl tc (λ_=>run ops i o ho hit) (by rw[<-hdst];exact ch),by simpa using hk,?_⟩;intro k r it' hr hit' ht;cases k with
 |zero=>simp at hr hit';subst hr hit';exact hen ht
 |succ k=>simp at hr hit';exact he k r it' hr hit' ht
theorem uZ{ρ:Opd->AV}{h h':H}{op:AOp}{x:AV}{en:Ent}(ht:bN op=false)(hx:aop ρ h op=some (x,h',en)):en=aU\/∃n y,op= .load n y:=by
 cases op<;>simp[bN] at ht<;>simp only[aop] at hx<;>first
  |(simp only[Om,Ow] at hx;exact .inl hx.2.2.symm)
  |(simp only[Oc,Ow] at hx;obtain ⟨_,_,_,_,h⟩:=hx;exact .inl h.symm)
  |((repeat' split at hx)<;>(first|(cases hx;done)|(cases hx;exact .inl rfl)|(simp only[Oc,Ow] at hx;obtain ⟨_,_,_,_,h⟩:=hx;exact .inl h.symm)|skip))
 all_goals simp_all
def cK:List aX->Tm->H->List Ent->List aX × Tm × H × List Ent
 |[],t,h,l=>([],t,h,l)
 |it::its,t,h,l=>match guardOf t it.guard with
  |some true=>(match aop (ev t) h it.op with
   |some (x,h',en)=>cK its (bL t it.dst x) h' (en::l)
   |none=>(it::its,t,h,l))
  |some false=>cK its (bL t it.dst (.sc undef)) h (aU::l)
  |none=>(it::its,t,h,l)
theorem az.Be{b:List aX}:∀{items its:List aX}{t t':Tm}{h h':H}{log log':List Ent}{K:Tm->H->List Ent->Prop},cK items t h log=(its,t',h',log')->az P N (its++b) t' h' log' K->az P N (items++b) t h log K
 |[],its,t,t',h,h',log,log',K,he,hw=>by simp only[cK,Ow] at he;obtain ⟨rfl,rfl,rfl,rfl⟩:=he;exact hw
 |it::items,its,t,t',h,h',log,log',K,he,hw=>by
  simp only[cK] at he;split at he
  ·rename_i hg;split at he
   ·rename_i x h2 en hx;have rest:=az.Be he hw;intro ops i hi hc;obtain ⟨o,ho,hit,hi',hc'⟩:=cD hi hc;obtain ⟨h1,h1',tc,run⟩:=ja ho hit hg hx;obtain ⟨recs,t',hh',ch,hk,hen⟩:=rest ops (i+1) hi' hc';have hdst:it.dst=o.dst:=by
     unfold bP at hit;split at hit
     ·split at hit<;>cases hit;rfl
     ·cases hit
    refine ⟨⟨t,h,h1,h1',h2,x,en⟩::recs,t',hh',.cons ho rfl rfl tc (λ_=>run) (by rw[<-hdst];exact ch),by simpa using hk,?_⟩;intro k r it' hr hit' ht;cases k with
    |zero=>
     simp at hr hit';subst hr hit';rcases uZ ht hx with h|⟨n,y,h⟩
     ·exact h
     ·rw[h] at ht;simp[bN] at ht
    |succ k=>simp at hr hit';exact hen k r it' hr hit' ht
   ·simp only[Ow] at he;obtain ⟨rfl,rfl,rfl,rfl⟩:=he;exact hw
  ·rename_i hg;have rest:=az.Be he hw;exact az.step (bF h) (λops i o ho hit=>gR ho hit hg) (λ_=>rfl) rest
  ·simp only[Ow] at he;obtain ⟨rfl,rfl,rfl,rfl⟩:=he;exact hw
theorem az.eval{items its:List aX}{t t':Tm}{h h':H}{log log':List Ent}{K:Tm->H->List Ent->Prop}(he:cK items t h log=(its,t',h',log'))(hw:az P N its t' h' log' K):az P N items t h log K:=by
 have:=az.Be (b:=[]) he (by rw[OR];exact hw)
 rwa [OR] at this
theorem az.part(k:Nat){items:List aX}{t t':Tm}{h h':H}{log log':List Ent}{K:Tm->H->List Ent->Prop}(he:cK (items.take k) t h log=([],t',h',log'))(hw:az P N (items.drop k) t' h' log' K):az P N items t h log K:=by
 have:=az.Be (b:=items.drop k) he (by rw[List.nil_append];exact hw)
 rwa [P3] at this
theorem az.bO{dst:Option Nat}{g:Option (Nat × Bool)}{f:FuncId}{l:List Opd}{its:List aX}{t:Tm}{h:H}{log:List Ent}{K:Tm->H->List Ent->Prop}{vals:List AV}{r:AV}(hg:guardOf t g=some true)(hs:aA (l.map (ev t)) vals)(hc:aI P f vals r)
  (rest:az P N its (bL t dst r) h (aU::log) K):az P N (⟨dst,g,.call f l⟩::its) t h log K:=
 az.step (bF h) (λops i o ho hit=>eG ho hit hg rfl hs (hc h.n h.m)) (λ_=>rfl) rest
theorem az.u0{dst:Option Nat}{g:Option (Nat × Bool)}{f:FuncId}{fn:Func}{y:Opd}{l:List Opd}{its:List aX}{t:Tm}{h:H}{log:List Ent}{K:Tm->H->List Ent->Prop}{first caps vals:List AV}{r:AV}(hg:guardOf t g=some true)(hy:ev t y= .clo (.func f) first caps)
  (hf:P.funcs[f]? =some fn) (hb:fn.body.isSome=true) (hn:fn.name≠ "runtime.NumGoroutine") (hs:aA (first++l.map (ev t)++caps) vals) (hc:aI P f vals r)
  (rest:az P N its (bL t dst r) h (aU::log) K):az P N (⟨dst,g,.callv y l⟩::its) t h log K:=
 az.step (bF h) (λops i o ho hit=>ql ho hit hg rfl hy hf hb hn hs (hc h.n h.m)) (λ_=>rfl) rest
theorem az.jb{dst:Option Nat}{g:Option (Nat × Bool)}{f:FuncId}{l:List Opd}{its:List aX}{t:Tm}{h h' h1 h1':H}{log:List Ent}{en:Ent}{K:Tm->H->List Ent->Prop}{vals:List AV}{r:AV}(hg:guardOf t g=some true)(hs:aA (l.map (ev t)) vals)(hc:bB P f vals h1 r h1')
  (tc:Touch h h1 h1' h' en) (rest:az P N its (bL t dst r) h' (en::log) K):az P N (⟨dst,g,.call f l⟩::its) t h log K:=
 az.step tc (λops i o ho hit=>eG ho hit hg rfl hs hc) (λh=>by simp[bN] at h) rest
end
section
variable{P:Program}{N:Nat}
def rowOf(acc:Array Nat)(o:Oper):Nat:=o.after.foldl (λs e=>if Region.binds .any e then s ||| 2^e.on ||| acc.getD e.on 0 else s) 0
theorem CX{acc:Array Nat}{o:Oper}{j:Nat}(h:(rowOf acc o).testBit j=true):∃e∈o.after,Region.binds .any e=true/\(j=e.on\/(acc.getD e.on 0).testBit j=true):=by
 have key:∀(l:List Edge)(s:Nat),(l.foldl (λs e=>if Region.binds .any e then s ||| 2^e.on ||| acc.getD e.on 0 else s) s).testBit j=true->s.testBit j=true\/∃e∈l,Region.binds .any e=true/\(j=e.on\/(acc.getD e.on 0).testBit j=true):=by
  intro l;induction l with
  |nil=>intro s h;exact .inl h
  |cons e l ih=>
   intro s h;rcases ih _ h with h|⟨e',h1,h2⟩
   ·by_cases hb:Region.binds .any e=true
    ·simp only[hb,Of,Nat.testBit_or,OZ] at h;rcases h with (h|h)|h
     ·exact .inl h
     ·rw[Nat.testBit_two_pow] at h;exact .inr ⟨e,by simp,hb,.inl (by simpa using h.symm:e.on=j).symm⟩
     ·exact .inr ⟨e,by simp,hb,.inr h⟩
    ·simp only[hb,Od,Oq] at h;exact .inl h
   ·exact .inr ⟨e',by simp[h1],h2⟩
 unfold rowOf at h;rw[<-Array.foldl_toList] at h;rcases key _ _ h with h|⟨e,h1,h2⟩
 ·simp at h
 ·exact ⟨e,by simpa using h1,h2⟩
theorem wR(ops:Array Oper):∀(i:Nat) o,ops[i]? =some o->∀j,dA ops j i=true->∃e∈o.after,Region.binds .any e=true/\(j=e.on\/dA ops j e.on=true):=by
 have key:∀(l:List Oper)(acc:Array Nat),let B:=l.foldl (λacc o=>acc.push (rowOf acc o)) acc
   (B.size=acc.size+l.length)/\(∀k,k<acc.size->B.getD k 0=acc.getD k 0)/\∀k o,l[k]? =some o->∀j,(B.getD (acc.size+k) 0).testBit j=true->∃e∈o.after,Region.binds .any e=true/\(j=e.on\/(B.getD e.on 0).testBit j=true):=by
  intro l;induction l with
  |nil=>intro acc;simp
  |cons o l ih=>
   intro acc;obtain ⟨a1,a2,a3⟩:=ih (acc.push (rowOf acc o));simp only[List.foldl_cons];refine ⟨by rw[a1];simp;omega,λk hk=>?_,λk o' ho' j hj=>?_⟩
   ·rw[a2 k ar];simp[PO,hk];rw[Ob ae];rfl
   ·cases k with
    |zero=>
     simp at ho';subst ho';rw[a2 _ ah] at hj;simp at hj;obtain ⟨e,h1,h2⟩:=CX hj;refine ⟨e,h1,h2.1,h2.2.imp (λz=>z) λh=>?_⟩;have hlt:e.on<acc.size:=by
      rcases Py e.on acc.size with h'|h'
      ·exact h'
      ·simp[h'] at h
     rw[a2 _ ar];simp only[Array.getD_eq_getD_getElem?,PO] at h |-;rw[Ob ae];exact h
    |succ k=>
     simp at ho';have:=a3 k o' ho' j (by simpa [Rk,Nat.add_comm 1 k] using hj);exact this
 obtain ⟨a1,a2,a3⟩:=key ops.toList #[];have hB:Region.before ops=ops.toList.foldl (λacc o=>acc.push (rowOf acc o)) #[]:=by
  unfold Region.before;rw[<-Array.foldl_toList];rfl
 intro i o ho j hj;unfold dA at hj |-;rw[hB] at hj |-;exact a3 i o (by simpa using ho) j (by simpa using hj)
theorem Bf{ops:Array Oper}(h:tidy ops=true):Tidy ops:=by
 unfold tidy at h;simp only[Oh,OK] at h;obtain ⟨h1,h2⟩:=h;have hm:∀(i:Nat) o,ops[i]? =some o->(o,i)∈ops.toList.zipIdx:=by
  intro i o ho;rw[List.mem_iff_getElem?];exact ⟨i,by simp[List.getElem?_zipIdx,ho]⟩
 constructor
 ·intro i o ho e he hbd;have:=h1 (o,i) (hm i o ho);rw[Array.all_eq_true_iff_forall_mem] at this;have:=this e he;simpa [hbd] using this
 ·exact wR ops
 ·intro i j o o' ho ho' hne d hd hn;have:=h2 (o,i) (hm i o ho);simp only[hd,OK] at this;have:=this (o',j) (hm j o' ho');simp only[OZ,Qv,Qi] at this;rcases this with ((h|h)|h)|h
  ·exact absurd h hne
  ·have h3:(names ops o').contains d=true:=by simpa using hn
   rw[h3] at h;cases h
  ·exact .inl h
  ·exact .inr h
def aN:List (Nat × Nat)->List Ent->Prop
 |[],_=>True
 |(i,j)::l,log=>apart (log.getD i aU) (log.getD j aU)/\aN l log
theorem lZ:∀{l:List (Nat × Nat)}{log:List Ent},aN l log->∀{i j:Nat},(i,j)∈l->apart (log.getD i aU) (log.getD j aU)
 |(a,b)::l,log,h,i,j,hm=>by
  rcases OA.1 hm with e|hm
  ·cases e;exact h.1
  ·exact lZ h.2 hm
theorem kV(e:Ent):apart aU e/\apart e aU:=by
 constructor
 ·exact ⟨λid h=>by simp[aU] at h,λid h=>by simp[aU],λt h=>by simp[aU] at h⟩
 ·exact ⟨λid h=>by simp[aU],λid h=>by simp[aU] at h,λt h=>by simp[aU]⟩
def bg(p:Option (List (Nat × Nat)))(log:List Ent):Prop:=
 match p with
 |none=>True
 |some l=>aN l log
theorem jc{ops:Array Oper}:∀{l:List Oper}{items:List aX},dL P N ops l=some items->items.length=l.length/\∀(k:Nat) o it,l[k]? =some o->items[k]? =some it->bP P N ops o=some it
 |[],items,h=>by simp[dL] at h;subst h;simp
 |o::l,items,h=>by
  simp only[dL] at h;split at h
  ·rename_i a r h1 h2;cases h;obtain ⟨e1,e2⟩:=jc h2;refine ⟨by simp[e1],λk o' it ho hit=>?_⟩;cases k with
   |zero=>simp at ho hit;subst ho hit;exact h1
   |succ k=>simp at ho hit;exact e2 k o' it ho hit
  ·cases h
theorem ox{code:Code}{items:List aX}{p:Option (List (Nat × Nat))}(h:cCode P N code=some (.reg items p)):
  ∃id ops draw,code= .region id ops draw/\dL P N ops ops.toList=some items/\((draw=false/\p=none)\/(draw=true/\P.follows .mixedOrders=true/\tidy ops=true/\p=some (kQ ops items))):=by
 cases code<;>simp only[cCode] at h<;>(try cases h)
 ·split at h
  ·rename_i id ops draw _ items' hi;split at h
   ·split at h<;>cases h;rename_i hd hcond;simp only[Oh] at hcond;exact ⟨_,_,_,rfl,hi,.inr ⟨hd,hcond.1,hcond.2,rfl⟩⟩
   ·cases h;rename_i hd;exact ⟨_,_,_,rfl,hi,.inl ⟨by simpa using hd,rfl⟩⟩
  ·cases h
 all_goals first|((repeat' split at h)<;>cases h;done)|(simp at h;done)
theorem jd(G:aT)(w w':World)(h:H)(e1:w'.heap=w.heap)(e2:w'.os=w.os)(e3:w'.output=w.output):Trans G w h G w' h where
 dom_le _ x:=x
 dom_new _ x:= .inl x
 ι_eq _ _:=rfl
 tdom_le _ x:=x
 tdom_new _ x:= .inl x
 τ_eq _ _:=rfl
 n_le:=N4 _
 m_le:=N4 _
 size_le:=by rw[e1];exact N4 _
 os:=e2
 output:=e3
 form B _:=by rw[e1];exact bS.refl _
 keep _ _ _ _:=by rw[e1]
 own_keep _ _ _:=QL
 lim_keep _ _ _ _:=rfl
 tok_keep _ _ _ _ e he:=⟨λ_ _=>cell_of_heap e1 _,λe' he'=>by rw[he] at he';cases he';exact N4 _⟩
 O_new _ _ x:=x
 T_new _ _ x:=x
 objs_new _ o x:= .inl ⟨o,x⟩
 toks_new _ x:= .inl x
theorem bj.draw{G:aT}{w w':World}{h:H}(R:bj G h w)(e1:w'.heap=w.heap)(e2:w'.os=w.os)(e3:w'.output=w.output):bj G h w' where
 obj id o ho:=by
  obtain ⟨a,b,c,d⟩:=R.obj id o ho;exact ⟨a,b,by rw[e1];exact c,by rw[e1];exact d.mono R (jd G w w' h e1 e2 e3)⟩
 inj:=R.inj
 tok t ht:=⟨(R.tok t ht).1,λB e he=>by rw[e1];exact (R.tok t ht).2 B e he⟩
 tinj:=R.tinj
theorem Wp.reg{items:List aX}{p:Option (List (Nat × Nat))}{s:St}{Q:aO->St->Prop}(h:az P N items s.t s.h [] λt' h' log=>bg p log/\Q .normal ⟨t',h'⟩):Wp P N (.reg items p) s Q:=by
 intro code hc;obtain ⟨id,ops,draw,rfl,hi,hd⟩:=ox hc;obtain ⟨recs,t',h',ch,⟨hp,hq⟩,hen⟩:=h ops 0 (Ot _) (by simpa using hi);simp only[List.reverse_nil,List.nil_append] at hp;obtain ⟨nm,-,-⟩:=kd ch;obtain ⟨cl,ci⟩:=jc hi;have hN:∀(i:Nat) o d,ops[i]? =some o->o.dst=some d->d<N:=by
  intro i o d ho hdd;have hlt:i<ops.size:=(O5.1 ho).1;have hit:i<items.length:=by rw[cl];simpa using hlt
  have:=ci i o items[i] (by simpa using ho) (N5 hit);generalize items[i]=it at this;unfold bP at this;split at this
  ·split at this<;>cases this;rename_i hcond;simp only[Oh] at hcond;have:=hcond.1;rw[hdd] at this;simpa using this
  ·cases this
 refine ⟨.normal,⟨t',h'⟩,⟨nm,λro okc G w a r F=>?_⟩,hq⟩;rcases hd with ⟨rfl,rfl⟩|⟨rfl,hm,ht,rfl⟩
 ·refine wpIn_region ?_;rw[List.range_eq_range'];have:=CH ro (Q:=λe' a' w'=>aO.normal.eZ e'/\lX w a.defers a'.defers/\∃G',Trans G w s.h G' w' h'/\Rel N ⟨t',h'⟩ G' w' a') hN ch G w a r.size r.t r.h F
   (λG' w' a' T1 t1 R1 s1 d1=>⟨trivial,by rw[d1];exact .refl,G',T1,⟨s1,t1,R1,by rw[d1];exact r.df.mono T1⟩⟩)
  simpa using this
 ·refine wpIn_region_any hm ?_;obtain ⟨a1,a2,-⟩:=jC ch;rw[Oo] at a1;have ap:∀i j,i<j->j<ops.size->dA ops i j=false->apart (recs.getD i cZ).en (recs.getD j cZ).en:=by
   intro i j hij hj hanc;have hir:i<recs.length:=by omega
   have hjr:j<recs.length:=by omega
   have hii:i<items.length:=by rw[cl];simp;omega
   have hjj:j<items.length:=by rw[cl];simp;omega
   have ei:(recs.getD i cZ).en=(recs.map (·.en)).getD i aU:=by simp[List.getD,N5 hir]
   have ej:(recs.getD j cZ).en=(recs.map (·.en)).getD j aU:=by simp[List.getD,N5 hjr]
   have gi:(recs.getD i cZ)=recs[i]:=by simp[List.getD,N5 hir]
   have gj:(recs.getD j cZ)=recs[j]:=by simp[List.getD,N5 hjr]
   by_cases ti:bN items[i].op=true
   ·by_cases tj:bN items[j].op=true
    ·rw[ei,ej];refine lZ hp ?_;unfold kQ;simp only[QT,O6,List.mem_filterMap];refine ⟨j,hj,i,hij,?_⟩;unfold dA at hanc;simp[N5 hii,N5 hjj,ti,tj];simpa using hanc
    ·rw[gj,hen j _ _ (N5 hjr) (N5 hjj) (by simpa using tj)];exact (kV _).2
   ·rw[gi,hen i _ _ (N5 hir) (N5 hii) (by simpa using ti)];exact (kV _).1
  let w1:World:={w with drawn:=w.drawn+1}
  have hz:∀k,(Array.replicate ops.size false).getD k false=false:=by intro k;simp[Array.getElem?_replicate];split<;>rfl
  have hz':(λk=>(Array.replicate ops.size false).getD k false)=λ_=>false:=funext hz;have vz:∀{β:Type}(u:Nat->Option β)(n:Nat)(v:β),val u (λ_=>false) n v=v:=by
   intro β u n v;induction n with
   |zero=>rfl
   |succ n ih=>simp only[val,Oq,Od,ih]
  have R1:bj G s.h w1:=r.h.draw rfl rfl rfl;have hk:∀t,t∈(HS recs s.h ops.size h'.n h'.m (λ_=>false)).toks↔t∈s.h.toks:=by
   intro t;rw[nD a1.symm,vz];simp
  have ho:(HS recs s.h ops.size h'.n h'.m (λ_=>false)).objs=s.h.objs:=by
   funext id;simp only[HS];rw[vz]
  refine tS ro (pj:=0) (pv:=undef) (N:=N) (G0:=G) (w0:=w1) (a0:=a) hN (Bf ht) ch ap R1 F ?_ (λi h=>by cases h) (λh=>by cases h) ops.size (Array.replicate ops.size false) G w1 a ah ?_ ?_ (λk h=>by cases h) r.size rfl ?_ ?_ ?_ ?_ ?_
  ·intro _ G' w' a' T1 t1 R1' s1 d1;exact ⟨trivial,by rw[d1];exact .refl,G',(jd G w w1 s.h rfl rfl rfl).trans r.h R1 T1,⟨s1,t1,R1',by rw[d1];exact r.df.mono ((jd G w w1 s.h rfl rfl rfl).trans r.h R1 T1)⟩⟩
  ·unfold count;exact OI (List.length_filter_le _ _) ah
  ·rw[hz'];intro i o _ h;cases h
  ·rw[hz'];intro d;rw[vz];exact aC.mono r.h (jd G w w1 s.h rfl rfl rfl) _ _ (r.t d)
  ·rw[hz'];exact R1.same ho λt x=>(hk t).1 x
  ·rw[hz'];exact (Trans.refl G w1 s.h).same rfl (λ_=>QL) ho hk (N4 _) nm.1 nm.1 (N4 _) nm.2 nm.2
  ·exact λid x=> .inl x
  ·exact λid x=> .inl x
def fH(args:List AV):Tm:=λi=>args.getD i .any
inductive RV where
 |tmp (d:Nat)
 |cell (d:Nat) (n:Option Nat)
def Kd(P:Program):ResultVar->Option RV
 | .tmp t=>some (.tmp t)
 | .cell a t=>if (P.info? t).isSome/\(P.underlying t).isSome then some (.cell a (if bQ P t then some (P.cellsOf t) else none)) else none
def rP(P:Program):List ResultVar->Option (List RV)
 |[]=>some []
 |r::l=>match Kd P r,rP P l with
  |some a,some m=>some (a::m)
  |_,_=>none
def rv(t:Tm)(h:H):RV->Option AV
 | .tmp d=>some (t d)
 | .cell d n=>match t d with
  | .ptr id off=>match h.objs id with
   |some (.cells cs)=>part off n cs
   |_=>none
  |_=>none
def rvs(t:Tm)(h:H):List RV->Option (List AV)
 |[]=>some []
 |r::l=>match rv t h r,rvs t h l with
  |some a,some m=>some (a::m)
  |_,_=>none
def je(ds:List RV)(t:Tm)(h:H):Option AV:=
 match rvs t h ds with
 |some [x]=>some x
 |some l=>some (.tup l)
 |none=>none
def jf:aO->Prop
 | .normal| .ret=>True
 |_=>False
theorem wS{G:aT}{w:World}{n:Nat}:∀{args:List AV}{vs:List Value},aE G w args vs->cG G w (fH args) {tmps:=vs.toArray++Array.replicate n undef,defers:=[]}:=by
 intro args vs h i;unfold fH;by_cases hi:i<args.length
 ·obtain ⟨v,h1,h2⟩:=h.get (i:=i) (x:=args[i]) (N5 hi);have e:((vs.toArray++Array.replicate n undef).getD i undef)=v:=by
   have hlt:i<vs.length:=by rw[h.length];exact hi
   rw[N5 hlt] at h1;simp[Array.getElem?_append,hlt];exact Rh h1
  rw[e];simpa [List.getD,N5 hi] using h2
 ·have:args.getD i .any= .any:=by simp[List.getD,Pq (Nat.le_of_not_lt hi)]
  rw[this];simp[aC]
theorem Bg{G:aT}{w:World}{t:Tm}{h:H}{a:Act}(ht:cG G w t a)(R:bj G h w):∀{l:List ResultVar}{ds:List RV}{xs:List AV},rP P l=some ds->rvs t h ds=some xs->
  ∃vs,(l.mapM (λ| .tmp t=>pure (a.tmps.getD t undef)| .cell b t=>do loadVar t (<-asAddr (a.tmps.getD b undef)):ResultVar->Sem Value)).run P w= .ok vs w/\aE G w xs vs
 |[],ds,xs,h1,h2=>by
  simp[rP] at h1;subst h1;simp[rvs] at h2;subst h2;exact ⟨[],by simp,.nil⟩
 |r::l,ds,xs,h1,h2=>by
  simp only[rP] at h1;split at h1
  ·rename_i d ds' e1 e2;cases h1;simp only[rvs] at h2;split at h2
   ·rename_i x xs' e3 e4;cases h2;obtain ⟨vs,g1,g2⟩:=Bg ht R e2 e4;cases r with
    |tmp k=>
     simp[Kd] at e1;subst e1;simp[rv] at e3;subst e3;refine ⟨a.tmps.getD k undef::vs,?_,.cons (ht k) g2⟩;simp only[List.mapM_cons,Sem.run_bind,Sem.run_pure,Result.andThen_ok,g1]
    |cell k ty=>
     simp only[Kd] at e1;split at e1
     ·rename_i hc;cases e1;simp only[rv] at e3;split at e3
      ·rename_i id off hk;split at e3
       ·rename_i cs ho;have r1:=ht k;rw[hk] at r1;simp only[aC] at r1;obtain ⟨vs0,rest0,T,fr,hg,hvs,-⟩:=jZ R ho;have hcell:∀j v,vs0[j]? =some v->w.cell? ⟨G.ι id,j,none⟩=some v:=by
         intro j v hj;have hj':j<vs0.length:=(Pu.1 hj).1;unfold World.cell?;simp only[hg];simpa [OW hj'] using hj
        have hl:∃v,(loadVar ty ⟨G.ι id,off,none⟩).run P w= .ok v w/\aC G w x v:=by
         rcases nA hvs e3 with ⟨e,v,q1,q2⟩|⟨m,e,q1,q2⟩
         ·have hagg:bQ P ty=false:=by cases hh:bQ P ty<;>simp[hh] at e |-
          exact ⟨v,jY P w ty _ v hc.2 hagg (hcell _ _ q1),q2⟩
         ·have hagg:bQ P ty=true:=by cases hh:bQ P ty<;>simp[hh] at e |-
          have hm:m=P.cellsOf ty:=by simpa [hagg] using e.symm
          refine ⟨_,jz P w ty (G.ι id) off ((vs0.drop off).take m) hc.1 hc.2 hagg (by simp[hm] at q1 |-;omega) (λj v hj=>hcell _ _ (by
           rw[List.getElem?_take] at hj;split at hj
           ·simpa [Qm] using hj
           ·cases hj)),q2⟩
        obtain ⟨v,q1,q2⟩:=hl;refine ⟨v::vs,?_,.cons q2 g2⟩;have ha:(asAddr (a.tmps.getD k undef)).run P w= .ok ⟨G.ι id,off,none⟩ w:=by rw[r1.2];rfl
        simp only[List.mapM_cons,Sem.run_bind,ha,Sem.run_pure,Result.andThen_ok,q1,g1]
       ·cases e3
      ·cases e3
     ·cases e1
   ·cases h2
  ·cases h1
theorem wT{fn:Func}{ds:List RV}{G:aT}{w:World}{t:Tm}{h:H}{a:Act}{x:AV}(hr:rP P fn.results.toList=some ds)(ht:cG G w t a)(R:bj G h w)(hx:je ds t h=some x):∃v,(results fn a.tmps).run P w= .ok v w/\aC G w x v:=by
 unfold je at hx;have hxs:∃xs,rvs t h ds=some xs/\((∃y,xs=[y]/\x=y)\/(xs.length≠1/\x= .tup xs)):=by
  split at hx
  ·rename_i y e;cases hx;exact ⟨_,e,.inl ⟨_,rfl,rfl⟩⟩
  ·rename_i l hne e;cases hx;refine ⟨_,e,.inr ⟨λhl=>?_,rfl⟩⟩;obtain ⟨y,rfl⟩:=QO.1 hl;exact hne y rfl
  ·cases hx
 obtain ⟨xs,e,hc⟩:=hxs;obtain ⟨vs,g1,g2⟩:=Bg (P:=P) ht R hr e;have hm':(fn.results.mapM (λ| .tmp t=>pure (a.tmps.getD t undef)| .cell b t=>do loadVar t (<-asAddr (a.tmps.getD b undef)):ResultVar->Sem Value)).run P w= .ok vs.toArray w:=by
  rw[Array.mapM_eq_mapM_toList];simp only[Sem.run_map,g1,Result.andThen_ok]
 have key:(results fn a.tmps).run P w= .ok (if h:vs.toArray.size=1 then vs.toArray[0] else .tuple vs.toArray) w:=by
  unfold results;rw[Sem.run_bind];exact Pj (λx:Result (Array Value)=>x.andThen λvs w'=>(Pure.pure (if h:vs.size=1 then vs[0] else .tuple vs):Sem Value).run P w') hm'
 rw[key];have hl:=g2.length;rcases hc with ⟨y,rfl,rfl⟩|⟨hn,rfl⟩
 ·simp only[aE] at g2;obtain ⟨v,us,rfl,q1,rfl⟩:=g2;exact ⟨v,by simp,q1⟩
 ·have:¬vs.toArray.size=1:=by simp;omega
  rw[dif_neg this];refine ⟨_,rfl,?_⟩;simp only[aC];exact ⟨vs,rfl,g2⟩
theorem eC.results{D:Nat}{w:World}(h:w.heap[D]? =some (.deferred (some []))):eC D w (w.putObj D (.deferred none)):=
 ⟨by simp,λB hB=>World.putObj_heap_other hB,λc T fr e=>absurd (h.symm.trans e) ah,rfl,rfl⟩
theorem u6{F:Fence}{n:Nat}{fn:Func}{tmps:Array Value}{R:Ending->World->Prop}(Ds:Nat->Prop)(I:World->Prop)
  (hI:∀w D,Ds D->I w->w.heap[D]? =some (.deferred (some []))->I (w.putObj D (.deferred none))) (hend:∀w,I w->∃v,(results fn tmps).run P w= .ok v w/\R (.returned v) w):
  ∀(l:List Deferred)(w:World),l.Nodup->(∀d∈l,∃D,Ds D/\d= {target:= .collected D,args:= #[]}/\w.heap[D]? =some (.deferred (some [])))->I w->LeavesInM F n P fn tmps R l .returning w:=by
 intro l;induction l with
 |nil=>intro w _ _ hi;exact hend w hi
 |cons d l ih=>
  intro w hn hm hi;obtain ⟨D,h1,h2,h3⟩:=hm d ah;refine ⟨by simp,.inl ⟨D,_,by rw[h2],run_takeDeferred h3,ih _ (List.nodup_cons.1 hn).2 (λd' hd'=>?_) (hI w D h1 hi h3)⟩⟩;obtain ⟨D',k1,k2,k3⟩:=hm d' (by simp[hd']);refine ⟨D',k1,k2,?_⟩;rw[World.putObj_heap_other ?_]
  ·exact k3
  ·rintro rfl;exact (List.nodup_cons.1 hn).1 (by rw[h2,<-k2];exact hd')
theorem CY{f:FuncId}{fn:Func}{code:Code}{ac:AC}{args:List AV}{h:H}{ds:List RV}{Q:AV->H->Prop}(hf:P.funcs[f]? =some fn)(hb:fn.body=some code)(hc:cCode P fn.ntmps code=some ac)(hr:rP P fn.results.toList=some ds)(hl:args.length<=fn.ntmps)
  (hw:Wp P fn.ntmps ac ⟨fH args,h⟩ λe s'=>jf e/\∃r,je ds s'.t s'.h=some r/\Q r s'.h):∃r h',bB P f args h r h'/\Q r h':=by
 obtain ⟨e,s',run,he,r,hres,hq⟩:=hw code hc;refine ⟨r,s'.h,?_,hq⟩;intro G w vs hv R F;have hlen:=hv.length;refine callsIn_wide.1 (callsIn_of_wp_marks (F:=rd none) (n:=0) hf hb trivial (wpIn_mono (run.2 none (.inl rfl) G w _ ⟨?_,wS hv,R,⟨by simp,by simp⟩⟩ F) ?_) rfl)
 ·simp;omega
 ·rintro e' a' w' ⟨h1,h2,G',T,r'⟩;have key:LeavesInM (rd none) 0 P fn a'.tmps (λe w'=>∃v G',e= .returned v/\Trans G w h G' w' s'.h/\bj G' s'.h w'/\aC G' w' r v) a'.defers .returning w':=by
   refine u6 (λD=>w.heap.size<=D/\¬s'.h.O G' D/\¬s'.h.T G' D) (λw2=>Trans G w h G' w2 s'.h/\bj G' s'.h w2/\cG G' w2 s'.t a') ?_ ?_ _ _ r'.df.1 ?_ ⟨T,r'.h,r'.t⟩
   ·rintro w2 D ⟨d1,d2,d3⟩ ⟨T2,R2,t2⟩ hD;have tu:=eC.results hD;exact ⟨T2.dP tu d1,R2.dP tu d2,λi=>aC.dP tu _ _ (t2 i)⟩
   ·rintro w2 ⟨T2,R2,t2⟩;obtain ⟨v,q1,q2⟩:=wT (P:=P) hr t2 R2 hres;exact ⟨v,q1,v,G',rfl,T2,R2,q2⟩
   ·intro d hd;obtain ⟨D,e,k1,k2,k3⟩:=r'.df.2 d hd;rcases h2 d hd with h|⟨D',k4,e'⟩
    ·simp at h
    ·rw[e] at e';simp only[Deferred.mk.injEq,Target.collected.injEq,Qk] at e';subst e';exact ⟨D,⟨k4,k2,k3⟩,e,k1⟩
  cases e<;>cases e'<;>simp only[aO.eZ,jf] at h1 he<;>exact key
def aV(P:Program)(f:FuncId)(N:Nat)(ac:AC)(ds:List RV):Prop:=∃fn,P.funcs[f]? =some fn/\fn.ntmps=N/\fn.body.bind (cCode P N)=some ac/\rP P fn.results.toList=some ds
theorem aV.fe{f:FuncId}{ac:AC}{args:List AV}{h:H}{ds:List RV}{Q:AV->H->Prop}(hF:aV P f N ac ds)(hl:args.length<=N)(hw:Wp P N ac ⟨fH args,h⟩ λe s'=>jf e/\∃r,je ds s'.t s'.h=some r/\Q r s'.h):∃r h',bB P f args h r h'/\Q r h':=by
 obtain ⟨fn,h1,h2,h3,h4⟩:=hF;subst h2;obtain ⟨code,hb,hc⟩:=Oe.1 h3;exact CY h1 hb hc h4 hl hw
def Bh(x:AV):Prop:=∀G G' w v,G'.own=G.own->G'.lim=G.lim->aC G w x v->aC G' w x v
def u7(l:List AV):Prop:=∀G G' w vs,G'.own=G.own->G'.lim=G.lim->aE G w l vs->aE G' w l vs
theorem bB.pure{f:FuncId}{args:List AV}{n m:Nat}{r r':AV}{h':H}(ha:u7 args)(hc:bB P f args (H0 n m) r h')(hs:ay r r')(hp:Bh r'):bB P f args (H0 n m) r' (H0 n m):=by
 intro G w vs hv R F;let G0:aT:={G with dom:=λ_=>False,tdom:=λ_=>False}
 refine (hc G0 w vs (ha G G0 w vs rfl rfl hv) iZ ⟨λ_ _ _ h=>h,λ_ _ _ h=>h⟩).mono ?_;rintro e w' ⟨v,G',rfl,T,R',V⟩;refine ⟨v,{G' with dom:=G.dom,ι:=G.ι,tdom:=G.tdom,τ:=G.τ},rfl,?_,iZ,hp G' _ w' v rfl rfl (hs G' w' v V)⟩;have hO:∀{G:aT} B,¬(H0 n m).O G B:=λB=>gw B;have hT:∀{G:aT} B,¬(H0 n m).T G B:=λB ⟨t,ht,_⟩=>by simp[H0,H.only] at ht
 constructor
 ·exact λ_ x=>x
 ·exact λ_=> .inl
 ·exact λ_ _=>rfl
 ·exact λ_ x=>x
 ·exact λ_=> .inl
 ·exact λ_ _=>rfl
 ·exact N4 _
 ·exact N4 _
 ·exact T.size_le
 ·exact T.os
 ·exact T.output
 ·exact T.form
 ·exact λB hB _ _=>T.keep B hB (hO B) (hT B)
 ·exact λB hB _=>T.own_keep B hB (hO B)
 ·exact λB hB _ _=>T.lim_keep B hB (hO B) (hT B)
 ·exact λB hB x=>absurd x (hT B)
 ·exact λB _ x=>absurd x (hO B)
 ·exact λB _ x=>absurd x (hT B)
 ·exact λj o x=>by simp[H0,H.only,aB] at x
 ·exact λt x=>by simp[H0,H.only] at x
theorem aV.u9{f:FuncId}{ac:AC}{args:List AV}{ds:List RV}{r:AV}(hF:aV P f N ac ds)(hl:args.length<=N)(ha:u7 args)(hp:Bh r)(hw:∀n m,Wp P N ac ⟨fH args,H0 n m⟩ λe s'=>jf e/\∃q,je ds s'.t s'.h=some q/\ay q r):aI P f args r:=by
 intro n m;obtain ⟨r',h',cI,hs⟩:=hF.fe (Q:=λr' _=>ay r' r) hl (hw n m);exact cI.pure ha hs hp
end
section
variable{P:Program}{N:Nat}{s:St}{Q:aO->St->Prop}
theorem Wp.bU{items:List aX}{p:Option (List (Nat × Nat))}{y:AC}{t':Tm}{h':H}{log:List Ent}(he:cK items s.t s.h []=([],t',h',log))(hp:bg p log.reverse)(h:Wp P N y ⟨t',h'⟩ Q):Wp P N (.seq (.reg items p) y) s Q:=
 Wp.seq (Wp.reg (az.eval he (az.nil ⟨hp,h⟩)))
theorem Wp.oy{items:List aX}{p:Option (List (Nat × Nat))}{t':Tm}{h':H}{log:List Ent}(he:cK items s.t s.h []=([],t',h',log))(hp:bg p log.reverse)(h:Q .normal ⟨t',h'⟩):Wp P N (.reg items p) s Q:=
 Wp.reg (az.eval he (az.nil ⟨hp,h⟩))
theorem Wp.seqItems{items its:List aX}{p:Option (List (Nat × Nat))}{y:AC}{t':Tm}{h':H}{log:List Ent}(he:cK items s.t s.h []=(its,t',h',log))(h:az P N its t' h' log λt h l=>bg p l/\Wp P N y ⟨t,h⟩ Q):Wp P N (.seq (.reg items p) y) s Q:=
 Wp.seq (Wp.reg (az.eval he h))
theorem Wp.items{items its:List aX}{p:Option (List (Nat × Nat))}{t':Tm}{h':H}{log:List Ent}(he:cK items s.t s.h []=(its,t',h',log))(h:az P N its t' h' log λt h l=>bg p l/\Q .normal ⟨t,h⟩):Wp P N (.reg items p) s Q:=
 Wp.reg (az.eval he h)
def tm:List (Nat × AV)->Tm
 |[]=>λ_=> .any
 |(i,v)::l=>upd (tm l) i v
def aQ(t:Tm):List (Nat × AV)->Prop
 |[]=>True
 |(i,v)::l=>ay (t i) v/\aQ t l
theorem aY{t:Tm}:∀{l:List (Nat × AV)},aQ t l->∀i,ay (t i) (tm l i)
 |[],_,i=>ay.any _
 |(k,v)::l,h,i=>by
  simp only[tm,upd];split
  ·rename_i e;subst e;exact h.1
  ·exact aY h.2 i
theorem aM.tm{t:Tm}{h:H}{l:List (Nat × AV)}(hs:aQ t l):aM ⟨t,h⟩ ⟨Av.tm l,h⟩:=aM.mk' (aY hs) h.Er.le (N4 _) (N4 _)
theorem Wp.Lo{β:Type}(S:β->List (Nat × AV))(I:β->Prop)(μ:β->Nat){c:AC}{h:H}{t:Tm}(b0:β)(h0:I b0)(hs:aQ t (S b0))
  (round:∀b,I b->Wp P N c ⟨tm (S b),h⟩ (aO.andThen (λs'=>∃b',I b'/\μ b'<μ b/\aM s' ⟨tm (S b'),h⟩) Q)):Wp P N (.loop c) ⟨t,h⟩ Q:=
 Wp.loop (λb=>⟨tm (S b),h⟩) I μ b0 h0 (aM.tm hs) round
theorem aQ.append{t:Tm}:∀{l m:List (Nat × AV)},aQ t l->aQ t m->aQ t (l++m)
 |[],_,_,h=>h
 |(_,_)::_,_,h,h'=>⟨h.1,aQ.append h.2 h'⟩
theorem aQ.self{t:Tm}:∀(L:List Nat),aQ t (L.map λi=>(i,t i))
 |[]=>trivial
 |_::L=>⟨ay.refl _,aQ.self L⟩
theorem Wp.dJ{β:Type}(L:List Nat){K:List (Nat × AV)}{c:AC}{h:H}{t:Tm}(hK:(L.map λi=>(i,t i))=K)(ch:β->List (Nat × AV))(I:β->Prop)(μ:β->Nat)(b0:β)(h0:I b0)(hs:aQ t (ch b0))
  (round:∀b,I b->Wp P N c ⟨tm (K++ch b),h⟩ (aO.andThen (λs'=>∃b',I b'/\μ b'<μ b/\aM s' ⟨tm (K++ch b'),h⟩) Q)):Wp P N (.loop c) ⟨t,h⟩ Q:=
 Wp.Lo (λb=>K++ch b) I μ b0 h0 (aQ.append (hK▸aQ.self L) hs) round
theorem Wp.cO{β:Type}(L:List Nat){K:List (Nat × AV)}{c:AC}{h:H}{t:Tm}(hK:(L.map λi=>(i,t i))=K)(ch:β->List (Nat × AV))(hp:β->H)(I:β->Prop)(μ:β->Nat)(b0:β)(h0:I b0)(hh:h=hp b0)(hs:aQ t (ch b0))
  (round:∀b,I b->Wp P N c ⟨tm (K++ch b),hp b⟩ (aO.andThen (λs'=>∃b',I b'/\μ b'<μ b/\aM s' ⟨tm (K++ch b'),hp b'⟩) Q)):Wp P N (.loop c) ⟨t,h⟩ Q:=
 Wp.loop (λb=>⟨tm (K++ch b),hp b⟩) I μ b0 h0 (hh▸aM.tm (aQ.append (hK▸aQ.self L) hs)) round
theorem ay.int{k:IntKind}{a b:Int}(h:a=b):ay (.int k a) (.int k b):=h▸ay.refl _
theorem ay.of_eq{x y:AV}(h:x=y):ay x y:=h▸ay.refl _
def bA:Cap->Bool
 | .own _=>false
 |_=>true
mutual
def aW:AV->Bool
 | .sl _ xs c=>bA c&&aJ xs
 | .ref cs=>aJ cs
 | .agg cs=>aJ cs
 | .tup cs=>aJ cs
 | .ptr _ _| .tsl _ _ _ _ _| .mp _| .yld _=>false
 | .clo _ a b=>aJ a&&aJ b
 | .ifc _ x=>aW x
 | .slt _ xs ys=>aJ xs&&aJ ys
 |_=>true
def aJ:List AV->Bool
 |[]=>true
 |x::xs=>aW x&&aJ xs
end
mutual
theorem dV:∀(x:AV),aW x=true->Bh x
 | .any,_=>λ_ _ _ _ _ _ h=>h
 | .int _ _,_=>λ_ _ _ _ _ _ h=>h
 | .bool _,_=>λ_ _ _ _ _ _ h=>h
 | .str _,_=>λ_ _ _ _ _ _ h=>h
 | .sc _,_=>λ_ _ _ _ _ _ h=>h
 | .sl sz xs c,hp=>by
  simp only[aW,Oh] at hp;intro G G' w v e1 e2 h;simp only[aC] at h |-;rcases h with h|⟨B,off,C,vs,h1,h2,h3,h4,h5,h6⟩
  ·exact .inl h
  ·refine .inr ⟨B,off,C,vs,h1,h2,h3,jE xs hp.2 G G' w sz vs e1 e2 h4,λi v hv=>?_,?_⟩
   ·rw[e1,e2];exact h5 i v hv
   ·cases c with
    |own t=>simp[bA] at hp
    |any=>trivial
    |exact k=>exact h6
 | .ref cs,hp=>by
  simp only[aW] at hp;intro G G' w v e1 e2 h;simp only[aC] at h |-;obtain ⟨B,off,vs,h1,h2,h3⟩:=h;exact ⟨B,off,vs,h1,cP cs hp G G' w vs e1 e2 h2,λi v hv=>by rw[e1,e2];exact h3 i v hv⟩
 | .agg cs,hp=>by
  simp only[aW] at hp;intro G G' w v e1 e2 h;simp only[aC] at h |-;obtain ⟨vs,h1,h2⟩:=h;exact ⟨vs,h1,cP cs hp G G' w vs e1 e2 h2⟩
 | .tup cs,hp=>by
  simp only[aW] at hp;intro G G' w v e1 e2 h;simp only[aC] at h |-;obtain ⟨vs,h1,h2⟩:=h;exact ⟨vs,h1,cP cs hp G G' w vs e1 e2 h2⟩
 | .ptr _ _,hp=>by simp[aW] at hp
 | .tsl _ _ _ _ _,hp=>by simp[aW] at hp
 | .mp _,hp=>by simp[aW] at hp
 | .yld _,hp=>by simp[aW] at hp
 | .slt sz xs ys,hp=>by
  simp only[aW,Oh] at hp;intro G G' w v e1 e2 h;simp only[aC] at h |-;obtain ⟨B,off,C,us,vs,h1,h2,h3,h4,h5,h6⟩:=h;exact ⟨B,off,C,us,vs,h1,h2,h3,jE xs hp.1 G G' w sz us e1 e2 h4,jE ys hp.2 G G' w sz vs e1 e2 h5,λi v hv=>by rw[e1,e2];exact h6 i v hv⟩
 | .clo f a b,hp=>by
  simp only[aW,Oh] at hp;intro G G' w v e1 e2 h;simp only[aC] at h |-;obtain ⟨vs,us,h1,h2,h3⟩:=h;exact ⟨vs,us,h1,cP a hp.1 G G' w vs e1 e2 h2,cP b hp.2 G G' w us e1 e2 h3⟩
 | .sup B,_=>λ_ _ _ _ _ _ h=>by simpa only[aC] using h
 | .supb B,_=>λG G' w v e1 e2 h=>by
  simp only[aC] at h |-;obtain ⟨l,h1,h2|⟨D,off,C,h2,h3,h4⟩⟩:=h
  ·exact ⟨l,h1,.inl h2⟩
  ·exact ⟨l,h1,.inr ⟨D,off,C,h2,h3,λi v hv=>by rw[e1,e2];exact h4 i v hv⟩⟩
 | .wint k,_=>λ_ _ _ _ _ _ h=>by simpa only[aC] using h
 | .one,_=>λ_ _ _ _ _ _ h=>by simpa only[aC] using h
 | .ifc t x,hp=>by
  simp only[aW] at hp;intro G G' w v e1 e2 h;simp only[aC] at h |-;obtain ⟨u,h1,h2⟩:=h;exact ⟨u,h1,dV x hp G G' w u e1 e2 h2⟩
theorem cP:∀(l:List AV),aJ l=true->u7 l
 |[],_=>λ_ _ _ _ _ _ h=>by simpa only[aE] using h
 |x::xs,hp=>by
  simp only[aJ,Oh] at hp;intro G G' w vs e1 e2 h;simp only[aE] at h |-;obtain ⟨v,us,h1,h2,h3⟩:=h;exact ⟨v,us,h1,dV x hp.1 G G' w v e1 e2 h2,cP xs hp.2 G G' w us e1 e2 h3⟩
theorem jE:∀(l:List AV),aJ l=true->∀(G G':aT)(w:World)(sz:Nat)(vs:List Value),G'.own=G.own->G'.lim=G.lim->aL G w sz l vs->aL G' w sz l vs
 |[],_=>λ_ _ _ _ _ _ _ h=>by simpa only[aL] using h
 |x::xs,hp=>by
  simp only[aJ,Oh] at hp;intro G G' w sz vs e1 e2 h;simp only[aL] at h |-;obtain ⟨v,us,h1,h2,h3,h4⟩:=h;exact ⟨v,us,h1,h2,dV x hp.1 G G' w v e1 e2 h3,jE xs hp.2 G G' w sz us e1 e2 h4⟩
end
theorem bG{α:Type}{f:α->AV}(h:∀x,aW (f x)=true):∀l:List α,aJ (l.map f)=true
 |[]=>rfl
 |x::l=>by simp[aJ,h x,bG h l]
def strs(l:List (List UInt8)):List AV:=l.map .str
def ints(l:List Int):List AV:=l.map (.int .i64)
theorem tX(l:List Int):aJ (ints l)=true:=bG (λ_=>rfl) l
theorem nG(l:List UInt8):aJ (aD l)=true:=bG (λ_=>rfl) l
theorem wU(l:List (List UInt8)):(strs l).length=l.length:=by simp[strs]
theorem dM(l:List Int):(ints l).length=l.length:=by simp[ints]
theorem bm(l:List UInt8):(aD l).length=l.length:=by simp[aD]
theorem iS(l:List Int)(k:Nat)(d:AV)(h:k<l.length):(ints l).getD k d= .int .i64 (l.getD k 0):=by
 simp[ints,List.getD,Qo,N5 h]
theorem jg(l:List UInt8)(k:Nat)(d:AV)(h:k<l.length):(aD l).getD k d=byte (l.getD k 0):=by
 simp[aD,List.getD,Qo,N5 h]
theorem bR(l:List UInt8):gX (aD l)=some l:=by
 induction l with
 |nil=>rfl
 |cons b l ih=>
  have:gX (List.map byte l)=some l:=ih;simp[aD,gX,yD,byte,this]
end
def lit:Bool->Bool
 |true=>true
 |false=>true
def pk:Bool->AC->AC->AC
 |true,x,_=>x
 |false,_,y=>y
theorem Wp.cy{P:Program}{N:Nat}{s:St}{Q:aO->St->Prop}{c:Opd}{x y:AC}{b:Bool}(hb:ev s.t c= .bool b)(_:lit b=true)(h:Wp P N (pk b x y) s Q):Wp P N (.cond c x y) s Q:=by
 cases b
 ·exact Wp.cond_false hb h
 ·exact Wp.cond_true hb h
theorem bx:((false=true)=False)/\(∀b:Bool,(true == b)=b)/\(∀b:Bool,(false == b)= !b)/\((!true)=false)/\((!false)=true):=
 ⟨Oq,Bool.true_beq,Bool.false_beq,Oy,OB⟩
theorem ax:(∀p:Prop,(p/\p)=p)/\(∀p:Prop,(True/\p)=p)/\(∀p:Prop,(p/\True)=p)/\(∀p:Prop,(True\/p)=True)/\(∀p:Prop,(p\/True)=True)/\(∀n:Nat,0*n=0)/\(∀n:Nat,1*n=n)/\(∀n:Nat,0<=n)
  /\(∀h:Decidable True,@decide True h=true)/\(∀h:Decidable False,@decide False h=false)/\(∀n:Nat,((n:Nat):Int).toNat=n)/\(∀(α:Type)(a b:List α),(a++b).length=a.length+b.length)
  /\(∀(α:Type)(p:α->Bool)(x:α)(l:List α),List.filter p (x::l)=if p x=true then x::List.filter p l else List.filter p l)/\(∀(α:Type)(p:α->Bool),List.filter p []=[])/\(∀(α:Type)(a b:α),(a≠b)= ¬(a=b))/\((¬True)=False)/\((¬False)=True):=
 ⟨Ol,PC,Qk,O2,or_true,QN,Po,Ot,λ_=>OE _,λ_=>decide_false _,Int.toNat_natCast,λ_ _ _=>Og,λ_ _ _ _=>List.filter_cons,λ_ _=>List.filter_nil,λ_ _ _=>rfl,not_true_eq_false,not_false_eq_true⟩
attribute [go_sem] undef cK guardOf aop ev bL upd fH H0 H.only aB cL cellsOf shaped part bin J9 Ka iu mD ru yE ry qG unop eqB eqP eqN eqA bw iX mm lL dT Es rB rA eqM slice bound nw setAt fF tm
 wU dM bm List.getElem?_cons_zero List.getElem?_cons_succ OP Ph Option.map_some Option.map_none Option.bind_some Option.bind_none List.all_cons List.all_nil PG OM P6
 List.length_cons List.length_nil OJ OQ Pd Pw List.take_succ_cons List.take_zero Qf List.take_nil Oo Nat.add_zero OR List.nil_append List.cons_append Qe PI Qg PT
section
variable{P:Program}{N:Nat}
theorem vc(h:H){tk tk' m':Nat}(htk:tk∈h.toks)(hm:h.m<=m'):Touch h (.only aB [tk] h.n h.m) (.only aB [tk'] h.n m') {h with toks:=tk'::h.toks.filter (· ≠tk),m:=m'} ⟨[],[],[tk,tk']⟩ where
 sub:=⟨λj o x=>by simp[H.only,aB] at x,λt x=>by simp only[H.only,Oj] at x;subst x;exact htk⟩
 n:=rfl
 m:=rfl
 eq:=H.ext (λj=>by simp[H.patch,H.only,aB];omega) rfl (by
  simp only[H.patch,H.only,List.singleton_append,Pf,PC];apply List.filter_congr;intro y _;simp) rfl
 rd j x:=by simp[H.only,aB] at x
 wr id a b:=by simp only[H.only] at a b;omega
 chg j x hj:=by simp[H.only,aB] at x
 tk t x:=by simp only[H.only,Oj] at x;subst x;simp
 tn t x:=by simp only[H.only,Oj] at x;subst x;simp
 le:=N4 _
 lem:=hm
def kW(P:Program)(f:FuncId)(args:Nat->List AV)(r:Nat->AV):Prop:=∀t n m,∃t' m',m<=m'/\bB P f (args t) (.only aB [t] n m) (r t') (.only aB [t'] n m')
theorem az.dC{dst:Option Nat}{g:Option (Nat × Bool)}{f:FuncId}{l:List Opd}{its:List aX}{t:Tm}{h:H}{log:List Ent}{K:Tm->H->List Ent->Prop}{args:Nat->List AV}{r:Nat->AV}(tk:Nat)(hg:guardOf t g=some true)(hs:aA (l.map (ev t)) (args tk))(hk:tk∈h.toks)(hc:kW P f args r)
  (rest:∀tk' m',h.m<=m'->az P N its (bL t dst (r tk')) {h with toks:=tk'::h.toks.filter (· ≠tk),m:=m'} (⟨[],[],[tk,tk']⟩::log) K):az P N (⟨dst,g,.call f l⟩::its) t h log K:=by
 obtain ⟨tk',m',hm,ha⟩:=hc tk h.n h.m;exact az.jb hg hs ha (vc h hk hm) (rest tk' m' hm)
variable{s:St}{Q:aO->St->Prop}
theorem Wp.qL{β:Type}(L:List Nat){K:List (Nat × AV)}{c:AC}{h:H}{t:Tm}(hK:(L.map λi=>(i,t i))=K)(ch:β->Nat->List (Nat × AV))(I:β->Prop)(μ:β->Nat)(b0:β)(tk:Nat)(h0:I b0)(hh:h.toks=[tk])(hs:aQ t (ch b0 tk))
  (round:∀b tk m,I b->Wp P N c ⟨tm (K++ch b tk),{h with toks:=[tk],m:=m}⟩ (aO.andThen (λs'=>∃b' tk' m',I b'/\μ b'<μ b/\aM s' ⟨tm (K++ch b' tk'),{h with toks:=[tk'],m:=m'}⟩) Q)):Wp P N (.loop c) ⟨t,h⟩ Q:=by
 refine Wp.cO (β:=β × Nat × Nat) L hK (λj=>ch j.1 j.2.1) (λj=>{h with toks:=[j.2.1],m:=j.2.2}) (λj=>I j.1) (λj=>μ j.1) (b0,tk,h.m) h0 (by cases h;simp only at hh;subst hh;rfl) hs ?_;rintro ⟨b,tk,m⟩ hb;refine Wp.mono (round b tk m hb) ?_;intro e s' h;cases e with
 |normal=>obtain ⟨b',tk',m',h1,h2,h3⟩:=h;exact ⟨(b',tk',m'),h1,h2,h3⟩
 |exit id=>exact h
 |goto l=>exact h
 |ret=>exact h
 |panic v=>exact h
end
section
variable{P:Program}{N:Nat}
end
theorem l7(t:Nat):List.filter (λx=>decide (x≠t)) [t]=[]:=by simp
theorem Ke(k:Nat):(k=k+1)=False:=by simp
theorem Kf(k:Nat):(k+1=k)=False:=by simp
attribute [go_sem] Ke Kf l7 Oj OA O2
structure Fun where
 N:Nat
 ac:AC
 ds:List RV
inductive FT where
 |leaf
 |node (k:Nat) (F:Fun) (l r:FT)
section
variable{P:Program}{T:FT}
theorem bB.Bi{f:FuncId}{args:List AV}{r r':AV}{h':H}(ha:u7 args)(hc:bB P f args (H0 0 0) r h')(hs:ay r r')(hp:Bh r'):aI P f args r':=by
 intro n m G w vs hv R F;let G0:aT:={G with dom:=λ_=>False,tdom:=λ_=>False}
 refine (hc G0 w vs (ha G G0 w vs rfl rfl hv) iZ ⟨λ_ _ _ h=>h,λ_ _ _ h=>h⟩).mono ?_;rintro e w' ⟨v,G',rfl,T,R',V⟩;refine ⟨v,{G' with dom:=G.dom,ι:=G.ι,tdom:=G.tdom,τ:=G.τ},rfl,?_,iZ,hp G' _ w' v rfl rfl (hs G' w' v V)⟩;have hO:∀{G:aT} {n m} B,¬(H0 n m).O G B:=λB=>gw B;have hT:∀{G:aT} {n m} B,¬(H0 n m).T G B:=λB ⟨t,ht,_⟩=>by simp[H0,H.only] at ht
 constructor
 ·exact λ_ x=>x
 ·exact λ_=> .inl
 ·exact λ_ _=>rfl
 ·exact λ_ x=>x
 ·exact λ_=> .inl
 ·exact λ_ _=>rfl
 ·exact N4 _
 ·exact N4 _
 ·exact T.size_le
 ·exact T.os
 ·exact T.output
 ·exact T.form
 ·exact λB hB _ _=>T.keep B hB (hO B) (hT B)
 ·exact λB hB _=>T.own_keep B hB (hO B)
 ·exact λB hB _ _=>T.lim_keep B hB (hO B) (hT B)
 ·exact λB hB x=>absurd x (hT B)
 ·exact λB _ x=>absurd x (hO B)
 ·exact λB _ x=>absurd x (hT B)
 ·exact λj o x=>by simp[H0,H.only,aB] at x
 ·exact λt x=>by simp[H0,H.only] at x
theorem aV.aF{f:FuncId}{N:Nat}{ac:AC}{args:List AV}{ds:List RV}{r:AV}(hF:aV P f N ac ds)(hl:args.length<=N)(ha:aJ args=true)(hp:aW r=true)(hw:Wp P N ac ⟨fH args,H0 0 0⟩ λe s'=>jf e/\∃q,je ds s'.t s'.h=some q/\ay q r):aI P f args r:=by
 obtain ⟨r',h',cI,hs⟩:=hF.fe (Q:=λr' _=>ay r' r) hl hw;exact cI.Bi (cP _ ha) hs (dV _ hp)
end
section
variable{P:Program}{N:Nat}
def eN(P:Program)(f:FuncId)(args:List AV)(h:H)(v:Value)(h':H):Prop:=
 ∀G w vs,aE G w args vs->bj G h w->cB G h h'->Calls P f vs.toArray w λe w'=>∃G',e= .panicked [{v:=v,recovered:=false}]/\Trans G w h G' w' h'/\bj G' h' w'
def ER(P:Program)(f:FuncId)(args:List AV)(v:Value):Prop:=∀n m,eN P f args (H0 n m) v (H0 n m)
theorem ES{o:Oper}{f:FuncId}{vals:List AV}{h1 h1':H}{v:Value}(hc:eN P f vals h1 v h1'){G:aT}{w:World}{a:Act}{vs:List Value}(hv:aE G w vals vs)(R:bj G h1 w)(F:cB G h1 h1'){K:Act->World->Prop}{Q:Exit->Act->World->Prop}{ro:Option Nat}(hd:∀c,o.op≠ .defer c)
  (hK:∀G' w',Trans G w h1 G' w' h1'->bj G' h1' w'->Q (.panic [{v:=v,recovered:=false}]) a w') (hrun:(execOp a.eval o).run P w= .ok (.enter f vs.toArray) w):o.wpIn (rd ro) 0 P a w K Q:=by
 refine ⟨λ_ _=>trivial,?_⟩;rw[Oper.semAt_eq _ _ _ hd,hrun,Oper.uponIn_enter];refine ⟨λh=>by simp[rd,Fence.wide] at h,kT ?_⟩;refine (hc G w vs hv R F).mono ?_;rintro e w' ⟨G',rfl,T,R'⟩;exact hK G' w' T R'
theorem ff{ops:Array Oper}{i:Nat}{o:Oper}{it:aX}{t:Tm}{f:FuncId}{l:List Opd}{vals:List AV}{h1 h1':H}{v:Value}(ho:ops[i]? =some o)(hit:bP P N ops o=some it)(hg:guardOf t it.guard=some true)(hop:it.op= .call f l)
  (hs:aA (l.map (ev t)) vals) (hc:eN P f vals h1 v h1'):kO P ops i o t h1 v h1':=by
 unfold bP at hit;split at hit
 ·rename_i op g hcop hgd;split at hit<;>cases hit;rename_i hcond;simp only[Oh] at hcond;simp only at hop;subst hop;have hcop:=gY hcop ah rfl;obtain ⟨c,fn,e1,e2,e3,e4,e5,e6⟩:=wQ hcop;intro G w a ht R F K Q hK ro;unfold wpOpIn;rw[ho];simp only[cN hgd ht hg,Of];have rr:=iv (P:=P) (fO ht) e3;have el:l.map (ev (jD (names ops o) t))=l.map (ev t):=Pb λx hx=>jN hcond.2 x (by simpa [bI] using hx);rw[el] at rr;refine ES hc (hs G w _ rr) R F (eS hcop) hK ?_;have hargs:(c.args.map a.eval)=(c.args.toList.map a.eval).toArray:=by cases c.args;simp
  simp[execOp,e1,resolve,e2,Act.eval,Deferred.ofValue,invoke,hargs,eF w e4 e5 e6]
 ·cases hit
theorem HH{o:Oper}{y:Opd}(h:cOp P o=some (.pan y)):∃x,o.op= .panic x/\opd P 0 x=some y:=by
 unfold cOp at h;split at h;all_goals first
  |(cases h;done)
  |(simp only[Oc,AOp.pan.injEq] at h;obtain ⟨a,h1,rfl⟩:=h;exact ⟨_,‹_›,h1⟩)
  |(simp at h;done)
  |((repeat' split at h)<;>(try cases h)<;>(try simp at h);done)
  |skip
theorem y8{ops:Array Oper}{i:Nat}{o:Oper}{it:aX}{t:Tm}{y:Opd}{ty:TypeId}{k:IntKind}{z:Int}{n m:Nat}(ho:ops[i]? =some o)(hit:bP P N ops o=some it)(hg:guardOf t it.guard=some true)(hop:it.op= .pan y)
  (hy:ev t y= .ifc ty (.int k z)):kO P ops i o t (H0 n m) (.iface ty (.int k z)) (H0 n m):=by
 unfold bP at hit;split at hit
 ·rename_i op g hcop hgd;split at hit<;>cases hit;rename_i hcond;simp only[Oh] at hcond;simp only at hop;subst hop;have hcop:=gY hcop ah rfl;obtain ⟨x,e1,e2⟩:=HH hcop;intro G w a ht R F K Q hK ro;unfold wpOpIn;rw[ho];simp only[cN hgd ht hg,Of];have rz:=aK (P:=P) e2 (fO ht);rw[jN (t:=t) hcond.2 y (by simp[bI]),hy] at rz;simp only[aC] at rz;obtain ⟨u,q1,q2⟩:=rz;subst q2;refine ⟨λ_ _=>trivial,?_⟩;have hrun:(execOp a.eval o).run P w= .halt (.panic (.iface ty (.int k z))) w:=by
   simp[execOp,e1,q1,run_panic_iface]
  rw[Oper.semAt_eq _ _ _ (eS hcop),hrun,Oper.uponIn_panic];exact hK G w (Trans.refl _ _ _) R
 ·cases hit
theorem fC.congr{ops:Array Oper}{D D':Nat->Bool}{i:Nat}{recs:List Rec}{t t':Tm}{h h':H}(hc:fC P ops D i recs t h t' h')(hD:∀k,i<=k->D' k=D k):fC P ops D' i recs t h t' h':=by
 induction hc with
 |nil hi=>exact .nil hi
 | @cons i o r rs t t' h h' ho e1 e2 tc run rest ih=>exact .cons ho e1 e2 tc (λhf=>run (by rw[<-hD i (N4 _)];exact hf)) (ih λk hk=>hD k ae)
theorem y9(ro:Option Nat){ops:Array Oper}{D:Nat->Bool}{j:Nat}{rj:Rec}{oj:Oper}{v:Value}{Q:Exit->Act->World->Prop}(hN:∀(i:Nat) o d,ops[i]? =some o->o.dst=some d->d<N)(hoj:ops[j]? =some oj)(hpan:kO P ops j oj rj.t rj.h1 v rj.h1')(hDj:D j=true)(hDk:∀k,D k=true->j<=k):
  ∀{i:Nat}{recs:List Rec}{t t':Tm}{h h':H},i<=j->fC P ops D i recs t h t' h'->recs[j - i]? =some rj->
  ∀(G:aT)(w:World)(a:Act),a.tmps.size=N->cG G w t a->bj G h w->cB G h h'->
   (∀G' w' a',Trans G w h G' w' {rj.h' with n:=h'.n,m:=h'.m}->bj G' {rj.h' with n:=h'.n,m:=h'.m} w'->a'.tmps.size=N->a'.defers=a.defers->Q (.panic [{v:=v,recovered:=false}]) a' w')->wpOpsIn (rd ro) 0 P ops Q (List.range' i (ops.size - i)) a w:=by
 intro i recs t t' h h' hij hc;induction hc with
 |nil hi=>
  intro hr;simp at hr
 | @cons i o r rs t t' h h' ho e1 e2 tc run rest ih=>
  intro hr G w a hs ht R U hq;have hi:i<ops.size:=(O5.1 ho).1;have:ops.size - i=(ops.size - (i+1))+1:=by omega
  rw[this,Qz,wpOpsIn_cons];have nm:=(kd rest).1;have e3:r.h'.n=r.h1'.n:=by rw[tc.eq];rfl
  have e4:r.h'.m=r.h1'.m:=by rw[tc.eq];rfl
  have F:cB G r.h1 r.h1':=U.sub (by rw[tc.n];exact N4 _) ae (by rw[tc.m];exact N4 _) ae;by_cases hji:i=j
  ·subst hji;simp at hr;subst hr;rw[hoj] at ho;cases ho;refine hpan G w a (λk _=>by rw[e1];exact ht k) (R.sub tc.sub) F _ Q (λG' w' T1 R1=>?_) ro;obtain ⟨R2,T2⟩:=frame R tc.sub tc.n tc.m R1 T1 F;rw[<-tc.eq] at R2 T2;refine hq G' w' a ?_ (R2.same rfl λ_ x=>x) hs rfl;exact T2.same rfl (λ_=>QL) rfl (λ_=>QL) (N4 _) nm.1 (OI T2.n_le nm.1) (N4 _) nm.2 (OI T2.m_le nm.2)
  ·have hDi:D i=false:=by
    cases hd:D i with
    |false=>rfl
    |true=>have:=hDk i hd;omega
   refine run hDi G w a (λk _=>ht k) (R.sub tc.sub) F _ Q (λG' w' v T1 R1 V=>?_) ro;obtain ⟨R2,T2⟩:=frame R tc.sub tc.n tc.m R1 T1 F;rw[<-tc.eq] at R2 T2;refine ih ae (by rw[show j - i=(j - (i+1))+1 by omega] at hr;simpa using hr) G' w' _ (by rw[lS];exact hs) (ow (ht.mono R T2) V λk hk=>by rw[hs];exact hN i o k ho hk) R2 (U.step T2) λG'' w'' a'' T3 h2 h3 h4=>?_;exact hq G'' w'' a'' (T2.trans R R2 T3) h2 h3 (h4.trans (put_defers _ _ _))
def jh(l:List (Nat × Nat))(j k:Nat)(ds:List Nat)(it:aX):Bool:=
 (bN it.op&& !l.contains (j,k))||(tmpsOf (bI it.op)).any ds.contains||(match it.guard with|some (d,_)=>ds.contains d|none=>false)
def eH:AOp->Bool
 | .load _ _=>true
 |op=> !bN op
def rQ(l:List (Nat × Nat))(j:Nat):List aX->Nat->List Nat->Tm->H->Option (List Ent)
 |[],_,_,_,_=>some []
 |it::its,k,ds,t,h=>
  if jh l j k ds it then (rQ l j its (k+1) (it.dst.toList++ds) (bL t it.dst .any) h).map (aU:: ·)
  else match guardOf t it.guard with
   |some false=>(rQ l j its (k+1) ds (bL t it.dst (.sc undef)) h).map (aU:: ·)
   |some true=>if eH it.op then (match aop (ev t) h it.op with
    |some (x,_,en)=>(rQ l j its (k+1) ds (bL t it.dst x) h).map (en:: ·)
    |none=>none) else none
   |none=>none
def fQ:AOp->Bool
 | .alloc _=>true
 |_=>false
def gd(l:List (Nat × Nat))(j:Nat):List aX->Nat->List Nat->Tm->H->Option (List Ent)
 |[],_,_,_,_=>some []
 |it::its,k,ds,t,h=>
  if jh l j k ds it then (gd l j its (k+1) (it.dst.toList++ds) (bL t it.dst .any) h).map (aU:: ·)
  else match guardOf t it.guard with
   |some false=>(gd l j its (k+1) ds (bL t it.dst (.sc undef)) h).map (aU:: ·)
   |some true=>if eH it.op||fQ it.op then (match aop (ev t) h it.op with
    |some (x,h2,en)=>(gd l j its (k+1) ds (bL t it.dst x) h2).map (en:: ·)
    |none=>none) else none
   |none=>none
def rR(e:Ent):Bool:=e.wr.isEmpty&&e.tk.isEmpty
theorem CZ{ρ:Opd->AV}{h h':H}{op:AOp}{x:AV}{en:Ent}(ht:eH op=true)(hx:aop ρ h op=some (x,h',en)):h'=h/\en.wr=[]/\en.tk=[]/\(bN op=false->en=aU):=by
 cases op<;>simp[eH,bN] at ht<;>simp only[aop] at hx<;>first
  |(simp only[Om,Ow] at hx;obtain ⟨-,rfl,rfl⟩:=hx;exact ⟨rfl,rfl,rfl,λ_=>rfl⟩)
  |(simp only[Oc,Ow] at hx;obtain ⟨_,_,_,rfl,rfl⟩:=hx;exact ⟨rfl,rfl,rfl,λ_=>rfl⟩)
  |((repeat' split at hx)<;>(first|(cases hx;done)|(cases hx;first|exact ⟨rfl,rfl,rfl,λ_=>rfl⟩|exact ⟨rfl,rfl,rfl,λh=>by simp[bN] at h⟩)|(simp only[Oc,Ow] at hx;obtain ⟨_,_,_,rfl,rfl⟩:=hx;first|exact ⟨rfl,rfl,rfl,λ_=>rfl⟩|exact ⟨rfl,rfl,rfl,λh=>by simp[bN] at h⟩)|skip))
 all_goals simp_all
def mH(P:Program)(N:Nat)(ops:Array Oper)(l:List (Nat × Nat)):Prop:=
 ∀(a b:Nat) oa ob ia ib,a<b->ops[a]? =some oa->ops[b]? =some ob->bP P N ops oa=some ia->bP P N ops ob=some ib->bN ia.op=true->bN ib.op=true->(a,b)∉l->dA ops a b=true
theorem qM{l:List (Nat × Nat)}{j:Nat}{ops:Array Oper}{itj:aX}{oj:Oper}(hoj:ops[j]? =some oj)(hij:bP P N ops oj=some itj)(htj:bN itj.op=true):
  ∀(its:List aX)(k:Nat)(ds:List Nat)(t:Tm)(h:H)(ents:List Ent),rQ l j its k ds t h=some ents->j<k->k<=ops.size->dL P N ops (ops.toList.drop k)=some its->
  ∃(D:Nat->Bool)(recs:List Rec)(t':Tm)(h':H),fC P ops D k recs t h t' h'/\h'=h/\recs.map (·.en)=ents/\(∀i,D i=true->k<=i)/\
   (∀(i:Nat) r it,recs[i]? =some r->its[i]? =some it->bN it.op=false->r.en=aU)/\
   (Tidy ops->mH P N ops l->∀(E:Nat->Bool),(∀d∈ds,∃k' o',k'<k/\ops[k']? =some o'/\o'.dst=some d/\E k'=true)->E j=true->(∀i,k<=i->D i=true->E i=true)->∀i,D i=true->∃k',E k'=true/\dA ops k' i=true)
 |[],k,ds,t,h,ents,he,hjk,hk,hc=>by
  simp only[rQ,Om] at he;subst he;have:k=ops.size:=by
   cases hd:ops.toList.drop k with
   |nil=>have:=List.drop_eq_nil_iff.1 hd;simp at this;omega
   |cons o l=>
    rw[hd] at hc;simp only[dL] at hc;split at hc<;>simp at hc
  exact ⟨λ_=>false,[],t,h,.nil this,rfl,rfl,λi h=>by (cases h),by simp,λ_ _ _ _ _ _ i h=>by (cases h)⟩
 |it::its,k,ds,t,h,ents,he,hjk,hk,hc=>by
  obtain ⟨o,ho,hit,hk',hc'⟩:=cD hk hc;have hdst:it.dst=o.dst:=by
   unfold bP at hit;split at hit
   ·split at hit<;>cases hit;rfl
   ·cases hit
  have hsub:(tmpsOf (bI it.op)).all (λi=>(names ops o).contains i)=true/\lW ops o.guard=some it.guard:=by
   unfold bP at hit;split at hit
   ·rename_i hg;split at hit<;>cases hit;rename_i hcond;simp only[Oh] at hcond;exact ⟨hcond.2,hg⟩
   ·cases hit
  simp only[rQ] at he;split at he
  ·rename_i hdead;simp only[Oc] at he;obtain ⟨es,he,rfl⟩:=he;obtain ⟨D,recs,t',h',ch,hh,hr,hD,hE0,hX⟩:=qM hoj hij htj its (k+1) _ _ h es he ae hk' hc';have hDk:D k=false:=by
    cases hd:D k with
    |false=>rfl
    |true=>have:=hD k hd;omega
   refine ⟨λi=>D i||i == k,⟨t,h,H0 h.n h.m,H0 h.n h.m,h,.any,aU⟩::recs,t',h',?_,hh,by simp[hr],?_,?_,?_⟩
   ·refine .cons ho rfl rfl (bF h) (λhf=>by simp at hf) ?_;rw[<-hdst];exact ch.congr λi hi=>by
     have:(i == k)=false:=by simp;omega
     simp[this]
   ·intro i hi;simp only[OZ,Qi] at hi;rcases hi with hi|hi
    ·have:=hD i hi;omega
    ·omega
   ·intro i r it' hri hiti ht;cases i with
    |zero=>simp at hri;subst hri;rfl
    |succ i=>simp at hri hiti;exact hE0 i r it' hri hiti ht
   ·intro T M E hds hEj hDE i hi;simp only[OZ,Qi] at hi;have hEk:E k=true:=hDE k (N4 _) ah;rcases hi with hi|hi
    ·refine hX T M E ?_ hEj (λi h1 h2=>hDE i ae (by simp[h2])) i hi;intro d hd;simp only[OS,Option.mem_toList] at hd;rcases hd with hd|hd
     ·exact ⟨k,o,ae,ho,by rw[<-hdst];exact hd,hEk⟩
     ·obtain ⟨k',o',h1,h2⟩:=hds d hd;exact ⟨k',o',ae,h2⟩
    ·subst hi;unfold jh at hdead;simp only[OZ,Oh,Qv,List.any_eq_true] at hdead;have byname:∀d,d∈ds->d∈names ops o->∃k',E k'=true/\dA ops k' i=true:=by
      intro d hd hn;obtain ⟨k',o',h1,h2,h3,h4⟩:=hds d hd;refine ⟨k',h4,?_⟩;rcases T.tmp k' i o' o h2 ho ae d h3 hn with h|h
      ·exact h
      ·have:=nE T k' _ h2 h;omega
     rcases hdead with (⟨h1,h2⟩|⟨d,h1,h2⟩)|h1
     ·exact ⟨j,hEj,M j i oj o itj it hjk hoj ho hij hit htj h1 (by simpa using h2)⟩
     ·have:=OK.1 hsub.1 d h1;exact byname d (by simpa using h2) (by simpa using this)
     ·split at h1
      ·rename_i d w hg;refine byname d (by simpa using h1) ?_;have hg2:=hsub.2;rw[hg] at hg2;unfold lW at hg2;split at hg2
       ·cases hg2
       ·rename_i j' w' hog;split at hg2
        ·rename_i d' hd';cases hg2;simp only[names,hog,OS];right;simp[hd']
        ·cases hg2
      ·cases h1
  ·split at he
   ·rename_i hg;simp only[Oc] at he;obtain ⟨es,he,rfl⟩:=he;obtain ⟨D,recs,t',h',ch,hh,hr,hD,hE0,hX⟩:=qM hoj hij htj its (k+1) _ _ h es he ae hk' hc';refine ⟨D,⟨t,h,H0 h.n h.m,H0 h.n h.m,h,.sc undef,aU⟩::recs,t',h',.cons ho rfl rfl (bF h) (λ_=>gR ho hit hg) (by rw[<-hdst];exact ch),hh,by simp[hr],λi hi=>by have:=hD i hi;omega,?_,?_⟩
    ·intro i r it' hri hiti ht;cases i with
     |zero=>simp at hri;subst hri;rfl
     |succ i=>simp at hri hiti;exact hE0 i r it' hri hiti ht
    ·intro T M E hds hEj hDE i hi;exact hX T M E (λd hd=>by obtain ⟨k',o',h1,h2⟩:=hds d hd;exact ⟨k',o',ae,h2⟩) hEj (λi h1 h2=>hDE i ae h2) i hi
   ·rename_i hg;split at he
    ·rename_i hq;split at he
     ·rename_i x h2 en hx;simp only[Oc] at he;obtain ⟨es,he,rfl⟩:=he;obtain ⟨q1,q2,q3,q4⟩:=CZ hq hx;subst q1;obtain ⟨h1,h1',tc,run⟩:=ja ho hit hg hx;obtain ⟨D,recs,t',h',ch,hh,hr,hD,hE0,hX⟩:=qM hoj hij htj its (k+1) _ _ _ es he ae hk' hc';refine ⟨D,⟨t,_,h1,h1',_,x,en⟩::recs,t',h',.cons ho rfl rfl tc (λ_=>run) (by rw[<-hdst];exact ch),hh,by simp[hr],λi hi=>by have:=hD i hi;omega,?_,?_⟩
      ·intro i r it' hri hiti ht;cases i with
       |zero=>simp at hri hiti;subst hri hiti;exact q4 ht
       |succ i=>simp at hri hiti;exact hE0 i r it' hri hiti ht
      ·intro T M E hds hEj hDE i hi;exact hX T M E (λd hd=>by obtain ⟨k',o',h1,h2⟩:=hds d hd;exact ⟨k',o',ae,h2⟩) hEj (λi h1 h2=>hDE i ae h2) i hi
     ·cases he
    ·cases he
   ·cases he
theorem oz{l:List (Nat × Nat)}{j:Nat}{ops:Array Oper}{itj:aX}{oj:Oper}(hoj:ops[j]? =some oj)(hij:bP P N ops oj=some itj)(htj:bN itj.op=true):
  ∀(its:List aX)(k:Nat)(ds:List Nat)(t:Tm)(h:H)(ents:List Ent),gd l j its k ds t h=some ents->j<k->k<=ops.size->dL P N ops (ops.toList.drop k)=some its->
  ∃(D:Nat->Bool)(recs:List Rec)(t':Tm)(h':H),fC P ops D k recs t h t' h'/\recs.map (·.en)=ents/\(∀i,D i=true->k<=i)/\
   (∀(i:Nat) r it,recs[i]? =some r->its[i]? =some it->bN it.op=false->r.en=aU)/\
   (Tidy ops->mH P N ops l->∀(E:Nat->Bool),(∀d∈ds,∃k' o',k'<k/\ops[k']? =some o'/\o'.dst=some d/\E k'=true)->E j=true->(∀i,k<=i->D i=true->E i=true)->∀i,D i=true->∃k',E k'=true/\dA ops k' i=true)
 |[],k,ds,t,h,ents,he,hjk,hk,hc=>by
  simp only[gd,Om] at he;subst he;have:k=ops.size:=by
   cases hd:ops.toList.drop k with
   |nil=>have:=List.drop_eq_nil_iff.1 hd;simp at this;omega
   |cons o l=>
    rw[hd] at hc;simp only[dL] at hc;split at hc<;>simp at hc
  exact ⟨λ_=>false,[],t,h,.nil this,rfl,λi h=>by (cases h),by simp,λ_ _ _ _ _ _ i h=>by (cases h)⟩
 |it::its,k,ds,t,h,ents,he,hjk,hk,hc=>by
  obtain ⟨o,ho,hit,hk',hc'⟩:=cD hk hc;have hdst:it.dst=o.dst:=by
   unfold bP at hit;split at hit
   ·split at hit<;>cases hit;rfl
   ·cases hit
  have hsub:(tmpsOf (bI it.op)).all (λi=>(names ops o).contains i)=true/\lW ops o.guard=some it.guard:=by
   unfold bP at hit;split at hit
   ·rename_i hg;split at hit<;>cases hit;rename_i hcond;simp only[Oh] at hcond;exact ⟨hcond.2,hg⟩
   ·cases hit
  simp only[gd] at he;split at he
  ·rename_i hdead;simp only[Oc] at he;obtain ⟨es,he,rfl⟩:=he;obtain ⟨D,recs,t',h',ch,hr,hD,hE0,hX⟩:=oz hoj hij htj its (k+1) _ _ h es he ae hk' hc';have hDk:D k=false:=by
    cases hd:D k with
    |false=>rfl
    |true=>have:=hD k hd;omega
   refine ⟨λi=>D i||i == k,⟨t,h,H0 h.n h.m,H0 h.n h.m,h,.any,aU⟩::recs,t',h',?_,by simp[hr],?_,?_,?_⟩
   ·refine .cons ho rfl rfl (bF h) (λhf=>by simp at hf) ?_;rw[<-hdst];exact ch.congr λi hi=>by
     have:(i == k)=false:=by simp;omega
     simp[this]
   ·intro i hi;simp only[OZ,Qi] at hi;rcases hi with hi|hi
    ·have:=hD i hi;omega
    ·omega
   ·intro i r it' hri hiti ht;cases i with
    |zero=>simp at hri;subst hri;rfl
    |succ i=>simp at hri hiti;exact hE0 i r it' hri hiti ht
   ·intro T M E hds hEj hDE i hi;simp only[OZ,Qi] at hi;have hEk:E k=true:=hDE k (N4 _) ah;rcases hi with hi|hi
    ·refine hX T M E ?_ hEj (λi h1 h2=>hDE i ae (by simp[h2])) i hi;intro d hd;simp only[OS,Option.mem_toList] at hd;rcases hd with hd|hd
     ·exact ⟨k,o,ae,ho,by rw[<-hdst];exact hd,hEk⟩
     ·obtain ⟨k',o',h1,h2⟩:=hds d hd;exact ⟨k',o',ae,h2⟩
    ·subst hi;unfold jh at hdead;simp only[OZ,Oh,Qv,List.any_eq_true] at hdead;have byname:∀d,d∈ds->d∈names ops o->∃k',E k'=true/\dA ops k' i=true:=by
      intro d hd hn;obtain ⟨k',o',h1,h2,h3,h4⟩:=hds d hd;refine ⟨k',h4,?_⟩;rcases T.tmp k' i o' o h2 ho ae d h3 hn with h|h
      ·exact h
      ·have:=nE T k' _ h2 h;omega
     rcases hdead with (⟨h1,h2⟩|⟨d,h1,h2⟩)|h1
     ·exact ⟨j,hEj,M j i oj o itj it hjk hoj ho hij hit htj h1 (by simpa using h2)⟩
     ·have:=OK.1 hsub.1 d h1;exact byname d (by simpa using h2) (by simpa using this)
     ·split at h1
      ·rename_i d w hg;refine byname d (by simpa using h1) ?_;have hg2:=hsub.2;rw[hg] at hg2;unfold lW at hg2;split at hg2
       ·cases hg2
       ·rename_i j' w' hog;split at hg2
        ·rename_i d' hd';cases hg2;simp only[names,hog,OS];right;simp[hd']
        ·cases hg2
      ·cases h1
  ·split at he
   ·rename_i hg;simp only[Oc] at he;obtain ⟨es,he,rfl⟩:=he;obtain ⟨D,recs,t',h',ch,hr,hD,hE0,hX⟩:=oz hoj hij htj its (k+1) _ _ h es he ae hk' hc';refine ⟨D,⟨t,h,H0 h.n h.m,H0 h.n h.m,h,.sc undef,aU⟩::recs,t',h',.cons ho rfl rfl (bF h) (λ_=>gR ho hit hg) (by rw[<-hdst];exact ch),by simp[hr],λi hi=>by have:=hD i hi;omega,?_,?_⟩
    ·intro i r it' hri hiti ht;cases i with
     |zero=>simp at hri;subst hri;rfl
     |succ i=>simp at hri hiti;exact hE0 i r it' hri hiti ht
    ·intro T M E hds hEj hDE i hi;exact hX T M E (λd hd=>by obtain ⟨k',o',h1,h2⟩:=hds d hd;exact ⟨k',o',ae,h2⟩) hEj (λi h1 h2=>hDE i ae h2) i hi
   ·rename_i hg;split at he
    ·rename_i hq;split at he
     ·rename_i x h2 en hx;simp only[Oc] at he;obtain ⟨es,he,rfl⟩:=he;obtain ⟨h1,h1',tc,run⟩:=ja ho hit hg hx;obtain ⟨D,recs,t',h',ch,hr,hD,hE0,hX⟩:=oz hoj hij htj its (k+1) _ _ _ es he ae hk' hc';refine ⟨D,⟨t,_,h1,h1',_,x,en⟩::recs,t',h',.cons ho rfl rfl tc (λ_=>run) (by rw[<-hdst];exact ch),by simp[hr],λi hi=>by have:=hD i hi;omega,?_,?_⟩
      ·intro i r it' hri hiti ht;cases i with
       |zero=>simp at hri hiti;subst hri hiti;exact (uZ ht hx).elim id (λ⟨n,y,h⟩=>by rw[h] at ht;simp[bN] at ht)
       |succ i=>simp at hri hiti;exact hE0 i r it' hri hiti ht
      ·intro T M E hds hEj hDE i hi;exact hX T M E (λd hd=>by obtain ⟨k',o',h1,h2⟩:=hds d hd;exact ⟨k',o',ae,h2⟩) hEj (λi h1 h2=>hDE i ae h2) i hi
     ·cases he
    ·cases he
   ·cases he
theorem tY{ops:Array Oper}:∀(its:List aX)(k:Nat)(t:Tm)(h:H),k<=ops.size->dL P N ops (ops.toList.drop k)=some its->∃(recs:List Rec)(t':Tm)(D:Nat->Bool),fC P ops D k recs t h t' h/\(∀i,D i=true->k<=i)/\∀r∈recs,r.en=aU
 |[],k,t,h,hk,hc=>by
  have:k=ops.size:=by
   cases hd:ops.toList.drop k with
   |nil=>have:=List.drop_eq_nil_iff.1 hd;simp at this;omega
   |cons o l=>
    rw[hd] at hc;simp only[dL] at hc;split at hc<;>simp at hc
  exact ⟨[],t,λ_=>false,.nil this,λi h=>by (cases h),by simp⟩
 |it::its,k,t,h,hk,hc=>by
  obtain ⟨o,ho,hit,hk',hc'⟩:=cD hk hc;obtain ⟨recs,t',D,ch,hD,he⟩:=tY its (k+1) (bL t o.dst .any) h hk' hc';refine ⟨⟨t,h,H0 h.n h.m,H0 h.n h.m,h,.any,aU⟩::recs,t',λi=>D i||i == k,.cons ho rfl rfl (bF h) (λhf=>by simp at hf) (ch.congr λi hi=>by
   have:(i == k)=false:=by simp;omega
   simp[this]),λi hi=>?_,?_⟩
  ·simp only[OZ,Qi] at hi;rcases hi with hi|hi
   ·have:=hD i hi;omega
   ·omega
  ·intro r hr;rcases OA.1 hr with rfl|hr
   ·rfl
   ·exact he r hr
def HI(l:List (Nat × Nat))(j:Nat)(log:List Ent):Bool:=l.all λ(a,b)=>(!Nat.beq a j||rR (log.getD b aU))&&(!Nat.beq b j||rR (log.getD a aU))
def C8(l:List (Nat × Nat))(j:Nat)(log:List Ent)(h':H):Prop:=∀a b,(a,b)∈l->(a=j->(log.getD b aU).tk=[]/\∀id∈(log.getD b aU).wr,h'.objs id=none)/\(b=j->(log.getD a aU).tk=[]/\(log.getD a aU).wr=[])
theorem Kg{l:List (Nat × Nat)}{j:Nat}{log:List Ent}{h':H}(h:HI l j log=true):C8 l j log h':=by
 intro a b hab;unfold HI at h;rw[OK] at h;have:=h _ hab;simp only[Oh,OZ,Qv,rR,List.isEmpty_iff] at this;refine ⟨λe=>?_,λe=>?_⟩
 ·subst e;obtain ⟨h1,h2⟩:=this.1.resolve_left ah;exact ⟨h2,λid hid=>by rw[h1] at hid;cases hid⟩
 ·subst e;obtain ⟨h1,h2⟩:=this.2.resolve_left ah;exact ⟨h2,h1⟩
structure Lp(P:Program)(N:Nat)(p:Option (List (Nat × Nat)))(ops:Array Oper)(i:Nat)(items:List aX)(t:Tm)(h:H)(log:List Ent)(D:Nat->Bool)(recs:List Rec)(t':Tm)(h':H)(j:Nat)(rj:Rec)(oj:Oper)(itj:aX)(v:Value):Prop where
 ch:fC P ops D i recs t h t' h'
 hrj:recs[j - i]? =some rj
 ij:i<=j
 hoj:ops[j]? =some oj
 it:bP P N ops oj=some itj
 tj:bN itj.op=true
 run:kO P ops j oj rj.t rj.h1 v rj.h1'
 Dj:D j=true
 Dk:∀k,D k=true->j<=k
 e0:∀(k:Nat) r it,recs[k]? =some r->items[k]? =some it->bN it.op=false->r.en=aU
 pairs:∀l,p=some l->(Tidy ops->mH P N ops l->∀k,D k=true->k=j\/∃k',D k'=true/\dA ops k' k=true)/\aN l (log.reverse++recs.map (·.en))/\C8 l j (log.reverse++recs.map (·.en)) rj.h'
def aR(P:Program)(N:Nat)(p:Option (List (Nat × Nat)))(items:List aX)(t:Tm)(h:H)(log:List Ent)(R:Value->H->Prop):Prop:=
 ∀ops i,i<=ops.size->log.length=i->dL P N ops (ops.toList.drop i)=some items->
  ∃D recs t' h' j rj oj itj v,Lp P N p ops i items t h log D recs t' h' j rj oj itj v/\R v {rj.h' with n:=h'.n,m:=h'.m}
theorem aR.step{p:Option (List (Nat × Nat))}{it:aX}{its:List aX}{t:Tm}{h h' h1 h1':H}{x:AV}{en:Ent}{log:List Ent}{R:Value->H->Prop}(tc:Touch h h1 h1' h' en)
  (run:∀(ops:Array Oper) i o,ops[i]? =some o->bP P N ops o=some it->iH P ops i o t h1 x h1') (hen:bN it.op=false->en=aU)
  (rest:aR P N p its (bL t it.dst x) h' (en::log) R):aR P N p (it::its) t h log R:=by
 intro ops i hi hl hc;obtain ⟨o,ho,hit,hi',hc'⟩:=cD hi hc;obtain ⟨D,recs,t',hh',j,rj,oj,itj,v,A,hR⟩:=rest ops (i+1) hi' (by simp[hl]) hc';have hdst:it.dst=o.dst:=by
  unfold bP at hit;split at hit
  ·split at hit<;>cases hit;rfl
  ·cases hit
 have hij:=A.ij;refine ⟨D,⟨t,h,h1,h1',h',x,en⟩::recs,t',hh',j,rj,oj,itj,v,⟨.cons ho rfl rfl tc (λ_=>run ops i o ho hit) (by rw[<-hdst];exact A.ch),?_,ae,A.hoj,A.it,A.tj,A.run,A.Dj,A.Dk,?_,?_⟩,hR⟩
 ·have e:=A.hrj;rw[show j - i=(j - (i+1))+1 by omega];simpa using e
 ·intro k r it' hr hit' ht;cases k with
  |zero=>simp at hr hit';subst hr hit';exact hen ht
  |succ k=>simp at hr hit';exact A.e0 k r it' hr hit' ht
 ·intro l hl';have:=A.pairs l hl';simpa using this
theorem aR.here{p:Option (List (Nat × Nat))}{it:aX}{its:List aX}{t:Tm}{h h' h1 h1':H}{v:Value}{en:Ent}{log:List Ent}{R:Value->H->Prop}(hj:bN it.op=true)(tc:Touch h h1 h1' h' en)
  (run:∀(ops:Array Oper) i o,ops[i]? =some o->bP P N ops o=some it->kO P ops i o t h1 v h1')
  (hr:∀l,p=some l->∃ents,rQ l log.length its (log.length+1) it.dst.toList (bL t it.dst .any) h'=some ents/\aN l (log.reverse++en::ents)/\HI l log.length (log.reverse++en::ents)=true)
  (hq:R v h'):aR P N p (it::its) t h log R:=by
 intro ops i hi hl hc;obtain ⟨o,ho,hit,hi',hc'⟩:=cD hi hc;have hdst:it.dst=o.dst:=by
  unfold bP at hit;split at hit
  ·split at hit<;>cases hit;rfl
  ·cases hit
 subst hl;cases p with
 |none=>
  obtain ⟨recs,t',D,ch,hD,he⟩:=tY its (log.length+1) (bL t o.dst .any) h' hi' hc';refine ⟨λi=>D i||i == log.length,⟨t,h,h1,h1',h',.any,en⟩::recs,t',h',log.length,⟨t,h,h1,h1',h',.any,en⟩,o,it,v,⟨.cons ho rfl rfl tc (λhf=>by simp at hf) (ch.congr λi hi=>by
   have:(i == log.length)=false:=by simp;omega
   simp[this]),by simp,N4 _,ho,hit,hj,run ops _ o ho hit,by simp,?_,?_,by simp⟩,hq⟩
  ·intro k hk;simp only[OZ,Qi] at hk;rcases hk with hk|hk
   ·have:=hD k hk;omega
   ·omega
  ·intro k r it' hr hit' ht;cases k with
   |zero=>simp at hr hit';subst hr hit';rw[hj] at ht;cases ht
   |succ k=>
    simp at hr;exact he r (PY hr)
 |some l=>
  obtain ⟨ents,hrest,hpk,hpb⟩:=hr l rfl;obtain ⟨D,recs,t',h2,ch,rfl,hre,hD,hE0,hX⟩:=qM ho hit hj its (log.length+1) _ _ h' ents hrest ae hi' hc';refine ⟨λi=>D i||i == log.length,⟨t,h,h1,h1',h2,.any,en⟩::recs,t',h2,log.length,⟨t,h,h1,h1',h2,.any,en⟩,o,it,v,⟨.cons ho rfl rfl tc (λhf=>by simp at hf) (by
   rw[<-hdst];exact ch.congr λi hi=>by
    have:(i == log.length)=false:=by simp;omega
    simp[this]),by simp,N4 _,ho,hit,hj,run ops _ o ho hit,by simp,?_,?_,?_⟩,hq⟩
  ·intro k hk;simp only[OZ,Qi] at hk;rcases hk with hk|hk
   ·have:=hD k hk;omega
   ·omega
  ·intro k r it' hr hit' ht;cases k with
   |zero=>simp at hr hit';subst hr hit';rw[hj] at ht;cases ht
   |succ k=>
    simp at hr hit';exact hE0 k r it' hr hit' ht
  ·intro l' hl';cases hl';refine ⟨λT M k hk=>?_,by simpa [hre] using hpk,Kg (by simpa [hre] using hpb)⟩;simp only[OZ,Qi] at hk;rcases hk with hk|hk
   ·right;refine hX T M (λi=>D i||i == log.length) ?_ ah (λi _ h=>by simp[h]) k hk;intro d hd;rw[Option.mem_toList] at hd;exact ⟨log.length,o,ae,ho,by rw[<-hdst];exact hd,by simp⟩
   ·exact .inl hk
theorem aR.JI{l:List (Nat × Nat)}{it:aX}{its:List aX}{t:Tm}{h h' h1 h1':H}{v:Value}{en:Ent}{log:List Ent}{R:Value->H->Prop}(hj:bN it.op=true)(tc:Touch h h1 h1' h' en)
  (run:∀(ops:Array Oper) i o,ops[i]? =some o->bP P N ops o=some it->kO P ops i o t h1 v h1')
  (hr:∃ents,gd l log.length its (log.length+1) it.dst.toList (bL t it.dst .any) h'=some ents/\aN l (log.reverse++en::ents)/\C8 l log.length (log.reverse++en::ents) h')
  (hq:∀n m,h'.n<=n->h'.m<=m->R v {h' with n:=n,m:=m}):aR P N (some l) (it::its) t h log R:=by
 intro ops i hi hl hc;obtain ⟨o,ho,hit,hi',hc'⟩:=cD hi hc;have hdst:it.dst=o.dst:=by
  unfold bP at hit;split at hit
  ·split at hit<;>cases hit;rfl
  ·cases hit
 subst hl;obtain ⟨ents,hrest,hpk,hpb⟩:=hr;obtain ⟨D,recs,t',h2,ch,hre,hD,hE0,hX⟩:=oz ho hit hj its (log.length+1) _ _ h' ents hrest ae hi' hc';obtain ⟨nm,nm2,-⟩:=kd ch;refine ⟨λi=>D i||i == log.length,⟨t,h,h1,h1',h',.any,en⟩::recs,t',h2,log.length,⟨t,h,h1,h1',h',.any,en⟩,o,it,v,⟨.cons ho rfl rfl tc (λhf=>by simp at hf) (by
  rw[<-hdst];exact ch.congr λi hi=>by
   have:(i == log.length)=false:=by simp;omega
   simp[this]),by simp,N4 _,ho,hit,hj,run ops _ o ho hit,by simp,?_,?_,?_⟩,hq _ _ nm.1 nm.2⟩
 ·intro k hk;simp only[OZ,Qi] at hk;rcases hk with hk|hk
  ·have:=hD k hk;omega
  ·omega
 ·intro k r it' hr hit' ht;cases k with
  |zero=>simp at hr hit';subst hr hit';rw[hj] at ht;cases ht
  |succ k=>
   simp at hr hit';exact hE0 k r it' hr hit' ht
 ·intro l' hl';cases hl';refine ⟨λT M k hk=>?_,by simpa [hre] using hpk,by simpa [hre] using hpb⟩;simp only[OZ,Qi] at hk;rcases hk with hk|hk
  ·right;refine hX T M (λi=>D i||i == log.length) ?_ ah (λi _ h=>by simp[h]) k hk;intro d hd;rw[Option.mem_toList] at hd;exact ⟨log.length,o,ae,ho,by rw[<-hdst];exact hd,by simp⟩
  ·exact .inl hk
theorem Wp.nH{items:List aX}{p:Option (List (Nat × Nat))}{s:St}{Q:aO->St->Prop}(h:aR P N p items s.t s.h [] λv h'=>Q (.panic v) ⟨λ_=> .any,h'⟩):Wp P N (.reg items p) s Q:=by
 intro code hc;obtain ⟨id,ops,draw,rfl,hi,hd⟩:=ox hc;obtain ⟨D,recs,t',h',j,rj,oj,itj,v,A,hq⟩:=h ops 0 (Ot _) rfl (by simpa using hi);have ch:=A.ch;have hrj:recs[j]? =some rj:=by simpa using A.hrj
 obtain ⟨nm,nm2,-⟩:=kd ch;obtain ⟨cl,ci⟩:=jc hi;have hN:∀(i:Nat) o d,ops[i]? =some o->o.dst=some d->d<N:=by
  intro i o d ho hdd;have hlt:i<ops.size:=(O5.1 ho).1;have hit:i<items.length:=by rw[cl];simpa using hlt
  have:=ci i o items[i] (by simpa using ho) (N5 hit);generalize items[i]=it at this;unfold bP at this;split at this
  ·split at this<;>cases this;rename_i hcond;simp only[Oh] at hcond;have:=hcond.1;rw[hdd] at this;simpa using this
  ·cases this
 refine ⟨.panic v,_,⟨nm,λro okc G w a r F=>?_⟩,hq⟩;rcases hd with ⟨rfl,rfl⟩|⟨rfl,hm,ht,rfl⟩
 ·refine wpIn_region ?_;rw[List.range_eq_range'];have:=y9 ro (Q:=λe' a' w'=>(aO.panic v).eZ e'/\lX w a.defers a'.defers/\∃G',Trans G w s.h G' w' {rj.h' with n:=h'.n,m:=h'.m}/\Rel N ⟨λ_=> .any,{rj.h' with n:=h'.n,m:=h'.m}⟩ G' w' a') hN A.hoj A.run A.Dj A.Dk (Ot j) ch (by simpa using A.hrj) G w a r.size r.t r.h F
   (λG' w' a' T1 R1 s1 d1=>⟨rfl,by rw[d1];exact .refl,G',T1,⟨s1,λ_=>by simp[aC],R1,by rw[d1];exact r.df.mono T1⟩⟩)
  simpa using this
 ·obtain ⟨pD,pk,pb⟩:=A.pairs _ rfl;simp only[List.reverse_nil,List.nil_append] at pk pb;refine wpIn_region_any hm ?_;obtain ⟨a1,a2,-⟩:=jC ch;rw[Oo] at a1;have ap:∀i j,i<j->j<ops.size->dA ops i j=false->apart (recs.getD i cZ).en (recs.getD j cZ).en:=by
   intro i j hij hj hanc;have hir:i<recs.length:=by omega
   have hjr:j<recs.length:=by omega
   have hii:i<items.length:=by rw[cl];simp;omega
   have hjj:j<items.length:=by rw[cl];simp;omega
   have ei:(recs.getD i cZ).en=(recs.map (·.en)).getD i aU:=by simp[List.getD,N5 hir]
   have ej:(recs.getD j cZ).en=(recs.map (·.en)).getD j aU:=by simp[List.getD,N5 hjr]
   have gi:(recs.getD i cZ)=recs[i]:=by simp[List.getD,N5 hir]
   have gj:(recs.getD j cZ)=recs[j]:=by simp[List.getD,N5 hjr]
   by_cases ti:bN items[i].op=true
   ·by_cases tj:bN items[j].op=true
    ·rw[ei,ej];refine lZ pk ?_;unfold kQ;simp only[QT,O6,List.mem_filterMap];refine ⟨j,hj,i,hij,?_⟩;unfold dA at hanc;simp[N5 hii,N5 hjj,ti,tj];simpa using hanc
    ·rw[gj,A.e0 j _ _ (N5 hjr) (N5 hjj) (by simpa using tj)];exact (kV _).2
   ·rw[gi,A.e0 i _ _ (N5 hir) (N5 hii) (by simpa using ti)];exact (kV _).1
  have hjs:j<ops.size:=(O5.1 A.hoj).1;have itemAt:∀(k:Nat)(o:Oper),ops[k]? =some o->∃it,items[k]? =some it/\bP P N ops o=some it:=by
   intro k o ho;have hlt:k<ops.size:=(O5.1 ho).1;have hit:k<items.length:=by rw[cl];simpa using hlt
   exact ⟨_,N5 hit,ci k o items[k] (by simpa using ho) (N5 hit)⟩
  have inPairs:∀(a b:Nat) oa ob ia ib,a<b->ops[a]? =some oa->ops[b]? =some ob->bP P N ops oa=some ia->bP P N ops ob=some ib->bN ia.op=true->bN ib.op=true->dA ops a b=false->(a,b)∈kQ ops items:=by
   intro a b oa ob ia ib hab hoa hob hia hib ta tb hanc;obtain ⟨ia',p1,p2⟩:=itemAt a oa hoa;obtain ⟨ib',p3,p4⟩:=itemAt b ob hob;rw[hia] at p2;rw[hib] at p4;cases p2;cases p4;unfold kQ;simp only[QT,O6,List.mem_filterMap];refine ⟨b,(O5.1 hob).1,a,hab,?_⟩;unfold dA at hanc;simp[p1,p3,ta,tb];simpa using hanc
  have M:mH P N ops (kQ ops items):=by
   intro a b oa ob ia ib hab hoa hob hia hib ta tb hn;cases hanc:dA ops a b with
   |true=>rfl
   |false=>exact absurd (inPairs a b oa ob ia ib hab hoa hob hia hib ta tb hanc) hn
  have T:=Bf ht;have pD:=pD T M;let w1:World:={w with drawn:=w.drawn+1}
  have hz:∀k,(Array.replicate ops.size false).getD k false=false:=by intro k;simp[Array.getElem?_replicate];split<;>rfl
  have hz':(λk=>(Array.replicate ops.size false).getD k false)=λ_=>false:=funext hz;have vz:∀{β:Type}(u:Nat->Option β)(n:Nat)(v:β),val u (λ_=>false) n v=v:=by
   intro β u n v;induction n with
   |zero=>rfl
   |succ n ih=>simp only[val,Oq,Od,ih]
  have R1:bj G s.h w1:=r.h.draw rfl rfl rfl;have hk:∀t,t∈(HS recs s.h ops.size h'.n h'.m (λ_=>false)).toks↔t∈s.h.toks:=by
   intro t;rw[nD a1.symm,vz];simp
  have ho:(HS recs s.h ops.size h'.n h'.m (λ_=>false)).objs=s.h.objs:=by
   funext id;simp only[HS];rw[vz]
  have T01:=jd G w w1 s.h rfl rfl rfl;refine tS ro (pj:=j) (pv:=v) (N:=N) (G0:=G) (w0:=w1) (a0:=a) hN T ch ap R1 F (λhf=>absurd A.Dj (by simp[hf j])) ?_ ?_ ops.size (Array.replicate ops.size false) G w1 a ah ?_ ?_ ?_ r.size rfl ?_ ?_ ?_ ?_ ?_
  ·intro i hDi;exact ⟨⟨A.Dj,hjs⟩,pD i hDi⟩
  ·intro _ o rr hoo hrr;rw[A.hoj] at hoo;cases hoo;rw[hrj] at hrr;cases hrr;refine ⟨A.run,?_,?_⟩
   ·intro k hk hne h1 h2;have hko:=O3 hk;obtain ⟨itk,p1,p2⟩:=itemAt k _ hko;have hkr:k<recs.length:=by omega
    have gk:(recs.getD k cZ)=recs[k]:=by simp[List.getD,N5 hkr]
    have ek:(recs.getD k cZ).en=(recs.map (·.en)).getD k aU:=by simp[List.getD,N5 hkr]
    by_cases tk:bN itk.op=true
    ·rw[ek];rcases Py k j with hlt|hge
     ·obtain ⟨q1,q2⟩:=(pb _ _ (inPairs k j _ oj itk itj hlt hko A.hoj p2 A.it tk A.tj h1)).2 rfl;exact ⟨q1,λ_=>q2,λid hid=>by rw[q2] at hid;cases hid⟩
     ·obtain ⟨q1,q2⟩:=(pb _ _ (inPairs j k oj _ itj itk ae A.hoj hko A.it p2 A.tj tk h2)).1 rfl;exact ⟨q1,λh=>by omega,q2⟩
    ·rw[gk,A.e0 k _ _ (N5 hkr) p1 (by simpa using tk)];exact ⟨rfl,λ_=>rfl,λid hid=>by cases hid⟩
   ·intro G' w' a' T1 R1' s1 d1;have T2:=T01.trans r.h R1 T1;exact ⟨rfl,by rw[d1];exact .refl,G',T2,⟨s1,λ_=>by simp[aC],R1',by rw[d1];exact r.df.mono T2⟩⟩
  ·unfold count;exact OI (List.length_filter_le _ _) ah
  ·rw[hz'];intro i o _ h;cases h
  ·intro k _;exact hz k
  ·rw[hz'];intro d;rw[vz];exact aC.mono r.h T01 _ _ (r.t d)
  ·rw[hz'];exact R1.same ho λt x=>(hk t).1 x
  ·rw[hz'];exact (Trans.refl G w1 s.h).same rfl (λ_=>QL) ho hk (N4 _) nm.1 nm.1 (N4 _) nm.2 nm.2
  ·exact λid x=> .inl x
  ·exact λid x=> .inl x
end
end Go.Av
end
section
namespace Go.Av
section
variable{P:Program}{N:Nat}
theorem tz{F:Fence}{n:Nat}{fn:Func}{tmps:Array Value}{R:Ending->World->Prop}{chain:List PanicEntry}(Ds:Nat->Prop)(I:World->Prop)
  (hI:∀w D,Ds D->I w->w.heap[D]? =some (.deferred (some []))->I (w.putObj D (.deferred none))) (hend:∀w,I w->R (.panicked chain) w):
  ∀(l:List Deferred)(w:World),l.Nodup->(∀d∈l,∃D,Ds D/\d= {target:= .collected D,args:= #[]}/\w.heap[D]? =some (.deferred (some [])))->I w->LeavesInM F n P fn tmps R l (.panicking chain) w:=by
 intro l;induction l with
 |nil=>intro w _ _ hi;exact hend w hi
 |cons d l ih=>
  intro w hn hm hi;obtain ⟨D,h1,h2,h3⟩:=hm d ah;refine ⟨by simp,.inl ⟨D,_,by rw[h2],run_takeDeferred h3,ih _ (List.nodup_cons.1 hn).2 (λd' hd'=>?_) (hI w D h1 hi h3)⟩⟩;obtain ⟨D',k1,k2,k3⟩:=hm d' (by simp[hd']);refine ⟨D',k1,k2,?_⟩;rw[World.putObj_heap_other ?_]
  ·exact k3
  ·rintro rfl;exact (List.nodup_cons.1 hn).1 (by rw[h2,<-k2];exact hd')
theorem HJ{f:FuncId}{fn:Func}{code:Code}{ac:AC}{args:List AV}{h:H}{Q:Value->H->Prop}(hf:P.funcs[f]? =some fn)(hb:fn.body=some code)(hc:cCode P fn.ntmps code=some ac)(hl:args.length<=fn.ntmps)
  (hw:Wp P fn.ntmps ac ⟨fH args,h⟩ λe s'=>∃v,e= .panic v/\Q v s'.h):∃v h',eN P f args h v h'/\Q v h':=by
 obtain ⟨e,s',run,v,rfl,hq⟩:=hw code hc;refine ⟨v,s'.h,?_,hq⟩;intro G w vs hv R F;have hlen:=hv.length;refine callsIn_wide.1 (callsIn_of_wp_marks (F:=rd none) (n:=0) hf hb trivial (wpIn_mono (run.2 none (.inl rfl) G w _ ⟨?_,wS hv,R,⟨by simp,by simp⟩⟩ F) ?_) rfl)
 ·simp;omega
 ·rintro e' a' w' ⟨h1,h2,G',T,r'⟩;have key:LeavesInM (rd none) 0 P fn a'.tmps (λe w'=>∃G',e= .panicked [{v:=v,recovered:=false}]/\Trans G w h G' w' s'.h/\bj G' s'.h w') a'.defers (.panicking [{v:=v,recovered:=false}]) w':=by
   refine tz (λD=>w.heap.size<=D/\¬s'.h.O G' D/\¬s'.h.T G' D) (λw2=>Trans G w h G' w2 s'.h/\bj G' s'.h w2) ?_ ?_ _ _ r'.df.1 ?_ ⟨T,r'.h⟩
   ·rintro w2 D ⟨d1,d2,d3⟩ ⟨T2,R2⟩ hD;have tu:=eC.results hD;exact ⟨T2.dP tu d1,R2.dP tu d2⟩
   ·rintro w2 ⟨T2,R2⟩;exact ⟨G',rfl,T2,R2⟩
   ·intro d hd;obtain ⟨D,e,k1,k2,k3⟩:=r'.df.2 d hd;rcases h2 d hd with h|⟨D',k4,e'⟩
    ·simp at h
    ·rw[e] at e';simp only[Deferred.mk.injEq,Target.collected.injEq,Qk] at e';subst e';exact ⟨D,⟨k4,k2,k3⟩,e,k1⟩
  cases e'<;>simp only[aO.eZ] at h1;subst h1;exact key
theorem aV.HK{f:FuncId}{ac:AC}{args:List AV}{h:H}{ds:List RV}{Q:Value->H->Prop}(hF:aV P f N ac ds)(hl:args.length<=N)(hw:Wp P N ac ⟨fH args,h⟩ λe s'=>∃v,e= .panic v/\Q v s'.h):∃v h',eN P f args h v h'/\Q v h':=by
 obtain ⟨fn,h1,h2,h3,h4⟩:=hF;subst h2;obtain ⟨code,hb,hc⟩:=Oe.1 h3;exact HJ h1 hb hc hl hw
end
structure oA(D:Nat)(G:aT)(w w':World):Prop where
 size:w'.heap.size=w.heap.size
 same:∀B,B≠D->w'.heap[B]? =w.heap[B]?
 own:G.own D
 form:∀c T fr,w.heap[D]? =some (.cells c T fr)->∃c',w'.heap[D]? =some (.cells c' T fr)/\c'.size=c.size
 os:w'.os=w.os
 out:w'.output=w.output
section
variable{D:Nat}{G:aT}{w w':World}
theorem oA.cell(t:oA D G w w'){B off:Nat}{v:Value}(hB:B≠D)(h:w.cell? ⟨B,off,none⟩=some v):w'.cell? ⟨B,off,none⟩=some v:=by
 have:=t.same B hB;unfold World.cell? at h |-;simpa [this] using h
theorem oA.heap(t:oA D G w w'){B:Nat}{c:Array Value}{T:TypeId}{fr:Nat × Nat}(h:w.heap[B]? =some (.cells c T fr)):∃c',w'.heap[B]? =some (.cells c' T fr)/\c'.size=c.size:=by
 by_cases e:B=D
 ·subst e;exact t.form _ _ _ h
 ·rw[t.same B e];exact ⟨c,h,rfl⟩
theorem Imm.set(t:oA D G w w'){B off:Nat}{vs:List Value}(h:Imm G w B off vs):Imm G w' B off vs:=λi v hv=>
 ⟨t.cell (λe=>(h i v hv).2.2.1 (by rw[e];exact t.own)) (h i v hv).1,(h i v hv).2⟩
theorem dc.set(t:oA D G w w'){c:Cap}{B off len C sz:Nat}(h:dc G w c B off len C sz):dc G w' c B off len C sz:=by
 cases c with
 |any=>trivial
 |exact c=>exact h
 |own k=>
  rcases h with h|⟨h1,h2,cs,T,fr,h3,h4,h5⟩
  ·exact .inl h
  ·obtain ⟨c',k1,k2⟩:=t.heap h3;exact .inr ⟨h1,h2,c',T,fr,k1,by rw[k2];exact h4,by rw[k2];exact h5⟩
mutual
theorem aC.set(t:oA D G w w'):∀(x:AV)(v:Value),aC G w x v->aC G w' x v
 | .any,_,_=>trivial
 | .int k n,_,hv=>hv
 | .bool b,_,hv=>hv
 | .str l,_,hv=>hv
 | .sc x,_,hv=>hv
 | .sl sz xs c,v,hv=>by
  simp only[aC] at hv |-;rcases hv with hv|⟨B,off,C,vs,h1,h2,h3,h4,h5,h6⟩
  ·exact .inl hv
  ·exact .inr ⟨B,off,C,vs,h1,h2,h3,aL.set t sz xs vs h4,h5.set t,h6.set t⟩
 | .ref cs,v,hv=>by
  simp only[aC] at hv |-;obtain ⟨B,off,vs,h1,h2,h3⟩:=hv;exact ⟨B,off,vs,h1,aE.set t cs vs h2,h3.set t⟩
 | .agg cs,v,hv=>by
  simp only[aC] at hv |-;obtain ⟨vs,h1,h2⟩:=hv;exact ⟨vs,h1,aE.set t cs vs h2⟩
 | .tup cs,v,hv=>by
  simp only[aC] at hv |-;obtain ⟨vs,h1,h2⟩:=hv;exact ⟨vs,h1,aE.set t cs vs h2⟩
 | .ptr id off,v,hv=>by simpa only[aC] using hv
 | .tsl sz id off len cap,v,hv=>by
  simp only[aC] at hv |-;obtain ⟨hd,hv⟩:=hv;refine ⟨hd,?_⟩;rcases hv with ⟨C,c,Tt,fr,h1,h2,h3,h4,h5⟩|hv
  ·obtain ⟨c',k1,k2⟩:=t.heap h4;exact .inl ⟨C,c',Tt,fr,h1,h2,h3,k1,by rw[k2];exact h5⟩
  ·exact .inr hv
 | .clo fn a b,v,hv=>by
  simp only[aC] at hv |-;obtain ⟨vs,us,h1,h2,h3⟩:=hv;exact ⟨vs,us,h1,aE.set t a vs h2,aE.set t b us h3⟩
 | .ifc k x,v,hv=>by
  simp only[aC] at hv |-;obtain ⟨u,h1,h2⟩:=hv;exact ⟨u,h1,aC.set t x u h2⟩
 | .mp id,v,hv=>by simpa only[aC] using hv
 | .yld id,v,hv=>by simpa only[aC] using hv
 | .slt sz xs ys,v,hv=>by
  simp only[aC] at hv |-;obtain ⟨B,off,C,us,vs,h1,h2,h3,h4,h5,h6⟩:=hv;exact ⟨B,off,C,us,vs,h1,h2,h3,aL.set t sz xs us h4,aL.set t sz ys vs h5,h6.set t⟩
 | .sup B,v,hv=>by simpa only[aC] using hv
 | .supb B,v,hv=>by
  simp only[aC] at hv |-;obtain ⟨l,h1,h2|⟨D,off,C,h2,h3,h4⟩⟩:=hv
  ·exact ⟨l,h1,.inl h2⟩
  ·exact ⟨l,h1,.inr ⟨D,off,C,h2,h3,h4.set t⟩⟩
 | .wint k,v,hv=>by simpa only[aC] using hv
 | .one,v,hv=>by simpa only[aC] using hv
theorem aE.set(t:oA D G w w'):∀(x:List AV)(v:List Value),aE G w x v->aE G w' x v
 |[],_,hv=>by simpa only[aE] using hv
 |x::xs,vs,hv=>by
  simp only[aE] at hv |-;obtain ⟨v,us,h1,h2,h3⟩:=hv;exact ⟨v,us,h1,aC.set t x v h2,aE.set t xs us h3⟩
theorem aL.set(t:oA D G w w')(sz:Nat):∀(x:List AV)(v:List Value),aL G w sz x v->aL G w' sz x v
 |[],_,hv=>by simpa only[aL] using hv
 |x::xs,vs,hv=>by
  simp only[aL] at hv |-;obtain ⟨v,us,h1,h2,h3,h4⟩:=hv;exact ⟨v,us,h1,h2,aC.set t x v h3,aL.set t sz xs us h4⟩
end
theorem Entries.Lq(t:oA D G w w'):∀(l:List (AV × AV))(e:List MapEntry),Entries G w l e->Entries G w' l e
 |[],_,hv=>hv
 |(k,v)::l,es,hv=>by
  obtain ⟨e,r,h1,h2,h3,h4⟩:=hv;exact ⟨e,r,h1,aC.set t k _ h2,aC.set t v _ h3,Entries.Lq t l r h4⟩
theorem lE.set(t:oA D G w w'){o:Obj}{x:Option Go.Obj}(hx:lE G w o x):lE G w' o x:=by
 cases o with
 |cells cs=>
  obtain ⟨vs,rest,Tt,fr,h1,h2,h3⟩:=hx;exact ⟨vs,rest,Tt,fr,h1,aE.set t _ _ h2,h3⟩
 |map es=>
  obtain ⟨en,k,h1,h2⟩:=hx;exact ⟨en,k,h1,Entries.Lq t _ _ h2⟩
 |loop N tt ps asg body st pend=>
  obtain ⟨r,h1,h2,h3,h4⟩:=hx;exact ⟨r,h1,h2,λi=>aC.set t _ _ (h3 i),h4⟩
 |raw c=>exact hx
 |bk c=>exact hx
theorem bj.set{h:H}(R:bj G h w)(t:oA D G w w')(hD:¬h.O G D):bj G h w' where
 obj id o ho:=by
  obtain ⟨a,b,c,d⟩:=R.obj id o ho;have hne:G.ι id≠D:=λe=>hD ⟨id,o,ho,e⟩;exact ⟨a,b,by rw[t.size];exact c,by rw[t.same _ hne];exact d.set t⟩
 inj:=R.inj
 tok k hk:=⟨(R.tok k hk).1,λB e he=>by rw[t.size];exact (R.tok k hk).2 B e he⟩
 tinj:=R.tinj
theorem Trans.set{G0:aT}{w0:World}{h0 h:H}(T:Trans G0 w0 h0 G w h)(t:oA D G w w')(hD:w0.heap.size<=D):Trans G0 w0 h0 G w' h where
 dom_le:=T.dom_le
 dom_new:=T.dom_new
 ι_eq:=T.ι_eq
 tdom_le:=T.tdom_le
 tdom_new:=T.tdom_new
 τ_eq:=T.τ_eq
 n_le:=T.n_le
 m_le:=T.m_le
 size_le:=by rw[t.size];exact T.size_le
 os:=t.os.trans T.os
 output:=t.out.trans T.output
 form B hB:=by rw[t.same B ae];exact T.form B hB
 keep B hB h1 h2:=by rw[t.same B ae];exact T.keep B hB h1 h2
 own_keep:=T.own_keep
 lim_keep:=T.lim_keep
 tok_keep B hB h1 h2 e he:=⟨λj hj=>by
  have:=(T.tok_keep B hB h1 h2 e he).1 j hj;rw[<-this];have hs:=t.same B ae;unfold World.cell?;simp only[hs],(T.tok_keep B hB h1 h2 e he).2⟩
 O_new:=T.O_new
 T_new:=T.T_new
 objs_new:=T.objs_new
 toks_new:=T.toks_new
def oB(G:aT)(D:Nat):aT:={G with own:=λB=>B=D\/G.own B}
theorem wV{o:Go.Obj}{h:H}(R:bj G h w)(hp:dw w w' o):Trans G w h (oB G w.heap.size) w' h/\bj (oB G w.heap.size) h w'/\¬h.O (oB G w.heap.size) w.heap.size/\¬h.T (oB G w.heap.size) w.heap.size:=by
 have T:Trans G w h (oB G w.heap.size) w' h:=by
  constructor
  ·exact λ_ x=>x
  ·exact λ_ x=> .inl x
  ·exact λ_ _=>rfl
  ·exact λ_ x=>x
  ·exact λ_ x=> .inl x
  ·exact λ_ _=>rfl
  ·exact N4 _
  ·exact N4 _
  ·rw[hp.size];omega
  ·exact hp.2.1
  ·exact hp.2.2
  ·intro B hB;rw[hp.old hB];exact bS.refl _
  ·exact λB hB _ _=>hp.old hB
  ·intro B hB _;simp only[oB];constructor
   ·rintro (e|x)
    ·omega
    ·exact x
   ·exact .inr
  ·exact λ_ _ _ _=>rfl
  ·intro B hB ht _ e he;refine ⟨λj _=>by unfold World.cell?;simp only[hp.old hB],λe' he'=>?_⟩;have he':G.lim B=some e':=he';rw[he] at he';cases he';exact N4 _
  ·exact λ_ _ x=>x
  ·exact λ_ _ x=>x
  ·exact λj o x=> .inl ⟨o,x⟩
  ·exact λt x=> .inl x
 refine ⟨T,⟨?_,R.inj,?_,R.tinj⟩,?_,?_⟩
 ·intro id o ho;obtain ⟨a,b,c,d⟩:=R.obj id o ho;refine ⟨a,.inr b,by rw[hp.size];show G.ι id<_;omega,?_⟩;show lE _ w' o w'.heap[G.ι id]?;rw[hp.old c];exact lE.mono R T d
 ·intro t ht;refine ⟨(R.tok t ht).1,λB e he=>?_⟩;obtain ⟨a,b,c⟩:=(R.tok t ht).2 B e he;refine ⟨a,?_,by rw[hp.size];omega⟩;rintro (e|x)
  ·omega
  ·exact b x
 ·rintro ⟨id,o,ho,e⟩;have:=(R.obj id o ho).2.2.1;have e:G.ι id=w.heap.size:=e;omega
 ·rintro ⟨t,ht,e,he⟩;have:=((R.tok t ht).2 _ e he).2.2;omega
theorem Da{D:Nat}{v x:Value}{T:TypeId}{fr:Nat × Nat}(hh:w.heap[D]? =some (.cells #[v] T fr))(ho:G.own D):oA D G w (w.setCell ⟨D,0,none⟩ x) where
 size:=by simp[World.setCell]
 same B hB:=by
  simp only[World.setCell,PZ];rw[Ob (λe=>hB e.symm)]
 own:=ho
 form c T fr hc:=by
  simp only[World.setCell,PZ,Of,hc,Option.map_some];exact ⟨_,rfl,by simp⟩
 os:=rfl
 out:=rfl
theorem Bj{D:Nat}{v x:Value}{T:TypeId}{fr:Nat × Nat}(hh:w.heap[D]? =some (.cells #[v] T fr)):(w.setCell ⟨D,0,none⟩ x).heap[D]? =some (.cells #[x] T fr):=by
 simp only[World.setCell,PZ,Of,hh,Option.map_some];rfl
end
end Go.Av
end
section
set_option maxRecDepth 10000
namespace Go.Av
section
variable{P:Program}
def za(sz bytes:Nat):AC:=(.seq (.reg [⟨some 2,none,.mov (.c (.sl sz [] (.exact 0)))⟩] none)
 (.seq (.seq (.reg [⟨some 3,none,.mov (.t 0)⟩,⟨some 4,none,.eqN false (.t 3)⟩] none)
 (.cond (.t 4) (.seq (.reg [⟨some 2,none,.mov (.c (.sl sz [] (.exact 0)))⟩] none)
 .ret) .skip))
 (.seq (.reg [⟨some 5,none,.buildSl sz []⟩,⟨some 6,none,.mov (.t 0)⟩,⟨some 7,none,.app false sz bytes (.t 5) (.t 6)⟩,⟨some 2,none,.mov (.t 7)⟩] none)
 .ret)))
theorem ay.own{sz:Nat}{xs:List AV}{t:Nat}:ay (.sl sz xs (.own t)) (.sl sz xs .any):=ay.cap
theorem ay.ET{sz:Nat}{a:Option Addr}{C:Nat}(h:C=0\/∃B off,a=some ⟨B,off,none⟩):ay (.sc (.slice a 0 C)) (.sl sz [] .any):=by
 intro G w v hv;simp only[aC] at hv;subst hv;unfold aC;rcases h with rfl|⟨B,off,rfl⟩
 ·exact .inl ⟨rfl,⟨a,rfl⟩,trivial⟩
 ·exact .inr ⟨B,off,C,[],rfl,Ot _,by simp,by simp[aL],Imm.nil,trivial⟩
theorem bB.wW{f:FuncId}{sz:Nat}{c:Cap}{rest:List AV}{h h':H}{r:AV}(hc:∀a C,(C=0\/∃B off,a=some ⟨B,off,none⟩)->bB P f (.sc (.slice a 0 C)::rest) h r h'):bB P f (.sl sz [] c::rest) h r h':=by
 intro G w vs hv R F;simp only[aE] at hv;obtain ⟨v,us,rfl,hv,hr⟩:=hv;simp only[aC] at hv;rcases hv with ⟨-,⟨a,rfl⟩,-⟩|⟨B,off,C,ws,rfl,-⟩
 ·exact hc a 0 (.inl rfl) G w _ (.cons (by simp[aC]) hr) R F
 ·exact hc _ C (.inr ⟨B,off,rfl⟩) G w _ (.cons (by simp[aC]) hr) R F
theorem Db{f:FuncId}{sz bytes:Nat}(hF:aV P f 8 (za sz bytes) [.tmp 2])(xs:List AV)(hp:aJ xs=true)(hb:xs.length*bytes<=140737488355328)(hl:xs.length<4611686018427387904):aI P f [.sl sz xs .any] (.sl sz xs .any):=by
 cases xs with
 |nil=>
  intro n m;refine bB.wW λa C hC=>?_;have:aI P f [.sc (.slice a 0 C)] (.sl sz [] .any):=by
   refine hF.u9 ah (cP _ rfl) (dV _ rfl) λn m=>?_;unfold za;refine Wp.bU (by simp only[go_sem,reduceIte,Nat.reduceEqDiff,Nat.reduceAdd,bx];exact rfl) al ?_;refine Wp.seq ?_;refine Wp.bU (by simp only[go_sem,reduceIte,Nat.reduceEqDiff,Nat.reduceAdd,bx];exact rfl) al ?_;cases ha:a.isNone with
   |true=>
    refine Wp.cond_true (by simp only[go_sem,reduceIte,Nat.reduceEqDiff,Nat.reduceAdd,bx,ha]) ?_;refine Wp.bU (by simp only[go_sem,reduceIte,Nat.reduceEqDiff,Nat.reduceAdd,bx];exact rfl) al ?_;refine Wp.ret ⟨trivial,_,rfl,?_⟩;simp only[go_sem,reduceIte,Nat.reduceEqDiff,Nat.reduceAdd,bx];exact ay.cap
   |false=>
    refine Wp.cond_false (by simp only[go_sem,reduceIte,Nat.reduceEqDiff,Nat.reduceAdd,bx,ha]) ?_;refine Wp.skip ?_;refine Wp.le (s':=⟨tm [(0,.sl sz [] .any)],_⟩) (aM.tm ⟨ay.ET hC,trivial⟩) ?_;refine Wp.bU (by simp only[go_sem,reduceIte,Nat.reduceEqDiff,Nat.reduceAdd,bx,QN,Ot,Ol,or_true,Of,Nat.reduceMul,Nat.reduceLT,Nat.reduceLeDiff,OE];exact rfl) al ?_;refine Wp.ret ⟨trivial,_,rfl,?_⟩;simp only[go_sem,reduceIte,Nat.reduceEqDiff,Nat.reduceAdd,bx];exact ay.cap
  exact this n m
 |cons x xs=>
  refine hF.u9 ah (cP _ (by simp[aJ,aW,bA] at hp |-;exact hp)) (dV _ (by simp[aJ,aW,bA] at hp |-;exact hp)) λn m=>?_;unfold za;refine Wp.bU (by simp only[go_sem,reduceIte,Nat.reduceEqDiff,Nat.reduceAdd,bx];exact rfl) al ?_;refine Wp.seq ?_;refine Wp.bU (by simp only[go_sem,reduceIte,Nat.reduceEqDiff,Nat.reduceAdd,bx];exact rfl) al ?_;refine Wp.cond_false (by simp only[go_sem,reduceIte,Nat.reduceEqDiff,Nat.reduceAdd,bx]) ?_;refine Wp.skip ?_;simp only[List.length_cons] at hb hl;have h1:(0+(xs.length+1))*bytes<=140737488355328:=by rw[Oo];exact hb
  have h2:0+(xs.length+1)<4611686018427387904:=by omega
  refine Wp.bU (by simp only[go_sem,reduceIte,Nat.reduceEqDiff,Nat.reduceAdd,bx,QN,Ot,Ol,or_true,O2,Of,Nat.reduceMul,Nat.reduceLT,Nat.reduceLeDiff,OE,hb,hl];exact rfl) al ?_;refine Wp.ret ⟨trivial,_,rfl,?_⟩;simp only[go_sem,reduceIte,Nat.reduceEqDiff,Nat.reduceAdd,bx];exact ay.cap
def OLe(f f':Nat->Option Obj):Prop:=∀j o',f' j=some o'->∃o,f j=some o/\cm o o'
theorem OLe.none(f:Nat->Option Obj):OLe f aB:=λj o h=>by cases h
theorem OLe.upd{f f':Nat->Option Obj}{i:Nat}{o o':Obj}(h:OLe f f')(hs:cm o o'):OLe (upd f i (some o)) (upd f' i (some o')):=by
 intro j p hp;simp only[Go.Av.upd] at hp |-;split at hp
 ·rename_i e;rw[Oi e];cases hp;exact ⟨o,rfl,hs⟩
 ·rename_i e;rw[Ob e];exact h j p hp
theorem aM.of{t t':Tm}{f f':Nat->Option Obj}{n n' m m':Nat}{k k':List Nat}(ht:∀i,ay (t i) (t' i))(ho:OLe f f')(hk:∀x∈k',x∈k)(hn:n<=n')(hm:m<=m'):aM ⟨t,⟨f,n,k,m⟩⟩ ⟨t',⟨f',n',k',m'⟩⟩:=
 aM.mk' ht ⟨ho,hk⟩ hn hm
theorem ay.dt{sz:Nat}{xs:List AV}{k t:Nat}(h:k=xs.length):ay (.sl sz xs (.exact k)) (.sl sz xs (.own t)):=by
 intro G w v hv;unfold aC at hv |-;rcases hv with ⟨a,b,-⟩|⟨B,off,C,vs,h1,h2,h3,h4,h5,h6⟩
 ·exact .inl ⟨a,b,trivial⟩
 ·exact .inr ⟨B,off,C,vs,h1,h2,h3,h4,h5,.inl (by simp only[dc] at h6;omega)⟩
end
end Go.Av
end
section
namespace Go.Av
open Classical in
section
variable{P:Program}{G:aT}{h:H}{w:World}
def H.DO(h:H)(G:aT)(d:Nat->Bool)(B:Nat):Prop:=∃id o,d id=true/\h.objs id=some o/\G.ι id=B
def H.drop(h:H)(d:Nat->Bool):H:={h with objs:=λj=>if d j then none else h.objs j}
noncomputable def aT.frz(G:aT)(h:H)(d:Nat->Bool):aT:=
 {G with own:=λB=>G.own B/\¬h.DO G d B,lim:=λB=>if h.DO G d B then none else G.lim B}
theorem Kh{d:Nat->Bool}{B:Nat}(x:h.DO G d B):h.O G B:=by
 obtain ⟨id,o,-,a,b⟩:=x;exact ⟨id,o,a,b⟩
theorem bC(d:Nat->Bool):Trans G w h (G.frz h d) w (h.drop d):=by
 have hsub:∀B,(h.drop d).O (G.frz h d) B->h.O G B:=by
  rintro B ⟨id,o,a,b⟩;simp only[H.drop] at a;split at a
  ·cases a
  ·exact ⟨id,o,a,b⟩
 constructor
 ·exact λ_ x=>x
 ·exact λ_=> .inl
 ·exact λ_ _=>rfl
 ·exact λ_ x=>x
 ·exact λ_=> .inl
 ·exact λ_ _=>rfl
 ·exact N4 _
 ·exact N4 _
 ·exact N4 _
 ·rfl
 ·rfl
 ·intro B hB;exact bS.refl _
 ·exact λ_ _ _ _=>rfl
 ·intro B hB hO;have:¬h.DO G d B:=λx=>hO (Kh x);simp[aT.frz,this]
 ·intro B hB hO hT;have:¬h.DO G d B:=λx=>hO (Kh x);simp[aT.frz,this]
 ·intro B hB hT hO e he;have:¬h.DO G d B:=λx=>hO (Kh x);refine ⟨λ_ _=>rfl,λe' he'=>?_⟩;simp only[aT.frz,this,Od] at he';rw[he] at he';cases he';exact N4 _
 ·exact λB _ x=>hsub B x
 ·exact λB _ x=>x
 ·intro j o a;simp only[H.drop] at a;split at a
  ·cases a
  ·exact .inl ⟨o,a⟩
 ·exact λt x=> .inl x
theorem mI(R:bj G h w)(d:Nat->Bool):bj (G.frz h d) (h.drop d) w:=by
 have hd:∀{id o},(h.drop d).objs id=some o->h.objs id=some o/\d id=false:=by
  intro id o a;simp only[H.drop] at a;split at a
  ·cases a
  ·rename_i q;exact ⟨a,by simpa using q⟩
 constructor
 ·intro id o a;obtain ⟨a,q⟩:=hd a;obtain ⟨r1,r2,r3,r4⟩:=R.obj id o a;refine ⟨r1,⟨r2,?_⟩,r3,?_⟩
  ·rintro ⟨id',o',x1,x2,x3⟩;have:=R.inj _ _ _ _ x2 a x3;subst this;rw[x1] at q;cases q
  ·cases o with
   |cells cs=>
    obtain ⟨vs,rest,T,fr,y1,y2,y3⟩:=r4;exact ⟨vs,rest,T,fr,y1,aE.mono R (bC d) _ _ y2,y3⟩
   |map es=>
    obtain ⟨en,clock,y1,y2⟩:=r4;exact ⟨en,clock,y1,Entries.mono R (bC d) _ _ y2⟩
   |loop N t ps asg body st pend=>
    obtain ⟨r,y1,y2,y3,y4⟩:=r4;exact ⟨r,y1,y2,λi=>aC.mono R (bC d) _ _ (y3 i),y4⟩
   |raw c=>exact r4
   |bk c=>exact r4
 ·intro id id' o o' a b e;exact R.inj _ _ _ _ (hd a).1 (hd b).1 e
 ·intro t ht;obtain ⟨r1,r2⟩:=R.tok t ht;refine ⟨r1,λB e q=>?_⟩;obtain ⟨x1,x2,x3⟩:=r2 B e q;have:¬h.DO G d B:=by
   rintro ⟨id,o,y1,y2,y3⟩;have:=(R.obj id o y2).2.1;rw[y3] at this;exact x2 this
  refine ⟨by simp only[aT.frz,this,Od];exact x1,λx=>x2 x.1,x3⟩
 ·exact λt ht t' ht' B e e' a b=>R.tinj t ht t' ht' B e e' a b
theorem mJ{v:Value}(h:One v):v.cells= #[v]:=by
 obtain ⟨a,b⟩:=h;cases v<;>first|rfl|exact absurd rfl (a _)|exact absurd rfl (b _)
theorem HL(R:bj G h w){d:Nat->Bool}{id off len:Nat}{c:Option Nat}{cs:List AV}{v:Value}(ho:h.objs id=some (.cells cs))(hd:d id=true)(hl:off+len<=cs.length)(r:aC G w (.tsl 1 id off len c) v):
  aC (G.frz h d) w (.sl 1 ((cs.drop off).take len) .any) v:=by
 simp only[aC] at r;obtain ⟨-,⟨C,cc,Tt,fr,rfl,⟨h2,-⟩,-⟩|⟨h0,⟨a,rfl⟩,-⟩⟩:=r
 ·obtain ⟨-,r2,r3,vs,rest,T,fr',y1,y2,y3,y4⟩:=R.obj id _ ho;have hlen:=aE.length y2;have hx:aE (G.frz h d) w ((cs.drop off).take len) ((vs.drop off).take len):=aE.mono R (bC d) _ _ (aE.take len (aE.drop off y2));have h1:∀v∈(vs.drop off).take len,One v:=λv hv=>y4 v (Q0 (List.mem_of_mem_take hv));have he:=eR (sz:=1) hx (λv hv=>by rw[mJ (h1 v hv)];rfl);have hfl:((vs.drop off).take len).flatMap (·.cells.toList)=(vs.drop off).take len:=by
   have:∀l:List Value,(∀v∈l,One v)->l.flatMap (·.cells.toList)=l:=by
    intro l;induction l with
    |nil=>intro _;rfl
    |cons x l ih=>intro hl;rw[PS,mJ (hl x ah),ih (λv hv=>hl v (by simp[hv]))];rfl
   exact this _ h1
  rw[hfl] at he;unfold aC;refine .inr ⟨G.ι id,off,C,(vs.drop off).take len,?_,?_,?_,he,?_,trivial⟩
  ·rw[OV,OY];congr 1;omega
  ·rw[OV];omega
  ·simp only[OV,OY];omega
  ·intro i v hi;have hi':=(Pu.1 hi).1;rw[OV,OY] at hi';have hv1:vs[off+i]? =some v:=by
    rw[List.getElem?_take_of_lt ae,Qm] at hi;exact hi
   refine ⟨?_,h1 v (PY hi),?_,?_⟩
   ·unfold World.cell?;simp only[y1];simp[OW (show off+i<vs.length by omega),hv1]
   ·exact λx=>x.2 ⟨id,_,hd,ho,rfl⟩
   ·intro e he';have:h.DO G d (G.ι id):=⟨id,_,hd,ho,rfl⟩;simp[aT.frz,this] at he'
 ·subst h0;unfold aC;exact .inl ⟨by simp,⟨_,rfl⟩,trivial⟩
theorem HM(R:bj G h w){d:Nat->Bool}{id off:Nat}{cs:List AV}{v:Value}(ho:h.objs id=some (.cells cs))(hd:d id=true)(r:aC G w (.ptr id off) v):
  aC (G.frz h d) w (.ref (cs.drop off)) v:=by
 simp only[aC] at r;obtain ⟨-,rfl⟩:=r;obtain ⟨-,r2,r3,vs,rest,T,fr',y1,y2,y3,y4⟩:=R.obj id _ ho;unfold aC;refine ⟨G.ι id,off,vs.drop off,rfl,aE.mono R (bC d) _ _ (aE.drop off y2),?_⟩;intro i v hi;have hv1:vs[off+i]? =some v:=by rw[Qm] at hi;exact hi
 have hi':=(Pu.1 hv1).1;refine ⟨?_,y4 v (PY hv1),?_,?_⟩
 ·unfold World.cell?;simp only[y1];simp[OW hi',hv1]
 ·exact λx=>x.2 ⟨id,_,hd,ho,rfl⟩
 ·intro e he';have:h.DO G d (G.ι id):=⟨id,_,hd,ho,rfl⟩;simp[aT.frz,this] at he'
mutual
def unT(h:H)(d:Nat->Bool):AV->AV
 | .tsl sz id off len c=>if sz=1/\d id=true then (match h.objs id with
  |some (.cells cs)=>if off+len<=cs.length then .sl 1 ((cs.drop off).take len) .any else .any
  |_=> .any) else .tsl sz id off len c
 | .ptr id off=>if d id=true then (match h.objs id with
  |some (.cells cs)=> .ref (cs.drop off)
  |_=> .any) else .ptr id off
 | .agg xs=> .agg (vd h d xs)
 | .tup xs=> .tup (vd h d xs)
 | .clo fn a b=> .clo fn (vd h d a) (vd h d b)
 |x=>x
def vd(h:H)(d:Nat->Bool):List AV->List AV
 |[]=>[]
 |x::xs=>unT h d x::vd h d xs
end
mutual
theorem oC(R:bj G h w)(d:Nat->Bool):∀(x:AV)(v:Value),aC G w x v->aC (G.frz h d) w (unT h d x) v
 | .tsl sz id off len c,v,r=>by
  unfold unT;split
  ·rename_i hs;obtain ⟨rfl,hd⟩:=hs;split
   ·rename_i cs ho;split
    ·rename_i hl;exact HL R ho hd hl r
    ·simp[aC]
   ·simp[aC]
  ·exact aC.mono R (bC d) _ _ r
 | .agg xs,v,r=>by
  simp only[unT,aC] at r |-;obtain ⟨vs,e,r⟩:=r;exact ⟨vs,e,l8 R d xs vs r⟩
 | .tup xs,v,r=>by
  simp only[unT,aC] at r |-;obtain ⟨vs,e,r⟩:=r;exact ⟨vs,e,l8 R d xs vs r⟩
 | .any,v,r=>by simp[unT,aC]
 | .int k n,v,r=>by unfold unT;exact aC.mono R (bC d) _ _ r
 | .bool b,v,r=>by unfold unT;exact aC.mono R (bC d) _ _ r
 | .str l,v,r=>by unfold unT;exact aC.mono R (bC d) _ _ r
 | .sc x,v,r=>by unfold unT;exact aC.mono R (bC d) _ _ r
 | .sl sz xs c,v,r=>by unfold unT;exact aC.mono R (bC d) _ _ r
 | .ref cs,v,r=>by unfold unT;exact aC.mono R (bC d) _ _ r
 | .ptr id off,v,r=>by
  unfold unT;split
  ·rename_i hd;split
   ·rename_i cs ho;exact HM R ho hd r
   ·simp[aC]
  ·exact aC.mono R (bC d) _ _ r
 | .clo fn a b,v,r=>by
  simp only[unT,aC] at r |-;obtain ⟨vs,us,e,r1,r2⟩:=r;exact ⟨vs,us,e,l8 R d a vs r1,l8 R d b us r2⟩
 | .ifc t x,v,r=>by unfold unT;exact aC.mono R (bC d) _ _ r
 | .mp id,v,r=>by unfold unT;exact aC.mono R (bC d) _ _ r
 | .yld id,v,r=>by unfold unT;exact aC.mono R (bC d) _ _ r
 | .slt sz xs ys,v,r=>by unfold unT;exact aC.mono R (bC d) _ _ r
 | .sup B,v,r=>by unfold unT;exact aC.mono R (bC d) _ _ r
 | .supb B,v,r=>by unfold unT;exact aC.mono R (bC d) _ _ r
 | .wint k,v,r=>by unfold unT;exact aC.mono R (bC d) _ _ r
 | .one,v,r=>by unfold unT;exact aC.mono R (bC d) _ _ r
theorem l8(R:bj G h w)(d:Nat->Bool):∀(xs:List AV)(vs:List Value),aE G w xs vs->aE (G.frz h d) w (vd h d xs) vs
 |[],vs,r=>by simpa [vd,aE] using r
 |x::xs,vs,r=>by
  simp only[vd,aE] at r |-;obtain ⟨v,us,e,r1,r2⟩:=r;exact ⟨v,us,e,oC R d x v r1,l8 R d xs us r2⟩
end
theorem bB.frz{f:FuncId}{args:List AV}{h h':H}{r:AV}(hc:bB P f args h r h')(d:Nat->Bool):bB P f args h (unT h' d r) (h'.drop d):=by
 intro G w vs hv R F;refine (hc G w vs hv R F).mono ?_;rintro e w' ⟨v,G',rfl,T,R',V⟩;exact ⟨v,G'.frz h' d,rfl,T.trans R R' (bC d),mI R' d,oC R' d _ _ V⟩
theorem aV.HN{f:FuncId}{N:Nat}{ac:AC}{args:List AV}{ds:List RV}{r:AV}(hF:aV P f N ac ds)(hl:args.length<=N)(ha:aJ args=true)(hp:aW r=true)(hw:Wp P N ac ⟨fH args,H0 0 0⟩ λe s'=>jf e/\∃q,je ds s'.t s'.h=some q/\ay (unT s'.h (λ_=>true) q) r):aI P f args r:=by
 obtain ⟨r',h',cI,hs⟩:=hF.fe (Q:=λr' h'=>ay (unT h' (λ_=>true) r') r) hl hw;exact (cI.frz _).Bi (cP _ ha) hs (dV _ hp)
end
end Go.Av
end
section
namespace Go.Av
section
variable{P:Program}{G:aT}{h:H}{w:World}
theorem rS{sz:Nat}:∀(rows:List (List AV))(vs:List Value),(∀x∈rows,x.length=sz)->aE G w rows.flatten vs->aL G w sz (rows.map .agg) vs
 |[],vs,_,h=>by simpa [aE,aL] using h
 |x::rows,vs,hl,h=>by
  have hx:=hl x ah;have h1:=aE.take sz h;have h2:=aE.drop sz h;rw[List.flatten_cons,List.take_left' hx] at h1;rw[List.flatten_cons,List.drop_left' hx] at h2;have hn:(vs.take sz).length=sz:=by have:=aE.length h1;omega
  simp only[OJ,aL];refine ⟨.agg (vs.take sz).toArray,vs.drop sz,by simp[Value.cells],by simpa [Value.cells] using hn,?_,rS rows _ (λy hy=>hl y (by simp[hy])) h2⟩;simp only[aC];exact ⟨_,rfl,h1⟩
theorem qm{sz:Nat}:∀(rows:List (List AV)),(∀x∈rows,x.length=sz)->rows.flatten.length=rows.length*sz
 |[],_=>by simp
 |x::rows,h=>by
  have:=qm rows λy hy=>h y (by simp[hy]);have hx:=h x ah;simp[this,hx,Pz];omega
open Classical in
theorem rT(R:bj G h w){d:Nat->Bool}{sz id:Nat}{rows:List (List AV)}{c:Option Nat}{v:Value}(hr:∀x∈rows,x.length=sz)(ho:h.objs id=some (.cells rows.flatten))(hd:d id=true)(r:aC G w (.tsl sz id 0 rows.length c) v):
  aC (G.frz h d) w (.sl sz (rows.map .agg) .any) v:=by
 simp only[aC] at r;obtain ⟨-,⟨C,cc,Tt,fr,rfl,⟨h2,-⟩,-⟩|⟨h0,⟨a,rfl⟩,-⟩⟩:=r
 ·obtain ⟨-,r2,r3,vs,rest,T,fr',y1,y2,y3,y4⟩:=R.obj id _ ho;have hlen:=aE.length y2;have hfl:=qm rows hr;have hx:aE (G.frz h d) w rows.flatten vs:=aE.mono R (bC d) _ _ y2;unfold aC;refine .inr ⟨G.ι id,0,C,vs,by simp,by simpa using h2,by simp;omega,rS rows vs hr hx,?_,trivial⟩;intro i v hi;have hi':=(Pu.1 hi).1;refine ⟨?_,y4 v (PY hi),?_,?_⟩
  ·unfold World.cell?;simp only[y1,Oo];simp[OW hi',hi]
  ·exact λx=>x.2 ⟨id,_,hd,ho,rfl⟩
  ·intro e he';have:h.DO G d (G.ι id):=⟨id,_,hd,ho,rfl⟩;simp[aT.frz,this] at he'
 ·have:rows=[]:=List.length_eq_zero_iff.1 h0;subst this;unfold aC;exact .inl ⟨by simp,⟨_,rfl⟩,trivial⟩
def UpK(h:H)(q r:AV):Prop:=ay q r\/∃(rows:List (List AV))(id sz:Nat)(rest:List AV),q= .tup (.tsl sz id 0 rows.length none::rest)/\(∀x∈rows,x.length=sz)/\h.objs id=some (.cells rows.flatten)/\ay (.tup (.sl sz (rows.map .agg) .any::rest)) r
theorem bB.upK{f:FuncId}{args:List AV}{h h':H}{q r:AV}(hc:bB P f args h q h')(u:UpK h' q r):bB P f args h r (h'.drop λ_=>true):=by
 intro G w vs hv R F;refine (hc G w vs hv R F).mono ?_;rintro e w' ⟨v,G',rfl,T,R',V⟩;refine ⟨v,G'.frz h' λ_=>true,rfl,T.trans R R' (bC _),mI R' _,?_⟩;rcases u with hs|⟨rows,id,sz,rest,rfl,hr,ho,hs⟩
 ·exact hs _ _ _ (aC.mono R' (bC _) _ _ V)
 ·refine hs _ _ _ ?_;simp only[aC,aE] at V |-;obtain ⟨vs',e,v1,us,rfl,V1,V2⟩:=V;exact ⟨_,e,v1,us,rfl,by simpa only[aC] using rT R' hr ho rfl (by simpa only[aC] using V1),aE.mono R' (bC _) _ _ V2⟩
end
section
variable{P:Program}{N:Nat}{o:Oper}{t:Tm}{h:H}{en:Ent}
theorem Dc{x:AV}(h:shaped x=true):cL x=true\/∃cs,x= .agg cs:=by
 unfold shaped at h;simp only[OZ] at h;rcases h with h|h
 ·exact .inl h
 ·cases x<;>simp at h;exact .inr ⟨_,rfl⟩
theorem fI{G:aT}{w:World}{sz:Nat}:∀{els:List AV}{vs:List Value},aL G w sz els vs->els.all shaped=true->aE G w (els.flatMap cellsOf) vs
 |[],vs,h,_=>by simpa [aL,aE] using h
 |x::els,vs,h,ha=>by
  simp only[aL] at h;obtain ⟨v,us,rfl,h1,h2,h3⟩:=h;simp only[List.all_cons,Oh] at ha;rw[PS];exact (dU h2 (Dc ha.1)).append (fI h3 ha.2)
theorem EU{c:Call}{zs zx:Operand}{ys yx:Opd}{T U e:TypeId}{d:TypeDesc}{i:TypeInfo}{s:Nat}{els:List AV}(hop:o.op= .call c)(hc:c.callee= .builtin .append)(ha:c.args.toList=[zs,zx])(hta:c.argTypes.toList=[T,U])
  (hT:P.underlying T=some (.slice e)) (hU:P.underlying U=some d) (hd:(∃e',d= .slice e')\/d= .string) (hi:P.info? e=some i) (hz:i.zero.any (λz=>z.cells.size == i.size)=true) (hsz:0<i.size)
  (hys:opd P T zs=some ys) (hyx:opd P U zx=some yx) (hs:ev t ys= .sl s [] (.exact 0)) (hx:∃s' c',ev t yx= .sl s' els c'/\s'=i.size) (hsh:els.all shaped=true) (hne:0<els.length)
  (hb:els.length*i.bytes<=140737488355328) (hlen:els.length<4611686018427387904):
  Loc P o t h (.tsl i.size h.n 0 els.length none) {h with objs:=upd h.objs h.n (some (.cells (els.flatMap cellsOf))),n:=h.n+1} ⟨[],[h.n],[]⟩:=by
 have ha':c.args= #[zs,zx]:=by rw[<-Array.toArray_toList (xs:=c.args),ha]
 have hta':c.argTypes= #[T,U]:=by rw[<-Array.toArray_toList (xs:=c.argTypes),hta]
 obtain ⟨z,hz1,hz2⟩:∃z,i.zero=some z/\z.cells.size=i.size:=by
  cases hzz:i.zero with
  |none=>rw[hzz] at hz;simp at hz
  |some z=>rw[hzz] at hz;exact ⟨z,rfl,by simpa using hz⟩
 refine ⟨_,_,gP h _,λG w a ht R F=>?_⟩;have r1:=aK hys ht;have r2:=aK hyx ht;rw[hs] at r1;obtain ⟨s',c',hx,hs'⟩:=hx;rw[hx] at r2;obtain ⟨news,n1,n2,n3⟩:=ka (P:=P) (.inl hs') r2;have hbase:∃a0,a.eval zs= .slice a0 0 0:=by
  simp only[aC,dc] at r1;rcases r1 with ⟨-,h,-⟩|⟨B,off,C,vs,q1,-,-,-,-,q6⟩
  ·exact h
  ·subst q6;exact ⟨_,by simpa using q1⟩
 obtain ⟨a0,ha0⟩:=hbase;obtain ⟨w',C,rest,e1,e2,e3,e4⟩:=fq (ty:=o.type) hT hU hd hi hz1 hz2 hsz n1 (od a0) ae (N4 _) (by simpa using hb) (by simpa using hlen);rw[List.nil_append] at e2;simp only[Oo] at e1 e3 e4;have hnl:=n2.length;obtain ⟨G',T1,R1,V⟩:=qH (m:=h.m) (sz:=i.size) e2 (fI n2 hsh) n3 (kL F (by simp[H.only])) e3 ae;refine ⟨.value _,_,w',G',?_,.inl rfl,T1,R1,V⟩;simp[execOp,hop,resolve,hc,ha',hta',invoke,builtin,ha0,e1]
theorem ve{ty e:TypeId}{len:Nat}{parts:Array (Nat × Operand)}{ys:List Opd}{z:Value}(hop:o.op= .buildSlice ty len parts)(hu:P.underlying ty=some (.slice e))(hi:(P.info? e).isSome=true)(hn:parts.size=len)(hpos:0<P.cellsOf e)
  (hz:(P.info? e).bind (·.zero)=some z) (hzs:z.cells.size=P.cellsOf e)
  (hys:iL P e 0 parts.toList=some ys) (hs:∀y∈ys,(cellsOf (ev t y)).length=P.cellsOf e/\shaped (ev t y)=true) (hle:ys.length*P.cellsOf e<=16777216):
  Loc P o t h (.tsl (P.cellsOf e) h.n 0 ys.length none) {h with objs:=upd h.objs h.n (some (.cells ((ys.map (ev t)).flatMap cellsOf))),n:=h.n+1} ⟨[],[h.n],[]⟩:=by
 refine ⟨_,_,gP h _,λG w a ht R F=>?_⟩;obtain ⟨r1,r2,r3⟩:=jA ht hys;simp only[Array.length_toList,hn] at r2 r3;have hsz:∀v∈parts.toList.map (λp=>a.eval p.2),v.cells.size=P.cellsOf e/\∀u∈v.cells.toList,One u:=by
  intro v hv;obtain ⟨k,hk⟩:=List.getElem?_of_mem hv;have hlt:k<(parts.toList.map (λp=>a.eval p.2)).length:=by
   rcases Py k (parts.toList.map (λp=>a.eval p.2)).length with h|h
   ·exact h
   ·rw[Pq h] at hk;cases hk
  have hlt':k<ys.length:=by simp at hlt;omega
  obtain ⟨u,hu1,hu2⟩:=r1.get (i:=k) (x:=ev t ys[k]) (by simp[N5 hlt']);have e:u=v:=Rh (hu1.symm.trans hk);subst e;obtain ⟨s1,s2⟩:=hs ys[k] (Pk hlt');obtain ⟨c1,c2⟩:=eE hu2 s2;have:=c1.length;exact ⟨by simpa [s1] using this,cells_one c1 c2⟩
 generalize hV:parts.toList.map (λp=>a.eval p.2)=vals at*
 have hvl:vals.length=len:=by rw[<-hV];simp[hn]
 have he:=eR r1 λv hv=>(hsz v hv).1;have hfl:(vals.flatMap (·.cells.toList)).length=len*P.cellsOf e:=by
  have:=he.length;rw[this];simp[r3]
 have hfill:∀cells:Array Value,cells.size=len*P.cellsOf e->Instr.fill (λi=>some (i*P.cellsOf e,P.cellsOf e)) cells ((parts.map λ(i,x)=>(i,a.eval x)).toList)=some (vals.flatMap (·.cells.toList)).toArray:=by
  intro cells hc;have hz:(parts.map λ(i,x)=>(i,a.eval x)).toList=(List.range' 0 vals.length).zip vals:=by
   have:∀l:List (Nat × Operand),l.map (λ(i,x)=>(i,a.eval x))=(l.map (·.1)).zip (l.map λp=>a.eval p.2):=by
    intro l;induction l with
    |nil=>rfl
    |cons p l ih=>simp[ih]
   rw[Array.toList_map,this,r2,hV,hvl]
  rw[hz];have:=kM (sz:=P.cellsOf e) (cells:=cells) vals 0 [] cells ah ah (by rw[hc,hvl];simp) (λv hv=>(hsz v hv).1);simpa using this
 have hle':¬(len*P.cellsOf e>16777216):=by rw[<-r3];omega
 obtain ⟨G',T1,R1,V⟩:=qH (m:=h.m) (sz:=P.cellsOf e) (len:=len) (C:=len) (rest:=[]) (vs:=vals.flatMap λv:Value=>v.cells.toList) (eD w (.cells ((vals.flatMap λv:Value=>v.cells.toList)++[]).toArray e (0,0))) (fI he (by
  rw[List.all_map];exact OK.2 λy hy=>(hs y hy).2)) (by
  intro u hu;obtain ⟨v,hv,hu'⟩:=QT.1 hu;exact (hsz v hv).2 u hu') (kL F (by simp[H.only])) ⟨N4 _,by
  have:=Nat.le_mul_of_pos_right len hpos;omega⟩ (by rw[hfl];simp)
 rw[OR] at T1 R1 V;refine ⟨.value (.slice (some ⟨w.heap.size,0,none⟩) len len),_,_,G',?_,.inl rfl,T1,R1,by rw[r3];exact V⟩;obtain ⟨i,hi1,hi2⟩:=Oe.1 hz;have hle2:¬(16777216<len*P.cellsOf e):=by omega
 have hmap:∀(zc:Array Value),((Array.range (len*P.cellsOf e)).map (zc[· %zc.size]!)).size=len*P.cellsOf e:=by intro zc;simp
 have hrz:(zeroValue e).run P w= .ok z w:=by simp[zeroValue,typeInfo,hi1,hi2]
 simp only[execOp,hop,Sem.run_bind,Instr.buildSlice,run_underlying hu,Result.andThen_ok,cH P w e hi,Ob hle2,Sem.run_pure,Sem.run_ite,hrz,hfill _ (hmap _)];by_cases h0:len*P.cellsOf e=0
 ·rw[Oi h0];simp[newRow]
 ·rw[Ob h0];simp[newRow]
theorem EV{c:Call}{zs zx:Operand}{ys yx:Opd}{T U e:TypeId}{d:TypeDesc}{i:TypeInfo}{s s':Nat}{xs:List AV}{cp c':Cap}(hop:o.op= .call c)(hc:c.callee= .builtin .append)(ha:c.args.toList=[zs,zx])(hta:c.argTypes.toList=[T,U])
  (hT:P.underlying T=some (.slice e)) (hU:P.underlying U=some d) (hd:(∃e',d= .slice e')\/d= .string) (hi:P.info? e=some i)
  (hys:opd P T zs=some ys) (hyx:opd P U zx=some yx) (hs:ev t ys= .sl s xs cp) (hx:ev t yx= .sl s' [] c'):Loc P o t h (.sl s xs cp) h aU:=by
 have ha':c.args= #[zs,zx]:=by rw[<-Array.toArray_toList (xs:=c.args),ha]
 have hta':c.argTypes= #[T,U]:=by rw[<-Array.toArray_toList (xs:=c.argTypes),hta]
 refine Loc.plain λG w a ht=>?_;have r1:=aK hys ht;have r2:=aK hyx ht;rw[hs] at r1;rw[hx] at r2;obtain ⟨news,n1,n2,-⟩:=ka (P:=P) (sz:=i.size) (.inr rfl) r2;have hnn:news=[]:=by simpa [aL] using n2
 subst hnn;obtain ⟨base,len,C,hv,hlC⟩:∃base len C,a.eval zs= .slice base len C/\len<=C:=by
  simp only[aC] at r1;rcases r1 with ⟨-,⟨a0,h⟩,-⟩|⟨B,off,C,vs,q1,q2,-⟩
  ·exact ⟨_,_,_,h,N4 _⟩
  ·exact ⟨_,_,_,q1,q2⟩
 have hrun:=run_append_fits (ty:=o.type) (base:=base) (sLen:=len) (sCap:=C) (w':=w) hT hU hd hi n1 (by simpa using hlC) (by cases base<;>simp[storeCells]);refine ⟨a.eval zs,?_,r1⟩;simp[execOp,hop,resolve,hc,ha',hta',invoke,builtin,hv] at hrun |-;rw[hrun];rfl
def lF(ρ:Opd->AV)(h:H):AOp->Option (AV × H × Ent)
 | .app false sz bytes s x=>match ρ s,ρ x with
  | .sl s xs c,.sl _ [] _=>some (.sl s xs c,h,aU)
  | .sl _ [] (.exact 0),.sl s' els _=>if s'=sz/\els.all shaped=true/\0<els.length/\els.length*bytes<=140737488355328/\els.length<4611686018427387904 then
    some (.tsl sz h.n 0 els.length none,{h with objs:=upd h.objs h.n (some (.cells (els.flatMap cellsOf))),n:=h.n+1},⟨[],[h.n],[]⟩) else none
  |_,_=>none
 | .buildSl sz parts=>if parts.all (λx=>(cellsOf (ρ x)).length=sz/\shaped (ρ x))=true/\parts.length*sz<=16777216 then
   some (.tsl sz h.n 0 parts.length none,{h with objs:=upd h.objs h.n (some (.cells ((parts.map ρ).flatMap cellsOf))),n:=h.n+1},⟨[],[h.n],[]⟩) else none
 |_=>none
theorem Bl{sz bytes:Nat}{ys yx:Opd}(h:cOp P o=some (.app false sz bytes ys yx)):∃c zs zx T U e e' i,o.op= .call c/\c.callee= .builtin .append/\c.args.toList=[zs,zx]/\c.argTypes.toList=[T,U]/\
  opd P T zs=some ys/\opd P U zx=some yx/\P.underlying T=some (.slice e)/\P.underlying U=some (.slice e')/\P.info? e=some i/\0<i.size/\(i.zero.any λz=>z.cells.size == i.size)=true/\i.size=sz/\i.bytes=bytes:=by
 unfold cOp at h;split at h
 case h_28 c hop=>
  split at h
  case h_7 hcal=>
   split at h
   ·rename_i zs zx T U ha hta;split at h
    ·split at h
     ·split at h
      ·rename_i hq;cases h;exact ⟨c,zs,zx,T,U,_,_,_,hop,hcal,ha,hta,‹_›,‹_›,‹_›,‹_›,‹_›,hq.1,hq.2,rfl,rfl⟩
      ·cases h
     ·cases h
    ·(repeat' split at h)<;>(try cases h)<;>simp at h
    ·(repeat' split at h)<;>(try cases h)<;>simp at h
    ·cases h
   ·cases h
  all_goals first
   |(cases h;done)
   |((repeat' split at h)<;>(try cases h)<;>simp at h)
 all_goals first
  |(cases h;done)
  |(simp at h;done)
  |((repeat' split at h)<;>(try cases h)<;>(try simp at h);done)
  |skip
theorem qo{sz:Nat}{ys:List Opd}(h:cOp P o=some (.buildSl sz ys)):∃ty e len parts z,o.op= .buildSlice ty len parts/\P.underlying ty=some (.slice e)/\(P.info? e).isSome=true/\parts.size=len/\0<P.cellsOf e/\(P.info? e).bind (·.zero)=some z/\z.cells.size=P.cellsOf e/\
  iL P e 0 parts.toList=some ys/\sz=P.cellsOf e:=by
 unfold cOp at h;split at h
 case h_7 ty len parts hop=>
  split at h
  ·split at h
   ·rename_i hq;simp only[Oc] at h;obtain ⟨l,h1,h2⟩:=h;cases h2;obtain ⟨q1,q2,q3,q4⟩:=hq;cases hz:(P.info? _).bind (·.zero) with
    |none=>rw[hz] at q4;simp at q4
    |some z=>rw[hz] at q4;exact ⟨ty,_,len,parts,z,hop,‹_›,q2,q1,q3,hz,by simpa using q4,h1,rfl⟩
   ·cases h
  ·cases h
 all_goals first
  |(cases h;done)
  |(simp at h;done)
  |((repeat' split at h)<;>(try cases h)<;>(try simp at h);done)
  |skip
theorem EW{op:AOp}{x:AV}{h':H}(hc:cOp P o=some op)(hx:lF (ev t) h op=some (x,h',en)):Loc P o t h x h' en:=by
 cases op<;>(try (simp [lF] at hx;done))
 case app str sz bytes s x0=>
  cases str<;>(try (simp [lF] at hx;done));obtain ⟨c,zs,zx,T,U,e,e',i,hop,hcal,ha,hta,hys,hyx,hT,hU,hi,hs1,hs2,rfl,rfl⟩:=Bl hc;simp only[lF] at hx;split at hx
  ·cases hx;exact EV hop hcal ha hta hT hU (.inl ⟨_,rfl⟩) hi hys hyx ‹_› ‹_›
  ·split at hx
   ·rename_i hq;cases hx;exact EU hop hcal ha hta hT hU (.inl ⟨_,rfl⟩) hi hs2 hs1 hys hyx ‹_› ⟨_,_,‹_›,hq.1⟩ hq.2.1 hq.2.2.1 hq.2.2.2.1 hq.2.2.2.2
   ·cases hx
  ·cases hx
 case buildSl sz parts=>
  obtain ⟨ty,e,len,ps,z,hop,hu,hi,hn,hpos,hz,hzs,hys,rfl⟩:=qo hc;simp only[lF] at hx;split at hx
  ·rename_i hq;cases hx;exact ve hop hu hi hn hpos hz hzs hys (λy hy=>by simpa using OK.1 hq.1 y hy) hq.2
  ·cases hx
theorem ze{ρ ρ':Opd->AV}{op:AOp}(hx:∀y∈bI op,ρ y=ρ' y):lF ρ h op=lF ρ' h op:=by
 cases op<;>(try rfl)
 case app str sz bytes s x0=>
  cases str
  ·simp only[lF,hx s (by simp[bI]),hx x0 (by simp[bI])]
  ·rfl
 case buildSl sz parts=>
  have e1:parts.map ρ=parts.map ρ':=Pb λy hy=>hx y (by simpa [bI] using hy);have e2:parts.all (λx=>(cellsOf (ρ x)).length=sz/\shaped (ρ x))=parts.all (λx=>(cellsOf (ρ' x)).length=sz/\shaped (ρ' x)):=by
   refine Q5.2 ?_;simp only[OK];exact ⟨λh y hy=>by rw[<-hx y (by simpa [bI] using hy)];exact h y hy,λh y hy=>by rw[hx y (by simpa [bI] using hy)];exact h y hy⟩
  simp only[lF,e1,e2]
theorem tZ{ops:Array Oper}{i:Nat}{o:Oper}{it:aX}{t:Tm}{h h':H}{x:AV}{en:Ent}(ho:ops[i]? =some o)(hit:bP P N ops o=some it)(hg:guardOf t it.guard=some true)(hx:lF (ev t) h it.op=some (x,h',en)):
  ∃h1 h1',Touch h h1 h1' h' en/\iH P ops i o t h1 x h1':=by
 unfold bP at hit;split at hit
 ·rename_i op g hop hgd;split at hit<;>cases hit;rename_i hcond;simp only[Oh] at hcond;have hop:=gY hop (by rintro rfl;simp[lF] at hx) (by cases op<;>first|rfl|(simp [lF] at hx));have hx':lF (ev (jD (names ops o) t)) h op=some (x,h',en):=by
   rw[ze (jN hcond.2)];exact hx
  obtain ⟨h1,h1',tc,loc⟩:=EW hop hx';refine ⟨h1,h1',tc,λG w a ht R F K Q hK ro=>?_⟩;obtain ⟨nx,v,w',G',e1,e2,T1,R1,V⟩:=loc G w a (fO ht) R F;unfold wpOpIn;rw[ho];simp only[cN hgd ht hg,Of];refine ⟨λ_ _=>trivial,?_⟩;rw[Oper.semAt_eq _ _ _ (eS hop),e1];rcases e2 with rfl|⟨rfl,rfl⟩
  ·rw[Oper.uponIn_value];exact hK G' w' v T1 R1 V
  ·rw[Oper.uponIn_skip];exact hK G' w' undef T1 R1 V
 ·cases hit
theorem az.opT{dst:Option Nat}{g:Option (Nat × Bool)}{op:AOp}{its:List aX}{t:Tm}{h h':H}{log:List Ent}{en:Ent}{K:Tm->H->List Ent->Prop}{x:AV}(hg:guardOf t g=some true)(hx:lF (ev t) h op=some (x,h',en))(ht:bN op=true)
  (rest:az P N its (bL t dst x) h' (en::log) K):az P N (⟨dst,g,op⟩::its) t h log K:=by
 intro ops i hi hc;obtain ⟨o,ho,hit,hi',hc'⟩:=cD hi hc;obtain ⟨h1,h1',tc,run⟩:=tZ ho hit hg hx;obtain ⟨recs,t',hh',ch,hk,hen⟩:=rest ops (i+1) hi' hc';have hdst:dst=o.dst:=by
  unfold bP at hit;split at hit
  ·split at hit<;>cases hit;rfl
  ·cases hit
 refine ⟨⟨t,h,h1,h1',h',x,en⟩::recs,t',hh',.cons ho rfl rfl tc (λ_=>run) (by rw[<-hdst];exact ch),by simpa using hk,?_⟩;intro k r it' hr hit' ht';cases k with
 |zero=>
  simp at hr hit';subst hr hit';rw[ht] at ht';cases ht'
 |succ k=>simp at hr hit';exact hen k r it' hr hit' ht'
theorem zf(h:H){id:Nat}{ob:Obj}(ho:h.objs id=some ob):Touch h (.only (upd aB id (some ob)) [] h.n h.m) (H0 h.n h.m) {h with objs:=λj=>if j=id then none else h.objs j} ⟨[],[id],[]⟩ where
 sub:=(dp h ho).sub
 n:=rfl
 m:=rfl
 eq:=H.ext (λj=>by
  simp only[H.patch,H0,H.only,upd,aB];by_cases e:j=id
  ·subst e;simp
  ·simp[e];omega) rfl (by simp[H.patch,H0,H.only,ft]) rfl
 rd j x:=by
  simp only[H.only,upd,aB] at x;split at x
  ·rename_i e;subst e;simp
  ·cases x
 wr id a b:=by simp only[H0,H.only] at a b;omega
 chg j x hj:=by
  simp only[H.only,upd,aB] at x;split at x
  ·rename_i e;subst e;simp at hj
  ·cases x
 tk t x:=by simp[H.only] at x
 tn t x:=by simp[H0,H.only] at x
 le:=N4 _
 lem:=N4 _
end
end Go.Av
end
section
namespace Go.Av
variable{P:Program}{N:Nat}{s:St}{Q:aO->St->Prop}
def aO.noGoto(Q:aO->St->Prop):aO->St->Prop
 | .goto _,_=>False
 |e,s=>Q e s
theorem Wp.EX{c:AC}(h:Wp P N c s (aO.noGoto Q)):Wp P N (.scope c) s Q:=by
 refine Wp.scope (WpS.step (Wp.mono h ?_));intro e s' h;cases e with
 |normal=>exact h
 |exit id=>exact h
 |goto l=>exact h.elim
 |ret=>exact h
 |panic v=>exact h
theorem aM.tmN{t:Tm}{f f':Nat->Option Obj}{n n' m:Nat}{k:List Nat}{l:List (Nat × AV)}(hn:n<=n')(ho:OLe f f')(h:aQ t l):aM ⟨t,⟨f,n,k,m⟩⟩ ⟨Go.Av.tm l,⟨f',n',k,m⟩⟩:=
 aM.trans (aM.tm h) (aM.of (λi=>ay.refl _) ho (λx hx=>hx) hn (N4 _))
theorem OLe.skip{f:Nat->Option Obj}{i:Nat}{o:Option Obj}(h:f i=Option.none):OLe (Go.Av.upd f i o) f:=by
 intro j p hp;refine ⟨p,?_,cm.refl p⟩;simp only[Go.Av.upd];split
 ·rename_i e;subst e;rw[h] at hp;cases hp
 ·exact hp
theorem OLe.at{g:Nat->Option Obj}{k:Nat}{A:Obj}(h:g k=some A):OLe g (Go.Av.upd aB k (some A)):=by
 intro j p hp;simp only[Go.Av.upd,aB] at hp;split at hp
 ·rename_i e;subst e;cases hp;exact ⟨_,h,cm.refl _⟩
 ·cases hp
theorem Wp.oD{β:Type}(L:List Nat){K:List (Nat × AV)}{c:AC}{h:H}{t:Tm}(hK:(L.map λi=>(i,t i))=K)(ch:β->List (Nat × AV))(I:β->Prop)(μ:β->Nat)(b0:β)(h0:I b0)(hs:aQ t (ch b0))
  (round:∀b n,h.n<=n->I b->Wp P N c ⟨tm (K++ch b),{h with n:=n}⟩ (aO.andThen (λs'=>∃b' n',h.n<=n'/\I b'/\μ b'<μ b/\aM s' ⟨tm (K++ch b'),{h with n:=n'}⟩) Q)):Wp P N (.loop c) ⟨t,h⟩ Q:=by
 refine Wp.cO (β:=β × Nat) L hK (λj=>ch j.1) (λj=>{h with n:=j.2}) (λj=>h.n<=j.2/\I j.1) (λj=>μ j.1) (b0,h.n) ⟨N4 _,h0⟩ rfl hs ?_;rintro ⟨b,n⟩ ⟨hn,hb⟩;refine Wp.mono (round b n hn hb) ?_;intro e s' h;cases e with
 |normal=>obtain ⟨b',n',h1,h2,h3,h4⟩:=h;exact ⟨(b',n'),⟨h1,h2⟩,h3,h4⟩
 |exit id=>exact h
 |goto l=>exact h
 |ret=>exact h
 |panic v=>exact h
theorem Wp.gy{β:Type}(L:List Nat){K:List (Nat × AV)}{c:AC}{h:H}{t:Tm}(hK:(L.map λi=>(i,t i))=K)(ch:β->Nat->List (Nat × AV))(I:β->Prop)(μ:β->Nat)(b0:β)(tk:Nat)(h0:I b0)(hh:h.toks=[tk])(hs:aQ t (ch b0 tk))
  (round:∀b tk n m,h.n<=n->I b->Wp P N c ⟨tm (K++ch b tk),⟨h.objs,n,[tk],m⟩⟩ (aO.andThen (λs'=>∃b' tk' n' m',h.n<=n'/\I b'/\μ b'<μ b/\aM s' ⟨tm (K++ch b' tk'),⟨h.objs,n',[tk'],m'⟩⟩) Q)):Wp P N (.loop c) ⟨t,h⟩ Q:=by
 refine Wp.cO (β:=β × Nat × Nat × Nat) L hK (λj=>ch j.1 j.2.1) (λj=>⟨h.objs,j.2.2.1,[j.2.1],j.2.2.2⟩) (λj=>h.n<=j.2.2.1/\I j.1) (λj=>μ j.1) (b0,tk,h.n,h.m) ⟨N4 _,h0⟩ (by cases h;simp only at hh;subst hh;rfl) hs ?_;rintro ⟨b,tk,n,m⟩ ⟨hn,hb⟩;refine Wp.mono (round b tk n m hn hb) ?_;intro e s' h;cases e with
 |normal=>obtain ⟨b',tk',n',m',h1,h2,h3,h4⟩:=h;exact ⟨(b',tk',n',m'),⟨h1,h2⟩,h3,h4⟩
 |exit id=>exact h
 |goto l=>exact h
 |ret=>exact h
 |panic v=>exact h
end Go.Av
end
