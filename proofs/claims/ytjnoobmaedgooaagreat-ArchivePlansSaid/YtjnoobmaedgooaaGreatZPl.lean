/- ArchivePlans: the statement 'ArchivePlansSaid', closed by the law that the walk shows. No condition. -/
import Derived.Test.YtjnoobmaedgooaaGreatZPlE
set_option linter.unusedSimpArgs false
set_option linter.unusedVariables false
section
set_option maxRecDepth 100000
namespace Go.Proofs.YtjnoobmaedgooaaGreat.Arch
open Go Go.Av Go.Proofs Go.Proofs.YtjnoobmaedgooaaGreat.C Go.Proofs.YtjnoobmaedgooaaGreat.Desk Go.Proofs.YtjnoobmaedgooaaGreat.Batch
theorem Ca{J:Nat}{b o:List UInt8}{id:Int}:∀{q:List Pc},(∀p∈q,0<=p.n/\p.n<=J/\p.s.length<=J*140737488355328)->0<=(dx q b o id).2/\(dx q b o id).2<=J/\(dx q b o id).1.length<=J*140737488355328
 |[],_=>⟨OL _,PL _,Og _⟩
 |p::q,h=>by
  simp only[dx];split
  ·exact h p af
  ·exact Ca λx hx=>h x (by simp[hx])
set_option maxHeartbeats 4000000 in
theorem K4{L:List Pr}{F:Nat->Option Av.Obj}{n:Nat}{toks:List Nat}{m:Nat}{bt:List (Bk × Nat)}{q:List Pc}{J k:Nat}{p:Pr}{key:Ky}(M:Mid L F n toks m bt q J k p key)(hk3:key.k=3)(hok:key.ok)(hpv:p.v.length<=140737488355328):
  Wp Tryz.prog 161 mK ⟨tm [(0,.ptr 3 0),(3,.ptr n 0),(4,.ptr (n+1) 0)],⟨F,n+2,toks,m⟩⟩ (QA L J (lU (bt.map Prod.fst,q) key p.v)):=by
 have hnl:key.ns.length=2:=by
  have:=hok.n;rw[hk3] at this;have e:eu 3=2:=rfl;rw[e] at this;omega
 obtain ⟨v0,v1,hns⟩:∃v0 v1,key.ns=[v0,v1]:=by
  match hh:key.ns,hnl with
  |[a,b],_=>exact ⟨a,b,rfl⟩
 have hR:lU (bt.map Prod.fst,q) key p.v=if v1=(dx q key.b key.o v0).2 then some (bt.map Prod.fst,kK q key.b key.o v0 ((dx q key.b key.o v0).1++p.v) ((dx q key.b key.o v0).2+1)) else none:=by
  unfold lU;rw[N7 (by rw[hk3];decide),Of hk3,hns];rfl
 rw[hR];obtain ⟨c0,c1,s0⟩:=Ca (b:=key.b) (o:=key.o) (id:=v0) M.pcs;have hf:eX [.str,.str,.int] [.str key.b,.str key.o,.int .i64 v0] (gH q)=some (jX q key.b key.o v0):=AI key.b key.o v0 q;have hl:dS (.agg [.str [],.int .i64 0]) false (jX q key.b key.o v0)= .agg [.str (dx q key.b key.o v0).1,.int .i64 (dx q key.b key.o v0).2]:=AJ key.b key.o v0 q;have hp:rI (gH q) [.str key.b,.str key.o,.int .i64 v0] (.agg [.str ((dx q key.b key.o v0).1++p.v),.int .i64 ((dx q key.b key.o v0).2+1)]) (jX q key.b key.o v0)=gH (kK q key.b key.o v0 ((dx q key.b key.o v0).1++p.v) ((dx q key.b key.o v0).2+1)):=J6 key.b key.o v0 _ _ q;have hJ:=M.hJ;have hadd:(dx q key.b key.o v0).1.length+p.v.length<9223372036854775808:=by
  have:=PB 140737488355328 hJ;omega
 have e1:IntKind.i64.wrap ((dx q key.b key.o v0).2+1)=(dx q key.b key.o v0).2+1:=IntWalk.i64_in _ aa;have sl:((dx q key.b key.o v0).1++p.v).length<=(J+1)*140737488355328:=by
  rw[N6,Px,Pl];omega
 have pin:∀x∈kK q key.b key.o v0 ((dx q key.b key.o v0).1++p.v) ((dx q key.b key.o v0).2+1),0<=x.n/\x.n<=((J+1:Nat):Int)/\x.s.length<=(J+1)*140737488355328:=λx hx=>by
  rcases pt hx with rfl|hx
  ·exact ⟨by simp only;omega,by simp only;omega,sl⟩
  ·exact vW M.pcs x hx
 generalize (dx q key.b key.o v0).1=s at*
 generalize (dx q key.b key.o v0).2=c at*
 generalize kK q key.b key.o v0 (s++p.v) (c+1)=q' at*
 generalize jX q key.b key.o v0=R at*
 simp only[go_sem,reduceIte,Nat.reduceEqDiff,Nat.reduceAdd,bx] at hl hp;have cut:mK= .seq (hdA mK) (.seq (hdA (tlA mK)) (.seq (hdA (tlA (tlA mK))) (tlA (tlA (tlA mK))))):=rfl;rw[cut];generalize hT:tlA (tlA (tlA mK))=T;unfold mK el1 jq gI c64 zz;simp only[hdA,tlA,blX,thA,elA];have fP:=M.P;have fK:=M.K;have f3:=M.row;have f2:=M.mp;have hi0:ints key.ns=[.int .i64 v0,.int .i64 v1]:=by rw[hns];rfl
 rw[hi0] at fK;have hn:=M.hn;have n3:¬(3=n+2):=by omega
 have n4:¬(4=n+2):=by omega
 have n0:¬(0=n+2):=by omega
 have n1:¬(1=n+2):=by omega
 have n2:¬(2=n+2):=by omega
 have nn:¬(n+1=n+2):=by omega
 have np:¬(n=n+2):=by omega
 have o3:¬(3=n+2+1):=by omega
 have o4:¬(4=n+2+1):=by omega
 have o0:¬(0=n+2+1):=by omega
 have o1:¬(1=n+2+1):=by omega
 have o2:¬(2=n+2+1):=by omega
 have on:¬(n+1=n+2+1):=by omega
 have op:¬(n=n+2+1):=by omega
 have oq:¬(n+2=n+2+1):=by omega
 have z0:(0:Int)<((2:Nat):Int):=by decide
 have z1:(1:Int)<((2:Nat):Int):=by decide
 have z2:(0:Int)<=1:=by decide
 have t1:Int.toNat 1=1:=rfl;refine Wp.cm (xAd (gv fK n3 nn z0 @N2.{0} @N4.{0} Int.toNat_zero @OG.{0} @OL @Oe)) ?_;refine az.nil ⟨by simp[bw,aV,apart,aZ,nn],?_⟩;refine Wp.cm (xAd (cj7 f3 f2 n3 n2 hf hl oq)) ?_;refine az.nil ⟨by simp[bw,aV,apart,aZ,n3,o3,o2,oq] <;>omega,?_⟩;by_cases hc:v1=c
 ·have d1:decide (v1=c)=true:=N3 hc;rw[Of hc];refine Wp.cm (xAd (aY fK nn on oq z1 z2 t1 d1 @N2.{0} @N4.{0} @Pg.{0} (cj2 @OG.{0} @Oe))) ?_;refine az.bO xA2 xAb (mJ) ?_;refine az.evR xA1 ?_;refine az.nil ⟨by simp[bw,aV,apart,aZ,on],?_⟩;rw[<-hT];unfold mK el1 jq gI c64 zz;simp only[hdA,tlA,blX,thA,elA];refine Wp.eF (xAd (aY f3 f2 n3 n2 o3 o2 oq np @op fP hf (cj3 hp hadd e1))) ?_;refine az.nil ⟨by simp[bw,aV,apart,aZ,n3,o3,o2,oq,n2,np,op] <;>omega,?_⟩;refine ⟨rfl,bt,rfl,⟨k,by simp only[upd,n3,o3,N5,Nat.reduceEqDiff,reduceIte];exact f3,λho=>?_⟩,by simp only[upd,N9,hp],by simp only[upd,n0,o0,N5,Nat.reduceEqDiff,reduceIte];exact M.o0,by simp only[upd,n1,o1,N5,Nat.reduceEqDiff,reduceIte];exact M.o1,by simp only[upd,n4,o4,N5,Nat.reduceEqDiff,reduceIte];exact M.o4,by simp only;omega,M.tk,M.tm,M.nd,Nat.le_succ_of_le M.len,λx hx=>Nat.le_succ_of_le (M.vers x hx),pin⟩;obtain ⟨y1,y2⟩:=M.hk ho;have k2:¬(k=2):=by omega
  have k3:¬(k=n+2):=by omega
  have k4:¬(k=n+2+1):=by omega
  exact ⟨y1,by simp only;omega,_,by simp only[upd,k2,k3,k4,N5];exact M.cs ho,ay.refl _⟩
 ·have d1:decide (v1=c)=false:=N1 hc;rw[N7 hc];refine Wp.eG (xAd (aY fK nn on oq z1 z2 t1 d1 @N2.{0} @N4.{0} @Pg.{0} (cj2 @OG.{0} @Oe))) xAb iK (⟨by simp[aV,apart,aZ,on],rfl⟩) ?_;exact ⟨rfl,by simp only[upd,n1,o1,N5];exact M.o1⟩
theorem GS(bt:List (Bk × Nat))(i:Nat)(h:i<bt.length):(fD bt)[i*3+2]? =some (.sl 8 (vss (bt.getD i default).1.l) (.own (bt.getD i default).2)):=by
 have hl:(fD (bt.take i)).length=i*3:=by rw[iG,OJ,Pv aa]
 rw[rC bt i h,PD aa,hl,show i*3+2 - i*3=2 by omega];rfl
theorem Ee(bt:List (Bk × Nat))(i:Nat)(h:i<bt.length):(fD bt).take (i*3+2)=fD (bt.take i)++[.str (bt.getD i default).1.n,.int .i64 (bt.getD i default).1.st]:=by
 have hl:(fD (bt.take i)).length=i*3:=by rw[iG,OJ,Pv aa]
 rw[rC bt i h,List.take_append,hl,show i*3+2 - i*3=2 by omega,OT aa];rfl
theorem Ef(bt:List (Bk × Nat))(i:Nat)(h:i<bt.length):(fD bt).drop (i*3+2+1)=fD (bt.drop (i+1)):=by
 have hl:(fD (bt.take i)).length=i*3:=by rw[iG,OJ,Pv aa]
 rw[rC bt i h,List.drop_append,hl,show i*3+2+1 - i*3=3 by omega,List.drop_of_length_le aa];rfl
theorem GU(bt:List (Bk × Nat))(i:Nat)(h:i<bt.length)(y:Bk × Nat):fD (bt.set i y)=fD (bt.take i)++(pA y++fD (bt.drop (i+1))):=by
 unfold fD;rw[List.set_eq_take_append_cons_drop,Of h,List.flatMap_append,Py]
theorem Eg{l:List Nat}(h:l.Nodup){i a:Nat}(ha:a∉l):(l.set i a).Nodup:=by
 refine PA.2 λj k hj hk hjk=>?_;rw[List.getElem_set,List.getElem_set];have hp:=PA.1 h;simp only[List.length_set] at hj hk;split
 ·split
  ·omega
  ·exact λe=>ha (e▸O0 _)
 ·split
  ·exact λe=>ha (e▸O0 _)
  ·exact hp j k hj hk hjk
theorem ym{bt:List (Bk × Nat)}(h:(bt.map Prod.snd).Nodup){i:Nat}(hi:i<bt.length){y x:Bk × Nat}(hx:x∈bt.set i y):x=y\/(x∈bt/\x.2≠(bt.getD i default).2):=by
 obtain ⟨j,hj,rfl⟩:=P7.1 hx;simp only[List.length_set] at hj;rw[List.getElem_set];split
 ·exact .inl rfl
 ·rename_i hij;refine .inr ⟨O0 _,?_⟩;have e:bt.getD i default=bt[i]:=by simp[List.getD,N0 hi]
  rw[e];have hp:=PA.1 h;intro e2;rcases Nat.lt_or_gt_of_ne hij with h1|h1
  ·exact hp i j (by simpa using hi) (by simpa using hj) h1 (by simpa using e2.symm)
  ·exact hp j i (by simpa using hj) (by simpa using hi) h1 (by simpa using e2)
theorem s3{e:aM}(h:e= .normal):iN e:=by subst h;trivial
set_option maxHeartbeats 8000000 in
theorem K5{L:List Pr}{F:Nat->Option Av.Obj}{n:Nat}{toks:List Nat}{m:Nat}{bt:List (Bk × Nat)}{q:List Pc}{J k:Nat}{p:Pr}{key:Ky}(M:Mid L F n toks m bt q J k p key)(hk2:key.k=2)(hok:key.ok)(hpv:p.v.length<=140737488355328):
  Wp Tryz.prog 161 mL ⟨tm [(0,.ptr 3 0),(3,.ptr n 0),(4,.ptr (n+1) 0)],⟨F,n+2,toks,m⟩⟩ (QA L J (lU (bt.map Prod.fst,q) key p.v)):=by
 have hnl:key.ns.length=1:=by
  have:=hok.n;rw[hk2] at this;have e:eu 2=1:=rfl;rw[e] at this;omega
 obtain ⟨v0,hns⟩:∃v0,key.ns=[v0]:=Qs.1 hnl;have hR:lU (bt.map Prod.fst,q) key p.v=if hdB p.v=true then (if gh ((bt.map Prod.fst).map Bk.n) key.b=true then some (sZ (bt.map Prod.fst) (jy ((bt.map Prod.fst).map Bk.n) key.b) (yi key (hdO p.v) (dx q key.b key.o v0).1),kL q key.b key.o v0) else none) else none:=by
  unfold lU;rw[N7 (by rw[hk2];decide),N7 (by rw[hk2];decide),Of hk2,hns];rfl
 rw[hR];have hvo:yi key (hdO p.v) (dx q key.b key.o v0).1=⟨key.o,v0,(hdO p.v).sz,(hdO p.v).re,(hdO p.v).im,(hdO p.v).g,(hdO p.v).u,(dx q key.b key.o v0).1⟩:=by
  unfold yi;rw[hns];rfl
 rw[hvo];have hf:eX [.str,.str,.int] [.str key.b,.str key.o,.int .i64 v0] (gH q)=some (jX q key.b key.o v0):=AI key.b key.o v0 q;have hl:dS (.agg [.str [],.int .i64 0]) false (jX q key.b key.o v0)= .agg [.str (dx q key.b key.o v0).1,.int .i64 (dx q key.b key.o v0).2]:=AJ key.b key.o v0 q;have hd:rH (gH q) (jX q key.b key.o v0)=gH (kL q key.b key.o v0):=J7 key.b key.o v0 q;have pin:∀x∈kL q key.b key.o v0,0<=x.n/\x.n<=((J+1:Nat):Int)/\x.s.length<=(J+1)*140737488355328:=λx hx=>vW M.pcs x (py hx);generalize (dx q key.b key.o v0).1=s at*
 generalize (dx q key.b key.o v0).2=c at*
 generalize kL q key.b key.o v0=q' at*
 generalize jX q key.b key.o v0=R at*
 simp only[go_sem,reduceIte,Nat.reduceEqDiff,Nat.reduceAdd,bx] at hl hd;have ch:=AF p.v hpv;have hhe:hdE p.v=if hdB p.v=true then 0 else 4:=rfl
 unfold qJ fq at ch;have dE:decide (hdE p.v=0)=hdB p.v:=by
  rw[hhe];cases hdB p.v<;>decide
 generalize hdE p.v=he at*
 generalize hdO p.v=hd' at*
 obtain ⟨hsz,hre,him,hg,hu⟩:=hd';simp only at ch |-;have hlen:=M.len;have hJ:=M.hJ;have cut:mL= .seq (hdA mL) (.seq (hdA (tlA mL)) (.seq (hdA (tlA (tlA mL))) (tlA (tlA (tlA mL))))):=rfl;rw[cut];generalize hT:tlA (tlA (tlA mL))=T;unfold mL el2 el1 jq gI c64 zz;simp only[hdA,tlA,blX,thA,elA];have fP:=M.P;have fK:=M.K;have f3:=M.row;have f2:=M.mp;have hi0:ints key.ns=[.int .i64 v0]:=by rw[hns];rfl
 rw[hi0] at fK;have hn:=M.hn;have n3:¬(3=n+2):=by omega
 have n4:¬(4=n+2):=by omega
 have n0:¬(0=n+2):=by omega
 have n1:¬(1=n+2):=by omega
 have n2:¬(2=n+2):=by omega
 have nn:¬(n+1=n+2):=by omega
 have np:¬(n=n+2):=by omega
 have o3:¬(3=n+2+1):=by omega
 have o4:¬(4=n+2+1):=by omega
 have o0:¬(0=n+2+1):=by omega
 have o1:¬(1=n+2+1):=by omega
 have o2:¬(2=n+2+1):=by omega
 have on:¬(n+1=n+2+1):=by omega
 have op:¬(n=n+2+1):=by omega
 have oq:¬(n+2=n+2+1):=by omega
 have z0:(0:Int)<((1:Nat):Int):=by decide
 refine Wp.bg (xAd (cj2 fP np)) ?_;refine aw.bO xA2 xAb (ch) ?_;refine aw.evF xAc ?_;refine aw.nil ?_;by_cases ho:bt=[]
 ·have hv:bV bt k= .sl 3 [] (.exact 0):=by rw[ho];rfl
  rw[hv] at f3;have ht0:gh ((bt.map Prod.fst).map Bk.n) key.b=false:=by rw[ho];rfl
  have ca:=Kb (H0 (n+2+1) m) bt k key.b (λx=>absurd ho x) aa;rw[hv,ht0] at ca;rw[ht0];generalize jy ((bt.map Prod.fst).map Bk.n) key.b=bp at*
  refine Wp.cm (xAd (cj4 f3 fK n3 nn)) ?_;refine az.jF xA2 xAb (ca) (bM _) ?_;refine az.evR xA1 ?_;refine az.nil ⟨by simp[bw,aV,apart,aZ],?_⟩;cases hb:hdB p.v with
  |false=>
   rw[hb] at dE;rw[N7 af];refine Wp.eG (xAd dE) xAb iK (trivial) ?_;exact ⟨rfl,by simp only[upd,n1,N5];exact M.o1⟩
  |true=>
   rw[hb] at dE;rw[Of rfl,N7 af];refine Wp.eG (xAd dE) xAb iK (trivial) ?_;exact ⟨rfl,by simp only[upd,n1,N5];exact M.o1⟩
 ·have hv:bV bt k= .tsl 3 k 0 bt.length none:=by unfold bV;rw[N7 ho]
  rw[hv] at f3;obtain ⟨y1,y2⟩:=M.hk ho;have fk:=M.cs ho;have ca:=Kb (.only (upd aA k (some (.cells (fD bt)))) [] (n+2+1) m) bt k key.b (λ_=>by simp[H.only,upd]) aa;rw[hv] at ca;have hbpl:gh ((bt.map Prod.fst).map Bk.n) key.b=true->jy ((bt.map Prod.fst).map Bk.n) key.b<bt.length:=by
   intro h;unfold gh at h;simp only[Ob,Oj,O2] at h;exact h.1
  generalize hbt:gh ((bt.map Prod.fst).map Bk.n) key.b=bh at*
  generalize hbp:jy ((bt.map Prod.fst).map Bk.n) key.b=i at*
  have k3:¬(3=k):=by omega
  have kn2:¬(k=n+2):=by omega
  have kn3:¬(k=n+2+1):=by omega
  have k2:¬(k=2):=by omega
  have k3':¬(k=3):=by omega
  refine Wp.cm (xAd (cj4 f3 fK n3 nn)) ?_;refine az.jF xA2 xAb (ca) (ez _ (by simp only[upd,kn2,N5];exact fk)) ?_;refine az.evR xA1 ?_;refine az.nil ⟨by simp[bw,aV,apart,aZ],?_⟩;cases hb:hdB p.v with
  |false=>
   rw[hb] at dE;rw[N7 af];refine Wp.eG (xAd dE) xAb iK (trivial) ?_;exact ⟨rfl,by simp only[upd,n1,N5];exact M.o1⟩
  |true=>
  rw[hb] at dE;rw[Of rfl];cases bh with
  |false=>
   rw[N7 af];refine Wp.eG (xAd dE) xAb iK (trivial) ?_;exact ⟨rfl,by simp only[upd,n1,N5];exact M.o1⟩
  |true=>
  rw[Of rfl];have hi:=hbpl rfl;refine Wp.bg (xAd dE) ?_;refine aw.bO xA2 xAb (mJ) ?_;refine aw.nil ?_;rw[<-hT];unfold mL el2 el1 jq gI c64 zz;simp only[hdA,tlA,blX,thA,elA];refine Wp.cm (xAd (gv fK n3 nn z0 @N2.{0} @N4.{0} Int.toNat_zero @OG.{0} @OL @Oe)) ?_;refine az.nil ⟨by simp[bw,aV,apart,aZ,on,nn],?_⟩;have p1:(0:Int)<=(i:Int):=by omega
  have p2:(i:Int)<(bt.length:Int):=by omega
  refine Wp.bg (xAd (cj7 f3 n3 o3 p1 p2 @NZ @Oe)) ?_;refine aw.nil ?_;have hcl:=iG bt;have hC2:=GS bt i hi;have hTk:=Ee bt i hi;have hDr:=Ef bt i hi;have hset:=GU bt i hi (⟨(bt.getD i default).1.n,(bt.getD i default).1.st,(bt.getD i default).1.l++[⟨key.o,v0,hsz,hre,him,hg,hu,s⟩]⟩,m);have hmem:bt.getD i default∈bt:=by
   have e:bt.getD i default=bt[i]:=by simp[List.getD,N0 hi]
   rw[e];exact O0 hi
  have htk:=M.tk _ hmem;have htm:=M.tm _ hmem;have hvl:=M.vers _ hmem;have hfst:(bt.set i (⟨(bt.getD i default).1.n,(bt.getD i default).1.st,(bt.getD i default).1.l++[⟨key.o,v0,hsz,hre,him,hg,hu,s⟩]⟩,m)).map Prod.fst=sZ (bt.map Prod.fst) i ⟨key.o,v0,hsz,hre,him,hg,hu,s⟩:=by
   unfold sZ;have e:(bt.map Prod.fst).getD i default=(bt.getD i default).1:=by simp[List.getD,N0 hi]
   rw[e,List.map_set]
  have hms:=λ{y x:Bk × Nat} (hx:x∈bt.set i y)=>ym M.nd hi hx;rw[<-hfst];generalize bt.getD i default=bb at*
  generalize fD bt=cs at*
  obtain ⟨⟨bn,bst,bl⟩,tk⟩:=bb;simp only at hC2 hTk hset htk htm hvl hms |-;have lv:=eK bl;have e6:(bl.length+1)*72<=140737488355328:=by omega
  have e7:bl.length+1<4611686018427387904:=by omega
  have y2:i*3+2+1<=cs.length:=by omega
  have kk:¬(n+2+1=k):=by omega
  have kk2:¬(2=k):=by omega
  have kk3:¬(n+2=k):=by omega
  refine Wp.cm (xAd (aY f3 f2 fK fk n3 n2 o3 o2 on nn oq (aY kn2 kn3 hC2 hTk hDr lv e6 e7 y2 htk hf (cj4 hl @N2.{0} @N4.{0} @Oe)))) ?_;refine az.nil ⟨by simp[bw,aV,apart,aZ,n3,o3,o2,oq,n2,on,nn] <;>omega,?_⟩;refine Wp.eF (xAd (aY f3 f2 n3 n2 o3 o2 k3 kk kk2 kk3 oq (cj2 hf hd))) ?_;refine az.nil ⟨by simp[bw,aV,apart,aZ,n3,o3,o2,oq,n2,on,nn] <;>omega,?_⟩;have hvs:bV (bt.set i (⟨bn,bst,bl++[⟨key.o,v0,hsz,hre,him,hg,hu,s⟩]⟩,m)) k= .tsl 3 k 0 bt.length none:=by
   unfold bV;rw[N7 (by simpa using ho),List.length_set]
  have k0:¬(0=k):=by omega
  have k1:¬(1=k):=by omega
  have k4:¬(4=k):=by omega
  refine ⟨rfl,_,rfl,⟨k,by simp only[upd,n3,o3,k3,N5,Nat.reduceEqDiff,reduceIte];rw[hvs];exact f3,λ_=>⟨y1,by simp only;omega,_,by simp only[upd,k2,N9,N5];exact rfl,?_⟩⟩,by simp only[upd,N9],by simp only[upd,n0,o0,k0,N5,Nat.reduceEqDiff,reduceIte];exact M.o0,by simp only[upd,n1,o1,k1,N5,Nat.reduceEqDiff,reduceIte];exact M.o1,by simp only[upd,n4,o4,k4,N5,Nat.reduceEqDiff,reduceIte];exact M.o4,by simp only;omega,?_,?_,?_,by rw[List.length_set];omega,?_,pin⟩
  ·rw[hset];simp[pA,vss,cU];exact ay.refl _
  ·intro x hx;rcases hms hx with rfl|⟨h1,h2⟩
   ·exact Qm
   ·refine List.mem_cons_of_mem _ (Pm.2 ⟨M.tk x h1,by simpa using h2⟩)
  ·intro x hx;rcases hms hx with rfl|⟨h1,h2⟩
   ·exact OD _
   ·have:=M.tm x h1;simp only;omega
  ·rw[List.map_set];refine Eg M.nd λhm=>?_;obtain ⟨x,hx,e⟩:=Oo.1 hm;have:=M.tm x hx;omega
  ·intro x hx;rcases hms hx with rfl|⟨h1,h2⟩
   ·simp only[N6,List.length_cons,List.length_nil];omega
   ·have:=M.vers x h1;omega
theorem s4{L:List Pr}{J:Nat}{R:Option SS}{e:aM}{s':St}(h:QA L J R e s'):aM.inBlock 0 (QA L J R) e s':=by
 cases R with
 |none=>
  have h':=h;obtain ⟨h1,-⟩:=h';subst h1;exact h
 |some S=>
  have h':=h;obtain ⟨h1,-⟩:=h';subst h1;exact h
theorem GV{L:List Pr}{F:Nat->Option Av.Obj}{n:Nat}{toks:List Nat}{m:Nat}{bt:List (Bk × Nat)}{q:List Pc}{J k:Nat}{p:Pr}{key:Ky}(M:Mid L F n toks m bt q J k p key)(hok:key.ok)(hpv:p.v.length<=140737488355328):
  Wp Tryz.prog 161 gI ⟨tm [(0,.ptr 3 0),(3,.ptr n 0),(4,.ptr (n+1) 0)],⟨F,n+2,toks,m⟩⟩ (QA L J (lU (bt.map Prod.fst,q) key p.v)):=by
 have WB:=λhk=>K3 M (key:=key) hk;have WC:=λhk=>K4 M hk hok hpv;have WV:=λhk=>K5 M hk hok hpv;have hk:=hok.k;rw[AL];generalize hB:nM=B at*
 generalize hC:mK=C at*
 generalize hV:mL=V at*
 generalize hD:elD=D at*
 unfold el2 el1 jq gI c64 zz;simp only[hdA,tlA,blX,thA,elA];have fK:=M.K;by_cases h1:key.k=1
 ·have d1:decide (key.k=1)=true:=N3 h1;refine rf0 (cj2 fK d1) ?_;refine Wp.mono (Wp.le (aL.of (aS ?_) (OLe.bK _) (λx hx=>hx) (NY _) (NY _)) (WB h1)) (λe s' h=>s4 h);exact xSb
 have d1:decide (key.k=1)=false:=N1 h1;by_cases h3:key.k=3
 ·have d3:decide (key.k=3)=true:=N3 h3;refine rf0 (cj3 fK d1 d3) ?_;refine Wp.mono (Wp.le (aL.of (aS ?_) (OLe.bK _) (λx hx=>hx) (NY _) (NY _)) (WC h3)) (λe s' h=>s4 h);exact xSb
 have d3:decide (key.k=3)=false:=N1 h3;by_cases h2:key.k=2
 ·have d2:decide (key.k=2)=true:=N3 h2;refine rf0 (cj4 fK d1 d3 d2) ?_;refine Wp.mono (Wp.le (aL.of (aS ?_) (OLe.bK _) (λx hx=>hx) (NY _) (NY _)) (WV h2)) (λe s' h=>s4 h);exact xSb
 have d2:decide (key.k=2)=false:=N1 h2;have hR:lU (bt.map Prod.fst,q) key p.v=none:=by
  unfold lU;rw[N7 h1,N7 h3,N7 h2]
 rw[hR];refine rf0 (cj4 fK d1 d3 d2) ?_;rw[<-hD];unfold elD el2 el1 jq gI c64 zz;simp only[hdA,tlA,blX,thA,elA];refine Wp.u7 xAc xAb iK (trivial) ?_;exact ⟨rfl,M.o1⟩
theorem qf{F:Nat->Option Av.Obj}{k:Nat}{cs cs':List AV}(h:F k=some (.cells cs))(hs:ay cs cs'):OLe F (upd F k (some (.cells cs'))):=λj o' hj=>by
 simp only[upd] at hj;split at hj
 ·rename_i e;subst e;cases hj;exact ⟨_,h,hs⟩
 ·exact ⟨o',hj,cy.refl _⟩
set_option maxHeartbeats 2000000 in
theorem Kc(L:List Pr)(h:H)(bt:List (Bk × Nat))(q:List Pc)(J:Nat)(hJ:J<=5000)(I:nC L h bt q J)(p:Pr)(hpk:p.k.length<=140737488355328)(hpv:p.v.length<=140737488355328):
  Wp Tryz.prog 161 c64 ⟨gN [.ptr 3 0,.agg [.str p.k,.str p.v]],h⟩ (QA L J (lH (bt.map Prod.fst,q) p)):=by
 obtain ⟨F,n,toks,m⟩:=h;obtain ⟨k,f3,hrow⟩:=I.row;have f2:=I.mp;have f0:=I.o0;have f1:=I.o1;have f4:=I.o4;have hn:=I.hn;have htk:=I.tk;have htm:=I.tm;simp only at f3 hrow f2 f0 f1 f4 hn htk htm;obtain ⟨F',hle,g3,g2,g0,g1,g4,gk⟩:∃F',OLe F F'/\F' 3=some (.cells [bV bt k,.mp 2])/\F' 2=some (.map (gH q))/\F' 0=some (.cells [.sl 2 (prs L) .any])/\F' 1=some (.cells [.sl 3 [] (.exact 0)])/\F' 4=some (.cells [.ptr 3 0])/\(bt≠[]->5<=k/\k<n/\F' k=some (.cells (fD bt))):=by
  by_cases ho:bt=[]
  ·exact ⟨F,OLe.bK _,f3,f2,f0,f1,f4,λx=>absurd ho x⟩
  ·obtain ⟨a,b,cs,c,d⟩:=hrow ho;refine ⟨upd F k (some (.cells (fD bt))),qf c d,?_,?_,?_,?_,?_,λ_=>⟨a,b,by simp[upd]⟩⟩;all_goals
    simp only[upd];rw[N7 aa];assumption
 refine Wp.le (aL.of (λ_=>av.refl _) hle (λx hx=>hx) (NY _) (NY _)) ?_;have W:=λ(key:Ky) (M:Mid L (upd (upd (upd F' n (some (.cells [.str p.k,.str p.v]))) (n+1) (some (.cells [.int .i64 0,.str [],.str [],.sl 1 [] (.exact 0)]))) (n+1) (some (.cells [.int .i64 key.k,.str key.b,.str key.o,.sl 1 (ints key.ns) .any]))) n toks m bt q J k p key) hok=>GV M hok hpv;have n3:¬(3=n):=by omega
 have n4:¬(4=n):=by omega
 have n0:¬(0=n):=by omega
 have n1:¬(1=n):=by omega
 have n2:¬(2=n):=by omega
 have m3:¬(3=n+1):=by omega
 have m4:¬(4=n+1):=by omega
 have m0:¬(0=n+1):=by omega
 have m1:¬(1=n+1):=by omega
 have m2:¬(2=n+1):=by omega
 have nn:¬(n=n+1):=by omega
 have cp:=IL p.k hpk;have hpe:mH p.k=if cD p.k then 0 else 4:=rfl
 have hS:lH (bt.map Prod.fst,q) p=if cD p.k=true then lU (bt.map Prod.fst,q) (bc p.k) p.v else none:=rfl
 rw[hS,Je];generalize hT:gI=T at*
 unfold c64 zz;simp only[hdA,tlA];cases hb:cD p.k with
 |false=>
  rw[hb] at hpe;rw[N7 af] at hpe |-;rw[hpe] at cp;unfold dp at cp;refine Wp.bg xAc ?_;refine aw.nil ?_;refine Wp.bg xAc ?_;refine aw.bO xA2 xAb (cp) ?_;refine aw.evF (xAd nn) ?_;refine aw.nil ?_;refine Wp.eG (xAd nn) xAb iK (trivial) ?_;exact ⟨rfl,by simp only[upd,n1,m1,N5];exact g1⟩
 |true=>
  rw[hb] at hpe;rw[Of rfl] at hpe |-;rw[hpe] at cp;have hok:=(sU hb).1;have W2:=W (bc p.k);unfold dp at cp;generalize bc p.k=key at*
  refine Wp.bg xAc ?_;refine aw.nil ?_;refine Wp.bg xAc ?_;refine aw.bO xA2 xAb (cp) ?_;refine aw.evF (xAd nn) ?_;refine aw.nil ?_;refine Wp.bg (xAd nn) ?_;refine aw.bO xA2 xAb (mJ) ?_;refine aw.nil ?_;refine Wp.le (aL.of (aS ?_) (OLe.bK _) (λx hx=>hx) (NY _) (NY _)) (W2 ?_ hok)
  ·exact xSb
  ·refine ⟨λho=>⟨(gk ho).1,(gk ho).2.1⟩,hn,?_,λho=>?_,?_,?_,?_,?_,?_,?_,htk,htm,I.nd,I.len,I.vers,I.pcs,hJ⟩
   ·simp only[upd,n3,m3,N5];exact g3
   ·obtain ⟨a,b,c⟩:=gk ho;have e1:¬(k=n):=by omega
    have e2:¬(k=n+1):=by omega
    simp only[upd,e1,e2,N5];exact c
   ·simp only[upd,n2,m2,N5];exact g2
   ·simp only[upd,n0,m0,N5];exact g0
   ·simp only[upd,n1,m1,N5];exact g1
   ·simp only[upd,n4,m4,N5];exact g4
   ·simp only[upd,nn,N5,N9]
   ·simp only[upd,N9]
theorem GW{L:List Pr}{h:H}{bt:List (Bk × Nat)}{q:List Pc}{J:Nat}(hJ:J<=5000)(I:nC L h bt q J){p:Pr}(hpk:p.k.length<=140737488355328)(hpv:p.v.length<=140737488355328){S:SS}(hS:lH (bt.map Prod.fst,q) p=some S):
  ∃r h',bo Tryz.prog 64 [.ptr 3 0,.agg [.str p.k,.str p.v]] h r h'/\(h.n<=h'.n/\h.m<=h'.m)/\∃bt',bt'.map Prod.fst=S.1/\nC L h' bt' S.2 (J+1):=by
 have W:=Kc L h bt q J hJ I p hpk hpv;rw[hS] at W;exact aT.Bt (Q:=λ_ h'=>∃bt',bt'.map Prod.fst=S.1/\nC L h' bt' S.2 (J+1)) f64 af (W.mono λe s' hq=>⟨s3 hq.1,_,rfl,hq.2⟩)
theorem Cb{L:List Pr}{h:H}{bt:List (Bk × Nat)}{q:List Pc}{J:Nat}(hJ:J<=5000)(I:nC L h bt q J){p:Pr}(hpk:p.k.length<=140737488355328)(hpv:p.v.length<=140737488355328)(hS:lH (bt.map Prod.fst,q) p=none):
  ∃h',gA Tryz.prog 64 [.ptr 3 0,.agg [.str p.k,.str p.v]] h v4 h'/\(h.n<=h'.n/\h.m<=h'.m)/\h'.objs 1=some (.cells [.sl 3 [] (.exact 0)]):=by
 have W:=Kc L h bt q J hJ I p hpk hpv;rw[hS] at W;obtain ⟨v,h',a,b,rfl,c⟩:=aT.JR (Q:=λv h'=>v=v4/\h'.objs 1=some (.cells [.sl 3 [] (.exact 0)])) f64 af (W.mono λe s' hq=>⟨_,hq.1,rfl,hq.2⟩);exact ⟨h',a,b,c⟩
theorem Jf:aI Tryz.prog 148 [.int .u64 0] (.int .i64 0):=by
 refine f148.aE af (by simp[aF,aO]) rfl ?_;unfold L4 zz;refine rn0 PF ?_;refine aG ?_;exact av.refl _
theorem K6:aI Tryz.prog 95 [.int .u64 0] (.int .i64 0):=by
 refine f95.aE af (by simp[aF,aO]) rfl ?_;unfold c95 zz;refine rn1 PF Jf ?_;refine aG ?_;exact av.refl _
theorem Nq(g:AV)(hg:aO g=true):aI Tryz.prog 139 [.sl 2 [] .any,.int .i64 0,.int .i64 0,g] (.tup []):=by
 refine f139.aE af (by simp[aF,aO,aU,hg]) rfl ?_;unfold L3 zz;refine rn0 PF ?_;refine Wp.dB [1,2] xA6 (λj:Nat=>[(8,.int .i64 1)]) (λj=>j=0) (λj=>j) 0 rfl ?_ ?_
 ·exact xSb
 rintro j hj;refine rn0 PF ?_;exact ⟨trivial,_,rfl,av.refl _⟩
theorem Nr(g:AV)(hg:aO g=true):aI Tryz.prog 94 [.sl 2 [] .any,.int .i64 0,.int .i64 0,.int .i64 0,g] (.tup []):=by
 refine f94.aE af (by simp[aF,aO,aU,hg]) rfl ?_;have c1:=Nq g hg;unfold c94 zz;refine rn0 PF ?_;refine Wp.dB [0,1,2,3,4] xA6 (λj:Nat=>[]) (λj=>j=0) (λj=>j) 0 rfl ?_ ?_
 ·trivial
 rintro j hj;refine rn1 PF c1 ?_;exact Wp.ret ⟨trivial,_,rfl,av.refl _⟩
theorem Jg:aI Tryz.prog 45 [.sl 2 [] .any,.clo (.func 46) [] []] (.tup []):=by
 refine f45.aE af (by simp[aF,aO,aU]) rfl ?_;have c1:=Nr (.clo (.func 46) [] []) rfl;unfold c45 zz;refine rn2 PF K6 c1 ?_;exact ⟨trivial,_,rfl,av.refl _⟩
def qg(o:List Pr):Av.Obj:= .cells (o.flatMap encA)
def rV(o:List Pr)(k:Nat):AV:=if o=[] then .sl 2 [] (.exact 0) else .tsl 2 k 0 o.length none
def rO(o:List Pr)(k:Nat)(f:Nat->Option Av.Obj):Nat->Option Av.Obj:=upd (if o=[] then f else upd f k (some (qg o))) 1 (some (.cells [rV o k]))
theorem GX(o:List Pr)(k:Nat)(f:Nat->Option Av.Obj):rO o k f 1=some (.cells [rV o k]):=by simp[rO,upd]
theorem GY{o:List Pr}{k:Nat}{f:Nat->Option Av.Obj}(h:o≠[])(hk:k≠1):rO o k f k=some (qg o):=by simp[rO,upd,h,hk]
theorem lI{o:List Pr}{k j:Nat}{f:Nat->Option Av.Obj}(h1:j≠1)(h2:o≠[]->j≠k):rO o k f j=f j:=by
 unfold rO;by_cases ho:o=[]
 ·simp[upd,ho,h1]
 ·simp[upd,ho,h1,h2 ho]
theorem GZ{o:List Pr}{k:Nat}{g f:Nat->Option Av.Obj}(h1:g 1=some (.cells [rV o k]))(h2:o≠[]->g k=some (qg o))(h3:OLe g f):OLe g (rO o k f):=by
 intro j p hp;unfold rO at hp;simp only[upd] at hp;split at hp
 ·rename_i e;subst e;cases hp;exact ⟨_,h1,cy.refl _⟩
 ·split at hp
  ·exact h3 j p hp
  ·rename_i ho;simp only[upd] at hp;split at hp
   ·rename_i e;subst e;cases hp;exact ⟨_,h2 ho,cy.refl _⟩
   ·exact h3 j p hp
theorem yn(o:List Pr)(p:Pr):o.flatMap encA++([.agg [.str p.k,.str p.v]]:List AV).flatMap cellsOf=(o++[p]).flatMap encA:=by simp[encA,cellsOf]
theorem AM(o:List Pr):(o.flatMap encA).length=o.length*2:=fN o
theorem OLe.one{g:Nat->Option Av.Obj}{L:Nat}{A:Av.Obj}(h:g L=some A):OLe g (upd aA L (some A)):=by
 intro j p hp;simp only[upd,aA] at hp;split at hp
 ·rename_i e;subst e;cases hp;exact ⟨_,h,cy.refl _⟩
 ·cases hp
theorem vX{o:List Pr}{k L:Nat}{A B:Option Av.Obj}(h1:L≠1)(h2:o≠[]->k≠L):upd (rO o k (upd aA L A)) L B=rO o k (upd aA L B):=by
 funext j;unfold rO;by_cases ho:o=[]
 ·simp only[ho,N9,upd];by_cases a:j=L
  ·subst a;simp[h1]
  ·simp[a]
 ·simp only[ho,N5,upd];by_cases a:j=L
  ·subst a;simp[h1,PU (h2 ho)]
  ·simp[a]
theorem K7{o:List Pr}{k L:Nat}{A:Option Av.Obj}(h1:L≠1)(h2:o≠[]->k≠L):(λj=>if j=L then none else rO o k (upd aA L A) j)=rO o k aA:=by
 funext j;unfold rO;by_cases a:j=L
 ·subst a;by_cases ho:o=[]
  ·simp[upd,ho,h1,aA]
  ·simp[upd,ho,h1,PU (h2 ho),aA]
 ·by_cases ho:o=[]
  ·simp[upd,ho,a]
  ·simp[upd,ho,a]
theorem yo(L:Nat):upd (aA:Nat->Option Av.Obj) L none=aA:=by
 funext j;simp[upd,aA]
theorem K8{o:List Pr}{k L:Nat}{B:Option Av.Obj}(h1:L≠1)(h2:o≠[]->k≠L):upd (rO o k aA) L B=rO o k (upd aA L B):=by
 have:=vX (o:=o) (k:=k) (L:=L) (A:=none) (B:=B) h1 h2
 rwa [yo] at this
def qN(R:List (List Ch))(j:Nat):List Pr:=(R.take j).flatten.map cY
def hIn(o:List Pr)(k L:Nat)(lp:Av.Obj)(n m:Nat):H:=⟨rO o k (upd aA L (some lp)),n,[],m⟩
set_option maxHeartbeats 4000000 in
theorem Cc(m:List Bk)(hf:Few m)(hF:imB m=true->(aN m).length<=100000){Q:AV->H->Prop}
  (q1:∀h,(if imB m=true then aH (aN m) else [])=[]->Q (.tup [.sl 2 [] (.exact 0),.int .i64 (imE m)]) h)
  (q2:imB m=true->∀k h,h.objs k=some (.cells ((aH (aN m)).flatMap encA))->h.toks=[]->k<h.n->Q (.tup [.tsl 2 k 0 (aH (aN m)).length none,.int .i64 0]) h):
  ∃r h',bo Tryz.prog 13 [bB m] (H0 0 0) r h'/\Q r h':=by
 refine f13.eY af ?_;unfold c13;have h1:=vw m hf;have len:=eL m;unfold imE at*
 cases hm:imB m with
 |false=>
  rw[hm] at h1 q1;simp only[Oa,N5,true_implies] at h1 q1;unfold bB at*
  refine nA h1 ?_;refine aG ?_;exact q1 _
 |true=>
  rw[hm] at h1 q1;simp only[N9] at h1 q1
  replace q2:=q2 hm
  unfold bB at*
  obtain ⟨hl,hok⟩:=sI hm
  replace hF:=hF hm
  refine rf1 @len h1 ?_;refine Wp.le (s':=⟨tm [(5,.ptr 1 0),(17,.sl 3 (bks m) .any),(18,.int .i64 m.length),(19,.int .i64 0)],⟨rO [] 0 aA,2,[],0⟩⟩) (aL.of (aS ?_) (GZ ?_ (λh=>absurd rfl h) (OLe.none _)) (λa ha=>ha) (NY _) (NY _)) ?_
  ·exact xSb
  ·simp[upd,rV]
  refine Wp.cI [5,17,18] xA7 (λb:Nat × Nat × Nat × Nat=>[(19,.int .i64 (b.1:Nat))]) (λb=>⟨rO (aN (m.take b.1)) b.2.1 aA,b.2.2.1,[],b.2.2.2⟩)
   (λb=>b.1<=m.length/\2<=b.2.2.1/\(aN (m.take b.1)≠[]->b.2.1<b.2.2.1/\b.2.1≠1)) (λb=>m.length - b.1) (0,0,2,0) ⟨Og _,NY _,λh=>absurd rfl h⟩ rfl ?_ ?_
  ·exact xSb
  rintro ⟨j,k,n,mm⟩ ⟨hj,hn2,hk⟩;simp only at hj hn2 hk;by_cases hc:j<m.length
  ·obtain ⟨g1,g2,g3,e1⟩:=cK hc (Oz hl al);have hat:=ft m j .any hc;have hb:=hok j hc;have hfe:=hf.at j;have hsn:=jm m j hc;have hle:=mD m (j+1);rw[hsn,N6] at hle;have c1:=xE (m.getD j default);have hTH:=xY (m.getD j default) hb hfe;have hFB:fF (m.getD j default)=(bD (m.getD j default)).flatten.map cY:=rfl;rw[hFB] at hsn hle;generalize bD (m.getD j default)=R at*
   generalize hP0:aN (m.take j)=P0 at*
   generalize m.getD j default=b at*
   clear hFB;obtain ⟨nm,st,vl⟩:=b;unfold ff at hat c1;have n1:¬(1=n):=by omega
   refine rf1 (cj6 g1 g2 g3 @len hat @NZ) c1 ?_;refine Wp.le (s':=⟨tm [(5,.ptr 1 0),(17,.sl 3 (bks m) .any),(18,.int .i64 m.length),(19,.int .i64 j),(24,.clo (.func 91) [] [.ref [.str nm,.int .i64 st,.sl 8 (vss vl) .any]])],⟨rO P0 k aA,n+1,[],mm⟩⟩) (aL.of (aS ?_) ?_ (λa ha=>ha) (NY _) (NY _)) ?_
   ·exact xSb
   ·intro a u hu;have hne:a≠n:=by
     rintro rfl;rw[lI aa (λh=>by have:=(hk h).1;omega)] at hu;cases hu
    exact ⟨u,by simp only[upd,hne,N5];exact hu,cy.refl _⟩
   generalize hL:n+1=L at*
   have hkL:P0≠[]->k<L/\k≠1:=λh=>⟨by have:=(hk h).1;omega,(hk h).2⟩;have hL1:L≠1:=by omega
   have hL2:1<L:=by omega
   clear hk;refine Wp.JQ (fi:=91) (first:=[]) (caps:=[.ref [.str nm,.int .i64 st,.sl 8 (vss vl) .any]]) (by simp only[go_sem,reduceIte,Nat.reduceEqDiff]) (Tryz.func91) rfl (Oh (by kernel_rfl)) (lI hL1 (λh=>by show L≠k;have:=(hkL h).1;omega)) λasg body a1 a2 a3 a4=>?_;generalize hT:tm [(5,AV.ptr 1 0),(17,.sl 3 (bks m) .any),(18,.int .i64 m.length),(19,.int .i64 j),(24,.clo (.func 91) [] [.ref [.str nm,.int .i64 st,.sl 8 (vss vl) .any]])]=tt at*
   have t5:tt 5= .ptr 1 0:=by rw[<-hT];rfl
   refine (hTH L (λi h=>∃k' n' m',h=hIn (P0++qN R i) k' L (.loop 45 tt [25] asg body .ready none) n' m'/\L<n'/\(P0++qN R i≠[]->k'<n'/\k'≠1/\k'≠L)) (λ_=>False) ?_ ?_ ?_ _ ?_).mono ?_
   ·rintro i h ⟨k',n',m',rfl,q1,q2⟩;refine ⟨λa ha=>?_,λt ht=>by cases ht⟩;have ha:n'<=a:=ha;show rO _ _ _ a=none;rw[lI aa (λh=>by have:=(q2 h).1;omega)];have:a≠L:=by omega
    simp[upd,this,aA]
   ·rintro i h n2 m2 ⟨k',n',m',rfl,q1,q2⟩ hn hm;have hn:n'<=n2:=hn;exact ⟨k',n2,m2,rfl,aa,λh=>⟨by have:=(q2 h).1;omega,(q2 h).2⟩⟩
   ·rintro i h t m2 hi ⟨k',n',m',rfl,q1,q2⟩ ht1 ht2;have hob:rO (P0++qN R i) k' (upd aA L (some (Av.Obj.loop 45 tt [25] asg body .ready none))) L=some (.loop 45 tt [25] asg body .ready none):=by
     rw[lI hL1 (λh=>PU (q2 h).2.2)];simp[upd]
    refine sb (t:=tt) (ps:=[25]) hob a1 a2 a3 a4 rfl af ?_;refine Wp.nX (by simp only[go_sem,reduceIte,Nat.reduceEqDiff,nH];exact rfl) ah ⟨rfl,tt,hob,?_⟩;clear hob;simp only[hIn];rw[vX hL1 (λh=>(q2 h).2.2)];have hsr:=nr R i hi;have hlr:=q0 R (i+1);rw[hsr,N6] at hlr;have hr1:qN R i=(R.take i).flatten.map cY:=rfl;have hr2:qN R (i+1)=qN R i++(R.getD i []).map cY:=hsr;rw[hr2];have cl:=bF (R.getD i []);generalize R.getD i []=r at*
    have hb2:(P0++qN R i).length+r.length<=100000:=by
     have q1:r.length=(r.map cY).length:=(O2 _).symm;rw[N6,q1,hr1];exact Oz aa hF
    rw[<-Pn];generalize P0++qN R i=P1 at*
    clear hr1 hr2 hsr hlr ht1;refine rf0 (cj2 cl t5) ?_;refine Wp.le (s':=⟨tm [(5,.ptr 1 0),(26,.sl 3 (chs r) .any),(27,.int .i64 r.length),(28,.int .i64 0)],⟨rO P1 k' (upd aA L (some (Av.Obj.loop 45 tt [25] asg body .busy none))),n',[],m2⟩⟩) (aL.of (aS ?_) (OLe.bK _) (λa ha=>by cases ha) (NY _) (NY _)) ?_
    ·simp only[aR,go_sem,reduceIte,Nat.reduceEqDiff,Nat.reduceAdd,bx,t5];and_intros<;>first|exact trivial|exact av.refl _|exact av.any _|exact av.cap|(refine av.int ?_;omega)
    generalize hbz:Av.Obj.loop 45 tt [25] asg body .busy none=bz at*
    refine Wp.cI [5,26,27] xA7 (λb:Nat × Nat × Nat=>[(28,.int .i64 (b.1:Nat))]) (λb=>⟨rO (P1++(r.take b.1).map cY) b.2.1 (upd aA L (some bz)),b.2.2,[],m2⟩)
     (λb=>b.1<=r.length/\L<b.2.2/\(P1++(r.take b.1).map cY≠[]->b.2.1<b.2.2/\b.2.1≠1/\b.2.1≠L)) (λb=>r.length - b.1) (0,k',n') ⟨Og _,q1,by simpa using q2⟩ af ?_ ?_
    ·exact xSb
    rintro ⟨i2,k2,n2⟩ ⟨hi2,hn3,hk2⟩;simp only at hi2 hn3 hk2;by_cases hci:i2<r.length
    ·obtain ⟨i1,i3,i4,i5⟩:=cK hci (Oz (Oz (Nat.le_add_left _ _) hb2) al);have hai:=mw r i2 .any hci;have hsi:=pe cY r i2 hci;have hPn:(P1++(r.take i2).map cY).length<=100000:=by
      rw[N6,O2,OJ];omega
     have hsn2:P1++(r.take (i2+1)).map cY=(P1++(r.take i2).map cY)++[cY (r.getD i2 default)]:=by rw[hsi,Pn]
     generalize r.getD i2 default=c at*
     generalize P1++(r.take i2).map cY=P at*
     clear hsi;obtain ⟨ck,cv,cd⟩:=c;unfold mv at hai;have x1:¬(1=n2):=by omega
     have x2:¬(1=n2+1):=by omega
     have x3:¬(n2=n2+1):=by omega
     have x4:¬(L=n2):=by omega
     have x5:¬(L=n2+1):=by omega
     have x6:¬(L=1):=hL1;have hF1:=GX P k2 (upd aA L (some bz));have hFL:rO P k2 (upd aA L (some bz)) L=some bz:=by
      rw[lI hL1 (λh=>PU (hk2 h).2.2)];simp[upd]
     by_cases ho:P=[]
     ·subst ho;have hv:rV [] k2= .sl 2 [] (.exact 0):=rfl;rw[hv] at hF1;generalize rO [] k2 (upd aA L (some bz))=F at*
      refine rf0 (cj6 i1 i3 i4 cl hai @NZ) ?_;refine Wp.pT ?_;refine aw.op1 ae (by simp only[go_sem,reduceIte,Nat.reduceEqDiff,Nat.reduceAdd,bx,ax,N9,N5,Nat.reduceMul,Nat.reduceLeDiff,x1,hF1];exact rfl) ?_;simp only[bq];refine aw.op1 ae (by simp only[go_sem,reduceIte,Nat.reduceEqDiff,Nat.reduceAdd,bx,ax,N9,N5,Nat.reduceMul,Nat.reduceLeDiff,x1,hF1];exact rfl) ?_;simp only[bq];refine aw.op1 ae (by simp only[go_sem,reduceIte,Nat.reduceEqDiff,Nat.reduceAdd,bx,ax,N9,N5,Nat.reduceMul,Nat.reduceLeDiff,x1,hF1];exact rfl) ?_;simp only[bq];refine aw.op1 ae (by simp only[go_sem,reduceIte,Nat.reduceEqDiff,Nat.reduceAdd,bx,ax,N9,N5,Nat.reduceMul,Nat.reduceLeDiff,x1,hF1];exact rfl) ?_;simp only[bq];refine aw.op1 ae (by simp only[go_sem,reduceIte,Nat.reduceEqDiff,Nat.reduceAdd,bx,ax,N9,N5,Nat.reduceMul,Nat.reduceLeDiff,x1,hF1];exact rfl) ?_;simp only[bq];refine aw.op1 ae (by simp only[go_sem,reduceIte,Nat.reduceEqDiff,Nat.reduceAdd,bx,ax,N9,N5,Nat.reduceMul,Nat.reduceLeDiff,x1,hF1];exact rfl) ?_;simp only[bq];refine aw.op1 ae (by simp only[go_sem,reduceIte,Nat.reduceEqDiff,Nat.reduceAdd,bx,ax,N9,N5,Nat.reduceMul,Nat.reduceLeDiff,x1,hF1];exact rfl) ?_;simp only[bq];refine aw.opT ae (by simp only[jt,go_sem,reduceIte,Nat.reduceEqDiff,Nat.reduceAdd,bx,List.all_cons,List.all_nil,List.length_cons,List.length_nil,Nat.reduceMul,Nat.reduceLeDiff,Nat.reduceLT,Qw,Oe,N9,Ow,O7];exact rfl) ?_;simp only[bq];refine aw.evF (xAd (cj4 x1 x2 x3 hF1)) ?_;refine dG ?_;refine ⟨(i2+1,n2+1,n2+2),⟨hci,by show L<n2+2;omega,λ_=>⟨by show n2+1<n2+2;omega,by show n2+1≠1;omega,by show n2+1≠L;omega⟩⟩,O5 hci (OD _),?_⟩;rw[hsn2];refine aL.of (aS ?_) (GZ ?_ (λ_=>?_) (OLe.one ?_)) (λ_ h=>h) (NY _) (NY _)
      ·exact bY i5
      ·simp[upd,rV,cY]
      ·simp only[upd];rw[N7 (show ¬(n2+1=1) by omega),Of trivial];simp[qg,encA,cY,cellsOf]
      ·simp only[upd,x4,x5,x6,N5];exact hFL
     ·have hv:rV P k2= .tsl 2 k2 0 P.length none:=by rw[rV,N7 ho]
      obtain ⟨y1,y2,y3⟩:=hk2 ho;have hFk:=GY (f:=upd aA L (some bz)) ho y2;rw[hv] at hF1;generalize rO P k2 (upd aA L (some bz))=F at*
      have x7:¬(k2=n2):=by omega
      have x8:¬(k2=1):=y2;have x9:¬(1=k2):=PU y2;have x10:¬(L=k2):=PU y3;have hcl:=AM P;have r1:(P.length+1)*32<=140737488355328:=Oz (PB _ (Nat.succ_le_succ hPn)) al;have r2:P.length+1<4611686018427387904:=by omega
      have hcs:=yn P ⟨ck,cv⟩;simp only at hcs;refine rf0 (cj6 i1 i3 i4 cl hai @NZ) ?_;refine Wp.pT ?_;refine aw.evF (xAd (cj2 x1 hF1)) ?_;refine aw.opK ae (by simp only[lS,go_sem,reduceIte,Nat.reduceEqDiff,Nat.reduceAdd,bx,List.all_cons,List.all_nil,List.length_cons,List.length_nil,x7,hFk,qg,hcl,r1,r2,Oe,N9,N5,Ow,O7,hcs];exact rfl) ?_;simp only[bq];refine aw.evF (xAd (cj5 x1 x2 x3 x9 hF1)) ?_;refine dG ?_;refine ⟨(i2+1,n2+1,n2+2),⟨hci,by show L<n2+2;omega,λ_=>⟨by show n2+1<n2+2;omega,by show n2+1≠1;omega,by show n2+1≠L;omega⟩⟩,O5 hci (OD _),?_⟩;rw[hsn2];refine aL.of (aS ?_) (GZ ?_ (λ_=>?_) (OLe.one ?_)) (λ_ h=>h) (NY _) (NY _)
      ·exact bY i5
      ·have:P++[cY ⟨ck,cv,cd⟩]≠[]:=by simp
       simp[upd,rV,this]
      ·simp only[upd];rw[N7 (show ¬(n2+1=1) by omega),Of trivial];simp[qg,cY]
      ·simp only[upd,x4,x5,x6,x10,N5];exact hFL
    ·have hi3:i2=r.length:=by omega
     subst hi3;have ig:=dZ r.length;rw[Ot] at hk2 |-;refine rf0 ig ?_;simp only[aM.inBlock];refine ⟨tt,true,.ready,none,?_,.normal,λ_ _=> .inl ⟨rfl,k2,n2,m2,?_,hn3,hk2⟩⟩
     ·show rO _ _ _ L=_;rw[lI hL1 (λh=>PU (hk2 h).2.2),<-hbz];simp[upd]
     ·simp only[hIn];rw[vX hL1 (λh=>(hk2 h).2.2)]
   ·exact ⟨k,L+1,mm,by simp only[hIn,qN,List.take_zero,List.flatten_nil,OE,ON];rw[K8 hL1 (λh=>by have:=(hkL h).1;omega)],aa,by simpa [qN] using λh=>⟨by have:=(hkL h).1;omega,(hkL h).2,by have:=(hkL h).1;omega⟩⟩
   ·rintro r h' ⟨rfl,⟨k',n',m',rfl,q1,q2⟩|hx⟩
    case inr=>exact absurd hx (λh=>h)
    have hall:qN R R.length=R.flatten.map cY:=by unfold qN;rw[Ot]
    rw[hall,<-hsn] at q2 |-;refine ⟨tt,.ready,none,.normal,?_,by simp,.none,?_⟩
    ·show rO _ _ _ L=_;rw[lI hL1 (λh=>PU (q2 h).2.2)];simp[upd]
    ·simp only[hIn];rw[K7 hL1 (λh=>(q2 h).2.2)];simp only[aM.inBlock,aM.andThen];rw[<-hT];refine rf0 e1 ?_;refine ⟨(j+1,k',n',m'),⟨hc,by show 2<=n';omega,λh=>⟨(q2 h).1,(q2 h).2.1⟩⟩,O5 hc (OD _),?_⟩;refine aL.tm ?_;exact xSb
  ·have hj2:j=m.length:=by omega
   subst hj2;have g1:=dZ m.length;rw[Ot] at hk |-;have hF1:=GX (aN m) k aA;by_cases ho:aN m=[]
   ·have hv:rV (aN m) k= .sl 2 [] (.exact 0):=by rw[rV,Of ho]
    have he:aH (aN m)=[]:=by rw[ho];rfl
    rw[hv] at hF1;generalize rO (aN m) k aA=F at*
    rw[he] at q1;refine rf1 (cj2 g1 hF1) Jg ?_;refine aG ?_;exact q1 _ rfl
   ·have hv:rV (aN m) k= .tsl 2 k 0 (aN m).length none:=by rw[rV,N7 ho]
    obtain ⟨y1,y2⟩:=hk ho;have hFk:=GY (f:=aA) ho y2;rw[hv] at hF1;obtain ⟨p1,p2⟩:=sO (gF hm) (sQ hm);have hsort:=KE (aN m) (aH (aN m)) (Qb.2 ho) aa p1 (Gr (gF hm)) (Ao (gF hm)) (iE _) p2 (id:=k) (h:=⟨rO (aN m) k aA,n,[],mm⟩) hFk rfl;have x9:¬(1=k):=PU y2;generalize rO (aN m) k aA=F at*
    refine rf0 (cj2 g1 hF1) ?_;refine aw.jF (h':=⟨upd F k (some (.cells ((aH (aN m)).flatMap encA))),n,[],mm⟩) ae xA4 ⟨NY _,NY _⟩ hsort ?_;refine aw.evF xAc ?_;refine rf0 (cj2 x9 hF1) ?_;refine aG ?_;rw[<-p1];exact q2 k _ (by simp[upd]) rfl y1
theorem kN(m:List Bk)(hf:Few m)(hF:imB m=true->(aN m).length<=100000):aI Tryz.prog 13 [bB m] (.tup [.sl 2 (prs (if imB m=true then aH (aN m) else [])) .any,.int .i64 (imE m)]):=by
 obtain ⟨r,h',hc,u⟩:=Cc m hf hF (Q:=λq h=>UpK h q (.tup [.sl 2 (prs (if imB m=true then aH (aN m) else [])) .any,.int .i64 (imE m)])) (λh e=>by
  rw[e];exact .inl (av.tup (ay.cons av.cap (ay.refl _)))) (λhm k h e _ _=>by
  have hE:imE m=0:=by unfold imE;rw[Of hm]
  rw[Of hm,hE];refine .inr ⟨(aH (aN m)).map encA,k,2,[.int .i64 0],by rw[O2],λx hx=>?_,?_,?_⟩
  ·obtain ⟨p,-,rfl⟩:=Oo.1 hx;rfl
  ·simpa [List.flatMap] using e
  ·refine av.of_eq ?_;simp[prs,cw,encA])
 exact (hc.upK u).wQ (cB _ (by simp[aF,bW])) (av.refl _) (dL _ (by simp[aO,aF,aU,dw]))
def G4(p:Pr):Bool:=decide ((bc p.k).k=1)
def Jh(p:Pr):Bk:=⟨(bc p.k).b,stV p.v,[]⟩
def bk1(l:List Pr):List Bk:=(l.filter G4).map Jh
def cell0(b:Bk):List AV:=[.str b.n,.int .i64 b.st,.sl 8 [] (.exact 0)]
def zIm:Av.Obj:= .cells [.sl 3 [] (.exact 0)]
def mV(o:List Bk)(k:Nat):AV:=if o=[] then .sl 3 [] (.exact 0) else .tsl 3 k 0 o.length none
def fR(v:AV):Nat->Option Av.Obj:=upd (upd aA 0 (some zIm)) 1 (some (.cells [v]))
def mO(o:List Bk)(k:Nat):Nat->Option Av.Obj:=if o=[] then fR (mV o k) else upd (fR (mV o k)) k (some (.cells (o.flatMap cell0)))
def QI(A:AV):aM->St->Prop:=λe s'=>iN e/\∃q,iA [.cell 2 (some 1),.tmp 3] s'.t s'.h=some q/\UpF s'.h q A
def gZ:AC:=tlA (tlA (tlA c21))
theorem Ji:c21= .seq (hdA c21) (.seq (hdA (tlA c21)) (.seq (hdA (tlA (tlA c21))) gZ)):=rfl
def lJ:AV:= .tup [.agg [.sl 3 [] .any],.int .i64 4]
theorem bj(l:List Pr)(j:Nat)(d:AV)(h:j<l.length):(prs l).getD j d= .agg [.str (l.getD j default).k,.str (l.getD j default).v]:=by
 simp[prs,cw,List.getD,N0 h]
theorem G5(l:List Pr)(j:Nat)(h:j<l.length):bk1 (l.take (j+1))=if G4 (l.getD j default) then bk1 (l.take j)++[Jh (l.getD j default)] else bk1 (l.take j):=by
 have e:l.getD j default=l[j]:=by simp[List.getD,N0 h]
 unfold bk1;rw[Ov h,e,List.filter_append];cases hi:G4 l[j] <;>simp[hi]
theorem AN(l:List Pr):(bk1 l).length<=l.length:=by
 unfold bk1;rw[O2];exact QD _ _
theorem uM:∀P:List Bk,(P.flatMap cell0).length=P.length*3
 |[]=>rfl
 |a::P=>by
  have:=uM P;simp only[Py,N6,List.length_cons];have:(cell0 a).length=3:=rfl;omega
theorem K9(l:List Pr)(hl:l.length<=2000)(hk:∀p∈l,p.k.length<=140737488355328)(A:AV)
  (hbad:l.all (λp=>cD p.k)=false->av lJ A)
  (HR:l.all (λp=>cD p.k)=true->∀k n m,2<=n->(bk1 l≠[]->2<=k/\k<n)->Wp Tryz.prog 146 gZ ⟨tm [(0,.sl 2 (prs l) .any),(2,.ptr 0 0),(4,.ptr 1 0)],⟨mO (bk1 l) k,n,[],m⟩⟩ (QI A)):
  Wp Tryz.prog 146 c21 ⟨gN [.sl 2 (prs l) .any],H0 0 0⟩ (QI A):=by
 rw[Ji];generalize gZ=R at*
 unfold c21 zz;simp only[hdA,tlA];have lp:=aP l;refine dG ?_;refine Wp.cI [0,2,4] xA7 (λj:Nat × Nat × Nat × Nat=>[(5,.int .i64 (j.1:Nat))]) (λj=>⟨mO (bk1 (l.take j.1)) j.2.1,j.2.2.1,[],j.2.2.2⟩) (λj=>j.1<=l.length/\2<=j.2.2.1/\(bk1 (l.take j.1)≠[]->2<=j.2.1/\j.2.1<j.2.2.1)/\(l.take j.1).all (λp=>cD p.k)=true) (λj=>l.length - j.1) (0,0,2,0) ⟨Og _,by decide,λh=>absurd rfl h,rfl⟩ rfl ?_ ?_
 ·exact xSb
 rintro ⟨j,k,n,m⟩ ⟨hj,hn2,hkn,hall⟩;simp only at hj hn2 hkn hall;by_cases hc:j<l.length
 ·obtain ⟨g1,g2,g3,e1⟩:=cK hc aa;have hat:=bj l j .any hc;have hsn:=G5 l j hc;have hle:=AN (l.take j);have hlt:(l.take j).length=j:=by simp;omega
  have hget:l.getD j default=l[j]:=by simp[List.getD,N0 hc]
  have hmem:l.getD j default∈l:=by rw[hget];exact O0 hc
  have halls:(l.take (j+1)).all (λp=>cD p.k)=cD (l.getD j default).k:=by
   rw[Ov hc,List.all_append,hall,hget];simp
  have cp:=xV (l.getD j default).k (hk _ hmem);have hpe:mH (l.getD j default).k=if cD (l.getD j default).k then 0 else 4:=rfl
  have n0:¬(0=n):=by omega
  have n1:¬(1=n):=by omega
  have n2:¬(n=0):=by omega
  have n3:¬(n=1):=by omega
  have z1:¬(1=n+1):=by omega
  have z2:¬(n+1=1):=by omega
  have z3:¬(0=n+1):=by omega
  have z4:¬(n+1=n):=by omega
  have z5:¬(n=n+1):=by omega
  have f0:mO (bk1 (l.take j)) k 0=some zIm:=by
   unfold mO;by_cases ho:bk1 (l.take j)=[]
   ·rw[Of ho];rfl
   ·obtain ⟨k1,k2⟩:=hkn ho;rw[N7 ho];simp only[upd,fR];rw[N7 aa];rfl
  have f1:mO (bk1 (l.take j)) k 1=some (.cells [mV (bk1 (l.take j)) k]):=by
   unfold mO;by_cases ho:bk1 (l.take j)=[]
   ·rw[Of ho];rfl
   ·obtain ⟨k1,k2⟩:=hkn ho;rw[N7 ho];simp only[upd,fR];rw[N7 aa];rfl
  have fn:∀a,n<=a->mO (bk1 (l.take j)) k a=none:=λa ha=>by
   have a0:a≠0:=by omega
   have a1:a≠1:=by omega
   unfold mO;by_cases ho:bk1 (l.take j)=[]
   ·rw[Of ho];simp[fR,upd,aA,a0,a1]
   ·obtain ⟨k1,k2⟩:=hkn ho;have ak:a≠k:=by omega
    rw[N7 ho];simp[fR,upd,aA,a0,a1,ak]
  unfold zIm at f0;cases hb:cD (l.getD j default).k with
  |false=>
   rw[hb] at hpe;rw[hpe] at cp;have hA:av lJ A:=hbad (by
    rw[List.all_eq_false];exact ⟨_,hmem,by rw[hb];simp⟩)
   unfold dp at cp;generalize bc (l.getD j default).k=key at*
   generalize mO (bk1 (l.take j)) k=F at*
   refine rf1 (gv g1 g2 g3 lp hat f0 f1 n0 n1 @NZ) cp ?_;refine Wp.ret (show QI A .ret _ from ⟨trivial,_,rfl,.inl (av.trans ?_ hA)⟩);exact av.tup (ay.cons (av.agg (ay.cons av.cap ay.nil)) (ay.cons (av.refl _) ay.nil))
  |true=>
   rw[hb] at hpe halls;rw[hpe] at cp;have hk1:G4 (l.getD j default)=decide ((bc (l.getD j default).k).k=1):=rfl;have hbo:Jh (l.getD j default)=⟨(bc (l.getD j default).k).b,stV (l.getD j default).v,[]⟩:=rfl;unfold dp at cp;generalize bc (l.getD j default).k=key at*
   cases dk:decide (key.k=1) with
   |false=>
    rw[hk1,dk] at hsn;simp only[Oa,N5] at hsn;generalize hF:mO (bk1 (l.take j)) k=F at*
    refine rf1 (gw g1 g2 g3 lp hat f0 f1 n0 n1 dk @NZ) cp ?_;refine ⟨(j+1,k,n+1,m),⟨by simp only;omega,by simp only;omega,?_,by simp only;rw[halls]⟩,by simp only;omega,?_⟩
    ·simp only;rw[hsn];exact λh=>⟨(hkn h).1,by have:=(hkn h).2;omega⟩
    ·rw[hsn,hF];refine aL.of (aS ?_) (λa u hu=>⟨u,?_,cy.refl _⟩) (λx hx=>hx) (NY _) (NY _)
     ·exact bY e1
     ·have an:a≠n:=by
       rintro rfl;have:=fn a (NY _);rw[this] at hu;cases hu
      simp only[upd,an,N5];exact hu
   |true=>
    rw[hk1,dk] at hsn;simp only[N9] at hsn;have cs:=vQ (l.getD j default).v;rw[hbo] at hsn;generalize hP:bk1 (l.take j)=P at*
    by_cases ho:P=[]
    ·subst ho;have hv:mV [] k= .sl 3 [] (.exact 0):=rfl;rw[hv] at f1;generalize hF:mO [] k=F at*
     refine rf2 (gw g1 g2 g3 lp hat f0 f1 n0 n1 dk @NZ) cp cs ?_;refine Wp.pT ?_;refine aw.op1 ae (by simp only[go_sem,reduceIte,Nat.reduceEqDiff,Nat.reduceAdd,bx,ax,N9,N5,Nat.reduceMul,Nat.reduceLeDiff,n1,f1];exact rfl) ?_;simp only[bq];refine aw.op1 ae (by simp only[go_sem,reduceIte,Nat.reduceEqDiff,Nat.reduceAdd,bx,ax,N9,N5,Nat.reduceMul,Nat.reduceLeDiff,n1,f1];exact rfl) ?_;simp only[bq];refine aw.op1 ae (by simp only[go_sem,reduceIte,Nat.reduceEqDiff,Nat.reduceAdd,bx,ax,N9,N5,Nat.reduceMul,Nat.reduceLeDiff,n1,f1];exact rfl) ?_;simp only[bq];refine aw.op1 ae (by simp only[go_sem,reduceIte,Nat.reduceEqDiff,Nat.reduceAdd,bx,ax,N9,N5,Nat.reduceMul,Nat.reduceLeDiff,n1,f1];exact rfl) ?_;simp only[bq];refine aw.op1 ae (by simp only[go_sem,reduceIte,Nat.reduceEqDiff,Nat.reduceAdd,bx,ax,N9,N5,Nat.reduceMul,Nat.reduceLeDiff,n1,f1];exact rfl) ?_;simp only[bq];refine aw.op1 ae (by simp only[go_sem,reduceIte,Nat.reduceEqDiff,Nat.reduceAdd,bx,ax,N9,N5,Nat.reduceMul,Nat.reduceLeDiff,n1,f1];exact rfl) ?_;simp only[bq];refine aw.op1 ae (by simp only[go_sem,reduceIte,Nat.reduceEqDiff,Nat.reduceAdd,bx,ax,N9,N5,Nat.reduceMul,Nat.reduceLeDiff,n1,f1];exact rfl) ?_;simp only[bq];refine aw.opT ae (by simp only[jt,go_sem,reduceIte,Nat.reduceEqDiff,Nat.reduceAdd,bx,List.all_cons,List.all_nil,List.length_cons,List.length_nil,Nat.reduceMul,Nat.reduceLeDiff,Nat.reduceLT,Qw,Oe,N9,Ow,O7];exact rfl) ?_;simp only[bq];refine aw.evF (xAd (gv n0 n1 n2 n3 z1 z2 z3 z4 z5 f1)) ?_;refine dG ?_;refine ⟨(j+1,n+1,n+2,m),⟨by simp only;omega,by simp only;omega,λ_=>⟨by simp only;omega,by simp only;omega⟩,by simp only;rw[halls]⟩,by simp only;omega,?_⟩;rw[hsn];have hmO:mO ([]++[⟨key.b,stV (l.getD j default).v,[]⟩]) (n+1)=upd (fR (.tsl 3 (n+1) 0 (0+1) none)) (n+1) (some (.cells (([]++[(⟨key.b,stV (l.getD j default).v,[]⟩:Bk)]).flatMap cell0))):=by
      unfold mO mV;rw[N7 af,N7 af,N6];rfl
     rw[hmO];refine aL.of (aS ?_) (λa u hu=>⟨u,?_,cy.refl _⟩) (λx hx=>hx) (NY _) (NY _)
     ·exact bY e1
     ·simp only[upd,fR,aA,zIm] at hu |-;by_cases an:a=n+1
      ·subst an;simp only[z2,N5,N9] at hu |-;rw[<-hu];simp[cell0,cellsOf,vss]
      ·by_cases a1:a=1
       ·subst a1;simpa [an,n2] using hu
       ·by_cases a0:a=0
        ·subst a0;simp only[an,a1,n0,N5,N9] at hu |-;rw[f0];exact hu
        ·simp[an,a1,a0] at hu
    ·have hv:mV P k= .tsl 3 k 0 P.length none:=by unfold mV;rw[N7 ho]
     obtain ⟨y1,y2⟩:=hkn ho;have fk:mO P k k=some (.cells (P.flatMap cell0)):=by unfold mO;rw[N7 ho];simp[upd]
     rw[hv] at f1;generalize hF:mO P k=F at*
     have x0:¬(0=k):=by omega
     have x7:¬(k=n):=by omega
     have x8:¬(k=1):=by omega
     have x9:¬(1=k):=by omega
     have hcl:=uM P;have r1:(P.length+1)*48<=140737488355328:=by omega
     have r2:P.length+1<4611686018427387904:=by omega
     refine rf2 (gw g1 g2 g3 lp hat f0 f1 n0 n1 dk @NZ) cp cs ?_;refine aw.opK ae (by simp only[lS,go_sem,reduceIte,Nat.reduceEqDiff,Nat.reduceAdd,bx,List.all_cons,List.all_nil,List.length_cons,List.length_nil,x7,fk,hcl,r1,r2,Oe,N9,N5,Ow,O7];exact rfl) ?_;simp only[bq];refine aw.evF (xAd (gw n0 n1 n2 n3 z1 z2 z3 z4 z5 x9 f1)) ?_;refine dG ?_;refine ⟨(j+1,n+1,n+2,m),⟨by simp only;omega,by simp only;omega,λ_=>⟨by simp only;omega,by simp only;omega⟩,by simp only;rw[halls]⟩,by simp only;omega,?_⟩;rw[hsn];have hmO:mO (P++[⟨key.b,stV (l.getD j default).v,[]⟩]) (n+1)=upd (fR (.tsl 3 (n+1) 0 (P.length+1) none)) (n+1) (some (.cells ((P++[(⟨key.b,stV (l.getD j default).v,[]⟩:Bk)]).flatMap cell0))):=by
      unfold mO mV;rw[N7 af,N7 af,N6];rfl
     rw[hmO];refine aL.of (aS ?_) (λa u hu=>⟨u,?_,cy.refl _⟩) (λx hx=>hx) (NY _) (NY _)
     ·exact bY e1
     ·simp only[upd,fR,aA,zIm] at hu |-;by_cases an:a=n+1
      ·subst an;simp only[z2,N5,N9] at hu |-;rw[<-hu];simp[cell0,cellsOf,vss]
      ·by_cases a1:a=1
       ·subst a1;simpa [an,n2] using hu
       ·by_cases a0:a=0
        ·subst a0;simp only[an,a1,n0,x0,N5,N9] at hu |-;rw[f0];exact hu
        ·simp[an,a1,a0] at hu
 ·have hj2:j=l.length:=by omega
  subst hj2;rw[Ot] at hkn hall |-;have ig:=dZ l.length;have W:=HR hall k n m hn2 hkn;refine rf0 (cj2 ig lp) ?_;show Wp Tryz.prog 146 R _ _;refine Wp.le (aL.of (aS ?_) (OLe.bK _) (λx hx=>hx) (NY _) (NY _)) W;exact xSb
theorem Jj(a b:List Pr)(ha:a.length<=1000000)(hb:b.length<=1000000):aI Tryz.prog 17 [.sl 2 (prs a) .any,.sl 2 (prs b) .any] (.bool (decide (a=b))):=by
 refine f17.aE af (by simp[aF,aO,aU,dw]) rfl ?_;unfold c17 zz;have lea:=aP a;have leb:=aP b;by_cases hlen:a.length=b.length
 ·have e0:decide (((a.length:Nat):Int)=((b.length:Nat):Int))=true:=N3 aa;refine rn0 (cj4 lea leb e0 @OB) ?_;refine Wp.dB [0,1] xA6 (λj:Nat=>[(5,.int .i64 (j:Nat))]) (λj=>j<=a.length/\a.take j=b.take j) (λj=>a.length - j) 0 ⟨Og _,rfl⟩ ?_ ?_
  ·exact xSb
  rintro j ⟨hj,hpre⟩;by_cases hc:j<a.length
  ·obtain ⟨g1,g2,g3,e1⟩:=cK hc (Oz ha al);have g4:(j:Int)<(b.length:Int):=by omega
   have hat:=bj a j .any hc;have hbt:=bj b j .any aa;have ea:a.getD j default=a[j]:=by simp[List.getD,N0 hc]
   have eb:b.getD j default=b[j]:=by simp[List.getD,N0 (show j<b.length by omega)]
   by_cases hp:a.getD j default=b.getD j default
   ·have hnext:a.take (j+1)=b.take (j+1):=by
     rw[Ov hc,Ov (show j<b.length by omega),hpre,<-ea,<-eb,hp]
    rw[<-hp] at hbt;generalize a.getD j default=p at*
    refine rn0 (aY g1 g2 g3 g4 lea leb hat hbt @NZ @PC.{0} @QW.{0} (cj4 @Ow @O7 @Ol.{0,0} @OB)) ?_;refine ⟨j+1,⟨aa,hnext⟩,O5 hc (OD _),?_⟩;exact u5 e1
   ·have hne:decide (a=b)=false:=N1 λh=>hp (by rw[h]);rw[hne];generalize a.getD j default=p at*
    generalize b.getD j default=q at*
    have dpq:(decide (p.k=q.k)&&decide (p.v=q.v))=false:=by
     rw[Bool.and_eq_false_iff];by_cases h1:p.k=q.k
     ·refine .inr (N1 λh2=>hp ?_);obtain ⟨pk,pv⟩:=p;obtain ⟨qk,qv⟩:=q;simp only at h1 h2;rw[h1,h2]
     ·exact .inl (N1 h1)
    refine rn0 (aY g1 g2 g3 g4 lea leb hat hbt dpq @NZ @Ol.{0,0} @OK) ?_;refine aG ?_;exact av.refl _
  ·have hj2:j=a.length:=by omega
   subst hj2;have g1:=dZ a.length;have he:decide (a=b)=true:=by
    rw[Ot,hlen,Ot] at hpre;exact N3 hpre
   rw[he];refine rn0 (cj2 g1 lea) ?_;refine aG ?_;exact av.refl _
 ·have e0:decide (((a.length:Nat):Int)=((b.length:Nat):Int))=false:=N1 aa;have hne:decide (a=b)=false:=N1 λh=>hlen (by rw[h]);rw[hne];refine rn0 (cj4 lea leb e0 @OK) ?_;refine aG ?_;exact av.refl _
theorem Jk(a b:List Pr)(ha:a.length<=1000000)(hb:b.length<=1000000):aI Tryz.prog 65 [.sl 2 (prs a) .any,.sl 2 (prs b) .any] (.bool (decide (a=b))):=by
 refine f65.aE af (by simp[aF,aO,aU,dw]) rfl ?_;unfold c65 zz;have lea:=aP a;have leb:=aP b;by_cases hlen:a.length=b.length
 ·have e0:decide (((a.length:Nat):Int)=((b.length:Nat):Int))=true:=N3 aa;refine rn0 (cj4 lea leb e0 @OB) ?_;refine Wp.dB [0,1,12] xA6 (λj:Nat=>[(13,.int .i64 (j:Nat))]) (λj=>j<=a.length/\a.take j=b.take j) (λj=>a.length - j) 0 ⟨Og _,rfl⟩ ?_ ?_
  ·exact xSb
  rintro j ⟨hj,hpre⟩;by_cases hc:j<a.length
  ·obtain ⟨g1,g2,g3,e1⟩:=cK hc (Oz ha al);have g4:(j:Int)<(b.length:Int):=by omega
   have hat:=bj a j .any hc;have hbt:=bj b j .any aa;have ea:a.getD j default=a[j]:=by simp[List.getD,N0 hc]
   have eb:b.getD j default=b[j]:=by simp[List.getD,N0 (show j<b.length by omega)]
   by_cases hp:a.getD j default=b.getD j default
   ·have hnext:a.take (j+1)=b.take (j+1):=by
     rw[Ov hc,Ov (show j<b.length by omega),hpre,<-ea,<-eb,hp]
    rw[<-hp] at hbt;generalize a.getD j default=p at*
    refine rn0 (aY g1 g2 g3 g4 lea leb hat hbt @NZ @PC.{0} @QW.{0} (cj4 @Ow @O7 @Ol.{0,0} @OB)) ?_;refine ⟨j+1,⟨aa,hnext⟩,O5 hc (OD _),?_⟩;exact u5 e1
   ·have hne:decide (a=b)=false:=N1 λh=>hp (by rw[h]);rw[hne];generalize a.getD j default=p at*
    generalize b.getD j default=q at*
    have dpq:(decide (p.k=q.k)&&decide (p.v=q.v))=false:=by
     rw[Bool.and_eq_false_iff];by_cases h1:p.k=q.k
     ·refine .inr (N1 λh2=>hp ?_);obtain ⟨pk,pv⟩:=p;obtain ⟨qk,qv⟩:=q;simp only at h1 h2;rw[h1,h2]
     ·exact .inl (N1 h1)
    refine rn0 (aY g1 g2 g3 g4 lea leb hat hbt dpq @NZ @Ol.{0,0} @OK) ?_;refine aG ?_;exact av.refl _
  ·have hj2:j=a.length:=by omega
   subst hj2;have g1:=dZ a.length;have he:decide (a=b)=true:=by
    rw[Ot,hlen,Ot] at hpre;exact N3 hpre
   rw[he];refine rn0 (cj2 g1 lea) ?_;refine aG ?_;exact av.refl _
 ·have e0:decide (((a.length:Nat):Int)=((b.length:Nat):Int))=false:=N1 aa;have hne:decide (a=b)=false:=N1 λh=>hlen (by rw[h]);rw[hne];refine rn0 (cj4 lea leb e0 @OK) ?_;refine aG ?_;exact av.refl _
def jY(b:Bk):List AV:=[.str b.n,.int .i64 b.st,.sl 8 (vss b.l) .any]
theorem yp(m:List Bk):(m.map jY).map AV.agg=bks m:=by
 rw[Qe];rfl
def s5:AC:=tlA gZ
def yq(l:List Pr)(m:List Bk):AV:=if (decide (imE m=0)&&decide ((if imB m=true then aH (aN m) else [])=l))=true then .tup [bB m,.int .i64 0] else lJ
theorem La(l:List Pr)(hl:l.length<=2000)(m:List Bk)(hf:Few m)(hF:imB m=true->(aN m).length<=100000)(n mm:Nat):
  Wp Tryz.prog 146 s5 ⟨tm [(0,.sl 2 (prs l) .any),(2,.ptr 0 0),(4,.ptr 1 0)],⟨fR (.sl 3 (bks m) .any),n,[],mm⟩⟩ (QI (yq l m)):=by
 have cp:=nt m hf hF;have hen:bB m= .agg [.sl 3 (bks m) .any]:=rfl;rw[hen] at cp;have hsl:(if imB m=true then aH (aN m) else []).length<=1000000:=by
  split
  ·rename_i hb;have:=vH (aN m);have:=hF hb;omega
  ·simp
 have cs:=Jj (if imB m=true then aH (aN m) else []) l hsl aa;have hA:yq l m=if (decide (imE m=0)&&decide ((if imB m=true then aH (aN m) else [])=l))=true then .tup [bB m,.int .i64 0] else lJ:=rfl
 rw[hA,hen];generalize (if imB m=true then aH (aN m) else [])=again at*
 unfold s5 gZ c21 fR zIm zz;simp only[tlA];cases de:decide (imE m=0) with
 |false=>
  rw[O6,N7 af];refine rf1 de cp ?_;refine Wp.ret (show QI _ .ret _ from ⟨trivial,_,rfl,.inl ?_⟩);exact av.tup (ay.cons (av.agg (ay.cons av.cap ay.nil)) (ay.cons (av.refl _) ay.nil))
 |true=>
  rw[OP];cases dg:decide (again=l) with
  |false=>
   rw[dg] at cs;rw[N7 af];refine rf2 de cp cs ?_;refine Wp.ret (show QI _ .ret _ from ⟨trivial,_,rfl,.inl ?_⟩);exact av.tup (ay.cons (av.agg (ay.cons av.cap ay.nil)) (ay.cons (av.refl _) ay.nil))
  |true=>
   rw[dg] at cs;rw[Of rfl];refine rf2 de cp cs ?_;refine Wp.ret (show QI _ .ret _ from ⟨trivial,_,rfl,.inl ?_⟩);exact av.refl _
def lK(L:List Pr):List Bk:=match kM L L.length with
 |some S=>S.1
 |none=>[]
def gu(L:List Pr):Bool:=match kM L L.length with
 |some S=>decide (S.2=[])&&(decide (imE S.1=0)&&decide ((if imB S.1=true then aH (aN S.1) else [])=L))
 |none=>false
def QM(L:List Pr):aM->St->Prop:=λe s'=>if gu L=true then e= .normal/\s'.h.objs 3=some (.cells [.sl 3 (bks (lK L)) .any,.mp 2])/\s'.h.objs 1=some (.cells [.sl 3 [] (.exact 0)])/\s'.h.objs 4=some (.cells [.ptr 3 0]) else e= .panic v4/\s'.h.objs 1=some (.cells [.sl 3 [] (.exact 0)])
theorem qh{L:List Pr}(h:gu L=false){s':St}(h1:s'.h.objs 1=some (.cells [.sl 3 [] (.exact 0)])):QM L (.panic v4) s':=by
 unfold QM;rw[h,N7 af];exact ⟨rfl,h1⟩
theorem yr{L:List Pr}{j:Nat}(h:kM L j=none):∀k,kM L (j+k)=none
 |0=>h
 |k+1=>by
  have:=yr h k;rw[show j+(k+1)=(j+k)+1 by omega];simp only[kM];rw[this];rfl
theorem G6{L:List Pr}{j:Nat}(hj:j<=L.length)(h:kM L j=none):gu L=false:=by
 have:=yr h (L.length - j);rw[show j+(L.length - j)=L.length by omega] at this;unfold gu;rw[this]
theorem Jl(m:List Bk)(v:Vs):∀i,i<m.length->((sZ m i v).map λb=>b.l.length).sum=(m.map λb=>b.l.length).sum+1:=by
 unfold sZ;induction m with
 |nil=>intro i hi;simp at hi
 |cons b m ih=>
  intro i hi;cases i with
  |zero=>simp[List.getD];omega
  |succ i=>
   have:=ih i (by simpa using hi);simp only[List.set_cons_succ,Oy,List.sum_cons];have e:(b::m).getD (i+1) default=m.getD i default:=by simp[List.getD]
   rw[e,this];omega
theorem Eh{S S':SS}{p:Pr}(h:lH S p=some S'):S'.1.length+(S'.1.map λb=>b.l.length).sum<=S.1.length+(S.1.map λb=>b.l.length).sum+1:=by
 unfold lH at h;split at h
 ·unfold lU at h;split at h
  ·split at h
   ·cases h;simp;omega
   ·cases h
  ·split at h
   ·split at h
    ·cases h;simp only;omega
    ·cases h
   ·split at h
    ·split at h
     ·split at h
      ·rename_i ht;cases h;have hi:jy (S.1.map Bk.n) (bc p.k).b<S.1.length:=by
        unfold gh at ht;simp only[Ob,Oj,O2] at ht;exact ht.1
       have hl:∀v,(sZ S.1 (jy (S.1.map Bk.n) (bc p.k).b) v).length=S.1.length:=λv=>by simp[sZ]
       simp only;rw[Jl _ _ _ hi,hl];omega
      ·cases h
     ·cases h
    ·cases h
 ·cases h
theorem qi(L:List Pr):∀(j:Nat){S:SS},kM L j=some S->S.1.length+(S.1.map λb=>b.l.length).sum<=j
 |0,S,h=>by cases h;simp
 |j+1,S,h=>by
  simp only[kM] at h;obtain ⟨S0,h0,h1⟩:=OZ.1 h;have:=qi L j h0;split at h1
  ·have:=Eh h1;omega
  ·cases h1
theorem lL{m:List Bk}(h:imB m=true):(aN m).length<=m.length+17*(m.map λb=>b.l.length).sum:=by
 have key:∀b∈m,(fF b).length<=1+17*b.l.length:=λb hx=>by
  have ho:=lN h hx;have e:(fF b).length=1+((b.l.map (cT b.n)).flatten).length:=by
   unfold fF bD;rw[O2,List.flatten_cons,N6];rfl
  rw[e];have hv:∀l:List Vs,(∀v∈l,v.okV=true)->((l.map (cT b.n)).flatten).length<=17*l.length:=by
   intro l;induction l with
   |nil=>intro _;simp
   |cons v l ih=>
    intro hv;have h1:=ih λu hu=>hv u (by simp[hu]);have h2:=lE (pc (hv v af)).2;have h3:(cT b.n v).length=dI v.b+1:=by simp[cT]
    simp only[Oy,List.flatten_cons,N6,List.length_cons,h3];omega
  have:=hv b.l λv hv=>uF ho hv;omega
 clear h;induction m with
 |nil=>simp[aN]
 |cons b m ih=>
  have h1:=ih λu hu=>key u (by simp[hu]);have h2:=key b af;unfold aN at*
  simp only[Oy,List.flatten_cons,N6,List.length_cons,List.sum_cons];omega
theorem nC.ext{L:List Pr}{F F':Nat->Option Av.Obj}{n n':Nat}{toks:List Nat}{m:Nat}{bt:List (Bk × Nat)}{q:List Pc}{J:Nat}(I:nC L ⟨F,n,toks,m⟩ bt q J)(hF:∀a,a<n->F' a=F a)(hn:n<=n'):nC L ⟨F',n',toks,m⟩ bt q J:=by
 obtain ⟨k,f3,hrow⟩:=I.row;have h5:=I.hn;simp only at h5;refine ⟨⟨k,(hF 3 aa).trans f3,λho=>?_⟩,(hF 2 aa).trans I.mp,(hF 0 aa).trans I.o0,(hF 1 aa).trans I.o1,(hF 4 aa).trans I.o4,by simp only;omega,I.tk,I.tm,I.nd,I.len,I.vers,I.pcs⟩;obtain ⟨a,b,cs,c,d⟩:=hrow ho;simp only at b;exact ⟨a,by simp only;omega,cs,(hF k b).trans c,d⟩
theorem s6:∀bt:List (Bk × Nat),ay (fD bt) (((bt.map Prod.fst).map jY).flatten)
 |[]=>ay.nil
 |x::bt=>by
  have ih:=s6 bt;have e1:fD (x::bt)= .str x.1.n:: .int .i64 x.1.st:: .sl 8 (vss x.1.l) (.own x.2)::fD bt:=rfl;have e2:(((x::bt).map Prod.fst).map jY).flatten= .str x.1.n:: .int .i64 x.1.st:: .sl 8 (vss x.1.l) .any::((bt.map Prod.fst).map jY).flatten:=rfl;rw[e1,e2];exact ay.cons (av.refl _) (ay.cons (av.refl _) (ay.cons av.cap ih))
def mM:AC:=tlA c63
theorem Jm{L:List Pr}{h:H}{bt:List (Bk × Nat)}{q:List Pc}{J:Nat}(I:nC L h bt q J)(N:Nat):∃h',aL ⟨tm [(0,.ptr 0 0),(1,.ptr 4 0)],h⟩ ⟨tm [(0,.ptr 0 0),(1,.ptr 4 0)],h'⟩/\h'.objs 3=some (.cells [.sl 3 (bks (bt.map Prod.fst)) .any,.mp 2])/\h'.objs 2=some (.map (gH q))/\h'.objs 0=some (.cells [.sl 2 (prs L) .any])/\h'.objs 1=some (.cells [.sl 3 [] (.exact 0)])/\h'.objs 4=some (.cells [.ptr 3 0]):=by
 obtain ⟨F,n,toks,m⟩:=h;obtain ⟨k,f3,hrow⟩:=I.row;have f2:=I.mp;have f0:=I.o0;have f1:=I.o1;have f4:=I.o4;simp only at f3 hrow f2 f0 f1 f4;by_cases ho:bt=[]
 ·subst ho;have hv:bV [] k= .sl 3 [] (.exact 0):=rfl;rw[hv] at f3;refine ⟨⟨upd F 3 (some (.cells [.sl 3 [] .any,.mp 2])),n,toks,m⟩,aL.of (λ_=>av.refl _) (qf f3 (ay.cons av.cap (ay.cons (av.refl _) ay.nil))) (λx hx=>hx) (NY _) (NY _),by simp[upd,bks],?_,?_,?_,?_⟩;all_goals
   simp only[upd];rw[N7 al];assumption
 ·have hv:bV bt k= .tsl 3 k 0 bt.length none:=by unfold bV;rw[N7 ho]
  rw[hv] at f3;obtain ⟨a,b,cs,c,d⟩:=hrow ho;have hrl:((bt.map Prod.fst).map jY).length=bt.length:=by simp
  have hr3:∀x∈(bt.map Prod.fst).map jY,x.length=3:=λx hx=>by
   obtain ⟨b,-,rfl⟩:=Oo.1 hx;rfl
  have hsub:ay cs (((bt.map Prod.fst).map jY).flatten):=λG w v h=>s6 bt G w v (d G w v h);have s1:aL ⟨tm [(0,.ptr 0 0),(1,.ptr 4 0)],⟨F,n,toks,m⟩⟩ ⟨tm [(0,.ptr 0 0),(1,.ptr 4 0)],⟨upd F k (some (.cells (((bt.map Prod.fst).map jY).flatten))),n,toks,m⟩⟩:=aL.of (λ_=>av.refl _) (qf c hsub) (λx hx=>hx) (NY _) (NY _);have k3:¬(3=k):=by omega
  have s2:=aL.LJ (tm [(0,.ptr 0 0),(1,.ptr 4 0)]) ⟨upd F k (some (.cells (((bt.map Prod.fst).map jY).flatten))),n,toks,m⟩ k 3 (rows:=(bt.map Prod.fst).map jY) (sz:=3) (c:=none) (rest:=[.mp 2]) hr3 k3 (by simp only[upd,N9]) (by rw[hrl];simp only[upd,k3,N5];exact f3);rw[yp] at s2;have k0:¬(0=k):=by omega
  have k1:¬(1=k):=by omega
  have k2:¬(2=k):=by omega
  have k4:¬(4=k):=by omega
  refine ⟨_,aL.trans s1 (aL.trans s2 (aL.of (aS ?_) (OLe.bK _) (λx hx=>hx) (NY _) (NY _))),by simp only[upd,N9],?_,?_,?_,?_⟩
  ·simp only[aR,go_sem,reduceIte,Nat.reduceEqDiff,Nat.reduceAdd,bx,unT,Oj,k0,k4];and_intros<;>first|exact trivial|exact av.refl _|exact av.any _|exact av.refl _|(refine av.int ?_;omega)
  ·simp only[upd,H.drop,k2,decide_false,N5,Oa,Nat.reduceEqDiff,reduceIte];exact f2
  ·simp only[upd,H.drop,k0,decide_false,N5,Oa,Nat.reduceEqDiff,reduceIte];exact f0
  ·simp only[upd,H.drop,k1,decide_false,N5,Oa,Nat.reduceEqDiff,reduceIte];exact f1
  ·simp only[upd,H.drop,k4,decide_false,N5,Oa,Nat.reduceEqDiff,reduceIte];exact f4
set_option maxHeartbeats 2000000 in
theorem G7{L:List Pr}(hl:L.length<=4000){h:H}{bt:List (Bk × Nat)}{q:List Pc}(I:nC L h bt q L.length)(hR:kM L L.length=some (bt.map Prod.fst,q)):
  Wp Tryz.prog 54 mM ⟨tm [(0,.ptr 0 0),(1,.ptr 4 0)],h⟩ (QM L):=by
 obtain ⟨h',hle,f3,f2,f0,f1,f4⟩:=Jm I 54;refine Wp.le hle ?_;have hS:lK L=bt.map Prod.fst:=by unfold lK;rw[hR]
 have hO:gu L=(decide (q=[])&&(decide (imE (bt.map Prod.fst)=0)&&decide ((if imB (bt.map Prod.fst)=true then aH (aN (bt.map Prod.fst)) else [])=L))):=by unfold gu;rw[hR]
 have hcnt:=qi L _ hR;have hfew:Few (bt.map Prod.fst):=λb hb=>by
  obtain ⟨x,hx,rfl⟩:=Oo.1 hb;have:=I.vers x hx;omega
 have hbd:imB (bt.map Prod.fst)=true->(aN (bt.map Prod.fst)).length<=100000:=λhb=>by
  have:=lL hb;simp only at hcnt;omega
 have cp:=kN (bt.map Prod.fst) hfew hbd;have hsl:(if imB (bt.map Prod.fst)=true then aH (aN (bt.map Prod.fst)) else []).length<=1000000:=by
  split
  ·rename_i hb;have:=vH (aN (bt.map Prod.fst));have:=hbd hb;omega
  ·simp
 have ce:=Jk (if imB (bt.map Prod.fst)=true then aH (aN (bt.map Prod.fst)) else []) L hsl aa;have hen:bB (bt.map Prod.fst)= .agg [.sl 3 (bks (bt.map Prod.fst)) .any]:=rfl;rw[hen] at cp;have hq:=GM q;have dq:decide ((((gH q).length:Nat):Int)=0)=decide (q=[]):=by
  rw[hq,Qv,<-Qf];omega
 clear hR I hbd hfew hcnt hle;generalize hm:bt.map Prod.fst=mm at*
 generalize (if imB mm=true then aH (aN mm) else [])=again at*
 have cut:mM= .seq (hdA mM) (.seq (hdA (tlA mM)) (tlA (tlA mM))):=rfl;rw[cut];unfold mM c63 zz;simp only[hdA,tlA];cases hqe:decide (q=[]) with
 |false=>
  rw[hqe] at dq;rw[hqe,O6] at hO;refine Wp.eG (xAd (cj4 f4 f3 f2 dq)) xAb iK (trivial) ?_;exact qh hO f1
 |true=>
 rw[hqe] at dq;rw[hqe,OP] at hO;refine Wp.bg (xAd (cj4 f4 f3 f2 dq)) ?_;refine aw.bO xA2 xAb (mJ) ?_;refine aw.nil ?_;refine Wp.bg (xAd (cj2 f4 f3)) ?_;refine aw.bO xA2 xAb (cp) ?_;refine aw.evF xAc ?_;refine aw.nil ?_;cases hde:decide (imE mm=0) with
 |false=>
  rw[hde,O6] at hO;refine Wp.u7 (xAd hde) xAb iK (trivial) ?_;exact qh hO f1
 |true=>
 rw[hde,OP] at hO;cases hdg:decide (again=L) with
 |false=>
  rw[hdg] at hO ce;refine Wp.LH (cO.eval (log:=[]) (fm (by simp only[go_sem,reduceIte,Nat.reduceEqDiff,Nat.reduceAdd,bx,ax,N9,N5,hde,f0];exact rfl)) (cO.step (x:= .bool false) (λops i o ho hit=>pU.r8 (N:=54) (full:=false) (.inl (bM _)) (jd ho hit xA2 rfl xAb (ce _ _))) (cO.eval (log:=[]) (fm (by simp only[go_sem,reduceIte,Nat.reduceEqDiff,Nat.reduceAdd,bx,ax,N9,N5,hde];exact rfl)) (cO.here λops i o ho hit=>wW.of (bM _) (ml ho hit rfl rfl xAb (iK _ _)))))) ?_;exact qh hO f1
 |true=>
  rw[hdg] at hO ce;refine Wp.eZ (xAd (cj2 hde f0)) ?_;refine aw.bO xA2 xAb (ce) ?_;refine aw.evF xAc ?_;refine aw.bO xA2 xAb (mJ) ?_;refine aw.nil ?_;unfold QM;rw[hO,Of rfl,hS];exact ⟨rfl,f3,f1,f4⟩
theorem G8{L:List Pr}{j:Nat}{S:SS}(h:kM L j=some S):kM L (j+1)=if (decide (j=0)||Op.bytesLess (L.getD (j - 1) default).k (L.getD j default).k)=true then lH S (L.getD j default) else none:=by
 simp only[kM];rw[h];rfl
set_option maxHeartbeats 4000000 in
theorem Lb(L:List Pr)(hl:L.length<=4000)(hks:∀p∈L,p.k.length<=140737488355328)(hvs:∀p∈L,p.v.length<=140737488355328)(h:H)(I0:nC L h [] [] 0):
  Wp Tryz.prog 54 c63 ⟨gN [.ptr 0 0,.ptr 4 0],h⟩ (QM L):=by
 have cut:c63= .seq (hdA c63) mM:=rfl;rw[cut];have WR:=λ{h:H} {bt:List (Bk × Nat)} {q:List Pc} (I:nC L h bt q L.length) hR=>G7 hl I hR;generalize mM=R63 at*
 unfold c63 zz;simp only[hdA];have lp:=aP L;have f0:=I0.o0;refine rf0 (cj2 f0 lp) ?_;refine Wp.cI [0,1,6,7] xA7 (λj:Nat × H=>[(8,.int .i64 (j.1:Nat))]) (λj=>j.2) (λj=>j.1<=L.length/\∃bt q,kM L j.1=some (bt.map Prod.fst,q)/\nC L j.2 bt q j.1) (λj=>L.length - j.1) (0,h) ⟨Og _,[],[],rfl,I0⟩ rfl ?_ ?_
 ·exact xSb
 rintro ⟨j,h1⟩ ⟨hj,bt,q,hrun,I⟩;simp only at hj hrun I;by_cases hc:j<L.length
 ·obtain ⟨g1,g2,g3,e1⟩:=cK hc aa;have hat:=bj L j .any hc;have hget:L.getD j default=L[j]:=by simp[List.getD,N0 hc]
  have hmem:L.getD j default∈L:=by rw[hget];exact O0 hc
  have hpk:=hks _ hmem;have hpv:=hvs _ hmem;have hstep:=G8 hrun;obtain ⟨F,n,toks,m⟩:=h1;have hn:=I.hn;have g0:=I.o0;have g4:=I.o4;simp only at hn g0 g4;have n0:¬(0=n):=by omega
  have n4:¬(4=n):=by omega
  have bad:kM L (j+1)=none->gu L=false:=λhb=>G6 aa hb;have hprev:j≠0->(prs L).getD (j - 1) .any= .agg [.str (L.getD (j - 1) default).k,.str (L.getD (j - 1) default).v]:=λh0=>bj L (j - 1) .any aa;generalize L.getD j default=p at*
  generalize L.getD (j - 1) default=p0 at*
  have I2:∀o o':Av.Obj,nC L ⟨upd (upd F n (some o)) n (some o'),n+1,toks,m⟩ bt q j:=λo o'=>I.ext (λa ha=>by
   have:a≠n:=by omega
   simp only[upd,N7 this]) (P9 _)
  refine Wp.bg (xAd (cj2 g1 lp)) ?_;refine aw.nil ?_;refine Wp.seq ?_;refine Wp.cond_true (by simp only[go_sem,reduceIte,Nat.reduceEqDiff,Nat.reduceAdd,bx,g1,lp]) ?_;refine Wp.skip ?_;refine Wp.seq (Wp.block ?_);refine Wp.bg (xAd (cj5 g2 g3 lp hat @NZ)) ?_;refine aw.nil ?_;have key:∀(b:Bool),b=(decide (j=0)||Op.bytesLess p0.k p.k)->True:=λ_ _=>trivial;by_cases h0:j=0
  ·have d0:decide ((j:Int)=0)=true:=N3 aa;have hcond:(decide (j=0)||Op.bytesLess p0.k p.k)=true:=by simp[h0]
   rw[Of hcond] at hstep;refine Wp.cm (xAd d0) ?_;refine az.bO xA2 xAb (mJ) ?_;refine az.evR xA1 ?_;refine az.nil ⟨by simp[bw,aV,apart,aZ],?_⟩;cases hS:lH (bt.map Prod.fst,q) p with
   |none=>
    rw[hS] at hstep;obtain ⟨h2,du,hnm,ho1⟩:=Cb aa (I2 (.cells [.str [],.str []]) (.cells [.str p.k,.str p.v])) hpk hpv hS;refine Wp.wX (by simp only[go_sem,reduceIte,Nat.reduceEqDiff,Nat.reduceAdd,bx,ax,N9,N5,g4,n4];exact rfl) xAb hnm du ?_;exact qh (bad hstep) ho1
   |some S=>
    rw[hS] at hstep;obtain ⟨r,h2,du,hnm,bt2,hfst,I3⟩:=GW aa (I2 (.cells [.str [],.str []]) (.cells [.str p.k,.str p.v])) hpk hpv hS;refine Wp.eZ (xAd (cj2 g4 n4)) ?_;refine aw.jF xA2 xAb hnm (du) ?_;refine aw.nil ?_;refine Wp.eZ (xAd e1) ?_;refine aw.nil ?_;refine ⟨(j+1,h2),⟨by simp only;omega,bt2,S.2,by simp only;rw[hstep,hfst],I3⟩,by simp only;omega,?_⟩;refine aL.of (aS ?_) (OLe.bK _) (λx hx=>hx) (NY _) (NY _);exact bY e1
  ·have d0:decide ((j:Int)=0)=false:=N1 aa;have ej:IntKind.i64.wrap ((j:Int) - 1)=((j - 1:Nat):Int):=by rw[IntWalk.i64_in _ aa];omega
   have p1:(0:Int)<=((j - 1:Nat):Int):=by omega
   have p2:((j - 1:Nat):Int)<(L.length:Int):=by omega
   have hat2:=hprev h0;have hz:decide (j=0)=false:=N1 h0;rw[hz,Qt] at hstep;cases hb:Op.bytesLess p0.k p.k with
   |false=>
    rw[hb,N7 af] at hstep;refine Wp.eG (xAd (gv d0 g0 n0 ej p1 p2 lp hat2 hb @NZ)) xAb iK (⟨by simp[aV,apart,aZ],rfl⟩) ?_;exact qh (bad hstep) (I2 (.cells [.str [],.str []]) (.cells [.str p.k,.str p.v])).o1
   |true=>
    rw[hb,Of rfl] at hstep;refine Wp.cm (xAd (gv d0 g0 n0 ej p1 p2 lp hat2 hb @NZ)) ?_;refine az.bO xA2 xAb (mJ) ?_;refine az.evR xA1 ?_;refine az.nil ⟨by simp[bw,aV,apart,aZ],?_⟩;cases hS:lH (bt.map Prod.fst,q) p with
    |none=>
     rw[hS] at hstep;obtain ⟨h2,du,hnm,ho1⟩:=Cb aa (I2 (.cells [.str [],.str []]) (.cells [.str p.k,.str p.v])) hpk hpv hS;refine Wp.wX (by simp only[go_sem,reduceIte,Nat.reduceEqDiff,Nat.reduceAdd,bx,ax,N9,N5,g4,n4];exact rfl) xAb hnm du ?_;exact qh (bad hstep) ho1
    |some S=>
     rw[hS] at hstep;obtain ⟨r,h2,du,hnm,bt2,hfst,I3⟩:=GW aa (I2 (.cells [.str [],.str []]) (.cells [.str p.k,.str p.v])) hpk hpv hS;refine Wp.eZ (xAd (cj2 g4 n4)) ?_;refine aw.jF xA2 xAb hnm (du) ?_;refine aw.nil ?_;refine Wp.eZ (xAd e1) ?_;refine aw.nil ?_;refine ⟨(j+1,h2),⟨by simp only;omega,bt2,S.2,by simp only;rw[hstep,hfst],I3⟩,by simp only;omega,?_⟩;refine aL.of (aS ?_) (OLe.bK _) (λx hx=>hx) (NY _) (NY _);exact bY e1
 ·have hj2:j=L.length:=by omega
  subst hj2;have ig:=dZ L.length;refine Wp.bg (xAd (cj2 ig lp)) ?_;refine aw.nil ?_;refine Wp.seq ?_;refine Wp.cond_false (by simp only[go_sem,reduceIte,Nat.reduceEqDiff,Nat.reduceAdd,bx,ig]) ?_;refine Wp.exit ?_;show Wp Tryz.prog 54 R63 _ _;refine Wp.le (aL.of (aS ?_) (OLe.bK _) (λx hx=>hx) (NY _) (NY _)) (WR I hrun);exact xSb
def gM(L:List Pr):AV:=if gu L=true then .tup [bB (lK L),.int .i64 0] else lJ
theorem vY{α:Type}(f:Nat->α)(i:Nat)(a b:α):upd (upd f i a) i b=upd f i b:=by
 funext j;simp only[upd];split<;>rfl
def h63(L:List Pr):H:=⟨upd (upd (upd (upd (upd aA 0 (some (.cells [.sl 2 (prs L) .any]))) 1 (some (.cells [.sl 3 [] (.exact 0)]))) 2 (some (.map []))) 3 (some (.cells [.sl 3 [] (.exact 0),.mp 2]))) 4 (some (.cells [.ptr 3 0])),5,[],0⟩
theorem Ns(L:List Pr):nC L (h63 L) [] [] 0:=by
 unfold h63;exact ⟨⟨5,by simp[upd,bV],λh=>absurd rfl h⟩,by simp[upd,gH],by simp[upd],by simp[upd],by simp[upd],by simp,by simp,by simp,by simp,by simp,by simp,by simp⟩
theorem Nt(L:List Pr)(hl:L.length<=4000)(hks:∀p∈L,p.k.length<=140737488355328)(hvs:∀p∈L,p.v.length<=140737488355328):
  ∃h',bo Tryz.prog 54 [.clo (.func 63) [] [.ptr 0 0,.ptr 4 0]] (h63 L) (.int .i64 (if gu L=true then 0 else 4)) h'/\((h63 L).n<=h'.n/\(h63 L).m<=h'.m)/\h'.objs 1=some (.cells [.sl 3 [] (.exact 0)])/\
   (gu L=true->h'.objs 3=some (.cells [.sl 3 (bks (lK L)) .any,.mp 2])/\h'.objs 4=some (.cells [.ptr 3 0])):=by
 have W:=Lb L hl hks hvs (h63 L) (Ns L);unfold QM at W;cases ho:gu L with
 |true=>
  rw[ho] at W;simp only[N9] at W;obtain ⟨r,h',a,b,c,d,e⟩:=aT.Bt (Q:=λ_ h'=>h'.objs 3=some (.cells [.sl 3 (bks (lK L)) .any,.mp 2])/\h'.objs 1=some (.cells [.sl 3 [] (.exact 0)])/\h'.objs 4=some (.cells [.ptr 3 0])) f63 af (W.mono λe s' hq=>⟨s3 hq.1,_,rfl,hq.2⟩);exact ⟨h',K0 rfl rfl al a,b,d,λ_=>⟨c,e⟩⟩
 |false=>
  rw[ho] at W;simp only[Oa,N5] at W;obtain ⟨v,h',a,b,rfl,c⟩:=aT.JR (Q:=λv h'=>v=v4/\h'.objs 1=some (.cells [.sl 3 [] (.exact 0)])) f63 af (W.mono λe s' hq=>⟨_,hq.1,rfl,hq.2⟩);exact ⟨h',Jd rfl rfl al a,b,c,λh=>by cases h⟩
theorem Jn(L:List Pr)(hl:L.length<=4000)(hks:∀p∈L,p.k.length<=140737488355328)(hvs:∀p∈L,p.v.length<=140737488355328):
  aI Tryz.prog 20 [.sl 2 (prs L) .any] (gM L):=by
 have hpure:aO (gM L)=true:=by
  unfold gM;split
  ·simp[aO,aF,aU,bB,Av.bC (λb=>gd b),bks]
  ·rfl
 refine f20.Bp af (by simp[aF,aO,aU,dw]) hpure ?_;unfold c20 zz;obtain ⟨h',du,hnm,f1,fok⟩:=Nt L hl hks hvs;refine Wp.bg xAc ?_;refine aw.nil ?_;refine Wp.bg xAc ?_;refine aw.nil ?_;refine Wp.le (s':=⟨tm [(1,.ptr 0 0),(2,.ptr 1 0),(4,.ptr 4 0)],h63 L⟩) (aL.of (aS ?_) (by rw[vY];exact OLe.bK _) (λx hx=>hx) (NY _) (NY _)) ?_
 ·exact xSb
 refine Wp.bg xAc ?_;refine aw.jF xA2 xAb hnm (du) ?_;cases ho:gu L with
 |false=>
  have hI:gM L=lJ:=by unfold gM;rw[N7 (by rw[ho];simp)]
  rw[hI];simp only[Oa,N5];refine aw.evF xAc ?_;refine aw.nil ?_;refine rf0 f1 ?_;refine Wp.ret ⟨trivial,_,rfl,.inl ?_⟩;exact av.tup (ay.cons (av.agg (ay.cons av.cap ay.nil)) (ay.cons (av.refl _) ay.nil))
 |true=>
  have hI:gM L= .tup [bB (lK L),.int .i64 0]:=by unfold gM;rw[Of ho]
  obtain ⟨f3,f4⟩:=fok ho;rw[hI];simp only[N9];refine aw.evF xAc ?_;refine aw.nil ?_;refine rf0 (cj3 f1 f3 f4) ?_;refine Wp.ret ⟨trivial,_,rfl,.inl ?_⟩;exact av.refl _
def nn(B:List UInt8)(a w:Nat):Option (Nat × Nat):=if a+w<=B.length then some (val ((B.drop a).take w),a+w) else none
structure Ext(h h':H):Prop where
 o:∀j,j<h.n->j≠3->h'.objs j=h.objs j
 n:h.n<=h'.n
 m:h.m<=h'.m
 t:∀t∈h.toks,t∈h'.toks
 ok:HOk h'
structure NW(hr:H)(L:Nat)(lp:Av.Obj)(nm:List UInt8)(st:Int)(l:List Vs)(h:H):Prop where
 e:Ext hr h
 x:∃tk,h.objs hr.n=some (.cells [.str nm,.int .i64 st,.sl 8 (vss l) (.own tk)])/\tk∈h.toks/\hr.m<=tk
 lp:h.objs L=some lp
 n:L<h.n
abbrev o1A:Av.Obj:= .cells [.sl 3 [] (.exact 0)]
structure NX(B:List UInt8)(L:Nat)(lp:Av.Obj)(bs:List Bk)(h:H):Prop where
 o0:h.objs 0=some (.cells [.sl 1 (aD B) .any])
 o1:h.objs 1=some o1A
 o2:∃tk,h.objs 2=some (.cells [.sl 3 (bks bs) (.own tk)])/\tk∈h.toks
 o4:h.objs 4=some (.cells [.ptr 3 0])
 lp:h.objs L=some lp
 n:L<h.n
def tw:List Bk:=[⟨[97,98,99],0,[]⟩]
def qj:List UInt8:=[2,98,0,1,2,97,98,99,0,1]
theorem Jo:imB tw=true:=by decide+kernel
theorem Cd:imB []=true:=by decide+kernel
theorem Jp:aH (aN tw)=[⟨qj,[48]⟩]:=by kernel_rfl
theorem Jq:xD []=[65,82,67,72,0,0,72,255,240,159]:=by kernel_rfl
theorem Nu:aI Tryz.prog 35 [] (bB tw):=by
 refine f35.aE af (by simp[aF]) (by simp[bW]) ?_;unfold c35 zz;refine rn0 PF ?_;refine aG ?_;exact av.agg (ay.cons (av.sl ⟨av.agg (ay.cons (av.refl _) (ay.cons (av.refl _) (ay.cons av.cap ay.nil))),trivial⟩) ay.nil)
theorem Jr:Few tw:=λb hb=>by simp[tw] at hb;subst hb;simp
theorem uN:aI Tryz.prog 13 [bB tw] (.tup [.sl 2 (prs [⟨qj,[48]⟩]) .any,.int .i64 0]):=by
 have h:=kN tw Jr (λ_=>by decide+kernel);unfold imE at h;rw[Jo,Of rfl,Of rfl,Jp] at h;exact h
theorem Ei:aI Tryz.prog 13 [.agg [.sl 3 [] .any]] (.tup [.sl 2 [] .any,.int .i64 0]):=by
 have h:=kN [] (λb hb=>by cases hb) (λ_=>by decide+kernel);unfold imE at h;rw[Cd,Of rfl,Of rfl] at h;exact h
theorem Ej:aI Tryz.prog 11 [.agg [.sl 3 [] .any]] (.tup [.sl 1 (aD [65,82,67,72,0,0,72,255,240,159]) .any,.int .i64 0]):=by
 have h:=Iv [] (λb hb=>by cases hb) af;unfold imE at h;rw[Cd,Of rfl,Jq] at h;exact h
theorem AO:aI Tryz.prog 23 [.agg [.sl 3 [] .any],bB tw] (.tup [.sl 3 (chs [⟨qj,[48],false⟩]) .any,.int .i64 0]):=by
 refine f23.aE af (by simp[aF,aO,aU,bW]) rfl ?_;unfold c23 zz;have c1:=uN;have c2:=xp [] [⟨qj,[48]⟩] af af;have e:cq [] [⟨qj,[48]⟩]=[⟨qj,[48],false⟩]:=by kernel_rfl
 rw[e] at c2;have hn:prs []=[]:=rfl;rw[hn] at c2;unfold bB at*
 generalize bks tw=b at*
 generalize prs [⟨qj,[48]⟩]=x at*
 generalize chs [⟨qj,[48],false⟩]=y at*
 refine rn3 PF Ei c1 c2 ?_;refine aG ?_;exact av.refl _
set_option maxHeartbeats 4000000 in
theorem nu:aI Tryz.prog 10 [] (.bool true):=by
 refine f10.aE af (by simp[aF]) rfl ?_;unfold c10 zz;try dsimp only
 have hsub:av (.agg [.sl 3 [] (.exact 0)]) (.agg [.sl 3 [] .any]):=av.agg (ay.cons av.cap ay.nil);have c3:=Nu;have c4:=uN;have c5:=AO;have hp:prs [⟨qj,[48]⟩]=[.agg [.str qj,.str [48]]]:=rfl;have hc:chs [⟨qj,[48],false⟩]=[.agg [.str qj,.str [48],.bool false]]:=rfl;rw[hp] at c4;rw[hc] at c5;generalize bB tw=b at*
 generalize qj=k at*
 have c2:=Ej;have lO:(aD [65,82,67,72,0,0,72,255,240,159]).length=10:=rfl;have tO:(aD [65,82,67,72,0,0,72,255,240,159]).take 6=aD [65,82,67,72,0,0]:=rfl;generalize aD [65,82,67,72,0,0,72,255,240,159]=O at*
 have d10:decide (((10:Nat):Int)=10)=true:=rfl;have d1:decide (((1:Nat):Int)=1)=true:=rfl;have le6:(6:Int)<=((10:Nat):Int):=by decide
 have n6:(6:Int).toNat=6:=rfl;refine rn4 PF c2 c3 c4 c5 ?_;refine Wp.reg ?_;refine az.part 5 (xAe (cj2 lO d10)) ?_;simp only[Pe,Pw,PZ];refine az.part 1 (by simp only[go_sem,reduceIte,Nat.reduceEqDiff,Nat.reduceAdd,bx,lO,tO,le6,n6,Int.reduceLE,Oe,Pw];exact rfl) ?_;simp only[Pe,Pw,PZ];refine az.part 1 (xAe (cj2 @cz @Ol.{0,0})) ?_;simp only[Pe,Pw,PZ];refine az.part 2 (xAe (cj2 @PC.{0} @Ow)) ?_;simp only[Pe,Pw,PZ];refine az.part 6 (by simp only[go_sem,reduceIte,Nat.reduceEqDiff,Nat.reduceAdd,bx,d10,d1,PC,Ow,List.length_cons,List.length_nil,Od,OG,Int.toNat_zero,Int.reduceLT,Int.reduceLE,Oe];exact rfl) ?_;simp only[Pe,Pw,PZ];refine az.part 6 (by simp only[go_sem,reduceIte,Nat.reduceEqDiff,Nat.reduceAdd,bx,d10,d1,PC,Ow,List.length_cons,List.length_nil,Od,OG,Int.toNat_zero,Int.reduceLT,Int.reduceLE,Oe];exact rfl) ?_;simp only[Pe,Pw,PZ];refine az.part 6 (by simp only[go_sem,reduceIte,Nat.reduceEqDiff,Nat.reduceAdd,bx,d10,d1,PC,Ow,List.length_cons,List.length_nil,Od,OG,Int.toNat_zero,Int.reduceLT,Int.reduceLE,Oe];exact rfl) ?_;simp only[Pe,Pw,PZ];refine az.part 6 (by simp only[go_sem,reduceIte,Nat.reduceEqDiff,Nat.reduceAdd,bx,d10,d1,PC,Ow,List.length_cons,List.length_nil,Od,OG,Int.toNat_zero,Int.reduceLT,Int.reduceLE,Oe];exact rfl) ?_;simp only[Pe,Pw,PZ];refine az.part 4 (by simp only[go_sem,reduceIte,Nat.reduceEqDiff,Nat.reduceAdd,bx,d10,d1,PC,Ow,List.length_cons,List.length_nil,Od,OG,Int.toNat_zero,Int.reduceLT,Int.reduceLE,Oe];exact rfl) ?_;simp only[Pe,Pw,PZ];refine az.part 4 (by simp only[go_sem,reduceIte,Nat.reduceEqDiff,Nat.reduceAdd,bx,d10,d1,PC,Ow,List.length_cons,List.length_nil,Od,OG,Int.toNat_zero,Int.reduceLT,Int.reduceLE,Oe];exact rfl) ?_;simp only[Pe,Pw,PZ];refine az.part 4 (by simp only[go_sem,reduceIte,Nat.reduceEqDiff,Nat.reduceAdd,bx,d10,d1,PC,Ow,List.length_cons,List.length_nil,Od,OG,Int.toNat_zero,Int.reduceLT,Int.reduceLE,Oe];exact rfl) ?_;simp only[Pe,Pw,PZ];refine az.part 5 (xAe (cj2 @PC.{0} @Ow)) ?_;simp only[Pe,Pw,PZ];refine az.nil ⟨by simp[bw,aV,apart,aZ],?_⟩;exact Wp.ret ⟨trivial,_,rfl,av.refl _⟩
def fw(m:List Bk):Nat:=(m.map λb=>b.l.length).sum
theorem pE(m:List Bk)(j:Nat)(h:j<m.length):fw (m.take (j+1))=fw (m.take j)+(m.getD j default).l.length:=by
 unfold fw;rw[pe _ m j h];simp
theorem AP(m:List Bk)(j:Nat):fw (m.take j)<=fw m:=by
 have h:fw m=fw (m.take j)+fw (m.drop j):=by unfold fw;rw[<-List.sum_append,<-O3,Po]
 omega
def ql(m:List Bk):Bool:=decide (m.length+fw m<=60)
theorem Ce(m:List Bk)(hl:m.length<=35184372088832)(hv:∀b∈m,b.l.length<=35184372088832):aI Tryz.prog 9 [bB m] (.bool (ql m)):=by
 refine f9.aE af (by simp[aF,bW]) rfl ?_;unfold c9 bB zz;have len:=eL m;refine rn0 @len ?_;refine Wp.dB [1] xA6 (λj:Nat=>[(3,.int .i64 ((m.length+fw (m.take j):Nat):Int)),(4,.int .i64 (j:Nat))]) (λj=>j<=m.length/\m.length+fw (m.take j)<=60+35184372088832/\(j≠0->m.length<=60)) (λj=>m.length - j) 0 ⟨Og _,by simp[fw];omega,λh=>absurd rfl h⟩ ?_ ?_
 ·exact bY (cj5 @fw.eq_1 @Ph.{0} @OE.{0,0} @List.sum_nil.{0} @Nat.add_zero)
 rintro j ⟨hj,hs,hn⟩;by_cases hc:j<m.length
 ·have g1:decide ((j:Int)<(m.length:Int))=true:=N3 aa;by_cases h60:m.length+fw (m.take j)<=60
  ·have g2:(0:Int)<=(j:Int):=by omega
   have g3:(j:Int)<(m.length:Int):=by omega
   have d1:decide (((m.length+fw (m.take j):Nat):Int)<=60)=true:=N3 aa;have hat:=ft m j .any hc;have hsn:=pE m j hc;have hbl:(m.getD j default).l.length<=35184372088832:=hv _ (by rw[Av.fT hc];exact O0 hc);generalize m.getD j default=b at*
   have vl:=eK b.l;have w1:IntKind.i64.wrap (((m.length+fw (m.take j):Nat):Int)+((b.l.length:Nat):Int))=((m.length+fw (m.take j)+b.l.length:Nat):Int):=by rw[IntWalk.i64_in _ aa];omega
   have w2:IntKind.i64.wrap ((j:Int)+1)=((j+1:Nat):Int):=by rw[IntWalk.i64_in _ aa];omega
   unfold ff at hat;refine rn0 (gv g1 g2 g3 @len hat d1 vl w1 w2 @NZ) ?_;refine ⟨j+1,⟨hc,aa,λ_=>by omega⟩,O5 hc (OD _),?_⟩;rw[hsn,<-PH];exact xSu
  ·have d1:decide (((m.length+fw (m.take j):Nat):Int)<=60)=false:=N1 aa;have hfw:ql m=false:=N1 (by have:=AP m j;omega);refine rn0 (cj3 g1 @len d1) ?_;refine aG ?_;rw[hfw];exact av.refl _
 ·have hj2:j=m.length:=by omega
  subst hj2;have g1:=dZ m.length;rw[Ot] at hs |-;have hfw:decide (((m.length+fw m:Nat):Int)<=60)=ql m:=by unfold ql;rw[Qv];omega
  refine rn0 (cj3 g1 @len hfw) ?_;refine aG ?_;exact av.refl _
theorem vZ{l:List Nat}{x:Nat}(h:x∈l):x<=l.sum:=by
 induction l with
 |nil=>cases h
 |cons a l ih=>
  simp only[List.sum_cons];rcases Om.1 h with rfl|h
  ·omega
  ·have:=ih h;omega
theorem G9{L:List Pr}(h:gu L=true):imB (lK L)=true/\aH (aN (lK L))=L/\(lK L).length+fw (lK L)<=L.length:=by
 unfold gu at h;unfold lK;have hc:=λS=>qi L L.length (S:=S);cases hr:kM L L.length with
 |none=>rw[hr] at h;cases h
 |some S=>
  rw[hr] at h;simp only[Ob,Oj] at h;obtain ⟨-,h1,h2⟩:=h;have hi:imB S.1=true:=by
   unfold imE at h1;split at h1
   ·assumption
   ·cases h1
  rw[Of hi] at h2;exact ⟨hi,h2,hc S hr⟩
def lpA:AC->AC
 | .loop c=>c
 |c=>c
def blA:AC->AC
 | .block _ c=>c
 |c=>c
def rD:AC:=blA (hdA (tlA (lpA (blA (tlA (hdA gZ))))))
def isV(nm:List UInt8)(p:Pr):Bool:=decide ((bc p.k).k=2)&&decide ((bc p.k).b=nm)
def Ha(l:List Pr)(p:Pr):Vs:=⟨(bc p.k).o,(bc p.k).ns.getD 0 0,(hdO p.v).sz,(hdO p.v).re,(hdO p.v).im,(hdO p.v).g,(hdO p.v).u,po l (bc p.k).b (bc p.k).o ((bc p.k).ns.getD 0 0)⟩
def iH(l r:List Pr)(nm:List UInt8):List Vs:=(r.filter (isV nm)).map (Ha l)
theorem AQ(l:List Pr)(nm:List UInt8)(j:Nat)(h:j<l.length):iH l (l.take (j+1)) nm=if isV nm (l.getD j default) then iH l (l.take j) nm++[Ha l (l.getD j default)] else iH l (l.take j) nm:=by
 have e:l.getD j default=l[j]:=by simp[List.getD,N0 h]
 unfold iH;rw[Ov h,e,List.filter_append];cases hi:isV nm l[j] <;>simp[hi]
def qO(k len:Nat)(cs:List AV):Nat->Option Av.Obj:=upd (fR (.tsl 3 k 0 len none)) k (some (.cells cs))
theorem Lc(A B:List AV)(x y z:AV):(A++x::y::z::B)[A.length]? =some x:=by simp
theorem Js(A B:List AV)(x y z:AV):(A++x::y::z::B)[A.length+2]? =some z:=by
 simp[PD]
theorem qm:∀(A B:List AV){a b:AV},av a b->ay (A++a::B) (A++b::B)
 |[],B,a,b,h=>ay.cons h (ay.refl _)
 |x::A,B,a,b,h=>ay.cons (av.refl _) (qm A B h)
theorem Hb(A B:List AV)(x y z:AV):A++x::y::z::B=(A++[x,y])++z::B:=by simp
set_option maxHeartbeats 4000000 in
theorem Hc(l:List Pr)(hl:l.length<=2000)(hok:∀p∈l,cD p.k=true)(hks:∀p∈l,p.k.length<=140737488355328)(hvs:∀p∈l,p.v.length<=140737488355328)
  (i k len:Nat) (A B:List AV) (hA:A.length=i*3) (nm:List UInt8) (st:Int) (hi:i<len) (hlen:len<=2000) (hk:2<=k) (n m:Nat) (hn:k<n) (Q:aM->St->Prop):
  Wp Tryz.prog 146 rD ⟨tm [(0,.sl 2 (prs l) .any),(2,.ptr 0 0),(4,.ptr 1 0),(10,.int .i64 i)],⟨qO k len (A++ .str nm:: .int .i64 st:: .sl 8 [] (.exact 0)::B),n,[],m⟩⟩
   (aM.andThen (λs'=>∃n' m',n<=n'/\aL s' ⟨tm [(0,.sl 2 (prs l) .any),(2,.ptr 0 0),(4,.ptr 1 0),(10,.int .i64 i)],⟨qO k len (A++ .str nm:: .int .i64 st:: .sl 8 (vss (iH l l nm)) .any::B),n',[],m'⟩⟩) Q):=by
 unfold rD gZ c21 zz;simp only[tlA,hdA,lpA,blA];have lp:=aP l;refine dG ?_;refine Wp.le (aL.tok _ _) ?_;refine Wp.le (s':=⟨tm [(0,.sl 2 (prs l) .any),(2,.ptr 0 0),(4,.ptr 1 0),(10,.int .i64 i),(11,.int .i64 (0:Nat))],⟨qO k len (A++ .str nm:: .int .i64 st:: .sl 8 (vss (iH l (l.take 0) nm)) (.own m)::B),n,[m],m+1⟩⟩) (aL.of (aS ?_) (OLe.upd (OLe.bK _) ?_) (λa ha=>ha) (NY _) (NY _)) ?_
 ·exact xSb
 ·rw[Hb A,Hb A];exact qm _ _ (av.dF rfl)
 refine Wp.cI [0,2,4,10] xA7 (λj:Nat × Nat × Nat × Nat=>[(11,.int .i64 (j.1:Nat))]) (λj=>⟨qO k len (A++ .str nm:: .int .i64 st:: .sl 8 (vss (iH l (l.take j.1) nm)) (.own j.2.1)::B),j.2.2.1,[j.2.1],j.2.2.2⟩) (λj=>j.1<=l.length/\n<=j.2.2.1/\j.2.1<j.2.2.2) (λj=>l.length - j.1) (0,m,n,m+1) ⟨Og _,NY _,by simp⟩ rfl ?_ ?_
 ·exact xSb
 rintro ⟨j,tk,n1,m1⟩ ⟨hj,hn1,htk⟩;simp only at hj hn1 htk;by_cases hc:j<l.length
 ·obtain ⟨g1,g2,g3,e1⟩:=cK hc aa;have hat:=bj l j .any hc;have hsn:=AQ l nm j hc;have hget:l.getD j default=l[j]:=by simp[List.getD,N0 hc]
  have hmem:l.getD j default∈l:=by rw[hget];exact O0 hc
  have cp:=xV (l.getD j default).k (hks _ hmem);have hpe:mH (l.getD j default).k=0:=by unfold mH;rw[Of (hok _ hmem)]
  obtain ⟨hkok,-⟩:=sU (hok _ hmem);have hvd:isV nm (l.getD j default)=(decide ((bc (l.getD j default).k).k=2)&&decide ((bc (l.getD j default).k).b=nm)):=rfl;have hvo:Ha l (l.getD j default)=⟨(bc (l.getD j default).k).o,(bc (l.getD j default).k).ns.getD 0 0,(hdO (l.getD j default).v).sz,(hdO (l.getD j default).v).re,(hdO (l.getD j default).v).im,(hdO (l.getD j default).v).g,(hdO (l.getD j default).v).u,po l (bc (l.getD j default).k).b (bc (l.getD j default).k).o ((bc (l.getD j default).k).ns.getD 0 0)⟩:=rfl;rw[hpe] at cp;unfold dp at cp;generalize bc (l.getD j default).k=key at*
  generalize hACC:iH l (l.take j) nm=acc at*
  have n0:¬(0=n1):=by omega
  have n1':¬(1=n1):=by omega
  have nk:¬(k=n1):=by omega
  have k1:¬(1=k):=by omega
  have k0:¬(0=k):=by omega
  have x1:(0:Int)<=(i:Int):=by omega
  have x2:(i:Int)<(len:Int):=by omega
  have hCl:(A++ .str nm:: .int .i64 st:: .sl 8 (vss acc) (.own tk)::B).length=i*3+3+B.length:=by simp[hA];omega
  have hC0:=Lc A B (.str nm) (.int .i64 st) (.sl 8 (vss acc) (.own tk));have hC2:=Js A B (.str nm) (.int .i64 st) (.sl 8 (vss acc) (.own tk));rw[hA] at hC0 hC2;unfold qO fR zIm;generalize hCS:A++ .str nm:: .int .i64 st:: .sl 8 (vss acc) (.own tk)::B=CS at*
  have y1:i*3<CS.length:=by omega
  cases dk:decide (key.k=2) with
  |false=>
   rw[hvd,dk,O6] at hsn;simp only[Oa,N5] at hsn;refine rn1 (aY g1 g2 g3 lp hat n0 n1' nk k1 k0 dk (cj2 @NZ @Oe)) cp ?_;refine ⟨(j+1,tk,n1+1,m1),⟨by simp only;omega,by simp only;omega,htk⟩,by simp only;omega,?_⟩;rw[hsn,hCS];refine aL.of (aS ?_) (λa u hu=>⟨u,?_,cy.refl _⟩) (λx hx=>hx) (NY _) (NY _)
   ·exact bY e1
   ·have an:a≠n1:=by
     rintro rfl;simp[upd,aA,PU n0,PU n1',PU nk] at hu
    simp only[upd,an,N5] at hu |-;exact hu
  |true=>
   rw[hvd,dk,OP] at hsn;cases db:decide (key.b=nm) with
   |false=>
    rw[db] at hsn;simp only[Oa,N5] at hsn;refine rn1 (aY g1 g2 g3 lp hat n0 n1' nk k1 k0 dk (cj7 db x1 x2 hC0 y1 @NZ @Oe)) cp ?_;refine ⟨(j+1,tk,n1+1,m1),⟨by simp only;omega,by simp only;omega,htk⟩,by simp only;omega,?_⟩;rw[hsn,hCS];refine aL.of (aS ?_) (λa u hu=>⟨u,?_,cy.refl _⟩) (λx hx=>hx) (NY _) (NY _)
    ·exact bY e1
    ·have an:a≠n1:=by
      rintro rfl;simp[upd,aA,PU n0,PU n1',PU nk] at hu
     simp only[upd,an,N5] at hu |-;exact hu
   |true=>
    rw[db] at hsn;simp only[N9] at hsn;have hkb:key.b=nm:=Oh db;have ch:=xX (l.getD j default).v (hvs _ hmem);have cb:=KU l aa hvs;unfold qJ fq at ch;generalize hdO (l.getD j default).v=hd at*
    obtain ⟨hsz,hre,him,hg,hu⟩:=hd;have hk2:key.k=2:=Oh dk;have hnl:key.ns.length=1:=by
     have:=hkok.n;rw[hk2] at this;have e:eu 2=1:=rfl;rw[e] at this;omega
    obtain ⟨v0,hns⟩:∃v0,key.ns=[v0]:=Qs.1 hnl;have hv0:v0<9223372036854775808:=(hkok.r v0 (by rw[hns];simp)).2;have hi0:ints key.ns=[.int .i64 v0]:=by rw[hns];rfl
    rw[hns] at hvo;have hg0:[v0].getD 0 0=v0:=rfl;rw[hg0] at hvo;have cb2:=cb key.b ⟨key.o,v0,hsz,hre,him,hg,hu,[]⟩ hv0;unfold cU at cb2;rw[hi0] at cp;simp only at cb2 hvo ch;have z0:(0:Int)<((0+1:Nat):Int):=by decide
    have q1:¬(n1+1=n1):=by omega
    have q2:¬(n1=n1+1):=by omega
    have q3:¬(n1+1+1=n1):=by omega
    have q4:¬(n1=n1+1+1):=by omega
    have q5:¬(n1+1+1=n1+1):=by omega
    have q6:¬(n1+1=n1+1+1):=by omega
    have q7:¬(k=n1+1):=by omega
    have q8:¬(k=n1+1+1):=by omega
    have q9:¬(1=n1+1):=by omega
    have q10:¬(1=n1+1+1):=by omega
    have q11:¬(0=n1+1):=by omega
    have q12:¬(0=n1+1+1):=by omega
    have q13:(0:Int)<1:=by decide
    have hl1:([AV.int .i64 v0].length:Nat)=1:=rfl;generalize po l key.b key.o v0=bd at*
    refine rn3 (aY g1 g2 g3 lp hat n0 n1' nk k1 k0 dk (aY db x1 x2 hC0 y1 @q1 @q2 q3 @q4 q5 q6 (aY q7 q8 q9 q10 q11 q12 q13 z0 @N2.{0} @N4.{0} @Od (cj5 Int.toNat_zero @OG.{0} @OL @NZ @Oe)))) cp ch cb2 ?_;refine az.nil ⟨by simp[bw,aV,apart,aZ,q1,q2,q3,q4,q5,q6],?_⟩;refine rn3 (aY g1 g2 g3 lp hat n0 n1' nk k1 k0 dk (aY db x1 x2 hC0 y1 @q1 @q2 q3 @q4 q5 q6 (aY q7 q8 q9 q10 q11 q12 q13 z0 @N2.{0} @N4.{0} @Od (cj5 Int.toNat_zero @OG.{0} @OL @NZ @Oe)))) cp ch cb2 ?_;refine Wp.le (s':=⟨tm [(0,.sl 2 (prs l) .any),(2,.ptr 0 0),(4,.ptr 1 0),(10,.int .i64 i),(11,.int .i64 j),(16,.ptr (n1+1+1) 0)],⟨upd (upd (upd (upd aA 0 (some (.cells [.sl 3 [] (.exact 0)]))) 1 (some (.cells [.tsl 3 k 0 len none]))) k (some (.cells CS))) (n1+1+1) (some (.cells [.str key.o,.int .i64 v0,.int .i64 hsz,.int .i64 hre,.int .i64 him,.bool hg,.bool hu,.str bd])),n1+1+1+1,[tk],m1⟩⟩) (aL.of (aS ?_) (λa u hu=>⟨u,?_,cy.refl _⟩) (λx hx=>hx) (NY _) (NY _)) ?_
    ·exact xSb
    ·simp only[upd,aA] at hu |-;by_cases a2:a=n1+1+1
     ·subst a2;simpa using hu
     ·simp only[a2,N5] at hu |-;have an1:a≠n1:=by
       rintro rfl;simp[PU n0,PU n1',PU nk] at hu
      have an2:a≠n1+1:=by
       rintro rfl;simp[PU q7,show ¬(n1=0) by omega] at hu
      simp only[an1,an2,N5];exact hu
    have lv:=eK acc;have hal:acc.length<=j:=by
     rw[<-hACC];unfold iH;rw[O2];refine Oz (QD _ _) ?_;rw[OJ];omega
    have e6:(acc.length+1)*72<=140737488355328:=by omega
    have e7:acc.length+1<4611686018427387904:=by omega
    have y2:i*3+2+1<=CS.length:=by omega
    have hT:CS.take (i*3+2)=A++[.str nm,.int .i64 st]:=by
     rw[<-hCS,Hb,<-hA];have:A.length+2=(A++[AV.str nm,AV.int .i64 st]).length:=by simp
     rw[this,Qg]
    have hD:CS.drop (i*3+2+1)=B:=by
     have e:CS=(A++[.str nm,.int .i64 st,.sl 8 (vss acc) (.own tk)])++B:=by rw[<-hCS];simp
     have hl3:i*3+2+1=(A++[AV.str nm,AV.int .i64 st,AV.sl 8 (vss acc) (.own tk)]).length:=by simp[hA]
     rw[e,hl3,QV]
    apply Wp.eF
    ·simp only[go_sem,reduceIte,Nat.reduceEqDiff,Nat.reduceAdd,bx,ax,N9,N5,Nat.reduceMul,Nat.reduceLeDiff,g1,g2,g3,lp,hat,n0,n1',nk,k1,k0,dk,db,x1,x2,hC0,hC2,y1,y2,q1,q2,q3,q4,q5,q6,q7,q8,q9,q10,q11,q12,q13,z0,lv,e6,e7,hT,hD,List.length_cons,List.length_nil,Od,Int.toNat_zero,OG,OL,Int.toNat_natCast,Oe,Oc,OW];exact rfl
    refine az.nil ⟨by simp[bw,aV,apart,aZ,q7,q8],?_⟩;refine rn0 e1 ?_;refine ⟨(j+1,m1,n1+1+1+1,m1+1),⟨by simp only;omega,by simp only;omega,by simp⟩,by simp only;omega,?_⟩;have hvv:vss (acc++[Ha l (l.getD j default)])=vss acc++[.agg [.str key.o,.int .i64 v0,.int .i64 hsz,.int .i64 hre,.int .i64 him,.bool hg,.bool hu,.str bd]]:=by
     rw[hvo];simp[vss,cU]
    simp only;rw[hsn,hvv];refine aL.of (aS ?_) (λa u hu=>⟨u,?_,cy.refl _⟩) (λx hx=>by simpa using hx) (NY _) (NY _)
    ·exact bY e1
    ·simp only[upd,aA] at hu |-;by_cases ak:a=k
     ·subst ak;simpa using hu
     ·simp only[ak,N5] at hu |-;have an1:a≠n1+1+1:=by
       rintro rfl;simp[show ¬(n1+1=0) by omega] at hu
      simp only[an1,N5];exact hu
 ·have hj2:j=l.length:=by omega
  subst hj2;have ig:=dZ l.length;rw[Ot];refine rf0 (cj2 ig lp) ?_;refine ⟨n1,m1,hn1,?_⟩;refine aL.of (aS ?_) (OLe.upd (OLe.bK _) ?_) (λa ha=>by simp at ha) (NY _) (NY _)
  ·exact xSb
  ·rw[Hb A,Hb A];exact qm _ _ av.cap
def jr(l:List Pr)(b:Bk):Bk:=⟨b.n,b.st,iH l l b.n⟩
theorem AR:gZ= .seq (.seq (hdA (hdA gZ)) (.block 2 (.loop (.seq (hdA (lpA (blA (tlA (hdA gZ))))) (.seq (.block 3 rD) (tlA (tlA (lpA (blA (tlA (hdA gZ))))))))))) s5:=rfl
def csI(l:List Pr)(bs:List Bk)(i:Nat):List AV:=(((bs.take i).map (jr l)).map jY).flatten++(bs.drop i).flatMap cell0
theorem Ek(ms:List Bk):((ms.map jY).flatten).length=ms.length*3:=by
 induction ms with
 |nil=>rfl
 |cons a ms ih=>simp only[Oy,List.flatten_cons,N6,ih,List.length_cons];simp[jY];omega
theorem Ld(l:List Pr)(bs:List Bk)(i:Nat)(h:i<bs.length):csI l bs i=(((bs.take i).map (jr l)).map jY).flatten++ .str (bs.getD i default).n:: .int .i64 (bs.getD i default).st:: .sl 8 [] (.exact 0)::(bs.drop (i+1)).flatMap cell0:=by
 have e:bs.getD i default=bs[i]:=by simp[List.getD,N0 h]
 unfold csI;rw[PX h,e];rfl
theorem He(l:List Pr)(bs:List Bk)(i:Nat)(h:i<bs.length):csI l bs (i+1)=(((bs.take i).map (jr l)).map jY).flatten++ .str (bs.getD i default).n:: .int .i64 (bs.getD i default).st:: .sl 8 (vss (iH l l (bs.getD i default).n)) .any::(bs.drop (i+1)).flatMap cell0:=by
 have e:bs.getD i default=bs[i]:=by simp[List.getD,N0 h]
 unfold csI;rw[Ov h,e,O3,O3,PG,Pn];rfl
theorem Jt{N:Nat}{c:AC}{s:St}{f:St->Prop}{Q:aM->St->Prop}(h:∀Q,Wp Tryz.prog N c s (aM.andThen f Q))(hn:∀s',f s'->Q .normal s'):Wp Tryz.prog N c s Q:=
 (h Q).mono λe s' hq=>by
  cases e;all_goals first
   |exact hn _ hq
   |exact hq
theorem Le(l:List Pr)(hl:l.length<=2000)(hok:∀p∈l,cD p.k=true)(hks:∀p∈l,p.k.length<=140737488355328)(hvs:∀p∈l,p.v.length<=140737488355328)
  (bs:List Bk) (hb:bs.length<=2000) (k n m:Nat) (hn:2<=n) (hk:bs≠[]->2<=k/\k<n) (A:AV)
  (HR:∀n m,Wp Tryz.prog 146 s5 ⟨tm [(0,.sl 2 (prs l) .any),(2,.ptr 0 0),(4,.ptr 1 0)],⟨fR (.sl 3 (bks (bs.map (jr l))) .any),n,[],m⟩⟩ (QI A)):
  Wp Tryz.prog 146 gZ ⟨tm [(0,.sl 2 (prs l) .any),(2,.ptr 0 0),(4,.ptr 1 0)],⟨mO bs k,n,[],m⟩⟩ (QI A):=by
 rw[AR];have IN:=Hc l hl hok hks hvs;generalize rD=I at*
 generalize s5=T at*
 unfold gZ c21 zz;simp only[hdA,tlA,lpA,blA];by_cases ho:bs=[]
 ·subst ho;have h0:mO [] k=fR (.sl 3 [] (.exact 0)):=rfl;rw[h0];unfold fR zIm;refine dG ?_;refine Wp.cI [0,2,4] xA7 (λj:Unit=>[(10,.int .i64 0)]) (λj=>⟨upd (upd aA 0 (some (.cells [.sl 3 [] (.exact 0)]))) 1 (some (.cells [.sl 3 [] (.exact 0)])),n,[],m⟩) (λ_=>True) (λ_=>0) () trivial rfl ?_ ?_
  ·exact xSb
  rintro - -
  have d0:decide ((0:Int)<(([]:List AV).length:Int))=false:=rfl;refine rf0 (cj2 d0 @N4.{0}) ?_;show Wp Tryz.prog 146 T _ _;refine Wp.le (aL.of (aS ?_) (OLe.upd (OLe.bK _) (show cy (.cells [.sl 3 [] (.exact 0)]) (.cells [.sl 3 (bks (([]:List Bk).map (jr l))) .any]) from ay.cons av.cap ay.nil)) (λx hx=>hx) (NY _) (NY _)) (HR n m);exact xSb
 ·obtain ⟨k1,k2⟩:=hk ho;have h0:mO bs k=qO k bs.length (csI l bs 0):=by
   unfold mO qO mV csI;rw[N7 ho,N7 ho];simp
  rw[h0];unfold qO fR;refine dG ?_;refine Wp.cI [0,2,4] xA7 (λj:Nat × Nat × Nat=>[(10,.int .i64 (j.1:Nat))]) (λj=>⟨qO k bs.length (csI l bs j.1),j.2.1,[],j.2.2⟩) (λj=>j.1<=bs.length/\n<=j.2.1) (λj=>bs.length - j.1) (0,n,m) ⟨Og _,NY _⟩ rfl ?_ ?_
  ·exact xSb
  rintro ⟨i,n1,m1⟩ ⟨hi,hn1⟩;simp only at hi hn1;have y1:¬(1=k):=by omega
  by_cases hc:i<bs.length
  ·have g1:decide ((i:Int)<((bs.length:Nat):Int))=true:=N3 aa;have e1:IntKind.i64.wrap ((i:Int)+1)=((i+1:Nat):Int):=by rw[IntWalk.i64_in _ aa];omega
   rw[Ld l bs i hc];have hnx:=He l bs i hc;have hAl:(((bs.take i).map (jr l)).map jY).flatten.length=i*3:=by rw[Ek];simp;omega
   generalize (((bs.take i).map (jr l)).map jY).flatten=AA at*
   generalize (bs.drop (i+1)).flatMap cell0=BB at*
   have W:=λQ=>IN i k bs.length AA BB hAl (bs.getD i default).n (bs.getD i default).st hc hb k1 n1 m1 aa Q;unfold qO fR;refine rf0 (cj2 g1 y1) ?_;refine Wp.le (s':=⟨tm [(0,.sl 2 (prs l) .any),(2,.ptr 0 0),(4,.ptr 1 0),(10,.int .i64 i)],⟨qO k bs.length (AA++ .str (bs.getD i default).n:: .int .i64 (bs.getD i default).st:: .sl 8 [] (.exact 0)::BB),n1,[],m1⟩⟩) (aL.of (aS ?_) (OLe.bK _) (λx hx=>hx) (NY _) (NY _)) ?_
   ·exact xSb
   refine Jt W ?_;rintro s' ⟨n',m',hn',hle⟩;show Wp Tryz.prog 146 _ s' _;refine Wp.le hle ?_;refine rf0 e1 ?_;refine ⟨(i+1,n',m'),⟨by simp only;omega,by simp only;omega⟩,by simp only;omega,?_⟩;simp only;rw[hnx];refine aL.of (aS ?_) (OLe.bK _) (λx hx=>hx) (NY _) (NY _);exact xSb
  ·have hi2:i=bs.length:=by omega
   subst hi2;have g1:decide (((bs.length:Nat):Int)<((bs.length:Nat):Int))=false:=N1 aa;unfold qO fR;refine rf0 (cj2 g1 y1) ?_;show Wp Tryz.prog 146 T _ _;have hcs:csI l bs bs.length=((bs.map (jr l)).map jY).flatten:=by
    unfold csI;rw[Ot,OY (NY _)];simp
   have hrl:((bs.map (jr l)).map jY).length=bs.length:=by simp
   have hr3:∀x∈(bs.map (jr l)).map jY,x.length=3:=λx hx=>by
    obtain ⟨b,-,rfl⟩:=Oo.1 hx;rfl
   have hrb:=yp (bs.map (jr l));rw[hcs];refine Wp.le (aL.NF _ _ k 1 (rows:=(bs.map (jr l)).map jY) (sz:=3) (c:=none) hr3 aa (by simp only[upd,N9]) (by rw[hrl];simp only[upd,y1,N5,N9])) ?_;refine Wp.le (aL.of (aS ?_) (λa u hu=>⟨u,?_,cy.refl _⟩) (λx hx=>hx) (NY _) (NY _)) (HR n1 m1)
   ·have k0:¬(0=k):=by omega
    simp only[aR,go_sem,reduceIte,Nat.reduceEqDiff,Nat.reduceAdd,bx,unT,Oj,k0,y1];and_intros<;>first|exact trivial|exact av.refl _|exact av.any _|exact av.refl _|(refine av.int ?_;omega)
   ·rw[<-hrb] at hu;simp only[upd,fR,aA,zIm,H.drop] at hu |-;by_cases a1:a=1
    ·subst a1;simpa using hu
    ·by_cases a0:a=0
     ·subst a0;simp[show ¬(0=k) by omega] at hu |-;exact hu
     ·simp[a1,a0] at hu
def kO(l:List Pr):List Bk:=(bk1 l).map (jr l)
def s7(l:List Pr):AV:=if l.all (λp=>cD p.k)=true then yq l (kO l) else lJ
theorem El(l:List Pr)(m:List Bk):aO (yq l m)=true:=by
 have hn:aO lJ=true:=rfl;have he:aO (.tup [bB m,.int .i64 0])=true:=by simp[aO,aF,bW]
 unfold yq;by_cases hc:(decide (imE m=0)&&decide ((if imB m=true then aH (aN m) else [])=l))=true
 ·rw[Of hc];exact he
 ·rw[N7 hc];exact hn
theorem Hf(l:List Pr)(hl:l.length<=2000)(hks:∀p∈l,p.k.length<=140737488355328)(hvs:∀p∈l,p.v.length<=140737488355328)(hT:imB (kO l)=true->(aN (kO l)).length<=100000):
  aI Tryz.prog 21 [.sl 2 (prs l) .any] (s7 l):=by
 have hp:aO (s7 l)=true:=by
  unfold s7;split
  ·exact El _ _
  ·exact (rfl:aO lJ=true)
 refine f21.Bp af (by simp[aF,aO,aU,dw]) hp ?_;refine K9 l hl hks (s7 l) (λh=>?_) (λh k n m hn hk=>?_)
 ·unfold s7;rw[N7 (by rw[h];simp)];exact av.refl _
 ·have hok:∀p∈l,cD p.k=true:=OH.1 h;have hR:s7 l=yq l (kO l):=by unfold s7;rw[Of h]
  rw[hR];have hf:Few (kO l):=λb hb=>by
   obtain ⟨b0,-,rfl⟩:=Oo.1 hb;show (iH l l b0.n).length<=1000000;unfold iH;rw[O2];have:=QD (isV b0.n) l;omega
  exact Le l hl hok hks hvs (bk1 l) (Oz (AN l) hl) k n m hn hk _ (λn m=>La l hl (kO l) hf hT n m)
theorem yt{nm:List UInt8}{p:Pr}(h:isV nm p=true):(bc p.k).b=nm:=by
 unfold isV at h;simp only[Ob,Oj] at h;exact h.2
theorem s8{α:Type}:∀l:List α,(l.map λ_=>0).sum=0
 |[]=>rfl
 |_::l=>by simp only[Oy,List.sum_cons,s8 l]
theorem yu(p:Pr):∀ns:List (List UInt8),ns.Pairwise (· ≠ ·)->(ns.map λnm=>if isV nm p=true then 1 else 0).sum<=1
 |[],_=>by simp
 |nm::ns,h=>by
  obtain ⟨h1,h2⟩:=Pu.1 h;have ih:=yu p ns h2;simp only[Oy,List.sum_cons];by_cases hv:isV nm p=true
  ·have hz:(ns.map λnm=>if isV nm p=true then 1 else 0)=ns.map λ_=>0:=Pd λx hx=>by
    rw[N7];intro hx2;exact h1 x hx ((yt hv).symm.trans (yt hx2))
   rw[hz,Of hv,s8];exact NY _
  ·rw[N7 hv];omega
theorem uO:∀(l:List Pr)(ns:List (List UInt8)),ns.Pairwise (· ≠ ·)->(ns.map λnm=>(l.filter (isV nm)).length).sum<=l.length
 |[],ns,_=>by
  have e:(ns.map λnm=>(([]:List Pr).filter (isV nm)).length)=ns.map λ_=>0:=rfl;rw[e,s8];exact Og _
 |p::l,ns,h=>by
  have ih:=uO l ns h;have h1:=yu p ns h;have e:(ns.map λnm=>((p::l).filter (isV nm)).length)=ns.map λnm=>(if isV nm p=true then 1 else 0)+(l.filter (isV nm)).length:=Pd λx hx=>by
   rw[List.filter_cons];split
   ·simp;omega
   ·simp
  have sp:∀ns:List (List UInt8),(ns.map λnm=>(if isV nm p=true then 1 else 0)+(l.filter (isV nm)).length).sum=(ns.map λnm=>if isV nm p=true then 1 else 0).sum+(ns.map λnm=>(l.filter (isV nm)).length).sum:=by
   intro ns;induction ns with
   |nil=>rfl
   |cons a ns ih=>simp only[Oy,List.sum_cons,ih];omega
  rw[e,sp,List.length_cons];omega
theorem Hg(l:List Pr)(hl:l.length<=2000)(h:imB (kO l)=true):(aN (kO l)).length<=100000:=by
 have hn:((kO l).map Bk.n).Pairwise (· ≠ ·):=PK.2 (List.Pairwise.imp (λ{a b} hlt=>jK hlt) (jn h));have hcount:((kO l).map λb=>b.l.length).sum<=l.length:=by
  have:=uO l _ hn;rw[Qe] at this;have e:((kO l).map λb=>b.l.length)=(kO l).map ((λnm=>(l.filter (isV nm)).length) ∘ Bk.n):=by
   unfold kO;rw[Qe,Qe];exact Pd λb _=>by simp[jr,iH,Function.comp]
  rw[e];exact this
 have hm:(kO l).length<=2000:=by
  unfold kO;rw[O2];exact Oz (AN l) hl
 have key:∀b∈kO l,(fF b).length<=1+17*b.l.length:=λb hx=>by
  have ho:=lN h hx;have e:(fF b).length=1+((b.l.map (cT b.n)).flatten).length:=by
   unfold fF bD;rw[O2,List.flatten_cons,N6];rfl
  rw[e];have hv:∀l:List Vs,(∀v∈l,v.okV=true)->((l.map (cT b.n)).flatten).length<=17*l.length:=by
   intro l;induction l with
   |nil=>intro _;simp
   |cons v l ih=>
    intro hv;have h1:=ih λu hu=>hv u (by simp[hu]);have h2:=lE (pc (hv v af)).2;have h3:(cT b.n v).length=dI v.b+1:=by simp[cT]
    simp only[Oy,List.flatten_cons,N6,List.length_cons,h3];omega
  have:=hv b.l λv hv=>uF ho hv;omega
 have all:∀m:List Bk,(∀b∈m,(fF b).length<=1+17*b.l.length)->(aN m).length<=m.length+17*(m.map λb=>b.l.length).sum:=by
  intro m;induction m with
  |nil=>intro _;simp[aN]
  |cons b m ih=>
   intro hb;have h1:=ih λu hu=>hb u (by simp[hu]);have h2:=hb b af;unfold aN at*
   simp only[Oy,List.flatten_cons,N6,List.length_cons,List.sum_cons];omega
 have:=all _ key;omega
theorem AS(l:List Pr)(hl:l.length<=2000)(hks:∀p∈l,p.k.length<=140737488355328)(hvs:∀p∈l,p.v.length<=140737488355328):
  aI Tryz.prog 21 [.sl 2 (prs l) .any] (s7 l):=Hf l hl hks hvs (Hg l hl)
section
variable{m:List Bk}(h:imB m=true)
include h
omit h in
theorem Ju{p:Pr}(hp:p∈aH (aN m)):jj (aH (aN m)) p.k=0/\pY (aH (aN m)) p.k=p.v:=by
 have hpw:(aH (aN m)).Pairwise λa b=>a.k≠b.k:=(iE (aN m)).imp λhl=>jK hl;unfold jj pY;cases hf:(aH (aN m)).find? (jv p.k) with
 |none=>
  have:=List.find?_eq_none.1 hf p hp;simp[jv] at this
 |some q=>
  have h1:q.k=p.k:=by simpa [jv] using List.find?_some hf
  have h2:=vS (f:=Pr.k) hpw q (QE hf) p hp h1;rw[h2];exact ⟨rfl,rfl⟩
omit h in
theorem get_none{l:List Pr}{k:List UInt8}(hk:∀p∈l,p.k≠k):jj l k=7:=by
 unfold jj;cases hf:l.find? (jv k) with
 |none=>rfl
 |some q=>
  have h1:q.k=k:=by simpa [jv] using List.find?_some hf
  exact absurd h1 (hk q (QE hf))
theorem Kd{b:Bk}(hb:b∈m){v:Vs}(hv:v∈b.l){k:Nat}(hk:k<=16):(kyC b.n v k).ok:=by
 have q:=tq h hb hv;refine ⟨by show (1:Int)<=3/\(3:Int)<=6;decide,rfl,λn hn=>?_,λe=>absurd e (by show ¬(3:Int)=1;decide),q.b,λ_=>q.o (by show ¬(2:Int)=1;decide)⟩;have hn:n=v.id\/n=(k:Int):=by simpa [kyC] using hn
 rcases hn with rfl|rfl
 ·exact q.r v.id (by simp[kyV])
 ·omega
theorem Nv{b:Bk}(hb:b∈m){v:Vs}(hv:v∈b.l):dI v.b<=16:=by
 have q:v.okV=true:=uF (lN h hb) hv;have r:=GL q;have e:(v.b.length:Int)=v.sz:=by
  simp only[Vs.okV,Vs.fit,Ob,Oj] at q;exact q.2.1.2
 simp only[cX,Ob,Oj] at r;exact lE aa
theorem uP{b:Bk}(hb:b∈m){v:Vs}(hv:v∈b.l):∀(n k:Nat),n+k=16->k<=dI v.b->mI (aH (aN m)) b.n v.o v.id n k (v.b.take (160*k))=v.b
 |0,k,e,hk=>by
  have:=Nv h hb hv;unfold mI;rw[OT];unfold dI at*
  omega
 |n+1,k,e,hk=>by
  unfold mI;have hS:dC ⟨3,b.n,v.o,[v.id,(k:Int)]⟩=cS (kyC b.n v k):=iv (Kd h hb hv aa);rw[hS];by_cases hc:k<dI v.b
  ·have hm:=(iw h ⟨cS (kyC b.n v k),chunk v.b k⟩).2 (.inr (.inr ⟨b,hb,v,hv,k,hc,rfl⟩));obtain ⟨g1,g2⟩:=Ju hm;rw[Of g1,g2];have ht:v.b.take (160*k)++chunk v.b k=v.b.take (160*(k+1)):=by
    rw[<-jM v.b k,<-jM v.b (k+1),List.range_succ,O3,PG];simp
   show mI _ _ _ _ n (k+1) (v.b.take (160*k)++chunk v.b k)=_;rw[ht];exact uP hb hv n (k+1) aa hc
  ·have g:jj (aH (aN m)) (cS (kyC b.n v k))=7:=get_none λp hp e=>by
    have hpo:=(eV (Kd h hb hv (show k<=16 by omega))).2;rcases (iw h p).1 hp with ⟨c,hc',rfl⟩|⟨c,hc',u,hu,rfl⟩|⟨c,hc',u,hu,j,hj,rfl⟩
    ·have:=pB h hc';simp only at e;rw[e,hpo] at this;simp[kyC,kyB] at this
    ·have:=pV h hc' hu;simp only at e;rw[e,hpo] at this;simp[kyC,kyV] at this
    ·have:=pC h hc' hu hj;simp only at e;rw[e,hpo] at this;simp[kyC] at this;obtain ⟨e1,e2,e3,e4⟩:=this;obtain rfl:=sX h hb hc' e1;obtain rfl:=B3 h hb hv hu e2 e3;omega
   rw[N7 (by rw[g];decide),OT];unfold dI at hc hk;omega
theorem Em{b:Bk}(hb:b∈m){v:Vs}(hv:v∈b.l):po (aH (aN m)) b.n v.o v.id=v.b:=by
 have:=uP h hb hv 16 0 rfl (Og _);simpa [po] using this
theorem Jv{b:Bk}(hb:b∈m):iH (aH (aN m)) (aH (aN m)) b.n=b.l:=by
 unfold iH;have e:(aH (aN m)).filter (isV b.n)=VP b:=Nl h hb;rw[e];unfold VP;rw[Qe]
 conv=>rhs;rw[<-List.map_id b.l]
 refine Pd λv hv=>?_;simp only[Function.comp,id];unfold Ha;have hh:=(ow (uF (lN h hb) hv)).2;simp only[pV h hb hv,hh];show (⟨v.o,v.id,v.sz,v.re,v.im,v.g,v.u,po (aH (aN m)) b.n v.o v.id⟩:Vs)=v;rw[Em h hb hv]
theorem En:kO (aH (aN m))=m:=by
 unfold kO bk1;have e:(aH (aN m)).filter G4=BP m:=J3 h;rw[e];unfold BP;rw[Qe,Qe]
 conv=>rhs;rw[<-List.map_id m]
 refine Pd λb hb=>?_;simp only[Function.comp,id];unfold jr Jh;simp only[pB h hb];have hs:=(B5 (J5 (lN h hb))).1;rw[hs];show (⟨b.n,b.st,iH (aH (aN m)) (aH (aN m)) b.n⟩:Bk)=b;rw[Jv h hb]
theorem Eo:(aH (aN m)).all (λp=>cD p.k)=true:=by
 rw[OH];intro p hp;rcases (iw h p).1 hp with ⟨c,hc,rfl⟩|⟨c,hc,u,hu,rfl⟩|⟨c,hc,u,hu,j,hj,rfl⟩
 ·exact (eV (AG h hc)).1
 ·exact (eV (tq h hc hu)).1
 ·exact (eV (vT h hc hu hj)).1
end
theorem Hh(L:List Pr):gM L=s7 L:=by
 by_cases hk:gu L=true
 ·have hk':=hk;unfold gu at hk';cases hr:kM L L.length with
  |none=>rw[hr] at hk';cases hk'
  |some S=>
   rw[hr] at hk';simp only[Ob,Oj] at hk';obtain ⟨h1,h2,h3⟩:=hk';have hB:imB S.1=true:=by
    cases hb:imB S.1 with
    |true=>rfl
    |false=>unfold imE at h2;rw[hb] at h2;simp at h2
   rw[Of hB] at h3;have hS:lK L=S.1:=by unfold lK;rw[hr]
   have hM:=En hB;have hA:=Eo hB;rw[h3] at hM hA;unfold gM s7 yq;rw[Of hk,hS,Of hA,hM,Of (by rw[Of hB,h3,h2];simp)]
 ·unfold gM;rw[N7 hk];unfold s7;by_cases hA:L.all (λp=>cD p.k)=true
  ·rw[Of hA];unfold yq;rw[N7];intro hc;simp only[Ob,Oj] at hc;obtain ⟨c1,c2⟩:=hc;have hB:imB (kO L)=true:=by
    cases hb:imB (kO L) with
    |true=>rfl
    |false=>unfold imE at c1;rw[hb] at c1;simp at c1
   rw[Of hB] at c2;have hr:=Eb hB;rw[c2] at hr;apply hk;unfold gu;rw[hr];simp[c1,hB,c2]
  ·rw[N7 hA]
def ec(R:List (List Ch))(l:List Ch):List (List Ch):=match R.getLast? with
 |none=>[l]
 |some r=>if r.length+l.length<=64 then R.dropLast++[r++l] else R++[l]
def yv(R:List (List Ch))(b:Bk):List (List Ch):=(bD b).foldl ec R
def dP(m:List Bk):List (List Ch):=m.foldl yv []
theorem nv(l:List Ch):ec [] l=[l]:=rfl
theorem ic(A:List (List Ch))(r l:List Ch):ec (A++[r]) l=if r.length+l.length<=64 then A++[r++l] else A++[r]++[l]:=by
 unfold ec;rw[List.getLast?_concat,List.dropLast_concat]
theorem ox(m:List Bk)(j:Nat)(h:j<m.length):dP (m.take (j+1))=yv (dP (m.take j)) (m.getD j default):=by
 unfold dP;rw[Batch.gW h,List.foldl_append];rfl
theorem oy(R P:List (List Ch))(i:Nat)(h:i<R.length):(R.take (i+1)).foldl ec P=ec ((R.take i).foldl ec P) (R.getD i []):=by
 have e:R.getD i []=R[i]:=by simp[Ou,N0 h]
 rw[e,Ov h,List.foldl_append];rfl
def fe(x:List Ch × Nat):AV:= .sl 3 (chs x.1) (.own x.2)
def mN(R:List (List Ch × Nat)):Av.Obj:= .cells (R.map fe)
def tV(R:List (List Ch × Nat))(k:Nat):AV:=if R=[] then .sl 1 [] (.exact 0) else .tsl 1 k 0 R.length none
def tO(R:List (List Ch × Nat))(k:Nat)(f:Nat->Option Av.Obj):Nat->Option Av.Obj:=upd (if R=[] then f else upd f k (some (mN R))) 1 (some (.cells [tV R k]))
theorem AT(R:List (List Ch × Nat))(k:Nat)(f:Nat->Option Av.Obj):tO R k f 1=some (.cells [tV R k]):=by simp[tO,upd]
theorem Hi{R:List (List Ch × Nat)}{k:Nat}{f:Nat->Option Av.Obj}(h:R≠[])(hk:k≠1):tO R k f k=some (mN R):=by simp[tO,upd,h,hk]
theorem jN{R:List (List Ch × Nat)}{k j:Nat}{f:Nat->Option Av.Obj}(h1:j≠1)(h2:R≠[]->j≠k):tO R k f j=f j:=by
 unfold tO;by_cases ho:R=[]
 ·simp[upd,ho,h1]
 ·simp[upd,ho,h1,h2 ho]
theorem Nw{R:List (List Ch × Nat)}{k:Nat}{g f:Nat->Option Av.Obj}(h1:g 1=some (.cells [tV R k]))(h2:R≠[]->g k=some (mN R))(h3:OLe g f):OLe g (tO R k f):=by
 intro j p hp;unfold tO at hp;simp only[upd] at hp;split at hp
 ·rename_i e;subst e;cases hp;exact ⟨_,h1,cy.refl _⟩
 ·split at hp
  ·exact h3 j p hp
  ·rename_i ho;simp only[upd] at hp;split at hp
   ·rename_i e;subst e;cases hp;exact ⟨_,h2 ho,cy.refl _⟩
   ·exact h3 j p hp
theorem v7{R:List (List Ch × Nat)}{k L:Nat}{A B:Option Av.Obj}(h1:L≠1)(h2:R≠[]->k≠L):upd (tO R k (upd aA L A)) L B=tO R k (upd aA L B):=by
 funext j;unfold tO;by_cases ho:R=[]
 ·simp only[ho,N9,upd];by_cases a:j=L
  ·subst a;simp[h1]
  ·simp[a]
 ·simp only[ho,N5,upd];by_cases a:j=L
  ·subst a;simp[h1,PU (h2 ho)]
  ·simp[a]
theorem Lf{R:List (List Ch × Nat)}{k L:Nat}{A:Option Av.Obj}(h1:L≠1)(h2:R≠[]->k≠L):(λj=>if j=L then none else tO R k (upd aA L A) j)=tO R k aA:=by
 funext j;unfold tO;by_cases a:j=L
 ·subst a;by_cases ho:R=[]
  ·simp[upd,ho,h1,aA]
  ·simp[upd,ho,h1,PU (h2 ho),aA]
 ·by_cases ho:R=[]
  ·simp[upd,ho,a]
  ·simp[upd,ho,a]
theorem Lg{R:List (List Ch × Nat)}{k L:Nat}{B:Option Av.Obj}(h1:L≠1)(h2:R≠[]->k≠L):upd (tO R k aA) L B=tO R k (upd aA L B):=by
 have:=v7 (R:=R) (k:=k) (L:=L) (A:=none) (B:=B) h1 h2
 rwa [yo] at this
structure TOk(R:List (List Ch × Nat))(N:Nat)(T:List Nat)(m:Nat):Prop where
 tk:∀t∈T,t<m
 last:∀A x,R=A++[x]->x.2∈T
 len:R.length<=N
 sz:∀x∈R,x.1.length<=100000
def Ep(R:List (List Ch × Nat))(k L:Nat)(lp:Av.Obj)(n:Nat)(T:List Nat)(m:Nat):H:=⟨tO R k (upd aA L (some lp)),n,T,m⟩
def rfA:AC->AC
 | .uV _ _ _ b=>b
 |c=>c
def Nx:AC:=lpA (blA (tlA (hdA (tlA (tlA (tlA c25))))))
def Ke:AC:=rfA (blA (tlA (tlA (blA (hdA (tlA (tlA Nx)))))))
theorem Lh{R R':List (List Ch × Nat)}{k:Nat}{f:Nat->Option Av.Obj}(h:R≠[])(h':R'≠[])(hk:k≠1)(hl:R'.length=R.length):upd (tO R k f) k (some (mN R'))=tO R' k f:=by
 have hv:tV R k=tV R' k:=by unfold tV;rw[N7 h,N7 h',hl]
 funext j;simp only[tO,upd,h,h',N5,hv];by_cases a:j=k
 ·subst a;simp[hk]
 ·simp[a]
theorem Er{R:List (List Ch × Nat)}{r:List Ch}{t k L n N m1 m2:Nat}{T:List Nat}{lp:Av.Obj}(hL:1<L)(hLn:L<n)(hk:R≠[]->k<n/\k≠1/\k≠L)(hT:TOk R N T m1)(hm:m1<=t)(ht:t<m2)(hN:N<=1000000)(hr:r.length<=100000){Q:aM->St->Prop}
  (hQ:∀R' k' n' T' m' t',R'.map Prod.fst=ec (R.map Prod.fst) r->TOk R' (N+1) T' m'->n<=n'->m2<=m'->(R'≠[]->k'<n'/\k'≠1/\k'≠L)->Q .normal ⟨t',Ep R' k' L lp n' T' m'⟩):
  Wp Tryz.prog 58 Ke ⟨tm [(5,.ptr 1 0),(8,.sl 3 (chs r) (.own t))],⟨tO R k (upd aA L (some lp)),n,t::T,m2⟩⟩ Q:=by
 unfold Ke Nx c25;simp only[tlA,hdA,lpA,blA,rfA];have hf1:(1:Nat)≠L:=by omega
 have lr:=bF r;have n1:¬(1=n):=by omega
 have tkT:∀y∈t::T,y<m2:=λy hy=>by
  rcases Om.1 hy with rfl|hy
  ·exact ht
  ·have:=hT.tk y hy;omega
 by_cases hR:R=[]
 ·subst hR;have h1:=AT [] k (upd aA L (some lp));have hv:tV [] k= .sl 1 [] (.exact 0):=rfl;rw[hv] at h1;have d0:decide ((0:Int)<((0:Nat):Int))=false:=by decide
  refine Wp.block ?_;refine Wp.bg (xAd h1) ?_;refine aw.nil ?_;refine Wp.seq ?_;refine Wp.bg (xAd (cj3 d0 @N4.{0} @Oa)) ?_;refine aw.nil ?_;refine Wp.cond_false xA2 ?_;refine Wp.skip ?_;refine Wp.pT ?_;refine aw.op1 ae (by simp only[go_sem,reduceIte,Nat.reduceEqDiff,Nat.reduceAdd,bx,ax,N9,N5,Nat.reduceMul,Nat.reduceLeDiff,h1];exact rfl) ?_;simp only[bq];refine aw.op1 ae (by simp only[go_sem,reduceIte,Nat.reduceEqDiff,Nat.reduceAdd,bx,ax,N9,N5,Nat.reduceMul,Nat.reduceLeDiff,h1];exact rfl) ?_;simp only[bq];refine aw.op1 ae (by simp only[go_sem,reduceIte,Nat.reduceEqDiff,Nat.reduceAdd,bx,ax,N9,N5,Nat.reduceMul,Nat.reduceLeDiff,h1];exact rfl) ?_;simp only[bq];refine aw.opT ae (by simp only[jt,go_sem,reduceIte,Nat.reduceEqDiff,Nat.reduceAdd,bx,List.all_cons,List.all_nil,List.length_cons,List.length_nil,Nat.reduceMul,Nat.reduceLeDiff,Nat.reduceLT,Qw,Oe,N9,Ow,O7];exact rfl) ?_;simp only[bq];refine aw.evF (xAd (cj2 n1 h1)) ?_;refine aw.nil ?_;simp only[aM.inBlock];have e:upd (upd (tO [] k (upd aA L (some lp))) n (some (.cells (([AV.sl 3 (chs r) (.own t)]:List AV).flatMap cellsOf)))) 1 (some (.cells [AV.tsl 1 n 0 1 none]))=tO [(r,t)] n (upd aA L (some lp)):=by
   funext j;by_cases a:j=1
   ·subst a;simp[tO,upd,tV]
   ·simp[tO,upd,a,mN,fe,cellsOf]
  rw[e];exact hQ [(r,t)] n (n+1) (t::T) m2 _ rfl ⟨tkT,λA x h=>by
   cases A with
   |nil=>simp at h;subst h;simp
   |cons a A=>simp at h,by simp,λy hy=>by simp at hy;subst hy;exact hr⟩ (P9 _) (NY _) λ_=>⟨OD _,aa,aa⟩
 ·obtain ⟨A,x,rfl⟩:∃A x,R=A++[x]:=by
   rcases List.eq_nil_or_concat R with h|⟨A,x,h⟩
   ·exact absurd h hR
   ·exact ⟨A,x,by simpa using h⟩
  obtain ⟨k1,k2,k3⟩:=hk hR;have h1:=AT (A++[x]) k (upd aA L (some lp));have hv:tV (A++[x]) k= .tsl 1 k 0 (A++[x]).length none:=by unfold tV;rw[N7 hR]
  rw[hv] at h1;have h2:=Hi (f:=upd aA L (some lp)) hR k2;have hl:(A++[x]).length=A.length+1:=by simp
  rw[hl] at h1;have hlast:=hT.last A x rfl;have hlen:=hT.len;rw[hl] at hlen;have d0:decide ((0:Int)<((A.length+1:Nat):Int))=true:=N3 aa;have e1:IntKind.i64.wrap (((A.length+1:Nat):Int) - 1)=(A.length:Int):=by rw[IntWalk.i64_in _ aa];omega
  have p1:(0:Int)<=(A.length:Int):=by omega
  have p2:(A.length:Int)<((A.length+1:Nat):Int):=by omega
  have hx:=hT.sz x af;have hcx:fe x= .sl 3 (chs x.1) (.own x.2):=rfl;have lx:=bF x.1;have e2:IntKind.i64.wrap ((x.1.length:Int)+(r.length:Int))=((x.1.length+r.length:Nat):Int):=by rw[IntWalk.i64_in _ aa];omega
  have hcs:(A++[x]).map fe=A.map fe++[fe x]:=by simp
  unfold mN at h2;rw[hcs,hcx] at h2;have hal:(A.map fe).length=A.length:=O2 _;have hgt:(A.map fe++[AV.sl 3 (chs x.1) (.own x.2)])[A.length*1]? =some (.sl 3 (chs x.1) (.own x.2)):=by rw[OO,<-hal];simp
  refine Wp.block ?_;refine Wp.bg (xAd h1) ?_;refine aw.nil ?_;refine Wp.seq ?_;generalize hF0:tO (A++[x]) k (upd aA L (some lp))=F at*
  cases b:decide (((x.1.length+r.length:Nat):Int)<=64) with
  |true=>
   refine Wp.bg (xAd (aY d0 e1 p1 p2 h1 h2 hgt @Ol.{0,0} hal lx lr (cj6 e2 b @N6.{0} @N2.{0} @N4.{0} @Od))) ?_;refine aw.nil ?_;refine Wp.cond_true xA2 ?_;have b':=Oh b;have r1:(x.1.length+r.length)*40<=140737488355328:=by omega
   have r2:x.1.length+r.length<4611686018427387904:=by omega
   have hmem:x.2∈t::T:=List.mem_cons_of_mem _ hlast;have q5:A.length*1<=A.length:=by omega
   have k1':¬(k=1):=k2;refine Wp.cm (xAd (aY e1 p1 p2 h1 h2 hgt @Ol.{0,0} hal lx lr r1 (cj4 r2 hmem q5 @Oe))) ?_;refine az.nil ⟨by simp[bw,aV,apart,aZ],?_⟩;refine Wp.exit ?_;simp only[aM.andThen,aM.inBlock,N9];have hchs:chs x.1++chs r=chs (x.1++r):=by simp[chs]
   have e:List.take (A.length*1) (A.map fe++[AV.sl 3 (chs x.1) (.own x.2)])++[AV.sl 3 (chs x.1++chs r) (.own m2)]++List.drop (A.length*1+1) (A.map fe++[AV.sl 3 (chs x.1) (.own x.2)])=(A++[(x.1++r,m2)]).map fe:=by
    rw[OO,<-hal,Qg,hchs,OY af];simp[fe]
   have e3:upd F k (some (.cells ((A++[(x.1++r,m2)]).map fe)))=tO (A++[(x.1++r,m2)]) k (upd aA L (some lp)):=by
    rw[<-hF0];exact Lh hR af k2 af
   rw[e,e3];refine hQ (A++[(x.1++r,m2)]) k n _ (m2+1) _ ?_ ⟨λy hy=>?_,λA' x' h=>?_,?_,λy hy=>?_⟩ (NY _) (P9 _) λ_=>⟨k1,k2,k3⟩
   ·simp only[O3,Oy,OE];rw[ic,Of aa]
   ·rcases Om.1 hy with rfl|hy
    ·exact OD _
    ·refine Nat.lt_succ_of_lt (tkT y ?_);split at hy
     ·rcases Om.1 hy with rfl|h
      ·exact Qm
      ·exact List.mem_cons_of_mem _ (Pm.1 h).1
     ·exact List.mem_cons_of_mem _ (Pm.1 hy).1
   ·have:=List.append_inj_right' h rfl;cases this;exact Qm
   ·simp;omega
   ·rcases OM.1 hy with h|h
    ·exact hT.sz y (List.mem_append_left _ h)
    ·simp at h;subst h;simp only[N6];omega
  |false=>
   refine Wp.bg (xAd (aY d0 e1 p1 p2 h1 h2 hgt @Ol.{0,0} hal lx lr (cj7 e2 b @N6.{0} @N2.{0} @N4.{0} @Od @Oa))) ?_;refine aw.nil ?_;refine Wp.cond_false xA2 ?_;refine Wp.skip ?_;refine Wp.pT ?_;refine aw.op1 ae (by simp only[go_sem,reduceIte,Nat.reduceEqDiff,Nat.reduceAdd,bx,ax,N9,N5,Nat.reduceMul,Nat.reduceLeDiff,h1];exact rfl) ?_;simp only[bq];refine aw.op1 ae (by simp only[go_sem,reduceIte,Nat.reduceEqDiff,Nat.reduceAdd,bx,ax,N9,N5,Nat.reduceMul,Nat.reduceLeDiff,h1];exact rfl) ?_;simp only[bq];refine aw.op1 ae (by simp only[go_sem,reduceIte,Nat.reduceEqDiff,Nat.reduceAdd,bx,ax,N9,N5,Nat.reduceMul,Nat.reduceLeDiff,h1];exact rfl) ?_;simp only[bq];have r1:(A.length+1+1)*24<=140737488355328:=by omega
   have r2:A.length+1+1<4611686018427387904:=by omega
   have x7:¬(k=n):=by omega
   have x8:¬(1=k):=by omega
   have lcs:(A.map fe++[AV.sl 3 (chs x.1) (.own x.2)]).length=A.length+1:=by rw[N6,hal];rfl
   refine aw.opK ae (by simp only[lS,go_sem,reduceIte,Nat.reduceEqDiff,Nat.reduceAdd,bx,List.all_cons,List.all_nil,List.length_cons,List.length_nil,x7,h2,lcs,OO,r1,r2,Oe,N9,N5,Ow,O7];exact rfl) ?_;simp only[bq];refine aw.evF (xAd (cj3 n1 x8 h1)) ?_;refine aw.nil ?_;simp only[aM.inBlock];have hne:A++[x]++[(r,t)]≠[]:=by simp
   have e:upd (upd (λj=>if j=k then none else F j) n (some (.cells (A.map fe++[AV.sl 3 (chs x.1) (.own x.2)]++([AV.sl 3 (chs r) (.own t)]:List AV).flatMap cellsOf)))) 1 (some (.cells [AV.tsl 1 n 0 (A.length+1+1) none]))=tO (A++[x]++[(r,t)]) n (upd aA L (some lp)):=by
    funext j;by_cases a:j=1
    ·subst a;simp[tO,upd,tV]
    ·by_cases a2:j=n
     ·subst a2;simp[tO,upd,a,mN,fe,cellsOf]
     ·rw[jN a (λ_=>a2)];by_cases a3:j=k
      ·subst a3;simp[upd,a,a2,k3,aA]
      ·simp only[upd,a,a2,a3,N5];rw[<-hF0,jN a (λ_=>a3)];rfl
   rw[e];refine hQ (A++[x]++[(r,t)]) n (n+1) (t::T) m2 _ ?_ ⟨tkT,λA' x' h=>?_,?_,λy hy=>?_⟩ (P9 _) (NY _) λ_=>⟨OD _,aa,aa⟩
   ·simp only[O3,Oy,OE];rw[ic,N7 (by have:=Ox b;omega)]
   ·have:=List.append_inj_right' h rfl;cases this;exact Qm
   ·simp;omega
   ·rcases OM.1 hy with h|h
    ·exact hT.sz y h
    ·simp at h;subst h;exact hr
end Go.Proofs.YtjnoobmaedgooaaGreat.Arch
end
section
set_option maxRecDepth 100000
namespace Go.Proofs.YtjnoobmaedgooaaGreat.Arch
open Go Go.Av Go.Proofs Go.Proofs.YtjnoobmaedgooaaGreat.C Go.Proofs.YtjnoobmaedgooaaGreat.Desk Go.Proofs.YtjnoobmaedgooaaGreat.Batch
abbrev v8(R:List (List Ch)):List AV:=rws R
theorem TOk.mono{R:List (List Ch × Nat)}{N N':Nat}{T:List Nat}{m m':Nat}(h:TOk R N T m)(hn:N<=N')(hm:m<=m'):TOk R N' T m':=⟨λt ht=>OU (h.tk t ht) hm,h.last,Oz h.len hn,h.sz⟩
theorem pF:∀R:List (List Ch × Nat),nG (R.map fe) (v8 (R.map Prod.fst))
 |[]=>trivial
 |x::R=>⟨av.cap,pF R⟩
set_option maxHeartbeats 4000000 in
theorem Li(m:List Bk)(hfw:ql m=true):aI Tryz.prog 25 [bB m] (.tup [.sl 1 (v8 (if imB m=true then dP m else [])) .any,.int .i64 (imE m)]):=by
 refine f25.u0 af (by simp[aF,bW]) (by simp[aO,aF,aU,o9]) ?_;unfold c25;have hcnt:=Oh hfw;have hf:Few m:=λb hb=>by
  have:b.l.length<=fw m:=vZ (Oo.2 ⟨b,hb,rfl⟩);omega
 have h1:=vw m hf;have len:=eL m;unfold imE at*
 cases hm:imB m with
 |false=>
  rw[hm] at h1;simp only[Oa,N5] at h1 |-;unfold bB at*
  refine nA h1 ?_;refine aG ?_;exact av.tup (ay.cons av.cap (ay.refl _))
 |true=>
  rw[hm] at h1;simp only[N9] at h1 |-;unfold bB at*
  obtain ⟨hl,hok⟩:=sI hm;have hF:(aN m).length<=100000:=by
   have:=lL hm;unfold fw at hcnt;omega
  refine rf1 @len h1 ?_;refine Wp.le (s':=⟨tm [(5,.ptr 1 0),(16,.sl 3 (bks m) .any),(17,.int .i64 m.length),(18,.int .i64 0)],⟨tO [] 0 aA,2,[],0⟩⟩) (aL.of (aS ?_) (Nw ?_ (λh=>absurd rfl h) (OLe.none _)) (λa ha=>ha) (NY _) (NY _)) ?_
  ·exact xSb
  ·simp[upd,tV]
  refine Wp.cI [5,16,17] xA7 (λb:Nat × List (List Ch × Nat) × Nat × Nat × List Nat × Nat=>[(18,.int .i64 (b.1:Nat))]) (λb=>⟨tO b.2.1 b.2.2.1 aA,b.2.2.2.1,b.2.2.2.2.1,b.2.2.2.2.2⟩)
   (λb=>b.1<=m.length/\2<=b.2.2.2.1/\(b.2.1≠[]->b.2.2.1<b.2.2.2.1/\b.2.2.1≠1)/\b.2.1.map Prod.fst=dP (m.take b.1)/\TOk b.2.1 (b.1+fw (m.take b.1)) b.2.2.2.2.1 b.2.2.2.2.2) (λb=>m.length - b.1) (0,[],0,2,[],0) ⟨Og _,NY _,λh=>absurd rfl h,rfl,⟨(by intro t h;cases h),(by intro A x h;simp at h),Og _,(by intro x h;cases h)⟩⟩ rfl ?_ ?_
  ·exact xSb
  rintro ⟨j,RT,k,n,T,mm⟩ ⟨hj,hn2,hk,hR,hT⟩;simp only at hj hn2 hk hR hT;by_cases hc:j<m.length
  ·obtain ⟨g1,g2,g3,e1⟩:=cK hc (Oz hl al);have hat:=ft m j .any hc;have hb:=hok j hc;have hfe:=hf.at j;have hle:=mD m (j+1);rw[jm m j hc,N6] at hle;have hcs:=pE m j hc;have hcl:=AP m (j+1);have hps:=ox m j hc;have hlen:(bD (m.getD j default)).length=(m.getD j default).l.length+1:=by simp[bD]
   have c1:=xE (m.getD j default);have hTH:=xY (m.getD j default) hb hfe;have hFB:fF (m.getD j default)=(bD (m.getD j default)).flatten.map cY:=rfl;rw[hFB] at hle;unfold yv at hps;generalize bD (m.getD j default)=R at*
   rw[<-hR] at hps;generalize m.getD j default=b at*
   clear hFB;obtain ⟨nm,st,vl⟩:=b;unfold ff at hat c1;simp only at hcs hlen;have n1:¬(1=n):=by omega
   refine rf1 (cj6 g1 g2 g3 @len hat @NZ) c1 ?_;refine Wp.le (s':=⟨tm [(5,.ptr 1 0),(16,.sl 3 (bks m) .any),(17,.int .i64 m.length),(18,.int .i64 j),(23,.clo (.func 91) [] [.ref [.str nm,.int .i64 st,.sl 8 (vss vl) .any]])],⟨tO RT k aA,n+1,T,mm⟩⟩) (aL.of (aS ?_) ?_ (λa ha=>ha) (NY _) (NY _)) ?_
   ·exact xSb
   ·intro a u hu;have hne:a≠n:=by
     rintro rfl;rw[jN aa (λh=>by have:=(hk h).1;omega)] at hu;cases hu
    exact ⟨u,by simp only[upd,hne,N5];exact hu,cy.refl _⟩
   generalize hL:n+1=L at*
   have hkL:RT≠[]->k<L/\k≠1:=λh=>⟨by have:=(hk h).1;omega,(hk h).2⟩;have hL1:L≠1:=by omega
   have hL2:1<L:=by omega
   clear hk;refine Wp.JQ (fi:=91) (first:=[]) (caps:=[.ref [.str nm,.int .i64 st,.sl 8 (vss vl) .any]]) (by simp only[go_sem,reduceIte,Nat.reduceEqDiff]) (Tryz.func91) rfl (Oh (by kernel_rfl)) (jN hL1 (λh=>by show L≠k;have:=(hkL h).1;omega)) λasg body a1 a2 a3 a4=>?_;generalize hTt:tm [(5,AV.ptr 1 0),(16,.sl 3 (bks m) .any),(17,.int .i64 m.length),(18,.int .i64 j),(23,.clo (.func 91) [] [.ref [.str nm,.int .i64 st,.sl 8 (vss vl) .any]])]=tt at*
   have t5:tt 5= .ptr 1 0:=by rw[<-hTt];rfl
   refine (hTH L (λi h=>∃RT' k' n' T' m',h=Ep RT' k' L (.loop 58 tt [24] asg body .ready none) n' T' m'/\L<n'/\(RT'≠[]->k'<n'/\k'≠1/\k'≠L)/\RT'.map Prod.fst=(R.take i).foldl ec (RT.map Prod.fst)/\TOk RT' (j+fw (m.take j)+i) T' m') (λ_=>False) ?_ ?_ ?_ _ ?_).mono ?_
   ·rintro i h ⟨RT',k',n',T',m',rfl,q1,q2,q3,q4⟩;refine ⟨λa ha=>?_,q4.tk⟩;have ha:n'<=a:=ha;show tO _ _ _ a=none;rw[jN aa (λh=>by have:=(q2 h).1;omega)];have:a≠L:=by omega
    simp[upd,this,aA]
   ·rintro i h n2 m2 ⟨RT',k',n',T',m',rfl,q1,q2,q3,q4⟩ hn hm;have hn:n'<=n2:=hn;have hm:m'<=m2:=hm;exact ⟨RT',k',n2,T',m2,rfl,aa,λh=>⟨by have:=(q2 h).1;omega,(q2 h).2⟩,q3,q4.mono (NY _) hm⟩
   ·rintro i h t m2 hi ⟨RT',k',n',T',m',rfl,q1,q2,q3,q4⟩ ht1 ht2;have ht1:m'<=t:=ht1;have hob:tO RT' k' (upd aA L (some (Av.Obj.loop 58 tt [24] asg body .ready none))) L=some (.loop 58 tt [24] asg body .ready none):=by
     rw[jN hL1 (λh=>PU (q2 h).2.2)];simp[upd]
    refine sb (t:=tt) (ps:=[24]) hob a1 a2 a3 a4 rfl af ?_;refine Wp.nX (by simp only[go_sem,reduceIte,Nat.reduceEqDiff,nH];exact rfl) ah ⟨rfl,tt,hob,?_⟩;clear hob;simp only[Ep];rw[v7 hL1 (λh=>(q2 h).2.2)];have hlr:=q0 R (i+1);rw[nr R i hi,N6] at hlr;have hb2:(R.getD i []).length<=100000:=by
     have e:((R.getD i []).map cY).length=(R.getD i []).length:=O2 _;omega
    have hpl:=oy R (RT.map Prod.fst) i hi;generalize R.getD i []=r at*
    generalize hbz:Av.Obj.loop 58 tt [24] asg body .busy none=bz at*
    refine Wp.le (s':=⟨tm [(5,.ptr 1 0),(8,.sl 3 (chs r) (.own t))],⟨tO RT' k' (upd aA L (some bz)),n',t::T',m2⟩⟩) (aL.of (aS ?_) (OLe.bK _) (λa ha=>ha) (NY _) (NY _))
     (Er (R:=RT') (r:=r) hL2 q1 q2 q4 ht1 ht2 aa hb2 (λR' k2 n2 T2 m3 t' w1 w2 w3 w4 w5=>?_))
    ·exact bY t5
    ·refine ⟨tt,true,.ready,none,?_,.normal,λ_ _=> .inl ⟨rfl,R',k2,n2,T2,m3,?_,aa,w5,by rw[w1,q3,hpl],w2.mono aa (NY _)⟩⟩
     ·show tO _ _ _ L=_;rw[jN hL1 (λh=>PU (w5 h).2.2),<-hbz];simp[upd]
     ·simp only[Ep];rw[v7 hL1 (λh=>(w5 h).2.2)]
   ·exact ⟨RT,k,L+1,T,mm,by simp only[Ep];rw[Lg hL1 (λh=>by have:=(hkL h).1;omega)],aa,λh=>⟨by have:=(hkL h).1;omega,(hkL h).2,by have:=(hkL h).1;omega⟩,by simp,hT.mono aa (NY _)⟩
   ·rintro r h' ⟨rfl,⟨RT',k',n',T',m',rfl,q1,q2,q3,q4⟩|hx⟩
    case inr=>exact absurd hx (λh=>h)
    rw[Ot,<-hps] at q3;refine ⟨tt,.ready,none,.normal,?_,by simp,.none,?_⟩
    ·show tO _ _ _ L=_;rw[jN hL1 (λh=>PU (q2 h).2.2)];simp[upd]
    ·simp only[Ep];rw[Lf hL1 (λh=>(q2 h).2.2)];simp only[aM.inBlock,aM.andThen];rw[<-hTt];refine rf0 e1 ?_;refine ⟨(j+1,RT',k',n',T',m'),⟨hc,by show 2<=n';omega,λh=>⟨(q2 h).1,(q2 h).2.1⟩,q3,q4.mono (by simp only;omega) (NY _)⟩,O5 hc (OD _),?_⟩;refine aL.tm ?_;exact bY e1
  ·have hj2:j=m.length:=by omega
   subst hj2;have g1:=dZ m.length;rw[Ot] at hR hT;have hF1:=AT RT k aA;rw[<-hR];by_cases ho:RT=[]
   ·have hv:tV RT k= .sl 1 [] (.exact 0):=by rw[tV,Of ho]
    rw[hv] at hF1;subst ho;generalize tO [] k aA=F at*
    refine rf0 (cj2 g1 hF1) ?_;refine aG ?_;exact av.tup (ay.cons av.cap (ay.refl _))
   ·have hv:tV RT k= .tsl 1 k 0 RT.length none:=by rw[tV,N7 ho]
    obtain ⟨y1,y2⟩:=hk ho;have hFk:=Hi (f:=aA) ho y2;rw[hv] at hF1;generalize tO RT k aA=F at*
    refine rf0 (cj2 g1 hF1) ?_;refine Wp.ret ⟨trivial,_,rfl,?_⟩;have hu:unT ⟨F,n,T,mm⟩ (λ_=>true) (.tup [.tsl 1 k 0 RT.length none,.int .i64 0])= .tup [.sl 1 (RT.map fe) .any,.int .i64 0]:=by
     simp[unT,rY,hFk,mN,OT]
    show av (unT ⟨F,n,T,mm⟩ (λ_=>true) (.tup [.tsl 1 k 0 RT.length none,.int .i64 0])) _;rw[hu];exact av.tup (ay.cons (av.sl (pF RT)) (ay.refl _))
def Hj:AC:=lpA (blA (tlA (hdA (tlA (tlA (tlA c26))))))
def s9:AC:=lpA (blA (tlA (tlA (blA (hdA (tlA Hj))))))
def Cf:AC:=hdA (tlA s9)
def dV(R:List (List Ch))(k:Nat):AV:=if R=[] then .sl 1 [] (.exact 0) else .tsl 1 k 0 R.length none
def dO(R:List (List Ch))(k:Nat)(b:Av.Obj):Nat->Option Av.Obj:=upd (if R=[] then aA else upd aA k (some (.cells (rws R)))) 0 (some b)
theorem rE(R:List (List Ch))(k:Nat)(b:Av.Obj):dO R k b 0=some b:=by simp[dO,upd]
theorem Hk{R:List (List Ch)}{k:Nat}{b:Av.Obj}(h:R≠[])(hk:k≠0):dO R k b k=some (.cells (rws R)):=by simp[dO,upd,h,hk]
theorem Cg{R:List (List Ch)}{k:Nat}{g:Nat->Option Av.Obj}{b:Av.Obj}{cs:List AV}(h1:g 0=some b)(h2:R≠[]->g k=some (.cells cs))(h3:ay cs (rws R)):OLe g (dO R k b):=by
 intro j p hp;unfold dO at hp;simp only[upd] at hp;split at hp
 ·rename_i e;subst e;cases hp;exact ⟨_,h1,cy.refl _⟩
 ·split at hp
  ·cases hp
  ·rename_i ho;simp only[upd,aA] at hp;split at hp
   ·rename_i e;subst e;cases hp;exact ⟨_,h2 ho,h3⟩
   ·cases hp
theorem te{a b:AV}:∀l:List AV,av a b->ay (l++[a]) (l++[b])
 |[],h=>ay.cons h ay.nil
 |x::l,h=>ay.cons (av.refl _) (te l h)
theorem Jw{bk:Av.Obj}{R:List (List Ch)}{rows:List (List Ch)}{i k n m N:Nat}{v6:Int}(hi:i<rows.length)(hil:rows.length<=1000000)(hk:R≠[]->k<n/\k≠0)(hn:0<n)(hN:N<=1000000)(hlen:R.length<=N)(hsz:∀x∈R,x.length<=100000)(hr:(rows.getD i default).length<=100000){Q:aM->St->Prop}
  (hQ:∀k' n' m' s',n<=n'->k'<n'->k'≠0->aL s' ⟨tm [(1,.ptr 0 0),(5,.tsl 1 k' 0 (ec R (rows.getD i default)).length none),(6,.int .i64 v6),(7,.sl 1 (rws rows) .any),(8,.int .i64 i)],⟨dO (ec R (rows.getD i default)) k' bk,n',[],m'⟩⟩->Q .normal s'):
  Wp Tryz.prog 77 Cf ⟨tm [(1,.ptr 0 0),(5,dV R k),(6,.int .i64 v6),(7,.sl 1 (rws rows) .any),(8,.int .i64 i)],⟨dO R k bk,n,[],m⟩⟩ Q:=by
 unfold Cf s9 Hj c26 zz;simp only[tlA,hdA,lpA,blA];have hat:=sL rows i .any hi;have lrw:=gf rows;have i1:(0:Int)<=(i:Int):=by omega
 have i2:(i:Int)<(rows.length:Int):=by omega
 generalize rows.getD i default=r at*
 have lr:=bF r;have n0:¬(0=n):=by omega
 by_cases hR:R=[]
 ·subst hR;have hv:dV [] k= .sl 1 [] (.exact 0):=rfl;rw[hv];have d0:decide ((0:Int)<((0:Nat):Int))=false:=by decide
  have h0:=rE [] k bk;generalize dO [] k bk=F at*
  refine Wp.block ?_;refine Wp.bg xAc ?_;refine aw.nil ?_;refine Wp.seq ?_;refine Wp.eF (xAd (cj3 d0 @N4.{0} @Oa)) ?_;refine az.nil ⟨by simp[bw,aV,apart,aZ],?_⟩;refine Wp.cond_false xA2 ?_;refine Wp.pT ?_;refine aw.op1 ae (by simp only[go_sem,reduceIte,Nat.reduceEqDiff,Nat.reduceAdd,bx,ax,N9,N5,Nat.reduceMul,Nat.reduceLeDiff,lrw,hat,i1,i2,Int.toNat_natCast];exact rfl) ?_;simp only[bq];refine aw.op1 ae (by simp only[go_sem,reduceIte,Nat.reduceEqDiff,Nat.reduceAdd,bx,ax,N9,N5,Nat.reduceMul,Nat.reduceLeDiff,lrw,hat,i1,i2,Int.toNat_natCast];exact rfl) ?_;simp only[bq];refine aw.op1 ae (by simp only[go_sem,reduceIte,Nat.reduceEqDiff,Nat.reduceAdd,bx,ax,N9,N5,Nat.reduceMul,Nat.reduceLeDiff,lrw,hat,i1,i2,Int.toNat_natCast];exact rfl) ?_;simp only[bq];refine aw.op1 ae (by simp only[go_sem,reduceIte,Nat.reduceEqDiff,Nat.reduceAdd,bx,ax,N9,N5,Nat.reduceMul,Nat.reduceLeDiff,lrw,hat,i1,i2,Int.toNat_natCast];exact rfl) ?_;simp only[bq];refine aw.op1 ae (by simp only[go_sem,reduceIte,Nat.reduceEqDiff,Nat.reduceAdd,bx,ax,N9,N5,Nat.reduceMul,Nat.reduceLeDiff,lrw,hat,i1,i2,Int.toNat_natCast];exact rfl) ?_;simp only[bq];refine aw.op1 ae (by simp only[go_sem,reduceIte,Nat.reduceEqDiff,Nat.reduceAdd,bx,ax,N9,N5,Nat.reduceMul,Nat.reduceLeDiff,lrw,hat,i1,i2,Int.toNat_natCast];exact rfl) ?_;simp only[bq];refine aw.opT ae (by simp only[jt,go_sem,reduceIte,Nat.reduceEqDiff,Nat.reduceAdd,bx,List.all_cons,List.all_nil,List.length_cons,List.length_nil,Nat.reduceMul,Nat.reduceLeDiff,Nat.reduceLT,Qw,Oe,N9,Ow,O7];exact rfl) ?_;simp only[bq];refine aw.evF xAc ?_;refine aw.nil ?_;simp only[aM.inBlock];rw[nv] at hQ;refine hQ n (n+1) m _ (P9 _) (OD _) aa (aL.of (aS ?_) (Cg ?_ (λ_=>?_) (ay.refl _)) (λx h=>h) (NY _) (NY _))
  ·exact xSb
  ·simp only[upd,n0,N5];exact h0
  ·simp only[upd,N9];rfl
 ·obtain ⟨A,x,rfl⟩:∃A x,R=A++[x]:=by
   rcases List.eq_nil_or_concat R with h|⟨A,x,h⟩
   ·exact absurd h hR
   ·exact ⟨A,x,by simpa using h⟩
  obtain ⟨k1,k2⟩:=hk hR;have hv:dV (A++[x]) k= .tsl 1 k 0 (A++[x]).length none:=by unfold dV;rw[N7 hR]
  have h0:=rE (A++[x]) k bk;have h2:=Hk (b:=bk) hR k2;have hl:(A++[x]).length=A.length+1:=by simp
  rw[hl] at hlen hv;rw[hv];have d0:decide ((0:Int)<((A.length+1:Nat):Int))=true:=N3 aa;have e1:IntKind.i64.wrap (((A.length+1:Nat):Int) - 1)=(A.length:Int):=by rw[IntWalk.i64_in _ aa];omega
  have p1:(0:Int)<=(A.length:Int):=by omega
  have p2:(A.length:Int)<((A.length+1:Nat):Int):=by omega
  have hx:=hsz x af;have lx:=bF x;have e2:IntKind.i64.wrap ((x.length:Int)+(r.length:Int))=((x.length+r.length:Nat):Int):=by rw[IntWalk.i64_in _ aa];omega
  rw[mC] at h2;have hal:=gf A;have hgt:(rws A++[AV.sl 3 (chs x) .any])[A.length*1]? =some (.sl 3 (chs x) .any):=by rw[OO,<-hal];simp
  have k0:¬(0=k):=λe=>k2 e.symm;generalize hF0:dO (A++[x]) k bk=F at*
  refine Wp.block ?_;refine Wp.bg xAc ?_;refine aw.nil ?_;refine Wp.seq ?_;rw[ic] at hQ;cases b:decide (((x.length+r.length:Nat):Int)<=64) with
  |true=>
   refine Wp.eF (xAd (aY d0 e1 p1 p2 h2 hgt @Ol.{0,0} hal lx lr lrw (gv hat i1 i2 @NZ e2 b @N6.{0} @N2.{0} @N4.{0} @Od))) ?_;refine az.nil ⟨by simp[bw,aV,apart,aZ],?_⟩;refine Wp.cond_true xA2 ?_;have b':=Oh b;have r1:(x.length+r.length)*40<=140737488355328:=by omega
   have r2:x.length+r.length<4611686018427387904:=by omega
   have r3:x.length*40<=140737488355328:=by omega
   have r4:x.length<4611686018427387904:=by omega
   have q5:A.length*1<=A.length:=by omega
   refine Wp.eF (xAd (aY e1 p1 p2 h2 hgt @Ol.{0,0} hal lx lr lrw hat (aY i1 i2 @NZ r1 r2 r3 r4 q5 @Oe @Om.{0} @OW (cj3 @List.nil_append.{0} @N4.{0} @Od)))) ?_;refine az.nil ⟨by simp[bw,aV,apart,aZ],?_⟩;simp only[aM.inBlock];rw[Of aa] at hQ;refine hQ k n _ _ (NY _) k1 k2 (aL.of (aS ?_) (Cg ?_ (λ_=>by simp only[upd,N9];rfl) ?_) (λx h=>by cases h) (NY _) (NY _))
   ·have e:(A++[x++r]).length=A.length+1:=by simp
    exact bY e
   ·simp only[upd,k0,N5];exact h0
   ·have hchs:chs x++chs r=chs (x++r):=by simp[chs]
    rw[OO,<-hal,Qg,OY af,ON,hchs,mC];exact te (rws A) av.cap
  |false=>
   refine Wp.eF (xAd (aY d0 e1 p1 p2 h2 hgt @Ol.{0,0} hal lx lr lrw (gw hat i1 i2 @NZ e2 b @N6.{0} @N2.{0} @N4.{0} @Od @Oa))) ?_;refine az.nil ⟨by simp[bw,aV,apart,aZ],?_⟩;refine Wp.cond_false xA2 ?_;refine Wp.pT ?_;refine aw.op1 ae (by simp only[go_sem,reduceIte,Nat.reduceEqDiff,Nat.reduceAdd,bx,ax,N9,N5,Nat.reduceMul,Nat.reduceLeDiff,lrw,hat,i1,i2,Int.toNat_natCast];exact rfl) ?_;simp only[bq];refine aw.op1 ae (by simp only[go_sem,reduceIte,Nat.reduceEqDiff,Nat.reduceAdd,bx,ax,N9,N5,Nat.reduceMul,Nat.reduceLeDiff,lrw,hat,i1,i2,Int.toNat_natCast];exact rfl) ?_;simp only[bq];refine aw.op1 ae (by simp only[go_sem,reduceIte,Nat.reduceEqDiff,Nat.reduceAdd,bx,ax,N9,N5,Nat.reduceMul,Nat.reduceLeDiff,lrw,hat,i1,i2,Int.toNat_natCast];exact rfl) ?_;simp only[bq];refine aw.op1 ae (by simp only[go_sem,reduceIte,Nat.reduceEqDiff,Nat.reduceAdd,bx,ax,N9,N5,Nat.reduceMul,Nat.reduceLeDiff,lrw,hat,i1,i2,Int.toNat_natCast];exact rfl) ?_;simp only[bq];refine aw.op1 ae (by simp only[go_sem,reduceIte,Nat.reduceEqDiff,Nat.reduceAdd,bx,ax,N9,N5,Nat.reduceMul,Nat.reduceLeDiff,lrw,hat,i1,i2,Int.toNat_natCast];exact rfl) ?_;simp only[bq];refine aw.op1 ae (by simp only[go_sem,reduceIte,Nat.reduceEqDiff,Nat.reduceAdd,bx,ax,N9,N5,Nat.reduceMul,Nat.reduceLeDiff,lrw,hat,i1,i2,Int.toNat_natCast];exact rfl) ?_;simp only[bq];have r1:(A.length+1+1)*24<=140737488355328:=by omega
   have r2:A.length+1+1<4611686018427387904:=by omega
   have x7:¬(k=n):=by omega
   have lcs:(rws A++[AV.sl 3 (chs x) .any]).length=A.length+1:=by rw[N6,hal];rfl
   refine aw.opK ae (by simp only[lS,go_sem,reduceIte,Nat.reduceEqDiff,Nat.reduceAdd,bx,List.all_cons,List.all_nil,List.length_cons,List.length_nil,x7,h2,lcs,OO,r1,r2,Oe,N9,N5,Ow,O7];exact rfl) ?_;simp only[bq];refine aw.evF xAc ?_;refine aw.nil ?_;simp only[aM.inBlock];rw[N7 (by have:=Ox b;omega)] at hQ;refine hQ n (n+1) m _ (P9 _) (OD _) aa (aL.of (aS ?_) (Cg ?_ (λ_=>?_) (ay.refl _)) (λx h=>h) (NY _) (NY _))
   ·have e:(A++[x]++[r]).length=A.length+1+1:=by simp
    exact bY e
   ·simp only[upd,n0,k0,N5];exact h0
   ·simp only[upd,N9];rw[mC,mC];rfl
theorem Hl(R:List (List Ch))(l:List Ch):ec R l≠[]:=by
 rcases List.eq_nil_or_concat R with rfl|⟨A,x,h⟩
 ·simp[nv]
 ·have:R=A++[x]:=by simpa using h
  rw[this,ic];split<;>simp
theorem uQ(R:List (List Ch))(l:List Ch):(ec R l).length<=R.length+1:=by
 rcases List.eq_nil_or_concat R with rfl|⟨A,x,h⟩
 ·simp[nv]
 ·have:R=A++[x]:=by simpa using h
  rw[this,ic];split<;>simp
theorem yw{R:List (List Ch)}{l:List Ch}(h:∀x∈R,x.length<=100000)(hl:l.length<=100000):∀x∈ec R l,x.length<=100000:=by
 rcases List.eq_nil_or_concat R with rfl|⟨A,y,hy⟩
 ·intro x hx;rw[nv] at hx;simp at hx;subst hx;exact hl
 ·have:R=A++[y]:=by simpa using hy
  subst this;intro x hx;rw[ic] at hx;split at hx
  ·rcases OM.1 hx with hx|hx
   ·exact h x (List.mem_append_left _ hx)
   ·simp at hx;subst hx;rw[N6];omega
  ·rcases OM.1 hx with hx|hx
   ·exact h x hx
   ·simp at hx;subst hx;exact hl
theorem Ci{R:List (List Ch)}{B:Nat}(h:(R.flatten.map cY).length<=B)(i:Nat)(hi:i<R.length):(R.getD i []).length<=B:=by
 have hlr:=q0 R (i+1);rw[nr R i hi,N6] at hlr;have e:((R.getD i []).map cY).length=(R.getD i []).length:=O2 _;omega
set_option maxHeartbeats 4000000 in
theorem Jx(m:List Bk)(hfw:ql m=true):aI Tryz.prog 26 [bB m] (.tup [.sl 1 (rws (if imB m=true then dP m else [])) .any,.int .i64 (imE m)]):=by
 refine f26.u0 af (by simp[aF,bW]) (by simp[aO,aF,aU,o9]) ?_;unfold c26 zz;have hcnt:=Oh hfw;have hf:Few m:=λb hb=>by
  have:b.l.length<=fw m:=vZ (Oo.2 ⟨b,hb,rfl⟩);omega
 have h1:=xC m hf;have len:=eL m;unfold imE at*
 cases hm:imB m with
 |false=>
  rw[hm] at h1;simp only[Oa,N5] at h1 |-;unfold bB at*
  refine nA h1 ?_;refine aG ?_;exact av.tup (ay.cons av.cap (ay.refl _))
 |true=>
  rw[hm] at h1;simp only[N9] at h1 |-;unfold bB at*
  obtain ⟨hl,hok⟩:=sI hm;have hF:(aN m).length<=100000:=by
   have:=lL hm;unfold fw at hcnt;omega
  refine rf1 @len h1 ?_;generalize hbk:Av.Obj.cells [AV.sl 3 (bks m) .any]=bk at*
  refine Wp.le (s':=⟨tm [(1,.ptr 0 0),(5,dV [] 0),(6,.int .i64 (0:Nat))],⟨dO [] 0 bk,1,[],0⟩⟩) (aL.of (aS ?_) (Cg ?_ (λh=>absurd rfl h) (cs:=[]) ay.nil) (λa ha=>ha) (NY _) (NY _)) ?_
  ·exact bY @dV.eq_1
  ·simp[upd]
  refine Wp.cI [1] xA7 (λb:Nat × Nat × Nat × Nat=>[(5,dV (dP (m.take b.1)) b.2.1),(6,.int .i64 (b.1:Nat))]) (λb=>⟨dO (dP (m.take b.1)) b.2.1 bk,b.2.2.1,[],b.2.2.2⟩)
   (λb=>b.1<=m.length/\1<=b.2.2.1/\(dP (m.take b.1)≠[]->b.2.1<b.2.2.1/\b.2.1≠0)/\(dP (m.take b.1)).length<=b.1+fw (m.take b.1)/\∀x∈dP (m.take b.1),x.length<=100000) (λb=>m.length - b.1) (0,0,1,0) ⟨Og _,NY _,(λh=>absurd rfl h),Og _,(by intro x h;cases h)⟩ rfl ?_ ?_
  ·exact xSb
  rintro ⟨j,k,n,mm⟩ ⟨hj,hn1,hk,hlen,hsz⟩;simp only at hj hn1 hk hlen hsz;by_cases hc:j<m.length
  ·obtain ⟨g1,g2,g3,e1⟩:=cK hc (Oz hl al);have hat:=ft m j .any hc;have hb:=hok j hc;have hfe:=hf.at j;have hle:=mD m (j+1);rw[jm m j hc,N6] at hle;have hcs:=pE m j hc;have hcl:=AP m (j+1);have hps:=ox m j hc;have hlt:(bD (m.getD j default)).length=(m.getD j default).l.length+1:=by simp[bD]
   have c1:=uE (m.getD j default) hb hfe;have hFB:fF (m.getD j default)=(bD (m.getD j default)).flatten.map cY:=rfl;rw[hFB] at hle;unfold yv at hps;have hrl:=λi hi=>Ci (R:=bD (m.getD j default)) (B:=100000) aa i hi;generalize bD (m.getD j default)=R at*
   generalize dP (m.take j)=P0 at*
   generalize m.getD j default=b at*
   clear hFB;have h0:=rE P0 k bk;have lr:=gf R;have n0:¬(0=n):=by omega
   obtain ⟨nm,st,vl⟩:=b;unfold ff at hat c1;simp only at hcs hlt;have hbk0:dO P0 k bk 0=some (.cells [.sl 3 (bks m) .any]):=by rw[h0,<-hbk]
   refine rf1 (cj7 g1 g2 g3 @len hat hbk0 @NZ) c1 ?_;refine Wp.le (s':=⟨tm [(1,.ptr 0 0),(5,dV P0 k),(6,.int .i64 j),(7,.sl 1 (rws R) .any),(8,.int .i64 (0:Nat))],⟨dO P0 k bk,n,[],mm⟩⟩) (aL.of (aS ?_) (OLe.bK _) (λa ha=>ha) (NY _) (NY _)) ?_
   ·exact xSb
   refine Wp.cI [1,6,7] xA7 (λb:Nat × Nat × Nat × Nat=>[(5,dV ((R.take b.1).foldl ec P0) b.2.1),(8,.int .i64 (b.1:Nat))]) (λb=>⟨dO ((R.take b.1).foldl ec P0) b.2.1 bk,b.2.2.1,[],b.2.2.2⟩)
    (λb=>b.1<=R.length/\1<=b.2.2.1/\((R.take b.1).foldl ec P0≠[]->b.2.1<b.2.2.1/\b.2.1≠0)/\((R.take b.1).foldl ec P0).length<=j+fw (m.take j)+b.1/\∀x∈(R.take b.1).foldl ec P0,x.length<=100000) (λb=>R.length - b.1) (0,k,n,mm) ⟨Og _,hn1,hk,hlen,hsz⟩ rfl ?_ ?_
   ·exact xSb
   clear hk hlen hsz h0 hbk0 n0 hn1;rintro ⟨i,k,n,mm⟩ ⟨hi,hn1,hk,hlen,hsz⟩;simp only at hi hn1 hk hlen hsz;have cut:s9= .seq (hdA s9) (.seq Cf (tlA (tlA s9))):=rfl;change Wp Tryz.prog 77 s9 _ _;rw[cut];obtain ⟨D,hD⟩:∃D,D=Cf:=⟨_,rfl⟩;rw[<-hD];unfold s9 Hj c26 zz;simp only[tlA,hdA,lpA,blA];by_cases hci:i<R.length
   ·obtain ⟨w1,w2,w3,w4⟩:=cK hci aa;have hpl:=oy R P0 i hci;have hri:=hrl i hci;have hgd:R.getD i []=R.getD i default:=rfl;have W:=λQ hQ=>Jw (bk:=bk) (R:=(R.take i).foldl ec P0) (rows:=R) (k:=k) (n:=n) (m:=mm) (N:=j+fw (m.take j)+i) (v6:=j) hci aa hk aa aa hlen hsz hri (Q:=Q) hQ;have pl:=uQ ((R.take i).foldl ec P0) (R.getD i default);have pz:=yw (l:=R.getD i default) hsz hri;have pn:=Hl ((R.take i).foldl ec P0) (R.getD i default);rw[<-hD] at W;rw[hgd] at hpl;rw[<-hpl] at pl pz pn W;generalize hP2:(R.take (i+1)).foldl ec P0=P2 at*
    generalize (R.take i).foldl ec P0=P1 at*
    refine rf0 (cj2 w1 lr) ?_;refine Wp.le (s':=⟨tm [(1,.ptr 0 0),(5,dV P1 k),(6,.int .i64 j),(7,.sl 1 (rws R) .any),(8,.int .i64 i)],⟨dO P1 k bk,n,[],mm⟩⟩) (aL.of (aS ?_) (OLe.bK _) (λa ha=>ha) (NY _) (NY _)) (W _ λk' n' m' s' y1 y2 y3 hs=>?_)
    ·exact xSb
    simp only[aM.andThen];refine Wp.le hs ?_;refine dG ?_;simp only[aM.andThen];have hv:dV P2 k'= .tsl 1 k' 0 P2.length none:=by unfold dV;rw[N7 pn]
    refine ⟨(i+1,k',n',m'),⟨hci,by show 1<=n';omega,λ_=>⟨y2,y3⟩,?_,?_⟩,O5 hci (OD _),?_⟩
    ·simp only;rw[hP2];omega
    ·simp only;rw[hP2];exact pz
    ·simp only;rw[hP2,hv];refine aL.of (aS ?_) (OLe.bK _) (λa ha=>ha) (NY _) (NY _);exact bY w4
   ·have hi2:i=R.length:=by omega
    subst hi2;rw[Ot,<-hps] at hk hlen hsz |-;have w1:=dZ R.length;refine rf0 (cj2 w1 lr) ?_;simp only[aM.andThen];refine ⟨(j+1,k,n,mm),⟨hc,hn1,hk,by simp only;omega,hsz⟩,O5 hc (OD _),?_⟩;refine aL.of (aS ?_) (OLe.bK _) (λa ha=>ha) (NY _) (NY _);exact bY e1
  ·have hj2:j=m.length:=by omega
   subst hj2;have g1:=dZ m.length;rw[Ot] at hk hlen |-;have h0:dO (dP m) k bk 0=some (.cells [.sl 3 (bks m) .any]):=by rw[rE,<-hbk]
   by_cases ho:dP m=[]
   ·have hv:dV (dP m) k= .sl 1 [] (.exact 0):=by rw[dV,Of ho]
    rw[hv];generalize dO (dP m) k bk=F at*
    refine rf0 (cj3 g1 @len h0) ?_;refine aG ?_;rw[ho];exact av.tup (ay.cons av.cap (ay.refl _))
   ·have hv:dV (dP m) k= .tsl 1 k 0 (dP m).length none:=by rw[dV,N7 ho]
    obtain ⟨y1,y2⟩:=hk ho;have hFk:=Hk (b:=bk) ho y2;rw[hv];generalize dO (dP m) k bk=F at*
    refine rf0 (cj3 g1 @len h0) ?_;refine Wp.ret ⟨trivial,_,rfl,?_⟩;have hu:unT ⟨F,n,[],mm⟩ (λ_=>true) (.tup [.tsl 1 k 0 (dP m).length none,.int .i64 0])= .tup [.sl 1 (rws (dP m)) .any,.int .i64 0]:=by
     simp[unT,rY,hFk,gf,OT]
    show av (unT ⟨F,n,[],mm⟩ (λ_=>true) (.tup [.tsl 1 k 0 (dP m).length none,.int .i64 0])) _;rw[hu];exact av.refl _
theorem laid:laidOutB Tryz.prog=true:=by kernel_rfl
theorem Ny:mapsRowed Tryz.prog=true:=by kernel_rfl
theorem full:∀t e,t<Tryz.prog.types.size->Tryz.prog.underlying t=some (.slice e)->0<Tryz.prog.cellsOf e:=slices_full_of Tryz.prog (by kernel_rfl)
theorem own:ownKnob Tryz.prog.godebug=none:=by kernel_rfl
theorem NU{H:Type}:sk (H:=H) Rows.uptoBulk Rows.uptoBulkAll:=
 ⟨λl=>by simp[Rows.uptoBulk],λk n=>by simp[Rows.uptoBulk],λb=>by simp[Rows.uptoBulk],by simp[Rows.uptoBulk],λa b=>by simp[Rows.uptoBulk],λa=>by simp[Rows.uptoBulk],by simp[Rows.uptoBulkAll],λd l=>by simp[Rows.uptoBulkAll]⟩
theorem we{α:Type}{t:TypeId}{k:Nat}{enc:α->AV}{Q:α->Prop}(h1:∀cs,Fits Tryz.prog k t cs->∃x,eM Tryz.prog t cs=enc x/\Q x):∀{ys:List AV},(∀y∈ys,∃cs,Fits Tryz.prog k t cs/\y=eM Tryz.prog t cs)->∃l:List α,ys=l.map enc/\∀x∈l,Q x
 |[],_=>⟨[],rfl,by simp⟩
 |y::ys,h=>by
  obtain ⟨l,rfl,hl⟩:=we h1 (ys:=ys) (λz hz=>h z (by simp[hz]));obtain ⟨cs,g1,g2⟩:=h y af;obtain ⟨x,e,q⟩:=h1 cs g1;refine ⟨x::l,by simp[g2,e],λz hz=>?_⟩;rcases Om.1 hz with rfl|hz
  ·exact q
  ·exact hl z hz
theorem Cj{n b:Nat}(hb:4<=b)(h:n*b<=reachBytes):n<=35184372088832:=by
 have:n*4<=n*b:=Nat.mul_le_mul_left n hb;have e:reachBytes=140737488351232:=rfl;omega
def Nz(v:Vs):Prop:=v.o.length<=reachBytes/\v.b.length<=reachBytes/\v.id<9223372036854775808
theorem Jy{k:Nat}{cs:List AV}(h:Fits Tryz.prog (k+4) 88 cs):∃v:Vs,eM Tryz.prog 88 cs=cU v/\Nz v:=by
 have hw:∀cs,eM Tryz.prog 88 cs= .agg cs:=λcs=>by
  unfold eM;rw[Of (by kernel_rfl)]
 rw[hw];unfold Fits at h;rw[Tryz.underlying88] at h;obtain ⟨xss,rfl,h⟩:=h;cases h with|cons h0 h=>cases h with|cons h1 h=>cases h with|cons h2 h=>cases h with|cons h3 h=>
 cases h;unfold Fits at h0 h1 h2 h3;simp only at h0 h1 h2 h3;rw[Tryz.underlying9] at h0 h3;rw[Tryz.underlying3] at h1;rw[Tryz.underlying86] at h2;obtain ⟨o,rfl,ho⟩:=h0;obtain ⟨id,rfl,hid⟩:=h1;obtain ⟨b,rfl,hb⟩:=h3;obtain ⟨yss,rfl,h2⟩:=h2;cases h2 with|cons g0 h2=>cases h2 with|cons g1 h2=>cases h2 with|cons g2 h2=>cases h2 with|cons g3 h2=>
 cases h2;unfold Fits at g0 g1 g2 g3;simp only at g0 g1 g2 g3;rw[Tryz.underlying3] at g0;rw[Tryz.underlying84] at g1;rw[Tryz.underlying4] at g2 g3;obtain ⟨sz,rfl,-⟩:=g0;obtain ⟨g,rfl⟩:=g2;obtain ⟨u,rfl⟩:=g3;obtain ⟨zss,rfl,g1⟩:=g1;cases g1 with|cons e0 g1=>cases g1 with|cons e1 g1=>
 cases g1;unfold Fits at e0 e1;simp only at e0 e1;rw[Tryz.underlying3] at e0 e1;obtain ⟨re,rfl,-⟩:=e0;obtain ⟨im,rfl,-⟩:=e1;refine ⟨⟨o,id,sz,re,im,g,u,b⟩,rfl,ho,hb,?_⟩;simp only;have:=hid;simp[Lit.wf,IntKind.max,IntKind.min,IntKind.signed,IntKind.bits] at this;omega
structure EC(b:Bk):Prop where
 n:b.n.length<=reachBytes
 l:b.l.length<=35184372088832
 v:∀v∈b.l,Nz v
theorem Jz{k:Nat}{cs:List AV}(h:Fits Tryz.prog (k+6) 77 cs):∃b:Bk,eM Tryz.prog 77 cs=ff b/\EC b:=by
 have hw:∀cs,eM Tryz.prog 77 cs= .agg cs:=λcs=>by
  unfold eM;rw[Of (by kernel_rfl)]
 rw[hw];unfold Fits at h;rw[Tryz.underlying77] at h;obtain ⟨xss,rfl,h⟩:=h;cases h with|cons h0 h=>cases h with|cons h1 h=>cases h with|cons h2 h=>
 cases h;unfold Fits at h0 h1 h2;simp only at h0 h1 h2;rw[Tryz.underlying9] at h0;rw[Tryz.underlying74] at h1;rw[Tryz.underlying75] at h2;obtain ⟨n,rfl,hn⟩:=h0;obtain ⟨st,rfl,-⟩:=h1;obtain ⟨xs,rfl,hlx,hx⟩:=h2;obtain ⟨l,rfl,hv⟩:=we (λcs h=>Jy h) hx;have c1:Tryz.prog.cellsOf 88=8:=by kernel_rfl
 have c2:4<=Tryz.prog.bytesOf 88:=by decide+kernel
 rw[O2] at hlx;refine ⟨⟨n,st,l⟩,?_,hn,Cj c2 hlx,hv⟩;simp[ff,vss,c1]
theorem Ck{a:AV}(h:oS Tryz.prog 9 24 a):∃m:List Bk,a=bB m/\m.length<=35184372088832/\∀b∈m,EC b:=by
 obtain ⟨cs,h,rfl⟩:=h;unfold Fits at h;rw[Tryz.underlying24] at h;obtain ⟨xss,rfl,h⟩:=h;cases h with|cons h0 h=>
 cases h;unfold Fits at h0;simp only at h0;rw[Tryz.underlying22] at h0;obtain ⟨xs,rfl,hlx,hx⟩:=h0;obtain ⟨l,rfl,hv⟩:=we (λcs h=>Jz h) hx;have c1:Tryz.prog.cellsOf 77=3:=by kernel_rfl
 have c2:4<=Tryz.prog.bytesOf 77:=by decide+kernel
 rw[O2] at hlx;refine ⟨l,?_,Cj c2 hlx,hv⟩;unfold eM;rw[Of (by kernel_rfl)];simp[bB,bks,c1]
end Go.Proofs.YtjnoobmaedgooaaGreat.Arch
end
section
set_option maxRecDepth 100000
namespace Go.Proofs.YtjnoobmaedgooaaGreat.Arch
open Go Go.Proofs Go.Lib Go.RowKit Go.Shelf
theorem wg{P:Program}(w:World)(dT sT ty elem:TypeId)(k b o dLen dCap:Nat)(a:Addr)(sLen sCap:Nat)(cs:List Value)
  (hu:P.underlying dT=some (.slice elem)) (hs:(P.info? elem).map (·.size)=some k) (hn:cs.length=Nat.min sLen dLen*k)
  (hsrc:∀j v,cs[j]? =some v->w.cell? (a.add j)=some v) (hc:∀j,j<cs.length->(w.cell? ⟨b,o+j,none⟩).isSome=true) (hf:∀j,j<cs.length->w.frozen? ⟨b,o+j,none⟩=false) (h1:∀v∈cs,v.oneCell'=true):
  (Builtin.copy_ #[dT,sT] ty #[.slice (some ⟨b,o,none⟩) dLen dCap,.slice (some a) sLen sCap]).run P w= .ok (goInt (Nat.min sLen dLen)) (w.setCells b o cs):=by
 have hl:=run_loadCells_list (P:=P) w a cs hsrc;have hst:=run_storeCells_cells (P:=P) b o cs 0 w (by simpa using hc) (by simpa using hf) h1;cases hq:P.info? elem with
 |none=>simp[hq] at hs
 |some i=>
  have hi:i.size=k:=by simpa [hq] using hs
  simp[Builtin.copy_,run_underlying hu,Builtin.lenOf,Builtin.firstCells,sizeOf,typeInfo,hq,hi,<-hn,hl,hst]
theorem Es{P:Program}(w:World)(t e ty:TypeId)(z:Value)(zs:List Value)(ht:P.underlying t=some (.slice e))(hv:∀w,(zeroValue e).run P w= .ok z w)(hz:(Builtin.zeroCells z.cells 1).toList=zs)(h1:∀v∈zs,v.oneCell'=true)(b o c:Nat)
  (hc:∀j,j<zs.length->(w.cell? ⟨b,o+j,none⟩).isSome=true) (hf:∀j,j<zs.length->w.frozen? ⟨b,o+j,none⟩=false):
  (Builtin.clear_ #[t] ty #[.slice (some ⟨b,o,none⟩) 1 c]).run P w= .ok (.tuple #[]) (w.setCells b o zs):=by
 have hst:=run_storeCells_cells (P:=P) b o zs 0 w (by simpa using hc) (by simpa using hf) h1;simp only[Nat.add_zero] at hst;simp[Builtin.clear_,run_underlying ht,hv,hz,hst]
abbrev zP:Value:= .agg #[.string ⟨#[]⟩,.string ⟨#[]⟩]
theorem Cl:∃i,Tryz.prog.info? 50=some i/\i.zero=some zP/\i.size=2/\i.bytes=32:=⟨_,rfl,rfl,rfl,rfl⟩
theorem Cm:(Tryz.prog.info? 50).map (·.size)=some 2:=rfl
set_option maxHeartbeats 4000000 in
theorem Hm(b o n c vb voff vc:Nat)(vs:List Value)(w:World)(hroom:n+1<=c)(hc63:c<=9223372036854775807)
  (hvl:vs.length=2) (hsp:∀j,j<2->(w.cell? ⟨b,o+n*2+j,none⟩).isSome=true) (hfz:∀j,j<2->w.frozen? ⟨b,o+n*2+j,none⟩=false)
  (hvs:∀j v,vs[j]? =some v->w.cell? ⟨vb,voff+j,none⟩=some v) (h1v:∀v∈vs,v.oneCell'=true):
  Calls Tryz.prog 72 #[.slice (some ⟨b,o,none⟩) n c,.int .i64 n,.slice (some ⟨vb,voff,none⟩) 1 vc] w λe w'=>
   e= .returned (.slice (some ⟨b,o,none⟩) (n+1) c)/\w'=w.setCells b (o+n*2) vs:=by
 obtain ⟨i0,hi0,hz0,hzs,hzb⟩:=Cl;have hsrc:Src Tryz.prog i0.size 33 (.slice (some ⟨vb,voff,none⟩) 1 vc) 1 vs w:=by
  rw[hzs];exact Src.ofSlice w Tryz.underlying33 ⟨vb,voff,none⟩ 1 vc vs aa (λj u hj=>by rw[Addr.add_lit];exact hvs j u hj) h1v
 go_enter Tryz.func72,Tryz.ntmps72
 go_wp2_with (at_builtin;refine wpList_append_room_src _ rfl _ _ 33 33 rfl 50 i0 Tryz.underlying33 hi0 b o n c rfl _ rfl 1 vs hsrc hroom (by rw[hvl,hzs];exact hsp) (by rw[hvl,hzs];exact hfz) ?_)
 go_ret
 first|exact ⟨rfl,rfl⟩|exact ⟨rfl,by rw[hzs]⟩
set_option maxHeartbeats 4000000 in
theorem Hn(base:Option Addr)(n c vb voff vc:Nat)(cs vs:List Value)(w:World)(hnc:n<=c)(hroom:c<n+1)(hbig:(n+1)*32<=140737488355328)
  (hcl:cs.length=n*2) (hvl:vs.length=2) (hnil:base=none->n=0)
  (hcs:∀a,base=some a->∀j v,cs[j]? =some v->w.cell? (a.add j)=some v)
  (hvs:∀j v,vs[j]? =some v->w.cell? ⟨vb,voff+j,none⟩=some v) (h1v:∀v∈vs,v.oneCell'=true):
  Calls Tryz.prog 72 #[.slice base n c,.int .i64 n,.slice (some ⟨vb,voff,none⟩) 1 vc] w λe w'=>
   e= .returned (.slice (some ⟨w.heap.size,0,none⟩) (n+1) (grownCap w (n+1) c 50))/\
   w'=w.drew.alloc (.cells ((cs++vs).toArray++Builtin.zeroCells zP.cells (grownCap w (n+1) c 50 - (n+1))) 50):=by
 obtain ⟨i0,hi0,hz0,hzs,hzb⟩:=Cl;have hsrc:Src Tryz.prog i0.size 33 (.slice (some ⟨vb,voff,none⟩) 1 vc) 1 vs w:=by
  rw[hzs];exact Src.ofSlice w Tryz.underlying33 ⟨vb,voff,none⟩ 1 vc vs aa (λj u hj=>by rw[Addr.add_lit];exact hvs j u hj) h1v
 have hold:(Builtin.firstCells i0.size n (.slice base n c)).run Tryz.prog w.drew= .ok cs.toArray w.drew:=by
  rw[hzs];cases base with
  |none=>
   have h0:=hnil rfl;subst h0;rw[Qf.1 hcl];exact run_firstCells_none w.drew 2 0 0 c
  |some a=>exact run_firstCells_some w.drew 2 n a n c cs hcl (λj v hj=>hcs a rfl j v hj)
 have hrun:∀ty,(Builtin.append_ #[33,33] ty #[.slice base n c,.slice (some ⟨vb,voff,none⟩) 1 vc]).run Tryz.prog w=_:=λty=>
  run_append_grow_src w 33 33 ty 50 i0 _ Tryz.underlying33 hi0 hz0 base n c cs hold _ 1 vs hsrc hroom aa (by rw[hzb];exact growslice_fits hroom hbig)
 go_enter Tryz.func72,Tryz.ntmps72
 cases base with
 |none=>
  have h0:=hnil rfl;subst h0
  go_wp2_with (at_builtin;refine Lib.wpList_append_run _ rfl _ _ _ _ rfl _ _ rfl rfl _ _ (hrun _) ?_)
  go_ret
  exact ⟨rfl,rfl⟩
 |some a=>
  obtain ⟨ab,ao,asp⟩:=a
  go_wp2_with (at_builtin;refine Lib.wpList_append_run _ rfl _ _ _ _ rfl _ _ rfl rfl _ _ (hrun _) ?_)
  all_goals (go_ret;exact ⟨rfl,rfl⟩)
set_option maxHeartbeats 4000000 in
theorem Et(b o n c i vb voff vc:Nat)(cs vs:List Value)(w:World)(hi:i<n)(hroom:n+1<=c)(hc63:c<=9223372036854775807)(hvb:vb≠b)
  (hcl:cs.length=n*2) (hvl:vs.length=2)
  (hcs:∀j v,cs[j]? =some v->w.cell? ⟨b,o+j,none⟩=some v) (hsp:∀j,j<(n+1)*2->(w.cell? ⟨b,o+j,none⟩).isSome=true) (hfz:∀j,w.frozen? ⟨b,j,none⟩=false)
  (hvs:∀j v,vs[j]? =some v->w.cell? ⟨vb,voff+j,none⟩=some v) (h1c:∀v∈cs,v.oneCell'=true) (h1v:∀v∈vs,v.oneCell'=true)
  (tA tB:TypeId) (kA kB:Nat) (hsa:w.shape? vb=some (tA,kA)) (hsb:w.shape? b=some (tB,kB)) (hkB:kB≠0) (hfa:w.frozen? ⟨vb,voff,none⟩=false) (hfe:w.frozen? ⟨vb,kA,none⟩=false):
  Calls Tryz.prog 72 #[.slice (some ⟨b,o,none⟩) n c,.int .i64 i,.slice (some ⟨vb,voff,none⟩) 1 vc] w λe w'=>
   e= .returned (.slice (some ⟨b,o,none⟩) (n+1) c)/\w'=(w.drew.setCells b (o+(i+1)*2) (cs.drop (i*2))).setCells b (o+i*2) vs:=by
 have hz2:¬((i:Int)=(n:Int)):=by omega
 have mixed:Tryz.prog.follows Departure.mixedOrders=true:=by kernel_rfl
 have hov:∀lb cb,(callFunc 119 #[.slice (some ⟨vb,voff,none⟩) 1 vc,.slice (some ⟨b,o+(i+1)*2,none⟩) lb cb]).run Tryz.prog w= .ok (.value (.bool false)) w:=λlb cb=>by
  rw[run_callFunc_extern Tryz.func119 (by kernel_rfl) (by kernel_rfl) (by kernel_rfl) (e:=Extern.SlicesOverlaps.overlaps #[33,33] #[4]) (by kernel_rfl),
   Lib.run_overlaps_apart w 33 4 50 Tryz.underlying33 2 Tryz.sizeOf50 ⟨vb,voff,none⟩ ⟨b,o+(i+1)*2,none⟩ 1 vc lb cb hvb tA tB kA kB hsa hsb hkB hfa hfe]
  rfl
 have hdl:(cs.drop (i*2)).length=(n - i)*2:=by rw[OC,hcl];omega
 have hw1:IntKind.i64.wrap ((i:Int)+1)=(i:Int)+1:=by rw[IntKind.wrap_i64];omega
 have hw2:IntKind.i64.wrap ((n:Int)+1)=(n:Int)+1:=by rw[IntKind.wrap_i64];omega
 have hb0:¬((c:Int)<(n:Int)+1):=by omega
 have hb1:(0:Int)<=(i:Int)+1:=by omega
 have hin:i<=n:=by omega
 have htn:((i:Int)+1).toNat=i+1:=by omega
 have htn2:((n:Int)+1).toNat=n+1:=by omega
 have hb2:¬(c=i+1):=by omega
 have hb3:(i:Int)<=(n:Int)+1:=by omega
 have hb4:¬(c=i):=by omega
 have hcp1:∀ty dc sc,(Builtin.copy_ #[33,33] ty #[.slice (some ⟨b,o+(i+1)*2,none⟩) (n - i) dc,.slice (some ⟨b,o+i*2,none⟩) (n+1 - i) sc]).run Tryz.prog w.drew= .ok (goInt ((n - i:Nat):Int)) (w.drew.setCells b (o+(i+1)*2) (cs.drop (i*2))):=λty dc sc=>by
  have hm:Nat.min (n+1 - i) (n - i)=n - i:=by simp only[Nat.min_def];split<;>omega
  have:=wg w.drew 33 33 ty 50 2 b (o+(i+1)*2) (n - i) dc ⟨b,o+i*2,none⟩ (n+1 - i) sc (cs.drop (i*2)) Tryz.underlying33 Cm (by rw[hdl,hm])
   (λj v hj=>by rw[Addr.add_lit,PH];exact hcs (i*2+j) v (by rwa [PM] at hj))
   (λj hj=>by rw[PH];exact hsp _ aa) (λj hj=>hfz _) (λv hv=>h1c v (P6 hv))
  rw[hm] at this;exact this
 obtain ⟨W1,hW1⟩:∃W1,W1=w.drew.setCells b (o+(i+1)*2) (cs.drop (i*2)):=⟨_,rfl⟩;have hsp1:∀k,k<(n+1)*2->(W1.cell? ⟨b,o+k,none⟩).isSome=true:=λk hk=>by
  rw[hW1];exact isSome_setCells b _ _ _ (λj hj=>by rw[PH];exact hsp _ aa) _ (hsp k hk)
 have hcp2:∀(W:World),(∀x,W.cell? x=W1.cell? x)->(∀x,W.frozen? x=W1.frozen? x)->∀ty dc,(Builtin.copy_ #[33,33] ty #[.slice (some ⟨b,o+i*2,none⟩) (n+1 - i) dc,.slice (some ⟨vb,voff,none⟩) 1 vc]).run Tryz.prog W= .ok (goInt 1) (W.setCells b (o+i*2) vs):=λW hWc hWf ty dc=>by
  have hm:Nat.min 1 (n+1 - i)=1:=by simp only[Nat.min_def];split<;>omega
  have:=wg W 33 33 ty 50 2 b (o+i*2) (n+1 - i) dc ⟨vb,voff,none⟩ 1 vc vs Tryz.underlying33 Cm (by rw[hvl,hm])
   (λj v hj=>by
    rw[Addr.add_lit,hWc,hW1,World.cell?_setCells_out b _ _ _ _ (λh _=>absurd h hvb)];exact hvs j v hj)
   (λj hj=>by rw[hWc,PH];exact hsp1 _ aa) (λj hj=>by rw[hWf,hW1,World.frozen?_setCells];exact hfz _) h1v
  rw[hm] at this;exact this
 rw[<-hW1] at hcp1;clear hcs hsp hdl hsp1
 go_enter Tryz.func72,Tryz.ntmps72
 go_wp2_with (simp only[hov])
 go_region_law_o (refine step_copy_runI rfl _ _ 33 33 rfl _ _ (by simp[Act.eval,Act.put]) (by simp[Act.eval,Act.put]) (hcp1 _ _ _) ?_)
 go_wp2_with (at_builtin;refine wpList_copy_runI _ rfl _ _ 33 33 rfl _ _ rfl rfl (hcp2 _ (λ_=>rfl) (λ_=>rfl) _ _) ?_)
 go_ret
 first|exact ⟨rfl,rfl⟩|exact ⟨rfl,by rw[hW1]⟩
set_option maxHeartbeats 4000000 in
theorem JA(b o n c i vb voff vc:Nat)(cs vs:List Value)(w:World)(hi:i<n)(hnc:n<=c)(hroom:c<n+1)(hbig:(n+1)*32<=140737488355328)
  (hcl:cs.length=n*2) (hvl:vs.length=2)
  (hcs:∀j v,cs[j]? =some v->w.cell? ⟨b,o+j,none⟩=some v)
  (hvs:∀j v,vs[j]? =some v->w.cell? ⟨vb,voff+j,none⟩=some v) (h1c:∀v∈cs,v.oneCell'=true) (h1v:∀v∈vs,v.oneCell'=true):
  Calls Tryz.prog 72 #[.slice (some ⟨b,o,none⟩) n c,.int .i64 i,.slice (some ⟨vb,voff,none⟩) 1 vc] w λe w'=>
   e= .returned (.slice (some ⟨w.heap.size,0,none⟩) (n+1) (grownCap w (n+1) c 50))/\
   w'=(((w.alloc (.cells ((cs.take (i*2)).toArray++Builtin.zeroCells zP.cells (n+1 - i)++Builtin.zeroCells zP.cells (grownCap w (n+1) c 50 - (n+1))) 50)).drew.setCells w.heap.size (i*2) vs).drew).setCells w.heap.size ((i+1)*2) (cs.drop (i*2)):=by
 obtain ⟨i0,hi0,hz0,hzs,hzb⟩:=Cl;have hz2:¬((i:Int)=(n:Int)):=by omega
 have mixed:Tryz.prog.follows Departure.mixedOrders=true:=by kernel_rfl
 have hz3:(c:Int)<(n:Int)+1:=by omega
 have hbw:b<w.heap.size:=block_lt_of_cell (hcs 0 _ (N0 aa));have hvw:vb<w.heap.size:=block_lt_of_cell (hvs 0 _ (N0 aa));have hkk:(n:Int)+1 - (i:Int)=((n+1 - i:Nat):Int):=by omega
 have hik:i+(n+1 - i)=n+1:=by omega
 have htl:(cs.take (i*2)).length=i*2:=by rw[OJ,hcl];omega
 have hold:(Builtin.firstCells i0.size i (.slice (some ⟨b,o,none⟩) i c)).run Tryz.prog w.drew= .ok (cs.take (i*2)).toArray w.drew:=by
  rw[hzs];exact run_firstCells_some w.drew 2 i ⟨b,o,none⟩ i c (cs.take (i*2)) htl (λj v hj=>by
   rw[Addr.add_lit];rw[List.getElem?_take] at hj;split at hj
   ·exact hcs j v hj
   ·cases hj)
 have hrz:∀ty,(Builtin.append_ #[33,3] ty #[.slice (some ⟨b,o,none⟩) i c,.int .i64 ((n:Int)+1 - (i:Int))]).run Tryz.prog w=
   .ok (.slice (some ⟨w.heap.size,0,none⟩) (n+1) (grownCap w (n+1) c 50)) (w.drew.alloc (.cells ((cs.take (i*2)).toArray++Builtin.zeroCells zP.cells (n+1 - i)++Builtin.zeroCells zP.cells (grownCap w (n+1) c 50 - (n+1))) 50)):=λty=>by
  have h:=Lib.run_append_grow_zeros w 33 3 ty 50 i0 _ .i64 .i64 Tryz.underlying33 Tryz.underlying3 hi0 hz0 (some ⟨b,o,none⟩) i c (cs.take (i*2)) hold (n+1 - i) aa aa aa aa (by rw[hzb];omega) (by rw[hzb,hik];exact growslice_fits hroom hbig);rw[hik] at h;rw[hkk];exact h
 obtain ⟨G,hG⟩:∃G,G=grownCap w (n+1) c 50:=⟨_,rfl⟩;have hzc:∀k,(Builtin.zeroCells zP.cells k).size=k*2:=λk=>by simp[Builtin.zeroCells,Value.cells]
 obtain ⟨ROW,hROW⟩:∃ROW:Array Value,ROW=(cs.take (i*2)).toArray++Builtin.zeroCells zP.cells (n+1 - i)++Builtin.zeroCells zP.cells (G - (n+1)):=⟨_,rfl⟩;rw[<-hG] at hrz |-;rw[<-hROW] at hrz |-;have hRl:(n+1)*2<=ROW.size:=by
  rw[hROW,Array.size_append,Array.size_append,hzc,hzc,List.size_toArray,htl];omega
 obtain ⟨W1,hW1⟩:∃W1,W1=w.drew.alloc (.cells ROW 50):=⟨_,rfl⟩;rw[<-hW1] at hrz;have hN:∀j,j<(n+1)*2->(W1.cell? ⟨w.heap.size,j,none⟩).isSome=true:=λj hj=>by
  rw[hW1,World.cell?_alloc_at (w:=w.drew) ROW _ w.heap.size j rfl,OR aa];rfl
 have hNf:∀j,W1.frozen? ⟨w.heap.size,j,none⟩=false:=λj=>by rw[hW1];exact World.frozen?_alloc_at (w:=w.drew) ROW _ w.heap.size j rfl
 have hOb:∀j v,w.cell? ⟨b,j,none⟩=some v->W1.cell? ⟨b,j,none⟩=some v:=λj v h=>by rw[hW1,World.cell?_alloc_past (w:=w.drew) _ b j hbw];exact h
 have hOv:∀j v,w.cell? ⟨vb,j,none⟩=some v->W1.cell? ⟨vb,j,none⟩=some v:=λj v h=>by rw[hW1,World.cell?_alloc_past (w:=w.drew) _ vb j hvw];exact h
 have hcpA:∀(W:World),(∀x,W.cell? x=W1.cell? x)->(∀x,W.frozen? x=W1.frozen? x)->∀ty dc,(Builtin.copy_ #[33,33] ty #[.slice (some ⟨w.heap.size,i*2,none⟩) (n+1 - i) dc,.slice (some ⟨vb,voff,none⟩) 1 vc]).run Tryz.prog W= .ok (goInt 1) (W.setCells w.heap.size (i*2) vs):=λW hWc hWf ty dc=>by
  have hm:Nat.min 1 (n+1 - i)=1:=by simp only[Nat.min_def];split<;>omega
  have:=wg W 33 33 ty 50 2 w.heap.size (i*2) (n+1 - i) dc ⟨vb,voff,none⟩ 1 vc vs Tryz.underlying33 Cm (by rw[hvl,hm])
   (λj v hj=>by rw[Addr.add_lit,hWc];exact hOv _ v (hvs j v hj))
   (λj hj=>by rw[hWc];exact hN _ aa) (λj hj=>by rw[hWf];exact hNf _) h1v
  rw[hm] at this;exact this
 have hGn:n+1<=G:=by rw[hG];exact grownCap_ge w _ _ _
 have hG63:G<=9223372036854775807:=by
  have:=grownCap_le_maxLen w (n+1) c 50 (by unfold maxLen;omega);rw[<-hG] at this;unfold maxLen at this;omega
 have hGi:¬(G=i):=by omega
 have hGim:¬(G=i+1):=by omega
 have hci:¬(c=i):=by omega
 have hbN:b≠w.heap.size:=by omega
 have hdl:(cs.drop (i*2)).length=(n - i)*2:=by rw[OC,hcl];omega
 have hcpB:∀(W:World),(∀x,W.cell? x=(W1.setCells w.heap.size (i*2) vs).cell? x)->(∀x,W.frozen? x=(W1.setCells w.heap.size (i*2) vs).frozen? x)->∀ty dc sc,(Builtin.copy_ #[33,33] ty #[.slice (some ⟨w.heap.size,(i+1)*2,none⟩) (n - i) dc,.slice (some ⟨b,o+i*2,none⟩) (n - i) sc]).run Tryz.prog W= .ok (goInt ((n - i:Nat):Int)) (W.setCells w.heap.size ((i+1)*2) (cs.drop (i*2))):=λW hWc hWf ty dc sc=>by
  have hm:Nat.min (n - i) (n - i)=n - i:=by simp only[Nat.min_def];split<;>omega
  have:=wg W 33 33 ty 50 2 w.heap.size ((i+1)*2) (n - i) dc ⟨b,o+i*2,none⟩ (n - i) sc (cs.drop (i*2)) Tryz.underlying33 Cm (by rw[hdl,hm])
   (λj v hj=>by
    rw[Addr.add_lit,hWc,World.cell?_setCells_out _ _ _ _ _ (λh _=>absurd h hbN),PH];exact hOb _ v (hcs (i*2+j) v (by rwa [PM] at hj)))
   (λj hj=>by rw[hWc];exact isSome_setCells _ _ _ _ (λt ht=>hN _ aa) _ (hN _ aa))
   (λj hj=>by rw[hWf,World.frozen?_setCells];exact hNf _) (λv hv=>h1c v (P6 hv))
  rw[hm] at this;exact this
 subst hW1;have hE1:∀x,((w.alloc (.cells ROW 50)).drew).cell? x=(w.drew.alloc (.cells ROW 50)).cell? x:=λx=>rfl;have hE2:∀x,((w.alloc (.cells ROW 50)).drew).frozen? x=(w.drew.alloc (.cells ROW 50)).frozen? x:=λx=>rfl;have hF1:∀x,(((w.alloc (.cells ROW 50)).drew.setCells w.heap.size (i*2) vs).drew).cell? x=((w.drew.alloc (.cells ROW 50)).setCells w.heap.size (i*2) vs).cell? x:=λx=>rfl;have hF2:∀x,(((w.alloc (.cells ROW 50)).drew.setCells w.heap.size (i*2) vs).drew).frozen? x=((w.drew.alloc (.cells ROW 50)).setCells w.heap.size (i*2) vs).frozen? x:=λx=>rfl;have hw1:IntKind.i64.wrap ((i:Int)+1)=(i:Int)+1:=by rw[IntKind.wrap_i64];omega
 have hw2:IntKind.i64.wrap ((n:Int)+1)=(n:Int)+1:=by rw[IntKind.wrap_i64];omega
 have hw3:IntKind.i64.wrap ((n:Int)+1 - (i:Int))=(n:Int)+1 - (i:Int):=by rw[IntKind.wrap_i64];omega
 have hb1:(0:Int)<=(i:Int)+1:=by omega
 have hin:i<=n:=by omega
 have htn:((i:Int)+1).toNat=i+1:=by omega
 have hb3:(i:Int)<=(n:Int):=by omega
 clear hkk hik hold hROW hG hRl hcs hvs hN hNf hOb hOv hzc htl hdl
 go_enter Tryz.func72,Tryz.ntmps72
 go_wp2_with (first
  |(at_builtin;refine Lib.wpList_append_run _ rfl _ _ _ _ rfl _ _ rfl rfl _ _ (hrz _) ?_)
  |(at_builtin;refine wpList_copy_runI _ rfl _ _ 33 33 rfl _ _ rfl rfl (hcpA _ hE1 hE2 _ _) ?_)
  |(at_builtin;refine wpList_copy_runI _ rfl _ _ 33 33 rfl _ _ rfl rfl (hcpB _ (λ_=>rfl) (λ_=>rfl) _ _ _) ?_))
 go_region_law_o (refine step_copy_runI rfl _ _ 33 33 rfl (.slice (some ⟨w.heap.size,(i+1)*2,none⟩) (n - i) (G - (i+1))) (.slice (some ⟨b,o+i*2,none⟩) (n - i) (c - i)) (by simp[Act.eval,Act.put]) (by simp[Act.eval,Act.put]) (hcpB _ hF1 hF2 3 (G - (i+1)) (c - i)) ?_)
 go_wp2
 go_ret
 exact ⟨rfl,rfl⟩
abbrev zP2:List Value:=[.string ⟨#[]⟩,.string ⟨#[]⟩]
theorem JB{c i b o:Nat}{news:List Value}{w:World}(h:c=i->news=[])(hc:∀(t:Nat) u,news[t]? =some u->w.cell? ⟨b,o+i*2+t,none⟩=some u):
  ∃A:Addr,(if c=i then some (⟨b,o,none⟩:Addr) else some ⟨b,o+i*2,none⟩)=some A/\∀(t:Nat) u,news[t]? =some u->w.cell? (A.add t)=some u:=by
 by_cases e:c=i
 ·refine ⟨⟨b,o,none⟩,by simp[e],λt u hu=>?_⟩;rw[h e] at hu;simp at hu
 ·refine ⟨⟨b,o+i*2,none⟩,by simp[e],λt u hu=>?_⟩;rw[Addr.add_lit];exact hc t u hu
set_option maxHeartbeats 4000000 in
theorem NA(b o n c i:Nat)(cs:List Value)(w:World)(hi:i<n)(hnc:n<=c)(hc63:c<=9223372036854775807)(hcl:cs.length=n*2)
  (hcs:∀j v,cs[j]? =some v->w.cell? ⟨b,o+j,none⟩=some v) (hfz:∀j,w.frozen? ⟨b,j,none⟩=false) (h1c:∀v∈cs,v.oneCell'=true):
  Calls Tryz.prog 71 #[.slice (some ⟨b,o,none⟩) n c,.int .i64 i,.int .i64 ((i:Int)+1)] w λe w'=>
   e= .returned (.slice (some ⟨b,o,none⟩) (n - 1) c)/\w'=(w.drew.setCells b (o+i*2) (cs.drop ((i+1)*2))).setCells b (o+(n - 1)*2) zP2:=by
 obtain ⟨i0,hi0,hz0,hzs,hzb⟩:=Cl;have hz2:¬((i:Int)=(i:Int)+1):=by omega
 have mixed:Tryz.prog.follows Departure.mixedOrders=true:=by kernel_rfl
 obtain ⟨news,hnews⟩:∃news,cs.drop ((i+1)*2)=news:=⟨_,rfl⟩;have hlen:news.length=(n - (i+1))*2:=by rw[<-hnews,OC,hcl];omega
 have hget:∀t u,news[t]? =some u->w.drew.cell? ⟨b,o+(i+1)*2+t,none⟩=some u:=λt u hu=>by
  rw[PH];exact hcs ((i+1)*2+t) u (by rw[<-hnews,PM] at hu;exact hu)
 obtain ⟨A,hA,hsrc⟩:=JB (c:=c) (i:=i+1) (b:=b) (o:=o) (w:=w.drew) (news:=news) (λe=>Qf.1 aa) hget;have hall:∀j,j<n*2->(w.cell? ⟨b,o+j,none⟩).isSome=true:=λj hj=>by rw[hcs j _ (N0 aa)];rfl
 have hspare:∀t,t<news.length->(w.drew.cell? ⟨b,o+i*2+t,none⟩).isSome=true/\w.drew.frozen? ⟨b,o+i*2+t,none⟩=false:=λt ht=>by
  refine ⟨?_,hfz _⟩;rw[PH];exact hall _ aa
 obtain ⟨W1,hW1⟩:∃W1,w.drew.setCells b (o+i*2) news=W1:=⟨_,rfl⟩;have hcl:∀ty cc,(Builtin.clear_ #[33] ty #[.slice (some ⟨b,o+(n - 1)*2,none⟩) 1 cc]).run Tryz.prog W1= .ok (.tuple #[]) (W1.setCells b (o+(n - 1)*2) zP2):=λty cc=>
  Es W1 33 50 ty zP zP2 Tryz.underlying33 Tryz.zeroValue50 (by kernel_rfl) (by intro v hv;simp at hv;subst hv;rfl) b (o+(n - 1)*2) cc
   (λj hj=>by
    have hj:j<2:=hj;rw[<-hW1,PH];exact isSome_setCells b _ _ _ (λt ht=>(hspare t ht).1) _ (hall _ aa))
   (λj hj=>by rw[<-hW1,World.frozen?_setCells];exact hfz _)
 have h1:∀v∈news,v.oneCell'=true:=λv hv=>h1c v (P6 (hnews.symm▸hv));have e1:i+(n - (i+1))=n - 1:=by omega
 have e2:n - (n - 1)=1:=by omega
 have hin:i<=n:=by omega
 have hin1:(i:Int)+1<=(n:Int):=by omega
 have hi1:(i:Int)<=(i:Int)+1:=by omega
 have hi0':(0:Int)<=(i:Int)+1:=by omega
 have hic:i<=c:=by omega
 have hicc:(i:Int)+1<=(c:Int):=by omega
 have htn:((i:Int)+1).toNat=i+1:=by omega
 have hci:¬(c=n - 1):=by omega
 have hnn:n - 1<=n:=by omega
 have hnn2:((n - 1:Nat):Int)<=(n:Int):=by omega
 clear hcs hall hget
 go_enter Tryz.func71,Tryz.ntmps71
 go_wp2_with fail
 go_region_law_o (refine step_append_room rfl (.tmp 22) (.tmp 25) 33 rfl 50 i0 2 Tryz.underlying33 hi0 hzs b o i c (by simp[Act.eval,Act.put]) A (n - (i+1)) (c - (i+1)) news (by simp[Act.eval,Act.put]) hlen hsrc h1 aa hspare ?_;rw[hW1,e1])
 go_wp2
 go_ret
 first|exact ⟨rfl,rfl⟩|exact ⟨rfl,by rw[hW1]⟩|exact ⟨rfl,by rw[hnews,hW1]⟩
end Go.Proofs.YtjnoobmaedgooaaGreat.Arch
end
section
set_option maxRecDepth 100000
namespace Go.Proofs.YtjnoobmaedgooaaGreat.Arch
open Go Go.Av Go.Proofs Go.Proofs.YtjnoobmaedgooaaGreat.C Go.Proofs.YtjnoobmaedgooaaGreat.Batch Go.Lib Go.RowKit
structure Eu(w w':World)(b n:Nat)(out:List Value)(v:Value):Prop where
 ex:∃(B C:Nat)(L:List Value)(T:TypeId)(fr:Nat × Nat),v= .slice (some ⟨B,0,none⟩) n C/\1<=C/\n<=C/\C<=9223372036854775807/\C*2<=out.length+L.length/\w'.heap[B]? =some (.cells (out++L).toArray T fr)/\fr.1=fr.2/\(B=b\/w.heap.size<=B)
 sz:w.heap.size<=w'.heap.size
 os:w'.os=w.os
 ou:w'.output=w.output
 fr:∀k,k<w.heap.size->k≠b->w'.heap[k]? =w.heap[k]?
 sf:bJ w.heap[b]? w'.heap[b]?
theorem Eu.ct{G:aQ}{h:H}{w w':World}{id n:Nat}{cs xs:List AV}{vs:List Value}{v:Value}(X:Eu w w' (G.ι id) n vs v)(R:bf G h w)(ho:h.objs id=some (.cells cs))(ht:h.toks=[])(hn:¬G.dom h.n)(hl:vs.length=xs.length)(hx:xs.length=n*2)(hb:n<1099511627777)(hE:∀G w,aC G w xs vs)(h1:∀v∈vs,One v):
  ∃G',Trans G w h G' w' (h.ct id (.cells xs))/\bf G' (h.ct id (.cells xs)) w'/\aB G' w' (.tsl 2 h.n 0 n none) v:=by
 obtain ⟨⟨B,C,L,T,fr,rfl,c1,c2,c3,c4,c5,c6,c7⟩,x1,x2,x3,x4,x5⟩:=X;obtain ⟨C1,hC1,hC2,hC3,hC4⟩:∃C1,1<=C1/\xs.length<=C1/\C1<=9223372036854775807/\C1<=vs.length+L.length:=⟨n*2+(1 - n*2),aa,aa,aa,aa⟩;obtain ⟨G',T1,R1,V⟩:=HM R ho ht hn x1 x2 x3 x4 x5 c7 ⟨hC2,hC3⟩ hl hE h1 c5 hC4 c6;refine ⟨G',T1,R1,?_⟩;simp only[aB] at V |-;obtain ⟨hd,⟨C',c,T',fr',e,-,-,hg,-⟩|⟨-,⟨a,e⟩,-⟩⟩:=V
 ·have eB:B=G'.ι h.n:=by
   injection e with e1 e2 e3;injection e1 with e1;injection e1
  refine ⟨hd,.inl ⟨C,(vs++L).toArray,T,fr,by rw[eB],⟨c2,c3⟩,(λ_ h=>by cases h),by rw[<-eB];exact c5,by simpa using c4⟩⟩
 ·injection e with e1 e2 e3;omega
def bm(l:List Pr):List Value:=l.flatMap fM
theorem cE(l:List Pr):(bm l).length=l.length*2:=by
 induction l with
 |nil=>rfl
 |cons p l ih=>
  have e:(fM p).length=2:=rfl;simp only[bm,Py,N6,List.length_cons] at*
  omega
theorem eW(a b:List Pr):bm (a++b)=bm a++bm b:=by simp[bm]
theorem qK(x:Pr)(b:List Pr):bm (x::b)=fM x++bm b:=rfl
theorem yy(l:List Pr)(i:Nat)(h:i<=l.length):(bm l).take (i*2)=bm (l.take i):=by
 have e:(bm (l.take i)).length=i*2:=by rw[cE,OJ,Pv h]
 rw[<-e]
 conv=>lhs;arg 2;rw[<-Po i l]
 rw[eW,Qg]
theorem mP(l:List Pr)(i:Nat)(h:i<=l.length):(bm l).drop (i*2)=bm (l.drop i):=by
 have e:(bm (l.take i)).length=i*2:=by rw[cE,OJ,Pv h]
 rw[<-e]
 conv=>lhs;arg 2;rw[<-Po i l]
 rw[eW,QV]
theorem mQ(x:Pr):∀v∈fM x,v.oneCell'=true:=by
 intro v hv;simp only[fM,Om,List.not_mem_nil,or_false] at hv;rcases hv with rfl|rfl<;>rfl
theorem oz(l:List Pr):∀v∈bm l,v.oneCell'=true:=by
 intro v hv;obtain ⟨p,-,hp⟩:=Ql.1 hv;exact mQ p v hp
theorem gJ(A B:List Value)(k:Nat):(A++B).drop (A.length+k)=B.drop k:=by
 rw[<-PQ,QV]
theorem Ho(A B:List Value)(k:Nat):(A++B).take (A.length+k)=A++B.take k:=by
 rw[List.take_append,OT aa,Nat.add_sub_cancel_left]
theorem Ev{A X D R Z:List Value}(hX:X.length=2):
  ((A++(X++(D++R))).take A.length++D++(A++(X++(D++R))).drop (A.length+D.length)).take (A.length+D.length)++Z++((A++(X++(D++R))).take A.length++D++(A++(X++(D++R))).drop (A.length+D.length)).drop (A.length+D.length+2)=(A++D)++(Z++R):=by
 rw[Qg,gJ];have e:A.length+D.length=(A++D).length:=by simp
 rw[e,Qg,gJ,PQ];have e2:D.length+2=X.length+D.length:=by omega
 rw[e2,gJ,QV];simp
theorem Ew{A D R X:List Value}(hX:X.length=2)(hR:2<=R.length):
  ((A++(D++R)).take (A.length+2)++D++(A++(D++R)).drop (A.length+2+D.length)).take A.length++X++((A++(D++R)).take (A.length+2)++D++(A++(D++R)).drop (A.length+2+D.length)).drop (A.length+2)=(A++(X++D))++R.drop 2:=by
 rw[Ho,PH,gJ];have l2:((D++R).take 2).length=2:=by rw[OJ,N6];omega
 have e2:2+D.length=D.length+2:=by omega
 rw[e2,gJ];generalize (D++R).take 2=Y at*
 have e3:(Y++(D++R.drop 2)).drop 2=D++R.drop 2:=List.drop_left' l2;simp only[Pn];rw[Qg,gJ,e3]
theorem Ex{A D Z X:List Value}(hX:X.length=2):
  ((A++Z).take A.length++X++(A++Z).drop (A.length+2)).take (A.length+2)++D++((A++Z).take A.length++X++(A++Z).drop (A.length+2)).drop (A.length+2+D.length)=(A++(X++D))++(Z.drop 2).drop D.length:=by
 rw[Qg,gJ];have e:A.length+2=(A++X).length:=by simp[hX]
 rw[e,Qg,gJ];simp
theorem Ey(l:List Pr)(i:Nat)(hi:i<l.length)(hl:l.length<1099511627776){id:Nat}{h:H}(ho:h.objs id=some (.cells (l.flatMap encA)))(htk:h.toks=[]):
  bo Tryz.prog 71 [.tsl 2 id 0 l.length none,.int .i64 i,.int .i64 ((i:Int)+1)] h (.tsl 2 h.n 0 (l.length - 1) none) (h.ct id (.cells ((l.take i++l.drop (i+1)).flatMap encA))):=by
 intro G w vs hv R F;simp only[aC,aB] at hv;obtain ⟨v1,_,rfl,⟨hd1,hv1⟩,v2,_,rfl,rfl,v3,_,rfl,rfl,rfl⟩:=hv;obtain ⟨C,c,T,fr,rfl,⟨hnC,hc63⟩,-,hg,hroom⟩|⟨hz,-⟩:=hv1;rotate_left
 ·omega
 obtain ⟨-,hown,hB,us,rest,T',fr',hg',hvs,hfr,-⟩:=R.obj id _ ho;have hus:=oX _ _ _ _ hvs;subst hus;rw[hg] at hg';obtain ⟨rfl,rfl,rfl⟩:c=(bm l++rest).toArray/\T=T'/\fr=fr':=by simpa [bm] using hg'
 have hsl:=cE l;have hrl:C*2<=l.length*2+rest.length:=by simpa [hsl] using hroom
 have hfz:∀j,w.frozen? ⟨G.ι id,j,none⟩=false:=λj=>by
  unfold World.frozen?;simp only[hg];have:=hfr;simp;omega
 have hcs:∀(j:Nat) v,(bm l)[j]? =some v->w.cell? ⟨G.ι id,0+j,none⟩=some v:=λj v hv=>by
  have hj:=(O4.1 hv).1;unfold World.cell?;simp only[hg,Od];simpa [OI hj] using hv
 refine (NA (G.ι id) 0 l.length C i (bm l) w hi hnC hc63 hsl hcs hfz (oz l)).mono ?_;rintro e w' ⟨rfl,rfl⟩;have ed:=mP l (i+1) aa;have et:l=l.take i++(l.getD i default::l.drop (i+1)):=by
  rw[<-Batch.cA hi,Po]
 have eA:(bm (l.take i)).length=i*2:=by rw[cE,OJ,Pv aa]
 have eD:(bm (l.drop (i+1))).length=(l.length - (i+1))*2:=by rw[cE,OC]
 have hout:(l.take i++l.drop (i+1)).length=l.length - 1:=by rw[N6,OJ,OC];omega
 have ecell:bm l++rest=bm (l.take i)++(fM (l.getD i default)++(bm (l.drop (i+1))++rest)):=by
  conv=>lhs;rw[et]
  rw[eW,qK];simp
 rw[ed];obtain ⟨a1,a2,a3,a4,a5⟩:=cf (G.ι id) T fr (bm (l.drop (i+1))) (0+i*2) (bm l++rest) w.drew hg (by rw[eD,N6,hsl];omega);obtain ⟨b1,b2,b3,b4,b5⟩:=cf (G.ι id) T fr zP2 (0+(l.length - 1)*2) _ _ a1 (by
  have:zP2.length=2:=rfl;rw[this,N6,N6,OJ,OC,eD,N6,hsl];omega)
 have e3:0+(l.length - 1)*2=(bm (l.take i)).length+(bm (l.drop (i+1))).length:=by rw[eA,eD];omega
 have e4:0+i*2=(bm (l.take i)).length:=by rw[eA];omega
 have e5:zP2.length=2:=rfl;rw[e3,e4,e5,ecell,Ev rfl,<-eW] at b1;rw[e3,e4] at b2 b3 b4 b5;have X:Eu w _ (G.ι id) (l.length - 1) (bm (l.take i++l.drop (i+1))) (.slice (some ⟨G.ι id,0,none⟩) (l.length - 1) C):=⟨⟨G.ι id,C,zP2++rest,T,fr,rfl,aa,aa,hc63,by rw[cE,hout,N6,e5];omega,b1,hfr,.inl rfl⟩,Nat.le_of_eq (b3.trans (e4▸a3)).symm,b4.trans (e4▸a4),b5.trans (e4▸a5),λk _ hk=>(b2 k hk).trans (e4▸a2 k hk),by
  rw[hg,b1];refine ⟨_,_,rfl,?_,λ_ _ h=>h⟩;simp only[List.size_toArray,N6,cE,OJ,OC,e5];omega⟩
 obtain ⟨G',T1,R1,V⟩:=X.ct R ho htk (F.1 _ (NY _) (OD _)) (xs:=(l.take i++l.drop (i+1)).flatMap encA) (by rw[cE,fN]) (by rw[fN,hout]) aa (mz _) (sr _);rw[<-e3,<-e4] at T1 R1 V;exact ⟨_,G',rfl,T1,R1,V⟩
theorem Ez(l:List Pr)(i:Nat)(x:Pr)(hi:i<=l.length)(hl:l.length<1000000000){id id2:Nat}(hne:id≠id2){h:H}(ho:h.objs id=some (.cells (l.flatMap encA)))(ho2:h.objs id2=some (.cells (encA x)))(htk:h.toks=[]):
  bo Tryz.prog 72 [.tsl 2 id 0 l.length none,.int .i64 i,.tsl 2 id2 0 1 none] h (.tsl 2 h.n 0 (l.length+1) none) (h.ct id (.cells ((l.take i++x::l.drop i).flatMap encA))):=by
 intro G w vs hv R F;simp only[aC,aB] at hv;obtain ⟨v1,_,rfl,⟨hd1,hv1⟩,v2,_,rfl,rfl,v3,_,rfl,⟨hd2,hv3⟩,rfl⟩:=hv;obtain ⟨C2,c2,T2,fr2,rfl,⟨hnC2,-⟩,-,hg2,hroom2⟩|⟨hz,-⟩:=hv3;rotate_left
 ·omega
 obtain ⟨-,hown,hB,us,rest,T',fr',hg',hvs,hfr,-⟩:=R.obj id _ ho;obtain ⟨-,hown2,hB2,us2,rest2,T2',fr2',hg2',hvs2,hfr2,-⟩:=R.obj id2 _ ho2;have hus:=oX _ _ _ _ hvs;subst hus;have hus2:=Ii hvs2;subst hus2;have hbb:G.ι id2≠G.ι id:=λe=>hne (R.inj _ _ _ _ ho ho2 e.symm);rw[hg2] at hg2';obtain ⟨rfl,rfl,rfl⟩:c2=(fM x++rest2).toArray/\T2=T2'/\fr2=fr2':=by simpa using hg2'
 have hsl:=cE l;have hX:(fM x).length=2:=rfl;have hfz2:∀j,w.frozen? ⟨G.ι id2,j,none⟩=false:=λj=>by
  unfold World.frozen?;simp only[hg2];have:=hfr2;simp;omega
 have hvs':∀(j:Nat) v,(fM x)[j]? =some v->w.cell? ⟨G.ι id2,0+j,none⟩=some v:=λj v hv=>by
  have hj:=(O4.1 hv).1;unfold World.cell?;simp only[hg2,Od];simpa [OI hj] using hv
 have hgW:w.heap[G.ι id]? =some (.cells (bm l++rest).toArray T' fr'):=hg';have hfz:∀j,w.frozen? ⟨G.ι id,j,none⟩=false:=λj=>by
  unfold World.frozen?;simp only[hgW];have:=hfr;simp;omega
 have hcs:∀(j:Nat) v,(bm l)[j]? =some v->w.cell? ⟨G.ι id,0+j,none⟩=some v:=λj v hv=>by
  have hj:=(O4.1 hv).1;unfold World.cell?;simp only[hgW,Od];simpa [OI hj] using hv
 have hout:(l.take i++x::l.drop i).length=l.length+1:=by rw[N6,OJ,List.length_cons,OC];omega
 have eA:(bm (l.take i)).length=i*2:=by rw[cE,OJ,Pv hi]
 have eD:(bm (l.drop i)).length=(l.length - i)*2:=by rw[cE,OC]
 have ecell:bm l++rest=bm (l.take i)++(bm (l.drop i)++rest):=by
  conv=>lhs;rw[<-Po i l]
  rw[eW];simp
 have eout:bm (l.take i)++(fM x++bm (l.drop i))=bm (l.take i++x::l.drop i):=by rw[eW,qK]
 have fin:∀(w':World)(v:Value),Eu w w' (G.ι id) (l.length+1) (bm (l.take i++x::l.drop i)) v->
   ∃v' G',Ending.returned v= .returned v'/\Trans G w h G' w' (h.ct id (.cells ((l.take i++x::l.drop i).flatMap encA)))/\bf G' (h.ct id (.cells ((l.take i++x::l.drop i).flatMap encA))) w'/\aB G' w' (.tsl 2 h.n 0 (l.length+1) none) v':=by
  intro w' v X;obtain ⟨G',T1,R1,V⟩:=X.ct R ho htk (F.1 _ (NY _) (OD _)) (xs:=(l.take i++x::l.drop i).flatMap encA) (by rw[cE,fN]) (by rw[fN,hout]) aa (mz _) (sr _);exact ⟨_,G',rfl,T1,R1,V⟩
 have newb:∀(w':World)(L2:List Value)(C0:Nat)(T0:TypeId),l.length+1<=C0->C0<=9223372036854775807->C0*2<=(l.length+1)*2+L2.length->w'.heap[w.heap.size]? =some (.cells (bm (l.take i++x::l.drop i)++L2).toArray T0 (0,0))->w.heap.size<=w'.heap.size->w'.os=w.os->w'.output=w.output->(∀b,b<w.heap.size->w'.heap[b]? =w.heap[b]?)->
   Eu w w' (G.ι id) (l.length+1) (bm (l.take i++x::l.drop i)) (.slice (some ⟨w.heap.size,0,none⟩) (l.length+1) C0):=by
  intro w' L2 C0 T0 q1 q2 q3 q4 q5 q6 q7 q8;exact ⟨⟨_,C0,L2,T0,(0,0),rfl,aa,q1,q2,by rw[cE,hout];exact q3,q4,rfl,.inr (NY _)⟩,q5,q6,q7,λk hk _=>q8 k hk,by rw[q8 _ hB];exact bJ.refl _⟩
 have hzl:∀k,(Builtin.zeroCells zP.cells k).toList.length=k*2:=λk=>by simp[Builtin.zeroCells,Value.cells]
 have grow:∀(a0:Addr)(c0:Nat),i=l.length->l.length<=c0->c0<l.length+1->(∀(j:Nat) v,(bm l)[j]? =some v->w.cell? (a0.add j)=some v)->
   Calls Tryz.prog 72 #[.slice (some a0) l.length c0,.int .i64 i,.slice (some ⟨G.ι id2,0,none⟩) 1 C2] w λe w'=>∃v G',e= .returned v/\Trans G w h G' w' (h.ct id (.cells ((l.take i++x::l.drop i).flatMap encA)))/\bf G' (h.ct id (.cells ((l.take i++x::l.drop i).flatMap encA))) w'/\aB G' w' (.tsl 2 h.n 0 (l.length+1) none) v:=by
  intro a0 c0 hie k1 k2 hca;subst hie;refine (Hn (some a0) l.length c0 (G.ι id2) 0 C2 (bm l) (fM x) w k1 k2 aa hsl rfl (λe=>by cases e) (λa ha=>by cases ha;exact hca) hvs' (mQ x)).mono ?_;rintro e w' ⟨rfl,rfl⟩;have hgc':l.length+1<=grownCap w (l.length+1) c0 50:=grownCap_ge _ _ _ _;have hgl:grownCap w (l.length+1) c0 50<=9223372036854775807:=grownCap_le_maxLen w _ c0 _ (by unfold maxLen;omega);generalize grownCap w (l.length+1) c0 50=C0 at hgc' hgl |-;have hz:=hzl (C0 - (l.length+1));generalize Builtin.zeroCells zP.cells (C0 - (l.length+1))=Zc at hz |-;refine fin _ _ (newb _ Zc.toList C0 50 hgc' hgl (by rw[hz];omega) ?_ ?_ rfl rfl ?_)
  ·show (w.heap.push _)[w.heap.size]? =_;rw[Array.getElem?_push_size,<-eout,Ot,List.drop_length];refine Pb some (Pb (λc=>Go.Obj.cells c _ (0,0)) (Array.ext' ?_));simp[bm]
  ·show _<=(w.heap.push _).size;rw[Array.size_push];omega
  ·intro b hb;show (w.heap.push _)[b]? =_;rw[P3,N7 (Nat.ne_of_lt hb)]
 rcases hv1 with ⟨C,c,T,fr,rfl,⟨hnC,hc63⟩,-,hg,hroom⟩|⟨hz,⟨a0,rfl⟩,-⟩;rotate_left
 ·have hcl0:bm l=[]:=Qf.1 (by rw[hsl,hz]);have:=grow a0 0 aa aa aa (λj v hj=>by rw[hcl0] at hj;simp at hj);rw[hz] at this |-;exact this
 rw[hgW] at hg;obtain ⟨rfl,rfl,rfl⟩:(bm l++rest).toArray=c/\T'=T/\fr'=fr:=by simpa using hg
 have hrl:C*2<=l.length*2+rest.length:=by simpa [hsl] using hroom
 have inpl:∀(w':World)(L2:List Value),w'.heap[G.ι id]? =some (.cells (bm (l.take i++x::l.drop i)++L2).toArray T' fr')->L2.length+2=rest.length->w'.heap.size=w.heap.size->w'.os=w.os->w'.output=w.output->(∀b,b≠G.ι id->w'.heap[b]? =w.heap[b]?)->l.length+1<=C->
   Eu w w' (G.ι id) (l.length+1) (bm (l.take i++x::l.drop i)) (.slice (some ⟨G.ι id,0,none⟩) (l.length+1) C):=by
  intro w' L2 q1 q2 q3 q4 q5 q6 q7;refine ⟨⟨_,C,L2,T',fr',rfl,aa,q7,hc63,by rw[cE,hout];omega,q1,hfr,.inl rfl⟩,Nat.le_of_eq q3.symm,q4,q5,λk _ hk=>q6 k hk,?_⟩;rw[hgW,q1];refine ⟨_,_,rfl,?_,λ_ _ h=>h⟩;simp only[List.size_toArray,N6,cE,hout] at*
  omega
 by_cases hfit:l.length+1<=C
 ·have hrest:2<=rest.length:=by omega
  by_cases hie:i=l.length
  ·subst hie;have hsome:∀j,j<2->(w.cell? ⟨G.ι id,0+l.length*2+j,none⟩).isSome=true:=λj hj=>by
    unfold World.cell?;simp only[hgW];simp[hsl];omega
   refine (Hm (G.ι id) 0 l.length C (G.ι id2) 0 C2 (fM x) w hfit hc63 rfl hsome (λj hj=>hfz _) hvs' (mQ x)).mono ?_;rintro e w' ⟨rfl,rfl⟩;obtain ⟨a1,a2,a3,a4,a5⟩:=cf (G.ι id) T' fr' (fM x) (0+l.length*2) (bm l++rest) w hgW (by rw[hX,N6,hsl];omega);refine fin _ _ (inpl _ (rest.drop 2) ?_ (by rw[OC];omega) a3 a4 a5 a2 hfit);rw[a1,<-eout,Ot,List.drop_length,Od,<-hsl,Qg,hX,gJ];simp[bm]
  ·have hlt:i<l.length:=by omega
   have hsome:∀j,j<(l.length+1)*2->(w.cell? ⟨G.ι id,0+j,none⟩).isSome=true:=λj hj=>by
    unfold World.cell?;simp only[hgW];simp[hsl];omega
   refine (Et (G.ι id) 0 l.length C i (G.ι id2) 0 C2 (bm l) (fM x) w hlt hfit hc63 hbb hsl rfl hcs hsome hfz hvs' (oz l) (mQ x) T2 T' (fM x++rest2).toArray.size (bm l++rest).toArray.size (by unfold World.shape?;simp only[hg2]) (by unfold World.shape?;simp only[hgW]) (by rw[List.size_toArray,N6,hsl];omega) (hfz2 _) (hfz2 _)).mono ?_;rintro e w' ⟨rfl,rfl⟩;rw[mP l i hi];obtain ⟨a1,a2,a3,a4,a5⟩:=cf (G.ι id) T' fr' (bm (l.drop i)) (0+(i+1)*2) (bm l++rest) w.drew hgW (by rw[eD,N6,hsl];omega);obtain ⟨b1,b2,b3,b4,b5⟩:=cf (G.ι id) T' fr' (fM x) (0+i*2) _ _ a1 (by
    rw[hX,N6,N6,OJ,OC,eD,N6,hsl];omega)
   refine fin _ _ (inpl _ (rest.drop 2) ?_ (by rw[OC];omega) (b3.trans a3) (b4.trans a4) (b5.trans a5) (λb hb=>(b2 b hb).trans (a2 b hb)) hfit);have e3:0+(i+1)*2=(bm (l.take i)).length+2:=by rw[eA];omega
   have e4:0+i*2=(bm (l.take i)).length:=by rw[eA];omega
   rw[b1,hX,e3,e4,ecell,Ew rfl hrest,eout]
 ·have hCl:C=l.length:=by omega
  subst hCl;by_cases hie:i=l.length
  ·exact grow ⟨G.ι id,0,none⟩ l.length hie (NY _) aa (λj v hj=>by rw[Addr.add_lit];exact hcs j v hj)
  ·have hlt:i<l.length:=by omega
   refine (JA (G.ι id) 0 l.length l.length i (G.ι id2) 0 C2 (bm l) (fM x) w hlt (NY _) aa aa hsl rfl hcs hvs' (oz l) (mQ x)).mono ?_;rintro e w' ⟨rfl,rfl⟩;have hgc':l.length+1<=grownCap w (l.length+1) l.length 50:=grownCap_ge _ _ _ _;have hgl:grownCap w (l.length+1) l.length 50<=9223372036854775807:=grownCap_le_maxLen w _ _ _ (by unfold maxLen;omega);generalize grownCap w (l.length+1) l.length 50=C0 at hgc' hgl |-;rw[yy l i hi,mP l i hi];have z1:=hzl (l.length+1 - i);have z2:=hzl (C0 - (l.length+1));generalize Builtin.zeroCells zP.cells (l.length+1 - i)=Z1 at z1 |-;generalize Builtin.zeroCells zP.cells (C0 - (l.length+1))=Z2 at z2 |-;generalize hA0:w.alloc (.cells ((bm (l.take i)).toArray++Z1++Z2) 50)=A0;have g1:A0.drew.heap[w.heap.size]? =some (.cells (bm (l.take i)++(Z1.toList++Z2.toList)).toArray 50 (0,0)):=by
    subst hA0;show (w.heap.push _)[w.heap.size]? =_;rw[Array.getElem?_push_size];refine Pb some (Pb (λc=>Go.Obj.cells c _ (0,0)) (Array.ext' ?_));simp
   have k3:A0.heap.size=w.heap.size+1:=by
    rw[<-hA0];show (w.heap.push _).size=_;rw[Array.size_push]
   have k4:A0.os=w.os:=by rw[<-hA0];rfl
   have k5:A0.output=w.output:=by rw[<-hA0];rfl
   have k6:∀b,b<w.heap.size->A0.heap[b]? =w.heap[b]? :=λb hb=>by
    rw[<-hA0];show (w.heap.push _)[b]? =_;rw[P3,N7 (Nat.ne_of_lt hb)]
   obtain ⟨a1,a2,a3,a4,a5⟩:=cf w.heap.size 50 (0,0) (fM x) (i*2) _ A0.drew g1 (by rw[hX,N6,N6,eA,z1,z2];omega);obtain ⟨b1,b2,b3,b4,b5⟩:=cf w.heap.size 50 (0,0) (bm (l.drop i)) ((i+1)*2) _ ((A0.drew.setCells w.heap.size (i*2) (fM x)).drew) a1 (by
    rw[hX,N6,N6,OJ,OC,eD,N6,N6,eA,z1,z2];omega)
   refine fin _ _ (newb _ (((Z1.toList++Z2.toList).drop 2).drop (bm (l.drop i)).length) C0 50 hgc' hgl (by rw[OC,OC,N6,z1,z2,eD];omega) ?_ ?_ (b4.trans (a4.trans k4)) (b5.trans (a5.trans k5)) ?_)
   ·have e3:(i+1)*2=(bm (l.take i)).length+2:=by rw[eA];omega
    have e4:i*2=(bm (l.take i)).length:=by rw[eA]
    rw[b1,hX,e3,e4,Ex rfl,eout]
   ·rw[b3];show _<=(A0.drew.setCells w.heap.size (i*2) (fM x)).heap.size;rw[a3];show _<=A0.heap.size;omega
   ·intro b hb;rw[b2 b (Nat.ne_of_lt hb)];show (A0.drew.setCells w.heap.size (i*2) (fM x)).heap[b]? =_;rw[a2 b (Nat.ne_of_lt hb)];exact k6 b hb
end Go.Proofs.YtjnoobmaedgooaaGreat.Arch
end
section
set_option maxRecDepth 100000
namespace Go.Proofs.YtjnoobmaedgooaaGreat.Arch
open Go Go.Av Go.Proofs Go.Proofs.YtjnoobmaedgooaaGreat.C Go.Proofs.YtjnoobmaedgooaaGreat.Desk Go.Proofs.YtjnoobmaedgooaaGreat.Batch
theorem tf{ns:List (List UInt8)}(hs:ns.Pairwise λa b=>Op.bytesLess a b=true)(nm:List UInt8):∀(f i j:Nat),j - i<=f->i<=j->j<=ns.length->(∀t,t<i->Op.bytesLess (ns.getD t []) nm=true)->(∀t,j<=t->t<ns.length->Op.bytesLess (ns.getD t []) nm=false)->
  gP ns nm f i j<=ns.length/\(∀t,t<gP ns nm f i j->Op.bytesLess (ns.getD t []) nm=true)/\(∀t,gP ns nm f i j<=t->t<ns.length->Op.bytesLess (ns.getD t []) nm=false)
 |0,i,j,h1,h2,h3,h4,h5=>by
  obtain rfl:i=j:=by omega
  exact ⟨h3,h4,h5⟩
 |f+1,i,j,h1,h2,h3,h4,h5=>by
  simp only[gP];by_cases hij:i<j
  ·rw[Of hij];have a1:(i+j)/2<j:=by omega
   have a2:i<=(i+j)/2:=by omega
   have pw:=PA.1 hs;have gt:∀t (h:t<ns.length),ns.getD t []=ns[t]:=λt h=>by simp[List.getD,N0 h]
   generalize (i+j)/2=c at*
   cases hc:Op.bytesLess (ns.getD c []) nm with
   |true=>
    simp only[N9];refine tf hs nm f (c+1) j aa aa h3 (λt ht=>?_) h5;by_cases e:t=c
    ·rw[e];exact hc
    ·refine Batch.dH (b:=ns.getD c []) ?_ hc;rw[gt t aa,gt c aa];exact pw t c aa aa aa
   |false=>
    simp only[Oa,N5];refine tf hs nm f i c aa aa aa h4 (λt ht htl=>?_);by_cases e:t=c
    ·rw[e];exact hc
    ·cases hx:Op.bytesLess (ns.getD t []) nm with
     |false=>rfl
     |true=>
      have:=Batch.dH (a:=ns.getD c []) (b:=ns.getD t []) (by rw[gt t htl,gt c aa];exact pw c t aa htl aa) hx;rw[hc] at this;cases this
  ·rw[N7 hij];obtain rfl:i=j:=by omega
   exact ⟨h3,h4,h5⟩
def js(L:List Pr):List (List UInt8):=L.map Pr.k
def jz(L:List Pr)(k:List UInt8):Nat:=jy (js L) k
def AU(L:List Pr)(k:List UInt8):Bool:=gh (js L) k
theorem pG{L:List Pr}{t:Nat}(h:t<L.length):(js L).getD t []=(L.getD t default).k:=by
 simp[js,List.getD,N0 h]
theorem Cn{L:List Pr}(hs:eN L)(k:List UInt8):jz L k<=L.length/\(∀t,t<jz L k->Op.bytesLess (L.getD t default).k k=true)/\(∀t,jz L k<=t->t<L.length->Op.bytesLess (L.getD t default).k k=false):=by
 have hl:(js L).length=L.length:=O2 _;have h:=tf (ns:=js L) (by unfold js;rw[PK];exact hs) k (js L).length 0 (js L).length aa (Og _) (NY _) (λt h=>by omega) (λt h1 h2=>by omega);unfold jz jy;rw[hl] at h |-;refine ⟨h.1,λt ht=>?_,λt h1 h2=>?_⟩
 ·rw[<-pG aa];exact h.2.1 t ht
 ·rw[<-pG h2];exact h.2.2 t h1 h2
theorem wh(L:List Pr)(k:List UInt8):AU L k=(decide (jz L k<L.length)&&decide ((L.getD (jz L k) default).k=k)):=by
 have hl:(js L).length=L.length:=O2 _;unfold AU gh jz;rw[hl];by_cases h:jy (js L) k<L.length
 ·rw[pG h]
 ·rw[N1 h,O6,O6]
def iL(L:List Pr)(c:Ch):List Pr:=
 if AU L c.k then (if c.d then L.take (jz L c.k)++L.drop (jz L c.k+1) else L.take (jz L c.k)++⟨(L.getD (jz L c.k) default).k,c.v⟩::L.drop (jz L c.k+1))
 else (if c.d then L else L.take (jz L c.k)++⟨c.k,c.v⟩::L.drop (jz L c.k))
theorem Co{L:List Pr}{k:List UInt8}(h:∀q∈L,¬q.k=k):¬jj L k=0:=by rw[Batch.get_none h];decide
theorem uR{L:List Pr}(hs:eN L)(c:Ch)(hc:c.d=false->shut c.k c.v=false):iL L c=tp L c:=by
 obtain ⟨p1,p2,p3⟩:=Cn hs c.k;have hh:=wh L c.k;unfold iL tp;generalize jz L c.k=p at*
 have hA:∀x∈L.take p,Lt x.k c.k:=λx hx=>by
  obtain ⟨t,ht,rfl⟩:=P7.1 hx;have hl:(L.take p).length=p:=by rw[OJ];omega
  have:=p2 t aa;rw[oW aa] at this;rw[List.getElem_take];exact this
 by_cases hp:p<L.length
 ·have hd:=Batch.cA hp;have hx:=p3 p (NY _) hp;have et:L=L.take p++(L.getD p default::L.drop (p+1)):=by rw[<-hd,Po]
  generalize hX:L.getD p default=x at*
  have hr:eN (L.take p++x::L.drop (p+1)):=et▸hs;obtain ⟨r1,r2,r3⟩:=so hr;have hB:∀y∈L.drop (p+1),¬y.k=c.k:=λy hy e=>by
   have:=r3 y hy;unfold Lt at this;rw[e,hx] at this;cases this
  rw[N3 hp,OP] at hh;by_cases hk:x.k=c.k
  ·rw[N3 hk] at hh;rw[hh];cases hcd:c.d with
   |true=>
    simp only[N9]
    conv=>rhs;rw[et,<-hk]
    exact (FK hr).symm
   |false=>
    simp only[Oa,N5,N9];unfold jk;rw[hc hcd];simp only[Oa,N5]
    conv=>rhs;rw[et]
    rw[gq (.inr ⟨x,_,rfl,hx⟩) _ hA,ku,Of hk,List.nil_append,gV hB,hk]
  ·rw[N1 hk] at hh;rw[hh];simp only[Oa,N5];have hno:∀q∈L,¬q.k=c.k:=λq hq=>by
    rw[et] at hq;rcases OM.1 hq with h|h
    ·exact (hA q h).ne
    ·rcases Om.1 h with rfl|h
     ·exact hk
     ·exact hB q h
   cases hcd:c.d with
   |true=>
    simp only[N9];unfold jI;rw[N7 (Co hno)]
   |false=>
    simp only[Oa,N5];unfold jk;rw[hc hcd];simp only[Oa,N5]
    conv=>rhs;rw[et]
    rw[gq (.inr ⟨x,_,rfl,hx⟩) _ hA,gV (λy hy=>by
     rcases Om.1 hy with rfl|h
     ·exact hk
     ·exact hB y h),hd]
 ·have hp2:p=L.length:=by omega
  have hh:AU L c.k=false:=by rw[hh,N1 hp,O6]
  have ht:L.take p=L:=by rw[hp2,Ot]
  have hd:L.drop p=[]:=by rw[hp2,List.drop_length]
  rw[ht] at hA;rw[hh,ht,hd];simp only[Oa,N5];cases hcd:c.d with
  |true=>
   simp only[N9];unfold jI;rw[N7 (Co λq hq=>(hA q hq).ne)]
  |false=>
   simp only[Oa,N5];unfold jk;rw[hc hcd];simp only[Oa,N5];have:=gq (k:=c.k) (v:=c.v) (.inl rfl) L hA;rw[ON] at this;rw[this];rfl
theorem Cp(p q:Pr):aI Tryz.prog 46 [cw p,cw q] (.int .i64 (nB p.k q.k)):=by
 refine f46.aE af (by simp[aF,aO,cw]) rfl ?_;unfold c46 zz;have cc:=J9 p.k q.k;unfold cw;refine nA cc ?_;refine aG ?_;exact av.refl _
def gK(L:List Pr)(o:Option Nat):AV:=match o with|none=> .sl 2 [] (.exact 0)|some k=> .tsl 2 k 0 L.length none
def yz(L:List Pr)(o:Option Nat)(h:H):Prop:=match o with|none=>L=[]|some k=>h.objs k=some (.cells (L.flatMap encA))
theorem JC(L:List Pr)(i:Nat)(h:i<L.length):((L.flatMap encA).drop (i*2)).take 2=[.str (L.getD i default).k,.str (L.getD i default).v]:=by
 have et:L=L.take i++(L.getD i default::L.drop (i+1)):=by rw[<-Batch.cA h,Po]
 have e:((L.take i).flatMap encA).length=i*2:=by rw[fN,OJ,Pv aa]
 conv=>lhs;rw[et]
 rw[List.flatMap_append,<-e,QV];rfl
theorem Lj(F:Nat->Option Av.Obj)(n m:Nat)(L:List Pr)(o:Option Nat)(q:Pr)(hk:yz L o ⟨F,n,[],m⟩)(hn:∀k,o=some k->k<n)(hl:L.length<=1000000):
  bo Tryz.prog 70 [gK L o,cw q,.clo (.func 46) [] []] ⟨F,n,[],m⟩ (.tup [.int .i64 (jz L q.k),.bool (AU L q.k)]) ⟨upd F n (some (.cells [.str q.k,.str q.v])),n+1,[],m⟩:=by
 refine aT.Bq f70 af ?_;unfold c70 zz;unfold cw;cases o with
 |none=>
  obtain rfl:L=[]:=hk;have hv:gK [] none= .sl 2 [] (.exact 0):=rfl;have hp:jz [] q.k=0:=rfl;have ht:AU [] q.k=false:=rfl;rw[hv,hp,ht];refine rf0 @N4.{0} ?_;refine Wp.cI [0,2,4,8] xA7 (λ_:Nat=>[(9,.int .i64 0),(10,.int .i64 0)]) (λ_=>⟨upd F n (some (.cells [.str q.k,.str q.v])),n+1,[],m⟩) (λ_=>True) (λj=>j) 0 trivial rfl ?_ ?_
  ·exact xSb
  intro _ _;have d:decide ((0:Int)<0)=false:=by decide
  refine rn0 (cj2 @N4.{0} d) ?_;refine Wp.ret ⟨trivial,_,rfl,?_,rfl⟩;exact av.refl _
 |some k=>
  have ho:F k=some (.cells (L.flatMap encA)):=hk;have hkn:¬(k=n):=by have:=hn k rfl;omega
  have hv:gK L (some k)= .tsl 2 k 0 L.length none:=rfl;rw[hv];have hrl:=fN L;have hcell:=λi hi=>JC L i hi;have hnl:(js L).length=L.length:=O2 _;have hng:∀i,i<L.length->(js L).getD i []=(L.getD i default).k:=λi hi=>pG hi;generalize L.flatMap encA=cs at*
  have hbp:jz L q.k=gP (js L) q.k L.length 0 L.length:=by unfold jz jy;rw[hnl]
  have hbt:=wh L q.k;rw[hbt];generalize js L=ns at*
  generalize jz L q.k=bp at*
  obtain ⟨nm,qv⟩:=q;simp only at hbp hbt |-;refine dG ?_;refine Wp.cI [0,2,4,8] xA7 (λj:Nat × Nat × Nat=>[(9,.int .i64 (j.2.1:Nat)),(10,.int .i64 (j.2.2:Nat))]) (λ_=>⟨upd F n (some (.cells [.str nm,.str qv])),n+1,[],m⟩) (λj=>j.2.2 - j.2.1<=j.1/\j.2.1<=j.2.2/\j.2.2<=L.length/\gP ns nm j.1 j.2.1 j.2.2=bp) (λj=>j.1) (L.length,0,L.length) ⟨by simp,Og _,NY _,hbp.symm⟩ rfl ?_ ?_
  ·exact xSb
  rintro ⟨f,i,j⟩ ⟨a1,a2,a3,a4⟩;simp only at a1 a2 a3 a4;by_cases hc:i<j
  ·have d1:decide ((i:Int)<(j:Int))=true:=N3 aa;have e1:IntKind.i64.wrap ((i:Int)+(j:Int))=((i+j:Nat):Int):=by rw[IntWalk.i64_in _ aa];omega
   have e2:IntKind.u64.wrap ((i+j:Nat):Int)=((i+j:Nat):Int):=IntWalk.u64_in _ aa;have e3:((i+j:Nat):Int).fdiv (2^(min (Int.toNat 1) 64))=(((i+j)/2:Nat):Int):=by
    rw[show min (Int.toNat 1) 64=1 from rfl,Qu _ aa];omega
   have e4:IntKind.i64.wrap (((i+j)/2:Nat):Int)=(((i+j)/2:Nat):Int):=IntWalk.i64_in _ aa;have e5:¬(1:Int)<0:=by omega
   obtain ⟨f,rfl⟩:∃f',f=f'+1:=⟨f - 1,aa⟩;have c1:(i+j)/2<j:=by omega
   have c2:i<=(i+j)/2:=by omega
   have hcl:=hcell ((i+j)/2) aa;have hg:=hng ((i+j)/2) aa;simp only[gP,Of hc] at a4;generalize (i+j)/2=c at*
   have p1:(0:Int)<=(c:Int):=by omega
   have p2:(c:Int)<(L.length:Int):=by omega
   have p3:c*2+2<=cs.length:=by omega
   have cc:=Cp (L.getD c default) ⟨nm,qv⟩;unfold cw at cc;rw[hg] at a4;generalize L.getD c default=bb at*
   have hlt:=B8 bb.k nm;simp only at cc;generalize nB bb.k nm=r at*
   refine rf0 (cj7 d1 e1 e2 e3 e4 e5 wU) ?_;refine Wp.eF (xAd (cj7 p1 p2 p3 ho hkn hcl @NZ)) ?_;refine az.pO (by simp only[go_sem,reduceIte,Nat.reduceEqDiff,Nat.reduceAdd,bx];try rfl) ar rfl rfl al xA4 cc ?_;cases hb2:Op.bytesLess bb.k nm with
   |true=>
    rw[hb2] at hlt a4;simp only[N9] at a4;refine az.evR (xAe hlt) ?_;refine az.nil ⟨by simp[bw,aV,apart,aZ],?_⟩;have e6:IntKind.i64.wrap ((c:Int)+1)=((c+1:Nat):Int):=by rw[IntWalk.i64_in _ aa];omega
    refine rf0 hlt ?_;refine ⟨(f,c+1,j),⟨by simp only;omega,by simp only;omega,a3,a4⟩,by simp only;omega,?_⟩;refine aL.of (aS ?_) (OLe.bK _) (λa ha=>ha) (NY _) (NY _);exact bY e6
   |false=>
    rw[hb2] at hlt a4;simp only[Oa,N5] at a4;refine az.evR (xAe hlt) ?_;refine az.nil ⟨by simp[bw,aV,apart,aZ],?_⟩;refine rf0 hlt ?_;refine ⟨(f,i,c),⟨by simp only;omega,c2,by simp only;omega,a4⟩,by simp only;omega,?_⟩;refine aL.of (aS ?_) (OLe.bK _) (λa ha=>ha) (NY _) (NY _);exact xSb
  ·obtain rfl:i=j:=by omega
   have hbi:bp=i:=by
    cases f with
    |zero=>exact a4.symm
    |succ f=>simp only[gP,N7 hc] at a4;exact a4.symm
   subst hbi;have d1:decide ((bp:Int)<(bp:Int))=false:=N1 aa;by_cases hlt:bp<L.length
   ·have d2:decide ((bp:Int)<(L.length:Int))=true:=N3 aa;have d3:decide (bp<L.length)=true:=N3 hlt;have hcl:=hcell bp hlt;have p1:(0:Int)<=(bp:Int):=by omega
    have p2:(bp:Int)<(L.length:Int):=by omega
    have p3:bp*2+2<=cs.length:=by omega
    have cc:=Cp (L.getD bp default) ⟨nm,qv⟩;unfold cw at cc;simp only at cc;clear hbt;generalize L.getD bp default=bb at*
    have hlt:=B9 bb.k nm;generalize nB bb.k nm=r at*
    refine rf0 d1 ?_;refine Wp.eF (xAd (cj8 d2 p1 p2 p3 ho hkn hcl @NZ)) ?_;refine az.pO (by simp only[go_sem,reduceIte,Nat.reduceEqDiff,Nat.reduceAdd,bx];try rfl) ar rfl rfl al xA4 cc ?_;refine az.evR (xAe hlt) ?_;refine az.nil ⟨by simp[bw,aV,apart,aZ],?_⟩;refine Wp.ret ⟨trivial,_,rfl,?_,rfl⟩;rw[d3,OP];exact av.refl _
   ·have d2:decide ((bp:Int)<(L.length:Int))=false:=N1 aa;have d3:decide (bp<L.length)=false:=N1 hlt;refine rn0 (cj2 d1 d2) ?_;refine Wp.ret ⟨trivial,_,rfl,?_,rfl⟩;rw[d3,O6];exact av.refl _
def iI(c:Ch):Bool:=decide (128<c.k.length)||(!c.d&&decide (200<c.v.length))
def da:List Pr->List Ch->Option (List Pr)
 |L,[]=>some L
 |L,c::cs=>if iI c then none else da (iL L c) cs
def fH(m:List Bk)(l:List Ch):AV:=if imB m then (match da (aH (aN m)) l with|some L=>gM L|none=>lJ) else lJ
theorem yA{c:Ch}(h:iI c=false)(hd:c.d=false):shut c.k c.v=false:=by
 unfold iI at h;rw[hd] at h;simpa [shut] using h
theorem EA{L:List Pr}(h:eN L)(c:Ch):eN (tp L c):=by
 unfold tp;split
 ·unfold jI;split
  ·exact h.filter _
  ·exact h
 ·exact ui h _ _
theorem JD{L:List Pr}(h:OkP L)(c:Ch):OkP (tp L c):=by
 intro p hp;unfold tp at hp;split at hp
 ·unfold jI at hp;split at hp
  ·exact h p (Pm.1 hp).1
  ·exact h p hp
 ·rcases xr hp with ⟨rfl,e⟩|e
  ·exact e
  ·exact h p e
theorem iW:∀(cs:List Ch){L L':List Pr},eN L->OkP L->da L cs=some L'->eN L'/\OkP L'/\L'.length<=L.length+cs.length
 |[],L,L',h,o,e=>by
  rw[da] at e;cases e;exact ⟨h,o,by simp⟩
 |c::cs,L,L',h,o,e=>by
  rw[da] at e;split at e
  ·cases e
  ·rename_i hb;have hb:iI c=false:=by simpa using hb
   rw[uR h c (yA hb)] at e;obtain ⟨r1,r3,r2⟩:=iW cs (EA h c) (JD o c) e;have:=FJ L c;exact ⟨r1,r3,by simp only[List.length_cons];omega⟩
structure PtX(L:List Pr)(o:Option Nat)(h:H):Prop where
 o1:h.objs 1=some (.cells [.sl 3 [] (.exact 0)])
 row:yz L o h
 new:∀k,o=some k->1<k/\k<h.n
 n:1<h.n
 tk:h.toks=[]
theorem Lk(x:Pr)(F:Nat->Option Av.Obj)(n m:Nat):∃r h',bo Tryz.prog 72 [.sl 2 [] (.exact 0),.int .i64 0,.sl 2 [cw x] .any] ⟨F,n,[],m⟩ r h'/\(∃k,r= .tsl 2 k 0 1 none/\h'.objs k=some (.cells (encA x))/\n<=k/\k<h'.n/\(∀j,j<n->h'.objs j=F j)/\h'.toks=[]/\n<=h'.n/\m<=h'.m):=by
 refine aT.eY f72 af ?_;unfold c72 cw zz;obtain ⟨xs,hxs⟩:∃xs,xs=[AV.agg [.str x.k,.str x.v]]:=⟨_,rfl⟩;rw[<-hxs];have d1:decide (((xs.length:Nat):Int)=0)=false:=by rw[hxs];rfl
 refine rf0 (cj3 @N4.{0} @N2.{0} d1) ?_;refine Wp.pT ?_;refine aw.op1 ae xAc ?_;simp only[bq];refine aw.op1 ae xAc ?_;simp only[bq];subst hxs;refine aw.opT ae (by simp only[jt,go_sem,reduceIte,Nat.reduceEqDiff,Nat.reduceAdd,bx,List.all_cons,List.all_nil,List.length_cons,List.length_nil,Nat.reduceMul,Nat.reduceLeDiff,Nat.reduceLT,Qw,Oe,N9,Ow,O7];exact rfl) ?_;simp only[bq];refine aw.evF xAc ?_;refine dG ?_;refine Wp.ret ⟨trivial,_,rfl,n,rfl,?_,NY _,OD _,λj hj=>?_,rfl,P9 _,NY _⟩
 ·simp[upd,encA,cellsOf]
 ·show upd F n _ j=F j;simp only[upd];rw[N7 aa]
theorem Hp{L:List Pr}{i:Nat}(h:i<L.length)(v:List UInt8):(L.flatMap encA).take (i*2+1)++[AV.str v]++(L.flatMap encA).drop (i*2+1+1)=(L.take i++⟨(L.getD i default).k,v⟩::L.drop (i+1)).flatMap encA:=by
 have et:L=L.take i++(L.getD i default::L.drop (i+1)):=by rw[<-Batch.cA h,Po]
 have e:((L.take i).flatMap encA).length=i*2:=by rw[fN,OJ,Pv aa]
 conv=>lhs;rw[et]
 rw[List.flatMap_append,List.flatMap_append,Py,Py,<-e];generalize (L.take i).flatMap encA=A;generalize (L.drop (i+1)).flatMap encA=D;generalize L.getD i default=x;rw[List.take_append,OT aa,Nat.add_sub_cancel_left,PH,List.drop_append,OY aa,Nat.add_sub_cancel_left];simp[encA]
def wj:AC:=hdA (tlA (tlA (tlA c24)))
def iQ:AC:=lpA (blA (tlA wj))
def yB:AC:=blX (hdA (tlA (tlA iQ)))
def JE:AC:=tlA (tlA yB)
def wk(l:List Ch)(L:List Pr)(o:Option Nat)(j:Nat):Nat->AV:=tm [(4,.ptr 1 0),(6,gK L o),(21,.sl 3 (chs l) .any),(22,.int .i64 l.length),(23,.int .i64 j)]
theorem yC{L:List Pr}{o:Option Nat}{F:Nat->Option Av.Obj}{n m:Nat}{x:Option Av.Obj}{n':Nat}(h:yz L o ⟨F,n,[],m⟩)(hn:∀k,o=some k->k<n):yz L o ⟨upd F n x,n',[],m⟩:=by
 cases o with
 |none=>exact h
 |some k=>
  have:=hn k rfl;show upd F n x k=_;simp only[upd];rw[N7 aa];exact h
theorem Ll{l:List Ch}{j:Nat}{L:List Pr}{o:Option Nat}{F:Nat->Option Av.Obj}{n m:Nat}(I:PtX L o ⟨F,n,[],m⟩){c:Nat}{ck cv:List UInt8}{cd:Bool}(hc:F c=some (.cells [.str ck,.str cv,.bool cd]))(hc0:1<c)(hcn:c<n)(hr:eN L)(hL:L.length<=4000){Q:aM->St->Prop}
  (hQ:∀o' h' s',PtX (iL L ⟨ck,cv,cd⟩) o' h'->aL s' ⟨wk l (iL L ⟨ck,cv,cd⟩) o' j,h'⟩->Q .normal s'):
  Wp Tryz.prog 87 JE ⟨tm [(4,.ptr 1 0),(6,gK L o),(9,.ptr c 0),(21,.sl 3 (chs l) .any),(22,.int .i64 l.length),(23,.int .i64 j)],⟨F,n,[],m⟩⟩ Q:=by
 unfold JE yB iQ wj c24 zz;simp only[tlA,hdA,lpA,blA,blX];have hb:=Lj F n m L o ⟨ck,[]⟩ I.row (λk h=>(I.new k h).2) aa;unfold cw at hb;unfold iL at hQ;simp only at hQ hb;have hp:=wh L ck;have hp0:o=none->jz L ck=0:=by
  rintro rfl;have:L=[]:=I.row;rw[this];rfl
 have hple:=(Cn hr ck).1;generalize jz L ck=p at*
 obtain ⟨o1,orow,onew,on,-⟩:=I;simp only at o1 onew on;have x1:¬(c=n):=by omega
 have x2:¬(1=n):=by omega
 have nn:n<=n+1:=P9 n;have nn2:n+1<=n+1+1:=P9 _;refine rg1 hc hb ?_;cases hh:AU L ck with
 |true=>
  rw[hh] at hp hQ;simp only[N9] at hQ;have hp:=hp.symm;simp only[Ob,Oj] at hp;obtain ⟨hpl,hpk⟩:=hp;cases o with
  |none=>
   have:L=[]:=orow;subst this;simp at hpl
  |some k=>
  obtain ⟨k1,k2⟩:=onew k rfl;have fk:F k=some (.cells (L.flatMap encA)):=orow;have hr:gK L (some k)= .tsl 2 k 0 L.length none:=rfl;rw[hr];have x3:¬(k=n):=by omega
  have x4:¬(1=k):=by omega
  cases cd with
  |true=>
   simp only[N9] at hQ;have hd:=Ey L p hpl aa (id:=k) (h:=⟨upd F n (some (.cells [.str ck,.str []])),n+1,[],m⟩) (by simp only[upd];rw[N7 x3];exact fk) rfl;have e1:IntKind.i64.wrap ((p:Int)+1)=(p:Int)+1:=IntWalk.i64_in _ aa;have hout:(L.take p++L.drop (p+1)).length=L.length - 1:=by rw[N6,OJ,OC];omega
   refine rg1 (cj3 hc x1 e1) hd ?_;simp only[aM.inBlock];refine hQ (some (n+1)) _ _ ⟨?_,?_,λk' e=>?_,?_,rfl⟩ (aL.of (aS ?_) (OLe.bK _) (λx h=>h) (NY _) (NY _))
   ·show upd (λj=>if j=k then none else upd F n _ j) (n+1) _ 1=_;simp only[upd];rw[N7 aa,N7 x4,N7 x2];exact o1
   ·simp[yz,H.ct,upd]
   ·cases e;exact ⟨aa,OD _⟩
   ·show 1<n+1+1;omega
   ·unfold gK;exact bY hout
  |false=>
   simp only[Oa,N5] at hQ;have p1:(0:Int)<=(p:Int):=by omega
   have p2:(p:Int)<(L.length:Int):=by omega
   have hrl:=fN L;have p3:p*2+2<=(L.flatMap encA).length:=by omega
   have p4:p*2+1+1<=(L.flatMap encA).length:=by omega
   have hsa:=Hp hpl cv;have hout:(L.take p++⟨(L.getD p default).k,cv⟩::L.drop (p+1)).length=L.length:=by rw[N6,OJ,List.length_cons,OC];omega
   generalize L.flatMap encA=cs at*
   refine rf0 (cj8 hc x1 x3 p1 p2 p3 p4 fk) ?_;simp only[aM.inBlock];refine hQ (some k) _ _ ⟨?_,?_,λk' e=>?_,?_,rfl⟩ (aL.of (aS ?_) (OLe.bK _) (λx h=>h) (NY _) (NY _))
   ·simp only[upd];rw[N7 x4,N7 x2];exact o1
   ·simp only[yz,upd,N9];rw[hsa]
   ·cases e;exact ⟨k1,Nat.lt_succ_of_lt k2⟩
   ·show 1<n+1;omega
   ·unfold gK;exact bY hout
 |false=>
  rw[hh] at hQ;simp only[Oa,N5] at hQ;cases cd with
  |true=>
   simp only[N9] at hQ;refine rf0 (cj2 hc x1) ?_;simp only[aM.inBlock];refine hQ o _ _ ⟨?_,yC orow (λk h=>(onew k h).2),λk' e=>?_,?_,rfl⟩ (aL.of (aS ?_) (OLe.bK _) (λx h=>h) (NY _) (NY _))
   ·simp only[upd];rw[N7 x2];exact o1
   ·exact ⟨(onew k' e).1,Nat.lt_succ_of_lt (onew k' e).2⟩
   ·show 1<n+1;omega
   ·exact xSb
  |false=>
   simp only[Oa,N5] at hQ;repeat (first
    |((first|apply Wp.bg|apply Wp.eZ);(· simp only[go_sem,reduceIte,Nat.reduceEqDiff,Nat.reduceAdd,bx,ax,N9,N5,Nat.reduceMul,Nat.reduceLeDiff,hc,x1];exact rfl);refine aw.nil ?_)
    |(apply Wp.bS;(· simp only[go_sem,reduceIte,Nat.reduceEqDiff,Nat.reduceAdd,bx,ax,N9,N5,Nat.reduceMul,Nat.reduceLeDiff,hc,x1];exact rfl);(· rfl))
    |refine Wp.skip ?_
    |refine Wp.label ?_
    |refine Wp.block ?_
    |refine Wp.exit ?_
    |refine Wp.seq ?_)
   refine Wp.pT ?_;refine aw.op1 ae (by simp only[go_sem,reduceIte,Nat.reduceEqDiff,Nat.reduceAdd,bx,ax,N9,N5,Nat.reduceMul,Nat.reduceLeDiff,hc,x1];exact rfl) ?_;simp only[bq];refine aw.op1 ae (by simp only[go_sem,reduceIte,Nat.reduceEqDiff,Nat.reduceAdd,bx,ax,N9,N5,Nat.reduceMul,Nat.reduceLeDiff,hc,x1];exact rfl) ?_;simp only[bq];refine aw.op1 ae (by simp only[go_sem,reduceIte,Nat.reduceEqDiff,Nat.reduceAdd,bx,ax,N9,N5,Nat.reduceMul,Nat.reduceLeDiff,hc,x1];exact rfl) ?_;simp only[bq];refine aw.op1 ae (by simp only[go_sem,reduceIte,Nat.reduceEqDiff,Nat.reduceAdd,bx,ax,N9,N5,Nat.reduceMul,Nat.reduceLeDiff,hc,x1];exact rfl) ?_;simp only[bq];refine aw.op1 ae (by simp only[go_sem,reduceIte,Nat.reduceEqDiff,Nat.reduceAdd,bx,ax,N9,N5,Nat.reduceMul,Nat.reduceLeDiff,hc,x1];exact rfl) ?_;simp only[bq];refine aw.op1 ae (by simp only[go_sem,reduceIte,Nat.reduceEqDiff,Nat.reduceAdd,bx,ax,N9,N5,Nat.reduceMul,Nat.reduceLeDiff,hc,x1];exact rfl) ?_;simp only[bq];refine aw.op1 ae (by simp only[go_sem,reduceIte,Nat.reduceEqDiff,Nat.reduceAdd,bx,ax,N9,N5,Nat.reduceMul,Nat.reduceLeDiff,hc,x1];exact rfl) ?_;simp only[bq];cases o with
   |none=>
    have hL0:L=[]:=orow;subst hL0;obtain rfl:=hp0 rfl;obtain ⟨r,h',hi,k,rfl,q1,q2,q3,q4,q5,q6,q7⟩:=Lk ⟨ck,cv⟩ (upd F n (some (.cells [.str ck,.str []]))) (n+1) m;refine aw.op1 ae xAc ?_;simp only[bq];refine aw.jF xA2 (by simp only[go_sem,reduceIte,Nat.reduceEqDiff,Nat.reduceAdd,bx,List.map];exact ay.cons (av.refl _) (ay.cons (av.refl _) (ay.cons av.cap ay.nil))) ⟨q6,q7⟩ (hi) ?_;refine aw.evF xAc ?_;refine aw.nil ?_;simp only[aM.inBlock];refine hQ (some k) h' _ ⟨?_,?_,λk' e=>?_,?_,q5⟩ (aL.of (aS ?_) (OLe.bK _) (λx h=>h) (NY _) (NY _))
    ·rw[q4 1 aa];simp only[upd];rw[N7 x2];exact o1
    ·show h'.objs k=_;rw[q1];rfl
    ·cases e;exact ⟨aa,q3⟩
    ·omega
    ·exact bY @gK.eq_1
   |some k=>
    obtain ⟨k1,k2⟩:=onew k rfl;have fk:F k=some (.cells (L.flatMap encA)):=orow;have hr:gK L (some k)= .tsl 2 k 0 L.length none:=rfl;have x3:¬(k=n):=by omega
    have x4:¬(1=k):=by omega
    rw[hr];refine aw.opT ae (by simp only[jt,go_sem,reduceIte,Nat.reduceEqDiff,Nat.reduceAdd,bx,List.all_cons,List.all_nil,Oy,OE,List.length_cons,List.length_nil,Py,List.flatMap_nil,cellsOf,ON,Nat.reduceMul,Nat.reduceLeDiff,Oe,N9,Ow,O7];exact rfl) ?_;simp only[bq];have hi:=Ez L p ⟨ck,cv⟩ hple aa (id:=k) (id2:=n+1) aa (h:=⟨upd (upd F n (some (.cells [.str ck,.str []]))) (n+1) (some (.cells [.str ck,.str cv])),n+1+1,[],m⟩) (by
     simp only[upd];rw[N7 aa,N7 x3];exact fk) (by simp[upd,encA]) rfl
    have nn3:n+1+1<=n+1+1+1:=P9 _;refine aw.jF xA2 xAb (by exact ⟨nn3,NY _⟩) (hi) ?_;refine aw.evF xAc ?_;refine aw.nil ?_;have hout:(L.take p++⟨ck,cv⟩::L.drop p).length=L.length+1:=by rw[N6,OJ,List.length_cons,OC];omega
    simp only[aM.inBlock];refine hQ (some (n+1+1)) _ _ ⟨?_,?_,λk' e=>?_,?_,rfl⟩ (aL.of (aS ?_) (OLe.bK _) (λx h=>h) (NY _) (NY _))
    ·simp only[H.ct,upd];rw[N7 aa,N7 x4,N7 aa,N7 x2];exact o1
    ·simp[yz,H.ct,upd]
    ·cases e;exact ⟨aa,OD _⟩
    ·show 1<n+1+1+1;omega
    ·unfold gK;exact bY hout
theorem mR:∀(a b:List Ch)(L:List Pr),da L (a++b)=(da L a).bind λL'=>da L' b
 |[],b,L=>rfl
 |c::a,b,L=>by
  simp only[List.cons_append,da];split
  ·rfl
  ·exact mR a b _
theorem pH{X L:List Pr}{l:List Ch}{j:Nat}(hj:j<l.length)(h:da X (l.take j)=some L):da X (l.take (j+1))=(if iI (l.getD j default) then none else some (iL L (l.getD j default))):=by
 rw[Batch.gW hj,mR,h];simp only[Option.bind_some,da]
theorem mS{X:List Pr}{l:List Ch}{j:Nat}(h:da X (l.take j)=none):da X l=none:=by
 conv=>lhs;rw[<-Po j l]
 rw[mR,h];rfl
theorem NV(t:Tm)(h:H)(id i:Nat){sz:Nat}{rows:List (List AV)}{c:Option Nat}(hr:∀x∈rows,x.length=sz)(ho:h.objs id=some (.cells rows.flatten))(hi:t i= .tsl sz id 0 rows.length c):
  aL ⟨t,h⟩ ⟨upd (λj=>unT h (λk=>decide (k=id)) (t j)) i (.sl sz (rows.map .agg) .any),h.drop λk=>decide (k=id)⟩ where
 n:=NY _
 m:=NY _
 go:=λN G w a r _=>⟨G.frz h _,br _,⟨r.size,λj=>by
  simp only[upd];by_cases e:j=i
  ·subst e;rw[Of rfl];have:=r.t j;simp only[hi] at this;exact oP r.h hr ho af this
  ·rw[N7 e];exact na r.h _ _ _ (r.t j),lj r.h _,r.df.mono (br _)⟩⟩
theorem JF{l:List Ch}{j:Nat}(hj:j<l.length)(hll:l.length<=1000000){L:List Pr}{o:Option Nat}{F:Nat->Option Av.Obj}{n m:Nat}(I:PtX L o ⟨F,n,[],m⟩)(hr:eN L)(hL:L.length<=4000){Q:aM->St->Prop}
  (hbad:iI (l.getD j default)=true->∀s',s'.t 4= .ptr 1 0->s'.t 5= .int .i64 4->s'.h.objs 1=some (.cells [.sl 3 [] (.exact 0)])->Q .ret s')
  (hgo:iI (l.getD j default)=false->∀o' h' s',PtX (iL L (l.getD j default)) o' h'->aL s' ⟨wk l (iL L (l.getD j default)) o' (j+1),h'⟩->Q .normal s'):
  Wp Tryz.prog 87 iQ ⟨wk l L o j,⟨F,n,[],m⟩⟩ Q:=by
 have cut:iQ= .seq (hdA iQ) (.seq (hdA (tlA iQ)) (.seq (.block 1 (.seq (hdA yB) (.seq (hdA (tlA yB)) JE))) (tlA (tlA (tlA iQ))))):=rfl;rw[cut];obtain ⟨D,hD⟩:∃D,D=JE:=⟨_,rfl⟩;rw[<-hD];unfold yB iQ wj c24 wk zz;simp only[tlA,hdA,lpA,blA,blX];obtain ⟨g1,g2,g3,e1⟩:=cK hj (Oz hll al);have hat:=mw l j .any hj;have len:=bF l;have W:=λ{c:Nat} {F:Nat->Option Av.Obj} {n m:Nat} {ck cv:List UInt8} {cd:Bool} (I:PtX L o ⟨F,n,[],m⟩) (hc:F c=some (.cells [.str ck,.str cv,.bool cd])) (hc0:1<c) (hcn:c<n) (Q:aM->St->Prop) hQ=>Ll (l:=l) (j:=j) I hc hc0 hcn hr hL (Q:=Q) hQ;rw[<-hD] at W;generalize l.getD j default=c at*
 obtain ⟨ck,cv,cd⟩:=c;unfold mv at hat;obtain ⟨o1,orow,onew,on,-⟩:=I;simp only at o1 onew on;have n1:¬(1=n):=by omega
 have J:PtX L o ⟨upd F n (some (.cells [.str ck,.str cv,.bool cd])),n+1,[],m⟩:=⟨by simp only[upd];rw[N7 n1];exact o1,yC orow (λk h=>(onew k h).2),λk h=>⟨(onew k h).1,Nat.lt_succ_of_lt (onew k h).2⟩,Nat.lt_succ_of_lt on,rfl⟩;have hfin:∀(Q':aM->St->Prop),(∀s,Q' .normal s=Wp Tryz.prog 87 (.reg [⟨some 82,none,.bin .add (.t 23) (.c (.int .i64 1))⟩,⟨some 23,none,.mov (.t 82)⟩] none) s Q)->iI ⟨ck,cv,cd⟩=false->∀o' h' s',PtX (iL L ⟨ck,cv,cd⟩) o' h'->aL s' ⟨wk l (iL L ⟨ck,cv,cd⟩) o' j,h'⟩->Q' .normal s':=by
  intro Q' hQ' hb o' h' s' K hs;rw[hQ'];refine Wp.le hs ?_;unfold wk;refine dG ?_;refine hgo hb o' h' _ K (aL.of (aS ?_) (OLe.bK _) (λx h=>h) (NY _) (NY _));exact bY e1
 cases b1:decide ((128:Int)<(ck.length:Int)) with
 |true=>
  have hb:iI ⟨ck,cv,cd⟩=true:=by
   unfold iI;simp only[Oj] at b1;simp only[OS,Oj];exact .inl aa
  refine rf0 (cj9 g1 g2 g3 @len hat @NZ b1 n1 o1) ?_;refine Wp.ret ?_;simp only[aM.andThen,aM.inBlock];exact hbad hb _ rfl rfl (by simp[upd])
 |false=>
  have hend:∀(s:St)(Q':aM->St->Prop),(∀s,Q' .normal s=Wp Tryz.prog 87 (.reg [⟨some 82,none,.bin .add (.t 23) (.c (.int .i64 1))⟩,⟨some 23,none,.mov (.t 82)⟩] none) s Q)->iI ⟨ck,cv,cd⟩=false->aL s ⟨tm [(4,.ptr 1 0),(6,gK L o),(9,.ptr n 0),(21,.sl 3 (chs l) .any),(22,.int .i64 l.length),(23,.int .i64 j)],⟨upd F n (some (.cells [.str ck,.str cv,.bool cd])),n+1,[],m⟩⟩->Wp Tryz.prog 87 D s Q':=λs Q' hQ' hb hs=>
   Wp.le hs (W J (by simp[upd]) aa (OD n) _ (λo' h' s' K hs=>hfin Q' hQ' hb o' h' s' K hs))
  have hck:¬128<ck.length:=by
   have:=Ox b1;omega
  cases cd with
  |true=>
   have hb:iI ⟨ck,cv,true⟩=false:=by simp[iI,hck]
   refine rf0 (cj7 g1 g2 g3 @len hat @NZ b1) ?_;refine hend _ _ (λs=>rfl) hb (aL.of (aS ?_) (by rw[vY];exact OLe.bK _) (λx h=>h) (NY _) (NY _));exact xSb
  |false=>
   cases b2:decide ((200:Int)<(cv.length:Int)) with
   |true=>
    have hb:iI ⟨ck,cv,false⟩=true:=by
     have:=Oh b2;have:200<cv.length:=by omega
     simp[iI,this]
    refine rf0 (gv g1 g2 g3 @len hat @NZ b1 b2 n1 o1) ?_;refine Wp.ret ?_;simp only[aM.andThen,aM.inBlock];exact hbad hb _ rfl rfl (by simp[upd])
   |false=>
    have hb:iI ⟨ck,cv,false⟩=false:=by
     have:=Ox b2;have:¬200<cv.length:=by omega
     simp[iI,hck,this]
    refine rf0 (cj8 g1 g2 g3 @len hat @NZ b1 b2) ?_;refine hend _ _ (λs=>rfl) hb (aL.of (aS ?_) (by rw[vY];exact OLe.bK _) (λx h=>h) (NY _) (NY _));exact xSb
def jZ:AC:=tlA (tlA c24)
def QP(r:AV):aM->St->Prop:=λe s'=>iN e/\∃q,iA [.cell 4 (some 1),.tmp 5] s'.t s'.h=some q/\av q r
def tx(X:List Pr)(l:List Ch):AV:=match da X l with|some L=>gM L|none=>lJ
def Cq:AC:=tlA (tlA jZ)
theorem JG{L:List Pr}{o:Option Nat}{F:Nat->Option Av.Obj}{n m:Nat}(I:PtX L o ⟨F,n,[],m⟩)(hl:L.length<=4000)(hk:OkP L):
  Wp Tryz.prog 87 Cq ⟨tm [(4,.ptr 1 0),(6,gK L o)],⟨F,n,[],m⟩⟩ (QP (gM L)):=by
 have c1:=Jn L hl (λp hp=>by
  have:=hk p hp;simp only[shut,QQ,P4] at this;omega) (λp hp=>by
  have:=hk p hp;simp only[shut,QQ,P4] at this;omega)
 obtain ⟨G,hG,hle⟩:∃G,G 1=some (.cells [.sl 3 [] (.exact 0)])/\aL ⟨tm [(4,.ptr 1 0),(6,gK L o)],⟨F,n,[],m⟩⟩ ⟨tm [(4,.ptr 1 0),(6,.sl 2 (prs L) .any)],⟨G,n,[],m⟩⟩:=by
  cases o with
  |none=>
   have:L=[]:=I.row;subst this;refine ⟨F,I.o1,aL.of (aS ?_) (OLe.bK _) (λx h=>h) (NY _) (NY _)⟩;unfold gK;simp only[aR,go_sem,reduceIte,Nat.reduceEqDiff,Nat.reduceAdd,bx];and_intros<;>first|exact trivial|exact av.refl _|exact av.any _|exact av.cap|(refine av.int ?_;omega)
  |some k=>
   obtain ⟨k1,k2⟩:=I.new k rfl;have fk:F k=some (.cells (L.flatMap encA)):=I.row;have hf:(L.map encA).flatten=L.flatMap encA:=by simp[List.flatMap]
   have x4:¬(1=k):=by omega
   have e:=NV (tm [(4,.ptr 1 0),(6,gK L (some k))]) ⟨F,n,[],m⟩ k 6 (sz:=2) (rows:=L.map encA) (c:=none) (λx hx=>by
    obtain ⟨p,-,rfl⟩:=Oo.1 hx;rfl) (by rw[hf];exact fk) (by rw[O2];rfl)
   refine ⟨λj=>if decide (j=k)=true then none else F j,?_,aL.trans e (aL.of (aS ?_) (OLe.bK _) (λx h=>h) (NY _) (NY _))⟩
   ·simp only[Oj];rw[N7 x4];exact I.o1
   ·have hp:(L.map encA).map AV.agg=prs L:=by simp[prs,cw,encA]
    simp only[aR,go_sem,reduceIte,Nat.reduceEqDiff,Nat.reduceAdd,bx,unT,Oj,x4,hp];and_intros<;>first|exact trivial|exact av.refl _|exact av.any _|exact av.refl _|(refine av.int ?_;omega)
 refine Wp.le hle ?_;unfold Cq jZ c24 QP zz;simp only[tlA];cases ho:gu L with
 |false=>
  have hI:gM L=lJ:=by unfold gM;rw[N7 (by rw[ho];simp)]
  rw[hI] at c1 |-;unfold lJ at*
  refine rf1 hG c1 ?_;refine Wp.ret ⟨trivial,_,rfl,?_⟩;exact av.refl _
 |true=>
  have hI:gM L= .tup [bB (lK L),.int .i64 0]:=by unfold gM;rw[Of ho]
  rw[hI] at c1 |-;unfold bB at*
  refine rf1 hG c1 ?_;refine Wp.ret ⟨trivial,_,rfl,?_⟩;exact av.refl _
set_option maxHeartbeats 2000000 in
theorem Hq{X:List Pr}{l:List Ch}(hl:l.length<=2500)(hX:X.length<=1500)(hr:eN X)(hk:OkP X){o:Option Nat}{F:Nat->Option Av.Obj}{n m:Nat}(I:PtX X o ⟨F,n,[],m⟩):
  Wp Tryz.prog 87 jZ ⟨tm [(1,.sl 3 (chs l) .any),(4,.ptr 1 0),(6,gK X o),(7,.int .i64 0)],⟨F,n,[],m⟩⟩ (QP (tx X l)):=by
 have cut:jZ= .seq (hdA jZ) (.seq (.seq (hdA (hdA (tlA jZ))) (.block 0 (.loop iQ))) Cq):=rfl;rw[cut];obtain ⟨T,hT⟩:∃T,T=Cq:=⟨_,rfl⟩;rw[<-hT];obtain ⟨D,hD⟩:∃D,D=iQ:=⟨_,rfl⟩;rw[<-hD];unfold jZ c24 zz;simp only[tlA,hdA];have len:=bF l;refine rf0 @len ?_;refine Wp.le (s':=⟨wk l X o 0,⟨F,n,[],m⟩⟩) (aL.of (aS ?_) (OLe.bK _) (λx h=>h) (NY _) (NY _)) ?_
 ·exact xSb
 unfold wk;refine Wp.cI [4,21,22] xA7 (λb:Nat × List Pr × Option Nat × H=>[(6,gK b.2.1 b.2.2.1),(23,.int .i64 (b.1:Nat))]) (λb=>b.2.2.2)
  (λb=>b.1<=l.length/\da X (l.take b.1)=some b.2.1/\PtX b.2.1 b.2.2.1 b.2.2.2) (λb=>l.length - b.1) (0,X,o,⟨F,n,[],m⟩) ⟨Og _,rfl,I⟩ rfl ?_ ?_
 ·exact xSb
 rintro ⟨j,L,o,⟨F,n,K,m⟩⟩ ⟨hj,hp,I⟩;simp only at hj hp I;obtain rfl:K=[]:=I.tk;obtain ⟨r1,r2,r3⟩:=iW _ hr hk hp;rw[OJ,Pv hj] at r3;by_cases hc:j<l.length
 ·have hs:=pH hc hp;rw[hD];refine Wp.le (s':=⟨wk l L o j,⟨F,n,[],m⟩⟩) (aL.of (aS ?_) (OLe.bK _) (λx h=>h) (NY _) (NY _)) (JF hc aa I r1 aa ?_ ?_)
  ·exact xSb
  ·intro hb s' t4 t5 t1;rw[hb] at hs;have hn:da X l=none:=mS (j:=j+1) (by rw[hs];rfl);simp only[aM.andThen,aM.inBlock];unfold QP tx;rw[hn];refine ⟨trivial,.tup [.agg [.sl 3 [] (.exact 0)],.int .i64 4],?_,av.tup (ay.cons (av.agg (ay.cons av.cap ay.nil)) (ay.refl _))⟩;simp only[iA,rvs,rv,t4,t5,t1];rfl
  ·intro hb o' h' s' K hs';rw[hb] at hs;simp only[aM.andThen];refine ⟨(j+1,_,o',h'),⟨hc,hs,K⟩,O5 hc (OD _),aL.trans hs' (aL.of (aS ?_) (OLe.bK _) (λx h=>h) (NY _) (NY _))⟩;exact xSb
 ·have hj2:j=l.length:=by omega
  subst hj2;rw[Ot] at hp;have g1:=dZ l.length;have cutr:iQ= .seq (hdA iQ) (.seq (hdA (tlA iQ)) (tlA (tlA iQ))):=rfl;rw[hD,cutr];generalize hR:tlA (tlA iQ)=R;unfold iQ wj c24 zz;simp only[tlA,hdA,lpA,blA];refine rf0 g1 ?_;rw[hT];have W:=JG I aa r2;have ho:tx X l=gM L:=by unfold tx;rw[hp]
  rw[ho];refine Wp.le (aL.of (aS ?_) (OLe.bK _) (λx h=>h) (NY _) (NY _)) W;exact xSb
theorem Lm{f:FuncId}{args:List AV}{a:Nat}{l:List Pr}{e:Int}{h':H}(hp:pP args)(hc:bo Tryz.prog f args (H0 0 0) (.tup [.tsl 2 a 0 l.length none,.int .i64 e]) h')(ha:h'.objs a=some (.cells (l.flatMap encA)))(n m:Nat):
  bo Tryz.prog f args (H0 n m) (.tup [.tsl 2 (n+a) 0 l.length none,.int .i64 e]) (.only (upd aA (n+a) (some (.cells (l.flatMap encA)))) [] (n+h'.n) (m+h'.m)):=by
 intro G w vs hv R F;let G0:aQ:={G with dom:=λ_=>False,tdom:=λ_=>False}
 refine (hc G0 w vs (hp G G0 w vs rfl rfl hv) iz ⟨λ_ _ _ h=>h,λ_ _ _ h=>h⟩).mono ?_;rintro e w' ⟨v,G',rfl,T,R',V⟩;obtain ⟨q1,q2,q3,ws,rest,T0,fr,y1,y2,y3,y4⟩:=R'.obj a _ ha;have hlt:a<h'.n:=by
  rcases T.dom_new a q1 with h|h
  ·exact absurd h (by simp[G0])
  ·exact h.2
 have hnd:¬G.dom (n+a):=F.1 (n+a) (by simp[H0,H.only]) (by simp[H.only];omega);have hO0:∀B,¬(H0 0 0).O G0 B:=λB=>fX B;have hT0:∀B,¬(H0 0 0).T G0 B:=λB ⟨t,ht,_⟩=>by simp[H0,H.only] at ht
 have hT:∀B,¬(H0 n m).T G B:=λB ⟨t,ht,_⟩=>by simp[H0,H.only] at ht
 let G2:aQ:={G' with dom:=λi=>G.dom i\/i=n+a,ι:=λi=>if i=n+a then G'.ι a else G.ι i,tdom:=G.tdom,τ:=G.τ}
 have hι:G2.ι (n+a)=G'.ι a:=Of rfl;have hobj:∀j o,(H.only (upd aA (n+a) (some (.cells (l.flatMap encA)))) [] (n+h'.n) (m+h'.m)).objs j=some o->j=n+a/\o= .cells (l.flatMap encA):=by
  intro j o hj;simp only[H.only,upd,aA] at hj;split at hj
  ·rename_i e;cases hj;exact ⟨e,rfl⟩
  ·cases hj
 refine ⟨v,G2,rfl,?_,?_,?_⟩
 ·constructor
  ·exact λid x=> .inl x
  ·rintro id (x|rfl)
   ·exact .inl x
   ·exact .inr ⟨by simp[H0,H.only],by simp[H.only];omega⟩
  ·intro id x;have:id≠n+a:=by rintro rfl;exact hnd x
   exact N7 this
  ·exact λ_ x=>x
  ·exact λ_=> .inl
  ·exact λ_ _=>rfl
  ·simp[H0,H.only]
  ·simp[H0,H.only]
  ·exact T.size_le
  ·exact T.os
  ·exact T.output
  ·exact T.form
  ·exact λB hB _ _=>T.keep B hB (hO0 B) (hT0 B)
  ·exact λB hB _=>T.own_keep B hB (hO0 B)
  ·exact λB hB _ _=>T.lim_keep B hB (hO0 B) (hT0 B)
  ·exact λB hB x=>absurd x (hT B)
  ·rintro B hB ⟨id,o,ho,e⟩;obtain ⟨rfl,-⟩:=hobj id o ho;rw[hι] at e;exact absurd (T.O_new B hB ⟨a,_,ha,e⟩) (hO0 B)
  ·rintro B _ ⟨t,ht,_⟩;simp[H.only] at ht
  ·intro j o ho;obtain ⟨rfl,-⟩:=hobj j o ho;exact .inr ⟨by simp[H0,H.only],by simp[H.only];omega⟩
  ·intro t ht;simp[H.only] at ht
 ·constructor
  ·intro j o ho;obtain ⟨rfl,rfl⟩:=hobj j o ho;rw[hι];exact ⟨.inr rfl,q2,q3,ws,rest,T0,fr,y1,by rw[oX _ _ _ _ y2];exact mz _ _ _,y3,y4⟩
  ·intro i j o o' hi hj _;rw[(hobj i o hi).1,(hobj j o' hj).1]
  ·intro t ht;simp[H.only] at ht
  ·intro t ht;simp[H.only] at ht
 ·simp only[aB,aC] at V |-;obtain ⟨us,e1,v1,us1,e2,⟨-,e3⟩,v2,us2,e4,e5,e6⟩:=V;exact ⟨us,e1,v1,us1,e2,⟨.inr rfl,by rw[hι];exact e3⟩,v2,us2,e4,e5,e6⟩
theorem Hr(a:List Bk)(hf:Few a)(hF:imB a=true->(aN a).length<=100000)(ha:imB a=true)(F:Nat->Option Av.Obj)(n m:Nat):
  ∃o h',bo Tryz.prog 13 [bB a] ⟨F,n,[],m⟩ (.tup [gK (aH (aN a)) o,.int .i64 0]) h'/\yz (aH (aN a)) o h'/\h'.toks=[]/\(∀j,j<n->h'.objs j=F j)/\(∀k,o=some k->n<=k/\k<h'.n)/\n<=h'.n/\m<=h'.m:=by
 have hE:imE a=0:=by unfold imE;rw[Of ha]
 obtain ⟨r,h1,hc,hQ⟩:=Cc a hf hF (Q:=λr h'=>(aH (aN a)=[]/\r= .tup [.sl 2 [] (.exact 0),.int .i64 0])\/∃k,r= .tup [.tsl 2 k 0 (aH (aN a)).length none,.int .i64 0]/\h'.objs k=some (.cells ((aH (aN a)).flatMap encA))/\k<h'.n)
  (λh e=>by rw[Of ha] at e;rw[hE];exact .inl ⟨e,rfl⟩) (λ_ k h e1 e2 e3=> .inr ⟨k,rfl,e1,e3⟩)
 have hv:pP [bB a]:=cB _ (by simp[aF,bW]);have hsub:(H0 n m).sub ⟨F,n,[],m⟩:=⟨λj p h=>by simp[H0,H.only,aA] at h,λt h=>by simp[H0,H.only] at h⟩;have hno:∀j,j<n->∀n2,¬(((H0 n m).objs j).isSome=true\/(H0 n m).n<=j/\j<n2):=by
  rintro j hj n2 (h|⟨h,-⟩)
  ·simp[H0,H.only,aA] at h
  ·exact absurd hj (Nat.not_lt.2 h)
 generalize aH (aN a)=X at*
 rcases hQ with ⟨rfl,rfl⟩|⟨k,rfl,e1,e2⟩
 ·have hpc:=hc.wQ hv (av.refl _) (dL _ rfl);exact ⟨none,_,bo.frame hsub rfl rfl (NY _) (NY _) (hpc n m),rfl,rfl,λj hj=>N7 (hno j hj _),(by intro k h;cases h),NY _,NY _⟩
 ·have hs:=Lm hv hc e1 n m;exact ⟨some (n+k),_,bo.frame hsub rfl rfl (Nat.le_add_right _ _) (Nat.le_add_right _ _) hs,(Of (.inr ⟨Nat.le_add_right n k,show n+k<n+h1.n by omega⟩)).trans (by simp[H.only,upd]),rfl,λj hj=>N7 (hno j hj _),λk' (h:some (n+k)=some k')=>by
   cases h;exact ⟨Nat.le_add_right _ _,show n+k<n+h1.n by omega⟩,Nat.le_add_right _ _,Nat.le_add_right _ _⟩
set_option maxHeartbeats 2000000 in
theorem JH(a:List Bk)(l:List Ch)(hf:Few a)(hF:imB a=true->(aN a).length<=1500)(hl:l.length<=2500):aI Tryz.prog 24 [bB a,.sl 3 (chs l) .any] (fH a l):=by
 have hpu:aO (fH a l)=true:=by
  have hi:∀L,aO (gM L)=true:=λL=>by
   unfold gM;split
   ·simp[aO,aF,aU,bB,Av.bC (λb=>gd b),bks]
   ·rfl
  unfold fH;split
  ·split
   ·exact hi _
   ·rfl
  ·rfl
 refine f24.aE af (by simp[aF,aO,aU,bW,gC]) hpu ?_;have cut:c24= .seq (hdA c24) (.seq (hdA (tlA c24)) jZ):=rfl;rw[cut];obtain ⟨T,hT⟩:∃T,T=jZ:=⟨_,rfl⟩;cases ha:imB a with
 |false=>
  have pa:=kN a hf λh=>by rw[ha] at h;cases h
  unfold imE at pa;rw[ha] at pa;have hx:fH a l=lJ:=by unfold fH;rw[ha];rfl
  rw[hx];simp only[Oa,N5] at pa;unfold jZ c24 zz;simp only[hdA,tlA];unfold bB at*
  generalize bks a=ba at*
  refine nA pa ?_;refine Wp.ret ⟨trivial,_,rfl,?_⟩;exact av.tup (ay.cons (av.agg (ay.cons av.cap ay.nil)) (ay.refl _))
 |true=>
  have hx:fH a l=tx (aH (aN a)) l:=by unfold fH;rw[ha];rfl
  rw[hx,<-hT];obtain ⟨x1,x2,x3⟩:=dM (aN a);have hF:=hF ha;obtain ⟨o,h',hc,q1,q2,q3,q4,q5,q6⟩:=Hr a hf (λ_=>by omega) ha (upd (upd aA 0 (some (.cells [.sl 3 (bks a) .any]))) 1 (some (.cells [.sl 3 [] (.exact 0)]))) 2 0;have W:=λI=>Hq (l:=l) hl aa x1 x2 (o:=o) (F:=h'.objs) (n:=h'.n) (m:=h'.m) I;rw[<-hT] at W;unfold c24 zz;simp only[hdA,tlA];obtain ⟨F',n',K',m'⟩:=h';simp only at q1 q2 q3 q4 q5 q6 W;subst q2;unfold bB at*
  generalize bks a=ba at*
  refine NH hc ?_;refine Wp.le (aL.of (aS ?_) (OLe.bK _) (λx h=>h) (NY _) (NY _)) (W ⟨(q3 1 aa).trans (by simp[upd]),q1,λk h=>⟨by have:=(q4 k h).1;omega,(q4 k h).2⟩,by show 1<n';omega,rfl⟩);exact xSb
theorem tg{L:List Pr}(h:OkP L):∀p∈L,p.k.length<=128/\p.v.length<=200:=λp hp=>by
 have:=h p hp;simp only[shut,QQ,P4] at this;omega
set_option maxHeartbeats 4000000 in
theorem Hs(a:List Bk)(l:List Ch)(hf:Few a)(hF:imB a=true->(aN a).length<=1500)(hl:l.length<=400)(hls:∀c∈l,c.k.length<=140737488355328/\c.v.length<=140737488355328):aI Tryz.prog 28 [bB a,.sl 3 (chs l) .any] (fH a l):=by
 have hpu:aO (fH a l)=true:=by
  have hi:∀L,aO (gM L)=true:=λL=>by
   unfold gM;split
   ·simp[aO,aF,aU,bB,Av.bC (λb=>gd b),bks]
   ·rfl
  unfold fH;split
  ·split
   ·exact hi _
   ·rfl
  ·rfl
 refine f28.aE af (by simp[aF,aO,aU,bW,gC]) hpu ?_;unfold c28 zz;have pa:=nt a hf λh=>by have:=hF h;omega
 unfold imE at pa;cases ha:imB a with
 |false=>
  rw[ha] at pa;have hx:fH a l=lJ:=by unfold fH;rw[ha];rfl
  rw[hx];simp only[Oa,N5] at pa;unfold bB at*
  generalize bks a=ba at*
  refine nA pa ?_;refine Wp.ret ⟨trivial,_,rfl,?_⟩;exact av.tup (ay.cons (av.agg (ay.cons av.cap ay.nil)) (ay.refl _))
 |true=>
  rw[ha] at pa;simp only[N9] at pa;have hx:fH a l=tx (aH (aN a)) l:=by unfold fH;rw[ha];rfl
  rw[hx];obtain ⟨x1,x2,x3⟩:=dM (aN a);have hF:=hF ha;have lX:(aH (aN a)).length<=1500:=by omega
  unfold bB at*
  generalize bks a=ba at*
  generalize aH (aN a)=X at*
  have len:=bF l;refine nA pa ?_;generalize hF0:upd (upd aA 0 (some (Av.Obj.cells [AV.sl 3 ba .any]))) 1 (some (Av.Obj.cells [AV.sl 3 [] (.exact 0)]))=F at*
  have h1:F 1=some (.cells [.sl 3 [] (.exact 0)]):=by rw[<-hF0];simp[upd]
  refine Wp.le (s':=⟨tm [(1,.sl 3 (chs l) .any),(4,.ptr 1 0),(6,.sl 2 (prs X) .any),(8,.int .i64 (0:Nat))],⟨F,2,[],0⟩⟩) (aL.of (aS ?_) (OLe.bK _) (λx h=>h) (NY _) (NY _)) ?_
  ·exact xSb
  refine Wp.cI [1,4] xA7 (λb:Nat × List Pr=>[(6,.sl 2 (prs b.2) .any),(8,.int .i64 (b.1:Nat))]) (λb=>⟨F,2,[],0⟩)
   (λb=>b.1<=l.length/\da X (l.take b.1)=some b.2) (λb=>l.length - b.1) (0,X) ⟨Og _,rfl⟩ rfl ?_ ?_
  ·exact xSb
  rintro ⟨j,L⟩ ⟨hj,hp⟩;simp only at hj hp;obtain ⟨r1,r2,r3⟩:=iW _ x1 x2 hp;rw[OJ,Pv hj] at r3;by_cases hc:j<l.length
  ·obtain ⟨g1,g2,g3,e1⟩:=cK hc aa;have hat:=mw l j .any hc;have hs:=pH hc hp;have hcl:=hls (l.getD j default) (by rw[oW hc];exact O0 hc);generalize l.getD j default=c at*
   have hdo:iI c=false->iL L c=tp L c:=λhb=>uR r1 c (yA hb);obtain ⟨ck,cv,cd⟩:=c;unfold mv at hat;unfold tp at hdo;simp only at hdo hcl;have c1:=Ie L aa ck;have c2:=FI L aa (λp hp=>by have:=(tg r2 p hp).1;unfold Ls;omega) ck cv (by unfold Ls;omega);cases b1:decide ((128:Int)<(ck.length:Int)) with
   |true=>
    have hb:iI ⟨ck,cv,cd⟩=true:=by
     have:=Oh b1;have:128<ck.length:=by omega
     simp[iI,this]
    rw[hb] at hs;have hn:da X l=none:=mS (j:=j+1) (by rw[hs];rfl);refine rf0 (cj8 g1 g2 g3 @len hat @NZ b1 h1) ?_;refine Wp.ret ?_;simp only[aM.andThen,aM.inBlock];unfold tx;rw[hn];exact ⟨trivial,_,rfl,av.tup (ay.cons (av.agg (ay.cons av.cap ay.nil)) (ay.refl _))⟩
   |false=>
    have hck:¬128<ck.length:=by
     have:=Ox b1;omega
    cases cd with
    |true=>
     have hb:iI ⟨ck,cv,true⟩=false:=by simp[iI,hck]
     rw[hb] at hs;have hdo:=hdo hb;simp only[Oa,N5,N9] at hs hdo;rw[hdo] at hs;refine rf1 (cj7 g1 g2 g3 @len hat @NZ b1) c1 ?_;simp only[aM.andThen];refine ⟨(j+1,jI L ck),⟨hc,hs⟩,O5 hc (OD _),?_⟩;refine aL.tm ?_;exact bY e1
    |false=>
     cases b2:decide (200<cv.length) with
     |true=>
      have hb:iI ⟨ck,cv,false⟩=true:=by simp[iI,Oh b2]
      rw[hb] at hs;have hn:da X l=none:=mS (j:=j+1) (by rw[hs];rfl);have hE:qG ck cv=2:=by simp[qG,shut,Oh b2]
      have z2:decide (((2:Nat):Int)=0)=false:=rfl;rw[hE] at c2;refine rf0 (cj7 g1 g2 g3 @len hat @NZ b1) ?_;refine rn1 (cj8 g2 g3 @len hat @NZ z2 h1 @OK) c2 ?_;refine Wp.ret ?_;simp only[aM.andThen,aM.inBlock];unfold tx;rw[hn];exact ⟨trivial,_,rfl,av.tup (ay.cons (av.agg (ay.cons av.cap ay.nil)) (ay.refl _))⟩
     |false=>
      have hcv:=Ox b2;have hb:iI ⟨ck,cv,false⟩=false:=by simp[iI,hck,hcv]
      rw[hb] at hs;have hdo:=hdo hb;simp only[Oa,N5] at hs hdo;rw[hdo] at hs;have hE:qG ck cv=0:=by simp[qG,shut,hck,hcv]
      have z2:decide (((0:Nat):Int)=0)=true:=rfl;rw[hE] at c2;refine rf0 (cj7 g1 g2 g3 @len hat @NZ b1) ?_;refine rn1 (cj7 g2 g3 @len hat @NZ z2 @OB) c2 ?_;simp only[aM.andThen];refine ⟨(j+1,jk L ck cv),⟨hc,hs⟩,O5 hc (OD _),?_⟩;refine aL.tm ?_;exact bY e1
  ·have hj2:j=l.length:=by omega
   subst hj2;rw[Ot] at hp;have g1:=dZ l.length;have c3:=AS L aa (λp hp=>by have:=(tg r2 p hp).1;omega) (λp hp=>by have:=(tg r2 p hp).2;omega);rw[<-Hh] at c3;have ho:tx X l=gM L:=by unfold tx;rw[hp]
   rw[ho];cases hk:gu L with
   |false=>
    have hI:gM L=lJ:=by unfold gM;rw[N7 (by rw[hk];simp)]
    rw[hI] at c3 |-;unfold lJ at*
    refine rf1 (cj3 g1 @len h1) c3 ?_;refine Wp.ret ⟨trivial,_,rfl,?_⟩;exact av.refl _
   |true=>
    have hI:gM L= .tup [bB (lK L),.int .i64 0]:=by unfold gM;rw[Of hk]
    rw[hI] at c3 |-;unfold bB at*
    refine rf1 (cj3 g1 @len h1) c3 ?_;refine Wp.ret ⟨trivial,_,rfl,?_⟩;exact av.refl _
theorem nw{m:List Bk}(h:ql m=true):Few m/\(imB m=true->(aN m).length<=1020):=by
 have hf:=Oh h;refine ⟨λb hb=>?_,λhi=>?_⟩
 ·have:b.l.length<=fw m:=vZ (Oo.2 ⟨b,hb,rfl⟩);omega
 ·have:=lL hi;unfold fw at hf;omega
theorem EB(a b:List Bk)(ha:ql a=true)(hb:ql b=true):aI Tryz.prog 23 [bB a,bB b] (.tup [.sl 3 (chs (if imB a&&imB b then Batch.differ (aH (aN a)) (aH (aN b)) else [])) .any,.int .i64 (if imB a&&imB b then 0 else 4)]):=by
 refine f23.aE af (by simp[aF,aO,aU,bW]) (by simp[aO,aF,aU,gC]) ?_;unfold c23 zz;obtain ⟨a1,a2⟩:=nw ha;obtain ⟨b1,b2⟩:=nw hb;have pa:=kN a a1 λh=>by have:=a2 h;omega
 have pb:=kN b b1 λh=>by have:=b2 h;omega
 have nil:av (.tup [.sl 3 [] (.exact 0),.int .i64 4]) (.tup [.sl 3 (chs []) .any,.int .i64 4]):=av.tup (ay.cons av.cap (ay.refl _));unfold imE at pa pb;cases ha:imB a with
 |false=>
  rw[ha] at pa;simp only[Oa,N5,O6] at pa |-;unfold bB at*
  generalize bks a=ba at*
  generalize bks b=bb at*
  refine rn1 PF pa ?_;refine aG ?_;exact nil
 |true=>
  cases hb:imB b with
  |false=>
   rw[ha] at pa;rw[hb] at pb;simp only[Oa,N5,N9,PS] at pa pb |-;unfold bB at*
   generalize bks a=ba at*
   generalize bks b=bb at*
   generalize prs (aH (aN a))=xa at*
   refine rn2 PF pa pb ?_;refine aG ?_;exact nil
  |true=>
   obtain ⟨x1,x2,x3⟩:=dM (aN a);obtain ⟨y1,y2,y3⟩:=dM (aN b);have dd:=xp (aH (aN a)) (aH (aN b)) (by have:=a2 ha;omega) (by have:=b2 hb;omega);have ho:cq (aH (aN a)) (aH (aN b))=Batch.differ (aH (aN a)) (aH (aN b)):=by
    unfold cq;rw[lA x1,lA y1];rfl
   rw[ho] at dd;rw[ha] at pa;rw[hb] at pb;simp only[N9,O7] at pa pb |-;unfold bB at*
   generalize bks a=ba at*
   generalize bks b=bb at*
   generalize prs (aH (aN a))=xa at*
   generalize prs (aH (aN b))=xb at*
   generalize chs (Batch.differ (aH (aN a)) (aH (aN b)))=xd at*
   refine rn3 PF pa pb dd ?_;refine aG ?_;exact av.refl _
theorem AW(a b:List Bk)(ha:ql a=true)(hb:ql b=true):aI Tryz.prog 27 [bB a,bB b] (.tup [.sl 3 (chs (if imB a&&imB b then Batch.differ (aH (aN a)) (aH (aN b)) else [])) .any,.int .i64 (if imB a&&imB b then 0 else 4)]):=by
 refine f27.aE af (by simp[aF,aO,aU,bW]) (by simp[aO,aF,aU,gC]) ?_;unfold c27 zz;obtain ⟨a1,a2⟩:=nw ha;obtain ⟨b1,b2⟩:=nw hb;have pa:=nt a a1 λh=>by have:=a2 h;omega
 have pb:=nt b b1 λh=>by have:=b2 h;omega
 have nil:av (.tup [.sl 3 [] (.exact 0),.int .i64 4]) (.tup [.sl 3 (chs []) .any,.int .i64 4]):=av.tup (ay.cons av.cap (ay.refl _));unfold imE at pa pb;cases ha:imB a with
 |false=>
  rw[ha] at pa;simp only[Oa,N5,O6] at pa |-;unfold bB at*
  generalize bks a=ba at*
  generalize bks b=bb at*
  refine rn1 PF pa ?_;refine aG ?_;exact nil
 |true=>
  cases hb:imB b with
  |false=>
   rw[ha] at pa;rw[hb] at pb;simp only[Oa,N5,N9,PS] at pa pb |-;unfold bB at*
   generalize bks a=ba at*
   generalize bks b=bb at*
   generalize prs (aH (aN a))=xa at*
   refine rn2 PF pa pb ?_;refine aG ?_;exact nil
  |true=>
   obtain ⟨x1,x2,x3⟩:=dM (aN a);obtain ⟨y1,y2,y3⟩:=dM (aN b);have dd:=DD (aH (aN a)) (aH (aN b)) (by have:=a2 ha;omega) (by have:=b2 hb;omega) (λp hp=>by have:=(tg x2 p hp).1;unfold Ls;omega) (λp hp=>by have:=(tg y2 p hp).1;unfold Ls;omega);have ho:cq (aH (aN a)) (aH (aN b))=Batch.differ (aH (aN a)) (aH (aN b)):=by
    unfold cq;rw[lA x1,lA y1];rfl
   rw[ho] at dd;rw[ha] at pa;rw[hb] at pb;simp only[N9,O7] at pa pb |-;unfold bB at*
   generalize bks a=ba at*
   generalize bks b=bb at*
   generalize prs (aH (aN a))=xa at*
   generalize prs (aH (aN b))=xb at*
   generalize chs (Batch.differ (aH (aN a)) (aH (aN b)))=xd at*
   refine rn3 PF pa pb dd ?_;refine aG ?_;exact av.refl _
theorem Ln(l:List (List Ch))(hl:l.length<=1000000)(hs:∀x∈l,x.length<=100000):aI Tryz.prog 29 [.sl 1 (rws l) .any,.sl 1 (rws l) .any] (.bool true):=by
 refine f29.aE af (by simp[aF,aO,aU,o9]) rfl ?_;unfold c29 zz;have len:=gf l;have d0:decide ((l.length:Int)=(l.length:Int))=true:=N3 rfl;refine rn0 (cj3 @len d0 @OB) ?_;refine Wp.dB [0,1] xA6 (λj:Nat=>[(5,.int .i64 j)]) (λj=>j<=l.length) (λj=>l.length - j) 0 (Og _) ?_ ?_
 ·exact xSb
 ·intro j hj;by_cases hc:j<l.length
  ·obtain ⟨g1,g2,g3,e1⟩:=cK hc aa;have hat:=sL l j .any hc;have c1:=nK (l.getD j default) (by
    have:=hs (l.getD j default) (by rw[oW hc];exact O0 hc);omega)
   generalize l.getD j default=r at*
   refine rn1 (cj8 g1 g2 g3 e1 @len hat @NZ @OB) c1 ?_;refine ⟨j+1,aa,aa,?_⟩;exact xSu
  ·have hj2:j=l.length:=by omega
   subst hj2;have g1:=dZ l.length;refine rn0 (cj2 g1 @len) ?_;refine aG ?_;exact av.refl _
theorem yD(m:List Bk)(hi:imB m=true)(hf:(aN m).length<=100000)(hc:m.length+fw m<=60):(dP m).length<=60/\∀x∈dP m,x.length<=100000:=by
 have key:∀j,j<=m.length->(dP (m.take j)).length<=j+fw (m.take j)/\∀x∈dP (m.take j),x.length<=100000:=by
  intro j;induction j with
  |zero=>intro _;exact ⟨Og _,(by intro x h;cases h)⟩
  |succ j ih=>
   intro hj;obtain ⟨i1,i2⟩:=ih aa;have hs:=pE m j hj;have hle:=mD m (j+1);rw[jm m j hj,N6] at hle;rw[ox m j hj];have hlt:(bD (m.getD j default)).length=(m.getD j default).l.length+1:=by simp[bD]
   have hFB:fF (m.getD j default)=(bD (m.getD j default)).flatten.map cY:=rfl;rw[hFB] at hle;have hrl:=λi hi=>Ci (R:=bD (m.getD j default)) (B:=100000) aa i hi;unfold yv;generalize bD (m.getD j default)=R at*
   generalize dP (m.take j)=P at*
   have k2:∀i,i<=R.length->((R.take i).foldl ec P).length<=P.length+i/\∀x∈(R.take i).foldl ec P,x.length<=100000:=by
    intro i;induction i with
    |zero=>intro _;exact ⟨NY _,i2⟩
    |succ i ih=>
     intro hi;obtain ⟨a1,a2⟩:=ih aa;rw[oy R P i hi];have:=uQ ((R.take i).foldl ec P) (R.getD i []);exact ⟨aa,yw a2 (hrl i hi)⟩
   obtain ⟨b1,b2⟩:=k2 R.length (NY _);rw[Ot] at b1 b2;exact ⟨aa,b2⟩
 have:=key m.length (NY _);rw[Ot] at this;exact ⟨aa,this.2⟩
theorem yE(a:List Bk)(l:List Ch)(ha:imB a=true->(aN a).length<=1500)(hl:l.length<=400):
  ∃(x:List AV)(e:Int),fH a l= .tup [.agg [.sl 3 x .any],.int .i64 e]/\aI Tryz.prog 22 [.agg [.sl 3 x .any],.agg [.sl 3 x .any]] (.bool true):=by
 have h0:∃(x:List AV)(e:Int),lJ= .tup [.agg [.sl 3 x .any],.int .i64 e]/\aI Tryz.prog 22 [.agg [.sl 3 x .any],.agg [.sl 3 x .any]] (.bool true):=⟨[],4,rfl,yk [] af af⟩;unfold fH;cases hi:imB a with
 |false=>exact h0
 |true=>
  obtain ⟨x1,x2,x3⟩:=dM (aN a);have:=ha hi;simp only[N9];cases hp:da (aH (aN a)) l with
  |none=>exact h0
  |some L=>
   obtain ⟨r1,r2,r3⟩:=iW _ x1 x2 hp;simp only;unfold gM;cases ho:gu L with
   |false=>exact h0
   |true=>
    obtain ⟨h1,h2,h3⟩:=G9 ho;refine ⟨bks (lK L),0,rfl,yk (lK L) aa λb hb=>?_⟩;have:b.l.length<=fw (lK L):=vZ (Oo.2 ⟨b,hb,rfl⟩);omega
set_option maxHeartbeats 4000000 in
theorem AX(a b:List Bk)(l:List Ch)(hla:a.length<=35184372088832)(hva:∀x∈a,x.l.length<=35184372088832)(hlb:b.length<=35184372088832)(hvb:∀x∈b,x.l.length<=35184372088832)(hls:∀c∈l,c.k.length<=140737488355328/\c.v.length<=140737488355328):
  aI Tryz.prog 7 [bB a,bB b,.sl 3 (chs l) .any] (.bool true):=by
 refine f7.aE af (by simp[aF,aO,aU,bW,gC]) rfl ?_;unfold c7 zz;have len:=bF l;have fa:=Ce a hla hva;have fb:=Ce b hlb hvb;cases ha:ql a with
 |false=>
  rw[ha] at fa;unfold bB at*
  generalize bks a=ba at*
  generalize bks b=bb at*
  refine rn2 PF fa nu ?_;refine aG ?_;exact av.refl _
 |true=>
 rw[ha] at fa;cases hb:ql b with
 |false=>
  rw[hb] at fb;unfold bB at*
  generalize bks a=ba at*
  generalize bks b=bb at*
  refine rn3 PF fa fb nu ?_;refine aG ?_;exact av.refl _
 |true=>
 rw[hb] at fb;by_cases hl:l.length<=60
 case neg=>
  have d1:decide ((60:Int)<(l.length:Int))=true:=N3 aa;unfold bB at*
  generalize bks a=ba at*
  generalize bks b=bb at*
  refine rn3 (cj2 d1 @len) fa fb nu ?_;refine aG ?_;exact av.refl _
 have d1:decide ((60:Int)<(l.length:Int))=false:=N1 aa;obtain ⟨a1,a2⟩:=nw ha;obtain ⟨b1,b2⟩:=nw hb;have c1:=Li a ha;have c2:=Jx a ha;have c3:=EB a b ha hb;have c4:=AW a b ha hb;have c5:=JH a l a1 (λh=>by have:=a2 h;omega) aa;have c6:=Hs a l a1 (λh=>by have:=a2 h;omega) aa hls;obtain ⟨x,e,hx,sx⟩:=yE a l (λh=>by have:=a2 h;omega) aa;rw[hx] at c5 c6;have hcnt:=Oh ha;obtain ⟨R,hR,hR2,hR3⟩:∃R,(if imB a=true then dP a else [])=R/\R.length<=60/\∀x∈R,x.length<=100000:=by
  refine ⟨_,rfl,?_⟩;split
  ·rename_i hi;exact yD a hi (by have:=a2 hi;omega) hcnt
  ·exact ⟨Og _,(by intro x h;cases h)⟩
 have er:v8 (if imB a=true then dP a else [])=rws R:=by rw[hR]
 rw[er] at c1;rw[hR] at c2;have c7:=Ln R aa hR3;obtain ⟨D,hD,hD2⟩:∃D,(if imB a&&imB b then Batch.differ (aH (aN a)) (aH (aN b)) else [])=D/\D.length<=3000:=by
  refine ⟨_,rfl,?_⟩;split
  ·rename_i hi;simp only[Ob] at hi;have h1:=a2 hi.1;have h2:=b2 hi.2;obtain ⟨-,-,x3⟩:=dM (aN a);obtain ⟨-,-,y3⟩:=dM (aN b);have:=zY (aH (aN a)) (aH (aN b));omega
  ·exact Og _
 rw[hD] at c3 c4;have c8:=nK D aa;have r1:l.length*40<=140737488355328:=by omega
 have r2:l.length<4611686018427387904:=by omega
 generalize imE a=ea at*
 generalize (if imB a&&imB b then (0:Int) else 4)=ed at*
 unfold bB at*
 generalize bks a=ba at*
 generalize bks b=bb at*
 generalize rws R=rr at*
 generalize chs D=dd at*
 refine rn8 (cj2 d1 @len) fa fb c1 c2 c3 c4 c4 c4 ?_;refine Wp.eF (xAd (cj8 @len d1 @Oe r1 r2 @List.nil_append.{0} @N4.{0} @Ow)) ?_;refine az.bO xA2 (by simp only[go_sem,reduceIte,Nat.reduceEqDiff,Nat.reduceAdd,bx,List.map];exact ay.cons (av.refl _) (ay.cons av.cap ay.nil)) (c5) ?_;refine az.evR xA1 ?_;refine az.nil ⟨by simp[bw,aV,apart,aZ],?_⟩;refine rn1 @len c6 ?_;refine rn4 @Ow c7 c8 sx nu ?_;refine aG ?_;exact av.refl _
def Lo(c:Ch):Prop:=c.k.length<=reachBytes/\c.v.length<=reachBytes
theorem yF{k:Nat}{cs:List AV}(h:Fits Tryz.prog (k+2) 80 cs):∃p:Ch,eM Tryz.prog 80 cs=mv p/\Lo p:=by
 have hw:∀cs,eM Tryz.prog 80 cs= .agg cs:=λcs=>by
  unfold eM;rw[Of (by kernel_rfl)]
 rw[hw];unfold Fits at h;rw[Tryz.underlying80] at h;obtain ⟨xss,rfl,h⟩:=h;cases h with|cons h0 h=>cases h with|cons h1 h=>cases h with|cons h2 h=>
 cases h;unfold Fits at h0 h1 h2;simp only at h0 h1 h2;rw[Tryz.underlying9] at h0 h1;rw[Tryz.underlying4] at h2;obtain ⟨n,rfl,hn⟩:=h0;obtain ⟨v,rfl,hv⟩:=h1;obtain ⟨d,rfl⟩:=h2;exact ⟨⟨n,v,d⟩,rfl,hn,hv⟩
theorem wm{a:AV}(h:oS Tryz.prog 9 52 a):∃l:List Ch,a= .sl 3 (chs l) .any/\∀c∈l,Lo c:=by
 obtain ⟨cs,h,rfl⟩:=h;unfold Fits at h;rw[Tryz.underlying52] at h;obtain ⟨xs,rfl,hlx,hx⟩:=h;obtain ⟨l,rfl,hl⟩:=we (λcs h=>yF h) hx;have c1:Tryz.prog.cellsOf 80=3:=by kernel_rfl
 refine ⟨l,?_,hl⟩;rw[c1];unfold eM;rw[N7 (by rw[show bL Tryz.prog 52=false by kernel_rfl];simp)];rfl
theorem qo{b:Nat}(avs:List AV)(h:xf (oS Tryz.prog 9) Tryz.f7.params.toList avs)(_:cP avs<=b):aI Tryz.prog 7 avs (.bool true):=by
 rw[Tryz.params7] at h;cases h with|cons h0 h=>cases h with|cons h1 h=>cases h with|cons h2 h=>
 cases h;obtain ⟨m,rfl,hl,hb⟩:=Ck h0;obtain ⟨m2,rfl,hl2,hb2⟩:=Ck h1;obtain ⟨l,rfl,hc⟩:=wm h2;have er:reachBytes=140737488351232:=rfl;exact AX m m2 l hl (λb hx=>(hb b hx).l) hl2 (λb hx=>(hb2 b hx).l) λc hx=>by have:=hc c hx;unfold Lo at this;omega
end Go.Proofs.YtjnoobmaedgooaaGreat.Arch
end
section
namespace Go.Proofs.YtjnoobmaedgooaaGreat.Arch
open Go Go.Av Go.Proofs Go.Proofs.YtjnoobmaedgooaaGreat.C
open Go.ChangeShapes Go.WideShapes Go.ChangeAt Go.RowKit
set_option maxRecDepth 100000 in
theorem nD(os:Os)(started:os.Started)(H:Type)(enc:TypeId × Value->H):
  ReturnsInHanded {} Tryz.checked os 7 .any (Rows.archivePlansSpec.pre6 enc Tryz.prog Tryz.f7 Rows.archivePlansRow.domain false) (Rows.archivePlansSpec.post enc Tryz.prog Tryz.f7 false true false false):=by
 refine returnsInHanded_of_change_sized (C:=Tryz.checked) own started (by kernel_rfl) Tryz.func7
  (ChangeSpec.witness6 (enc:=enc) (C:=Tryz.checked) false ⟨#[],#[.agg #[.slice none 0 0],.agg #[.slice none 0 0],.slice none 0 0],[]⟩ 8 (by kernel_rfl) (by kernel_rfl) (by kernel_rfl) (by kernel_rfl)) ?_
 intro W base args ds gs before hval hW _ hwt _;exact DB laid NU Ny full rfl (λl hl=>by match l,hl with|[_,_,_],_=>rfl) rfl Tryz.underlying4 (by kernel_rfl) (by kernel_rfl) hval hW hwt (λavs h hb=>qo avs h hb)
theorem qp:(Rows.archivePlansRow.inPlace == Tryz.pinned.checked.prog.inPlace 7)=true:=by kernel_rfl
theorem qq:(Rows.archivePlansRow.unfollowed == Tryz.pinned.checked.prog.unfollowed 7)=true:=by kernel_rfl
theorem qt:(Rows.archivePlansRow.recurses == Tryz.pinned.checked.prog.recurses 7)=true:=by kernel_rfl
theorem qu:(Rows.archivePlansRow.named == Tryz.pinned.checked.prog.varsNamed 7)=true:=by kernel_rfl
theorem nE:joinedFacts Tryz.pinned.checked.prog 7 Tryz.f7 Rows.archivePlansSpec Rows.archivePlansRow=true:=by
 unfold joinedFacts;rw[qp,qq,qt,qu];kernel_rfl
theorem oA:Tryz.pinned.checked.prog.funcNamed Rows.archivePlansRow.func=some 7:=by kernel_rfl
theorem said_ArchivePlans:Rows.ArchivePlansSaid:=
 OpenClaim.holds_of_wide 7 Tryz.f7 rfl rfl rfl rfl rfl rfl rfl ⟨rfl,rfl,rfl,rfl,rfl⟩ rfl rfl rfl rfl rfl oA Tryz.func7 nE
  (Oh (by kernel_rfl)) (by unfold Func.isWrapper;first|(rw [Of (by decide+kernel)];kernel_rfl)|(rw [N7 (by decide+kernel)];exact ⟨rfl,rfl⟩))
  (λos started H enc _=>nD os started H enc)
#print axioms said_ArchivePlans
end Go.Proofs.YtjnoobmaedgooaaGreat.Arch
end
