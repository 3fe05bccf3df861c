/- Parts of a proof: a layer of abstract values over the model, the functions' walks, plain laws. -/
import Derived.Test.YtjnoobmaedgooaaGreatZReC
set_option linter.unusedSimpArgs false
set_option linter.unusedVariables false
section
set_option maxRecDepth 10000
namespace Go.Proofs.YtjnoobmaedgooaaGreat.Desk
open Go Go.Av Go.Proofs Go.Proofs.YtjnoobmaedgooaaGreat.C
def seen(c:UInt8):Bool:=decide (33<=c.toNat)&&decide (c.toNat<=126)
def cf(s:List UInt8):Int:=if s≠[]/\s.length<=32/\s.all seen=true then 0 else 15
theorem xo(p:UInt8->Bool)(s:List UInt8)(j:Nat)(h:j<s.length):(s.take (j+1)).all p=((s.take j).all p&&p (s.getD j default)):=by
 rw[List.take_add_one,List.all_append];simp[List.getD,N5 h]
theorem zE(p:UInt8->Bool)(s:List UInt8)(j:Nat)(h:j<s.length)(hp:p (s.getD j default)=false):s.all p=false:=by
 cases e:s.all p with
 |false=>rfl
 |true=>
  have:=OK.1 e (s.getD j default) (by simp[List.getD,N5 h]);rw[hp] at this;exact this.symm
theorem xp(s:List UInt8):aI Tryz.prog 100 [.str s] (.int .i64 (cf s)):=by
 by_cases h0:s=[]
 ·subst h0;refine f100.aF ah rfl rfl ?_;unfold HY zz;refine rn0 @OE ?_;refine aG ?_;exact ay.refl _
 have d0:=N6 h0;cases d1:decide (32<(s.length:Int)) with
 |true=>
  have:cf s=15:=Ob λh=>by have:=Ox d1;omega
  rw[this];refine f100.aF ah rfl rfl ?_;unfold HY zz;refine rn0 (cj2 d0 d1) ?_;refine aG ?_;exact ay.refl _
 |false=>
 have hil:(aD s).length=s.length:=by simp[aD]
 have hl:=ON d1;refine f100.aF ah rfl rfl ?_;unfold HY zz;refine rn0 (cj3 d0 d1 hil) ?_;refine Wp.dJ [13,14] xA6 (λj:Nat=>[(15,.int .i64 (j:Nat))]) (λj=>j<=s.length/\(s.take j).all seen=true) (λj=>s.length - j) 0 ⟨Ot _,rfl⟩ ?_ ?_
 ·exact xSb
 rintro j ⟨hj,hall⟩;by_cases hcj:j<s.length
 ·obtain ⟨g1,h2,h3,e1⟩:=ixF (j:=j) (n:=s.length) ae ae;have hat:(aD s).getD j .any=byte (s.getD j default):=EY byte s j .any hcj;have tk:=xo seen s j hcj;have fa:=zE seen s j hcj;generalize hx:s.getD j default=x at hat tk fa;have hby:byte x= .int .u8 (x.toNat:Nat):=rfl;rw[hby] at hat;cases b1:decide ((x.toNat:Int)<33) with
  |true=>
   have hv:cf s=15:=Ob λh=>by
    have:seen x=false:=by unfold seen;rw[N6 (by have:=Ox b1;omega)];rfl
    rw[fa this] at h;exact absurd h.2.2 aq
   refine rn0 (cj7 g1 h2 h3 e1 hat b1 hil) ?_;refine aG ?_;rw[hv];exact ay.refl _
  |false=>
  cases b2:decide (126<(x.toNat:Int)) with
  |true=>
   have hv:cf s=15:=Ob λh=>by
    have:seen x=false:=by unfold seen;rw[N6 (p:=x.toNat<=126) (by have:=Ox b2;omega)];simp
    rw[fa this] at h;exact absurd h.2.2 aq
   refine rn0 (cj8 g1 h2 h3 e1 hat b1 b2 hil) ?_;refine aG ?_;rw[hv];exact ay.refl _
  |false=>
   have hs:seen x=true:=by
    have:=ON b1;have:=ON b2;unfold seen;rw[N9 ae,N9 ae];rfl
   refine rn0 (cj8 g1 h2 h3 e1 hat b1 b2 hil) ?_;refine ⟨j+1,⟨ae,by rw[tk,hall,hs];rfl⟩,ae,?_⟩;exact xSu
 ·have hj2:j=s.length:=by omega
  subst hj2;have g1:=ixE (s.length);have ha:s.all seen=true:=by rw[OG] at hall;exact hall
  have hv:cf s=0:=Oi ⟨h0,ae,ha⟩;rw[hv];refine rn0 (cj2 g1 hil) ?_;refine aG ?_;exact ay.refl _
def nM(s:List UInt8)(i:Nat):Bool:=
 let c:=(s.getD i default).toNat
 if c=45 then decide (0<i)&&decide (i+1<s.length) else (decide (48<=c)&&decide (c<=57))||(decide (97<=c)&&decide (c<=122))
def bW(s:List UInt8):Int:=if 3<=s.length/\s.length<=12/\(List.range s.length).all (nM s)=true then 0 else 15
theorem zF(p:Nat->Bool)(j:Nat):(List.range (j+1)).all p=((List.range j).all p&&p j):=by
 rw[List.range_succ,List.all_append];simp
theorem lf(s:List UInt8)(j:Nat)(h:j<s.length)(hp:nM s j=false):bW s=15:=Ob λh'=>by
 have:=OK.1 h'.2.2 j (O6.2 h);rw[hp] at this;cases this
theorem xq(s:List UInt8):aI Tryz.prog 50 [.str s] (.int .i64 (bW s)):=by
 cases d1:decide ((s.length:Int)<3) with
 |true=>
  have:bW s=15:=Ob λh=>by have:=Ox d1;omega
  rw[this];refine f50.aF ah rfl rfl ?_;unfold c50 zz;refine rn0 d1 ?_;refine aG ?_;exact ay.refl _
 |false=>
 cases d2:decide (12<(s.length:Int)) with
 |true=>
  have:bW s=15:=Ob λh=>by have:=Ox d2;omega
  rw[this];refine f50.aF ah rfl rfl ?_;unfold c50 zz;refine rn0 (cj2 d1 d2) ?_;refine aG ?_;exact ay.refl _
 |false=>
 have l1:=ON d1;have l2:=ON d2;refine f50.aF ah rfl rfl ?_;unfold c50 zz;refine rn0 (cj2 d1 d2) ?_;refine Wp.dJ [0,14] xA6 (λj:Nat=>[(15,.int .i64 (j:Nat))]) (λj=>j<=s.length/\(List.range j).all (nM s)=true) (λj=>s.length - j) 0 ⟨Ot _,rfl⟩ ?_ ?_
 ·exact xSb
 rintro j ⟨hj,hall⟩;by_cases hcj:j<s.length
 ·obtain ⟨g1,h2,h3,e1⟩:=ixF (j:=j) (n:=s.length) ae ae;have hb:=zF (nM s) j;rw[hall,OM] at hb;have bad:=lf s j hcj;have hB:nM s j=if (s.getD j default).toNat=45 then decide (0<j)&&decide (j+1<s.length) else (decide (48<=(s.getD j default).toNat)&&decide ((s.getD j default).toNat<=57))||(decide (97<=(s.getD j default).toNat)&&decide ((s.getD j default).toNat<=122)):=rfl
  generalize hx:s.getD j default=x at hB;have hat:byte (s.getD j 0)= .int .u8 ((x.toNat:Nat):Int):=by rw[<-hx];rfl
  have w1:IntKind.i64.wrap ((s.length:Int) - 1)=(s.length:Int) - 1:=by rw[IntWalk.i64_in] <;>omega
  cases b1:decide ((x.toNat:Int)=45) with
  |true=>
   rw[Oi (by have:=Ox b1;omega)] at hB;cases b2:decide ((0:Int)<(j:Int)) with
   |false=>
    have:=ON b2;rw[N6 (p:=0<j) ae,Pv] at hB;refine rn0 (cj8 g1 h2 h3 e1 hat b1 b2 w1) ?_;refine aG ?_;rw[bad hB];exact ay.refl _
   |true=>
   cases b3:decide ((j:Int)<(s.length:Int) - 1) with
   |false=>
    have:=ON b3;rw[N6 (p:=j+1<s.length) ae,Qd] at hB;refine rn0 (cj9 g1 h2 h3 e1 hat b1 b2 b3 w1) ?_;refine aG ?_;rw[bad hB];exact ay.refl _
   |true=>
    have:=Ox b3;have:=Ox b2;rw[N9 (p:=j+1<s.length) ae,N9 (p:=0<j) ae] at hB;refine rn0 (cj9 g1 h2 h3 e1 hat b1 b2 b3 w1) ?_;refine ⟨j+1,⟨ae,by rw[hb,hB];rfl⟩,ae,?_⟩;exact xSu
  |false=>
  rw[Ob (by have:=ON b1;omega)] at hB;cases b2:decide ((x.toNat:Int)<48) with
  |true=>
   have:=Ox b2;rw[N6 (p:=48<=x.toNat) ae,N6 (p:=97<=x.toNat) ae] at hB;refine rn0 (cj8 g1 h2 h3 e1 hat b1 b2 w1) ?_;refine aG ?_;rw[bad hB];exact ay.refl _
  |false=>
  have k2:=ON b2;cases b5:decide ((122:Int)<(x.toNat:Int)) with
  |true=>
   have:=Ox b5;have b3:decide ((57:Int)<(x.toNat:Int))=true:=N9 ae;have b4:decide ((x.toNat:Int)<97)=false:=N6 ae;rw[N6 (p:=x.toNat<=57) ae,N6 (p:=x.toNat<=122) ae,Qd,Qd] at hB;refine rn0 (fD g1 h2 h3 e1 hat b1 b2 b3 b4 b5 w1) ?_;refine aG ?_;rw[bad hB];exact ay.refl _
  |false=>
  have k5:=ON b5;cases b3:decide ((57:Int)<(x.toNat:Int)) with
  |false=>
   have:=ON b3;rw[N9 (p:=x.toNat<=57) ae,N9 (p:=48<=x.toNat) ae,P6,PT] at hB;refine rn0 (iw g1 h2 h3 e1 hat b1 b2 b3 b5 w1) ?_;refine ⟨j+1,⟨ae,by rw[hb,hB]⟩,ae,?_⟩;exact xSu
  |true=>
  have k3:=Ox b3;cases b4:decide ((x.toNat:Int)<97) with
  |true=>
   have:=Ox b4;rw[N6 (p:=x.toNat<=57) ae,N6 (p:=97<=x.toNat) ae,Qd,Pv] at hB;refine rn0 (fD g1 h2 h3 e1 hat b1 b2 b3 b4 b5 w1) ?_;refine aG ?_;rw[bad hB];exact ay.refl _
  |false=>
   have:=ON b4;rw[N9 (p:=x.toNat<=122) ae,N9 (p:=97<=x.toNat) ae,P6,Qg] at hB;refine rn0 (fD g1 h2 h3 e1 hat b1 b2 b3 b4 b5 w1) ?_;refine ⟨j+1,⟨ae,by rw[hb,hB]⟩,ae,?_⟩;exact xSu
 ·have hj2:j=s.length:=by omega
  subst hj2;have g1:=ixE (s.length);have hv:bW s=0:=Oi ⟨ae,ae,hall⟩;rw[hv];refine rn0 g1 ?_;refine aG ?_;exact ay.refl _
end Go.Proofs.YtjnoobmaedgooaaGreat.Desk
end
section
set_option maxRecDepth 10000
namespace Go.Proofs.YtjnoobmaedgooaaGreat.Batch
open Go Go.Av Go.Proofs Go.Proofs.YtjnoobmaedgooaaGreat.C
theorem zH(b:List UInt8):Op.bytesLess [] b=decide (0<b.length):=by cases b<;>simp[Op.bytesLess]
theorem nN(a:List UInt8):Op.bytesLess a []=false:=by cases a<;>simp[Op.bytesLess]
theorem Ib{a b:List UInt8}{j:Nat}(ha:j<a.length)(hb:j<b.length):Op.bytesLess (a.drop j) (b.drop j)=(decide (a.getD j 0<b.getD j 0)||(a.getD j 0 == b.getD j 0&&Op.bytesLess (a.drop (j+1)) (b.drop (j+1)))):=by
 rw[P7 ha,P7 hb];simp[Op.bytesLess,List.getD,N5 ha,N5 hb]
theorem xr{a b:List UInt8}{j:Nat}(ha:j<=a.length)(hb:j<=b.length)(h:¬(j<a.length/\j<b.length)):Op.bytesLess (a.drop j) (b.drop j)=decide ((a.length:Int)<(b.length:Int)):=by
 by_cases h1:j<a.length
 ·have:b.drop j=[]:=Pg ae;rw[this,nN];symm;simp;omega
 ·have:a.drop j=[]:=Pg ae;rw[this,zH];simp;omega
def Ls(l:List UInt8):Prop:=l.length<=9223372036854775806
theorem qP(a b:List UInt8)(la:Ls a)(lb:Ls b):aI Tryz.prog 53 [.str a,.str b] (.bool (Op.bytesLess a b)):=by
 refine f53.u9 ah (cP _ rfl) (dV _ rfl) λk m=>?_;unfold Ls at la lb;unfold c53 zz;refine Wp.bU xA1 al ?_;refine Wp.seq ?_;refine Wp.bU xA1 al ?_;refine Wp.block ?_;refine Wp.dJ [0,1] xA6 (λj:Nat=>[(5,.int .i64 j)]) (λj=>j<=a.length/\j<=b.length/\Op.bytesLess (a.drop j) (b.drop j)=Op.bytesLess a b) (λj=>a.length - j) 0 ⟨Ot _,Ot _,rfl⟩ ?_ ?_
 ·exact xSb
 ·intro j hj;obtain ⟨h1,h2,h3⟩:=hj;refine Wp.seq ?_;by_cases hc:j<a.length/\j<b.length
  ·have ha:decide ((j:Int)<(a.length:Int))=true:=by simp;omega
   have hb:decide ((j:Int)<(b.length:Int))=true:=by simp;omega
   have h4:(0:Int)<=(j:Int):=by omega
   have h5:(j:Int)<(a.length:Int):=by omega
   have h6:(j:Int)<(b.length:Int):=by omega
   refine Wp.bU (xAe (cj2 ha hb)) al ?_;refine Wp.cond_true (by simp only[go_sem,reduceIte,Nat.reduceEqDiff,Oq]) ?_;refine Wp.skip ?_;refine Wp.seq ?_;refine Wp.block ?_;refine Wp.bU (xAd (cj6 h4 h5 h6 @Ol @N7 @byte.eq_1)) al ?_;have hs:=Ib hc.1 hc.2;refine Wp.kS (b:= !decide (((a.getD j 0).toNat:Int)=((b.getD j 0).toNat:Int))) xA2 (λhd=>?_) (λhd=>?_)
   ·refine Wp.bU (xAd (cj6 h4 h5 h6 @Ol @N7 @byte.eq_1)) al ?_;refine aG ?_;refine ay.of_eq ?_;congr 1;rw[<-h3,hs];have hne:¬(a.getD j 0=b.getD j 0):=λhe=>by rw[he] at hd;simp at hd
    have:(a.getD j 0 == b.getD j 0)=false:=by simpa using hne
    rw[this,Pv,Qe];congr 1;rw[Qx];simp
   ·refine Wp.skip ?_;refine Wp.oy (by simp only[go_sem,reduceIte,Nat.reduceEqDiff,Nat.reduceAdd,bx];simp (disch:=omega) only[IntWalk.i64_in];exact rfl) al ?_;have he:a.getD j 0=b.getD j 0:=by
     apply QZ.1;have:((a.getD j 0).toNat:Int)=((b.getD j 0).toNat:Int):=by simpa using hd
     omega
    refine ⟨j+1,⟨ae,ae,?_⟩,ae,?_⟩
    ·rw[<-h3,hs,he];simp[UInt8.lt_irrefl]
    ·exact xSu
  ·have hx:(decide ((j:Int)<(a.length:Int))&&decide ((j:Int)<(b.length:Int)))=false:=by
    by_cases h:j<a.length
    ·have:¬j<b.length:=λh'=>hc ⟨h,h'⟩;simp;omega
    ·simp;omega
   by_cases ha:j<a.length
   ·have h7:decide ((j:Int)<(a.length:Int))=true:=by simp;omega
    have h8:decide ((j:Int)<(b.length:Int))=false:=by rw[h7,OM] at hx;exact hx
    refine Wp.bU (xAe (cj2 h7 h8)) al ?_;refine Wp.cond_false (by simp only[go_sem,reduceIte,Nat.reduceEqDiff,Oq]) ?_;refine Wp.exit ?_;refine Wp.bU xA1 al ?_;refine aG ?_;rw[<-h3,xr h1 h2 hc];exact ay.refl _
   ·have h7:decide ((j:Int)<(a.length:Int))=false:=by simp;omega
    refine Wp.bU (xAe h7) al ?_;refine Wp.cond_false (by simp only[go_sem,reduceIte,Nat.reduceEqDiff,Oq]) ?_;refine Wp.exit ?_;refine Wp.bU xA1 al ?_;refine aG ?_;rw[<-h3,xr h1 h2 hc];exact ay.refl _
theorem cq:∀a,Op.bytesLess a a=false
 |[]=>rfl
 |x::a=>by simp[Op.bytesLess,cq a,UInt8.lt_irrefl]
theorem eI:∀{a b c},Op.bytesLess a b=true->Op.bytesLess b c=true->Op.bytesLess a c=true
 |a,b,[],_,h=>by rw[nN] at h;cases h
 |a,[],c::cs,h,_=>by rw[nN] at h;cases h
 |[],b::bs,c::cs,_,_=>rfl
 |a::x,b::y,c::z,h1,h2=>by
  simp only[Op.bytesLess,OZ,Ov,Oh,Qi] at h1 h2 |-;rcases h1 with h1|⟨rfl,h1⟩
  ·rcases h2 with h2|⟨rfl,h2⟩
   ·exact .inl (UInt8.lt_trans h1 h2)
   ·exact .inl h1
  ·rcases h2 with h2|⟨rfl,h2⟩
   ·exact .inl h2
   ·exact .inr ⟨rfl,eI h1 h2⟩
theorem fg:∀a b,Op.bytesLess a b=true\/a=b\/Op.bytesLess b a=true
 |[],[]=> .inr (.inl rfl)
 |[],_::_=> .inl rfl
 |_::_,[]=> .inr (.inr rfl)
 |x::a,y::b=>by
  simp only[Op.bytesLess,OZ,Ov,Oh,Qi,Pf];rcases Nat.lt_trichotomy x.toNat y.toNat with h|h|h
  ·exact .inl (.inl (Qx.2 h))
  ·have:=QZ.1 h;subst this;rcases fg a b with h|h|h
   ·exact .inl (.inr ⟨rfl,h⟩)
   ·exact .inr (.inl ⟨rfl,h⟩)
   ·exact .inr (.inr (.inr ⟨rfl,h⟩))
  ·exact .inr (.inr (.inl (Qx.2 h)))
theorem zJ{a b}(h:Op.bytesLess a b=true):Op.bytesLess b a=false:=by
 cases h':Op.bytesLess b a
 ·rfl
 ·have:=eI h h';rw[cq] at this;cases this
def be:Nat->Nat->List UInt8
 |0,_=>[]
 |b+1,v=>UInt8.ofNat (v/256^b)::be b v
theorem aS:∀b v,(be b v).length=b
 |0,_=>rfl
 |b+1,v=>by simp[be,aS b v]
theorem oJ(v i:Nat)(hi:i<=7):AV.int .u8 (IntKind.u8.wrap ((v:Int).fdiv (2^(min ((8*i:Nat):Int).toNat 64))))=byte (UInt8.ofNat (v/256^i)):=by
 have h1:min ((8*i:Nat):Int).toNat 64=8*i:=by rw[Int.toNat_natCast];omega
 have h2:(2:Int)^(8*i)=((256^i:Nat):Int):=by
  rw[Int.pow_mul];norm_cast
 rw[h1,h2,byte,Int.fdiv_eq_ediv_of_nonneg _ (PM _),<-Int.natCast_ediv,IntKind.wrap_u8];congr 1
theorem lg(l m:List UInt8):aD (l++m)=aD l++aD m:=by simp[aD]
theorem vB{f:FuncId}(hF:aV Tryz.prog f 24 c84 [.tmp 6])(K:IntKind)(v:Nat)(hv:v<18446744073709551616)(b:Nat)(hb:b<=8)(xs:List UInt8)(hx:xs.length<=1099511627776):
  kW Tryz.prog f (λt=>[.sl 1 (aD xs) (.own t),.int K v,.int .i64 b]) (λt=> .sl 1 (aD (xs++be b v)) (.own t)):=by
 intro t n m;suffices h:∃r h',bB Tryz.prog f [.sl 1 (aD xs) (.own t),.int K v,.int .i64 b] (.only aB [t] n m) r h'/\∃t' m',m<=m'/\r= .sl 1 (aD (xs++be b v)) (.own t')/\h'= .only aB [t'] n m' by
  obtain ⟨r,h',ha,t',m',hm,rfl,rfl⟩:=h;exact ⟨t',m',hm,ha⟩
 refine hF.fe ah ?_;unfold c84 zz;refine Wp.bU xA1 al ?_;refine Wp.seq ?_;refine Wp.bU (by simp only[go_sem,reduceIte,Nat.reduceEqDiff,Nat.reduceAdd,bx];simp (disch:=omega) only[IntWalk.i64_in];exact rfl) al ?_;refine Wp.block ?_;refine Wp.cO [1] xA7 (λj:Nat × List UInt8 × Nat × Nat=>[(0,.sl 1 (aD (xs++j.2.1)) (.own j.2.2.1)),(7,.int .i64 ((j.1:Int) - 1))]) (λj=> .only aB [j.2.2.1] n j.2.2.2)
  (λj=>j.1<=b/\m<=j.2.2.2/\j.2.1++be j.1 v=be b v) (λj=>j.1) (b,[],t,m) ⟨N4 _,N4 _,rfl⟩ rfl ?_ ?_
 ·exact cM @OR.{0}
 ·intro j hj;obtain ⟨r,dn,tk,m'⟩:=j;obtain ⟨h1,h2,h3⟩:=hj;simp only at h1 h2 h3;have hdl:dn.length+r=b:=by have:=Pj List.length h3;simp only[Og,aS] at this;exact this
  refine Wp.seq ?_;refine Wp.bU xA1 al ?_;refine Wp.kS (b:=decide ((0:Int)<=(r:Int) - 1)) xA2 (λhc=>?_) (λhc=>?_)
  ·have hc':(0:Int)<=(r:Int) - 1:=by simpa using hc
   obtain ⟨i,rfl⟩:∃i,r=i+1:=⟨r - 1,ae⟩;have e1:((i+1:Nat):Int) - 1=(i:Int):=by omega
   have e2:IntKind.i64.wrap (8*(i:Int))=((8*i:Nat):Int):=by rw[IntWalk.i64_in _ ae];omega
   have e3:IntKind.u64.wrap (v:Int)=(v:Int):=IntWalk.u64_in _ ae;have e4:¬((8*i:Nat):Int)<0:=by omega
   have e5:=oJ v i ae;have e6:(aD (xs++dn)).length+1<=140737488355328:=by rw[bm,Og];omega
   have e7:(aD (xs++dn)).length+1<4611686018427387904:=by omega
   rw[bm] at e6 e7;refine Wp.skip ?_;refine Wp.seq ?_;refine Wp.block ?_;rw[e1];refine Wp.oy (by simp only[go_sem,reduceIte,Nat.reduceEqDiff,Nat.reduceAdd,bx,e2,e3,e4,e5,O4,Po,IntKind.bits,e6,e7,PC,Ol,Of,ne_eq,byte,OE,Nat.reduceMul,Nat.reduceLeDiff];exact rfl) al ?_;refine Wp.oy (by simp only[go_sem,reduceIte,Nat.reduceEqDiff,Nat.reduceAdd,bx];simp (disch:=omega) only[IntWalk.i64_in];exact rfl) al ?_;refine ⟨(i,dn++[UInt8.ofNat (v/256^i)],m',m'+1),⟨by simp only;omega,by simp only;omega,by rw[<-h3];simp[be]⟩,by simp,?_⟩;refine aM.tm (by simp only[aQ,go_sem,reduceIte,Nat.reduceEqDiff,Nat.reduceAdd,bx];and_intros<;>first|exact trivial|exact ay.refl _|exact ay.any _|exact ay.of_eq (by simp[aD,byte])|(refine ay.int ?_;omega))
  ·skip
   refine Wp.exit ?_;refine Wp.bU xA1 al ?_;have hr:r=0:=by
    have:¬(0:Int)<=(r:Int) - 1:=by simpa using hc
    omega
   subst hr;have h4:dn=be b v:=by simpa [be] using h3
   subst h4;refine Wp.ret ⟨trivial,_,rfl,tk,m',h2,?_,rfl⟩;simp only[go_sem,reduceIte,Nat.reduceEqDiff]
theorem Dy{f:FuncId}(hF:aV Tryz.prog f 23 c86 [.tmp 6])(v:Nat)(hv:v<18446744073709551616)(b:Nat)(hb:b<=8)(xs:List UInt8)(hx:xs.length<=1099511627776):
  kW Tryz.prog f (λt=>[.sl 1 (aD xs) (.own t),.int .u64 v,.int .i64 b]) (λt=> .sl 1 (aD (xs++be b v)) (.own t)):=by
 intro t n m;suffices h:∃r h',bB Tryz.prog f [.sl 1 (aD xs) (.own t),.int .u64 v,.int .i64 b] (.only aB [t] n m) r h'/\∃t' m',m<=m'/\r= .sl 1 (aD (xs++be b v)) (.own t')/\h'= .only aB [t'] n m' by
  obtain ⟨r,h',ha,t',m',hm,rfl,rfl⟩:=h;exact ⟨t',m',hm,ha⟩
 refine hF.fe ah ?_;unfold c86 zz;refine Wp.bU xA1 al ?_;refine Wp.seq ?_;refine Wp.bU (by simp only[go_sem,reduceIte,Nat.reduceEqDiff,Nat.reduceAdd,bx];simp (disch:=omega) only[IntWalk.i64_in];exact rfl) al ?_;refine Wp.block ?_;refine Wp.cO [1] xA7 (λj:Nat × List UInt8 × Nat × Nat=>[(0,.sl 1 (aD (xs++j.2.1)) (.own j.2.2.1)),(7,.int .i64 ((j.1:Int) - 1))]) (λj=> .only aB [j.2.2.1] n j.2.2.2)
  (λj=>j.1<=b/\m<=j.2.2.2/\j.2.1++be j.1 v=be b v) (λj=>j.1) (b,[],t,m) ⟨N4 _,N4 _,rfl⟩ rfl ?_ ?_
 ·exact cM @OR.{0}
 ·intro j hj;obtain ⟨r,dn,tk,m'⟩:=j;obtain ⟨h1,h2,h3⟩:=hj;simp only at h1 h2 h3;have hdl:dn.length+r=b:=by have:=Pj List.length h3;simp only[Og,aS] at this;exact this
  refine Wp.seq ?_;refine Wp.bU xA1 al ?_;refine Wp.kS (b:=decide ((0:Int)<=(r:Int) - 1)) xA2 (λhc=>?_) (λhc=>?_)
  ·have hc':(0:Int)<=(r:Int) - 1:=by simpa using hc
   obtain ⟨i,rfl⟩:∃i,r=i+1:=⟨r - 1,ae⟩;have e1:((i+1:Nat):Int) - 1=(i:Int):=by omega
   have e2:IntKind.i64.wrap (8*(i:Int))=((8*i:Nat):Int):=by rw[IntWalk.i64_in _ ae];omega
   have e3:IntKind.u64.wrap (v:Int)=(v:Int):=IntWalk.u64_in _ ae;have e4:¬((8*i:Nat):Int)<0:=by omega
   have e5:=oJ v i ae;have e6:(aD (xs++dn)).length+1<=140737488355328:=by rw[bm,Og];omega
   have e7:(aD (xs++dn)).length+1<4611686018427387904:=by omega
   rw[bm] at e6 e7;refine Wp.skip ?_;refine Wp.seq ?_;refine Wp.block ?_;rw[e1];refine Wp.oy (by simp only[go_sem,reduceIte,Nat.reduceEqDiff,Nat.reduceAdd,bx,e2,e3,e4,e5,O4,Po,IntKind.bits,e6,e7,PC,Ol,Of,ne_eq,byte,OE,Nat.reduceMul,Nat.reduceLeDiff];exact rfl) al ?_;refine Wp.oy (by simp only[go_sem,reduceIte,Nat.reduceEqDiff,Nat.reduceAdd,bx];simp (disch:=omega) only[IntWalk.i64_in];exact rfl) al ?_;refine ⟨(i,dn++[UInt8.ofNat (v/256^i)],m',m'+1),⟨by simp only;omega,by simp only;omega,by rw[<-h3];simp[be]⟩,by simp,?_⟩;refine aM.tm (by simp only[aQ,go_sem,reduceIte,Nat.reduceEqDiff,Nat.reduceAdd,bx];and_intros<;>first|exact trivial|exact ay.refl _|exact ay.any _|exact ay.of_eq (by simp[aD,byte])|(refine ay.int ?_;omega))
  ·skip
   refine Wp.exit ?_;refine Wp.bU xA1 al ?_;have hr:r=0:=by
    have:¬(0:Int)<=(r:Int) - 1:=by simpa using hc
    omega
   subst hr;have h4:dn=be b v:=by simpa [be] using h3
   subst h4;refine Wp.ret ⟨trivial,_,rfl,tk,m',h2,?_,rfl⟩;simp only[go_sem,reduceIte,Nat.reduceEqDiff]
theorem zK(v:Nat)(hv:v<256)(xs:List UInt8)(hx:xs.length<=1099511627776):kW Tryz.prog 38 (λt=>[.sl 1 (aD xs) (.own t),.int .i64 v]) (λt=> .sl 1 (aD (xs++be 1 v)) (.own t)):=by
 intro t n m;suffices h:∃r h',bB Tryz.prog 38 [.sl 1 (aD xs) (.own t),.int .i64 v] (.only aB [t] n m) r h'/\∃t' m',m<=m'/\r= .sl 1 (aD (xs++be 1 v)) (.own t')/\h'= .only aB [t'] n m' by
  obtain ⟨r,h',ha,t',m',hm,rfl,rfl⟩:=h;exact ⟨t',m',hm,ha⟩
 refine f38.fe ah ?_;unfold c38 zz;have e1:IntKind.u8.wrap (v:Int)=(v:Int):=IntWalk.u8_in _ ae;refine Wp.bU xA1 al ?_;refine Wp.seqItems (xAe e1) ?_;refine az.dC t af xA4 af (vB f84 .u8 v ae 1 ae xs hx) λt' m' hm=>?_;refine az.eval xA1 ?_;refine az.nil ⟨by trivial,?_⟩;refine Wp.ret ⟨trivial,_,rfl,t',m',hm,?_,rfl⟩;simp only[go_sem,reduceIte,Nat.reduceEqDiff]
theorem Ic(v:Nat)(hv:v<9223372036854775808)(xs:List UInt8)(hx:xs.length<=1099511627776):kW Tryz.prog 41 (λt=>[.sl 1 (aD xs) (.own t),.int .i64 v]) (λt=> .sl 1 (aD (xs++be 8 v)) (.own t)):=by
 intro t n m;suffices h:∃r h',bB Tryz.prog 41 [.sl 1 (aD xs) (.own t),.int .i64 v] (.only aB [t] n m) r h'/\∃t' m',m<=m'/\r= .sl 1 (aD (xs++be 8 v)) (.own t')/\h'= .only aB [t'] n m' by
  obtain ⟨r,h',ha,t',m',hm,rfl,rfl⟩:=h;exact ⟨t',m',hm,ha⟩
 refine f41.fe ah ?_;unfold c41 zz;have e1:IntKind.u64.wrap (v:Int)=(v:Int):=IntWalk.u64_in _ ae;refine Wp.bU xA1 al ?_;refine Wp.seqItems (xAe e1) ?_;refine az.dC t af xA4 af (Dy f86 v ae 8 ae xs hx) λt' m' hm=>?_;refine az.eval xA1 ?_;refine az.nil ⟨by trivial,?_⟩;refine Wp.ret ⟨trivial,_,rfl,t',m',hm,?_,rfl⟩;simp only[go_sem,reduceIte,Nat.reduceEqDiff]
def mi:Option Nat->List Nat
 |none=>[]
 |some t=>[t]
def jv(k:Nat):Option Nat->Cap
 |none=> .exact k
 |some t=> .own t
theorem dW(v:Nat)(hv:v<9223372036854775808)(b:Nat)(hb:b<=8):aI Tryz.prog 87 [.int .i64 v,.int .i64 b] (.str (be b v)):=by
 refine f87.u9 ah (cP _ rfl) (dV _ rfl) λn m=>?_;unfold c87 zz;have e3:IntKind.u64.wrap (v:Int)=(v:Int):=IntWalk.u64_in _ ae;refine Wp.bU xA1 al ?_;refine Wp.bU (xAe e3) al ?_;refine Wp.bU xA1 al ?_;refine Wp.seq ?_;refine Wp.bU (by simp only[go_sem,reduceIte,Nat.reduceEqDiff,Nat.reduceAdd,bx];simp (disch:=omega) only[IntWalk.i64_in];exact rfl) al ?_;refine Wp.block ?_;refine Wp.cO [5] xA7 (λj:Nat × List UInt8 × Option Nat × Nat=>[(6,.sl 1 (aD j.2.1) (jv j.2.1.length j.2.2.1)),(7,.int .i64 ((j.1:Int) - 1))]) (λj=> .only aB (mi j.2.2.1) n j.2.2.2)
  (λj=>j.1<=b/\j.2.1++be j.1 v=be b v) (λj=>j.1) (b,[],none,m) ⟨N4 _,rfl⟩ rfl ?_ ?_
 ·exact cM (cj4 @jv.eq_1 @aD.eq_1 @OQ.{0,0} @Oa.{0})
 ·intro j hj;obtain ⟨r,dn,o,m'⟩:=j;obtain ⟨h1,h3⟩:=hj;simp only at h1 h3;have hdl:dn.length+r=b:=by have:=Pj List.length h3;simp only[Og,aS] at this;exact this
  refine Wp.seq ?_;refine Wp.bU xA1 al ?_;refine Wp.kS (b:=decide ((0:Int)<=(r:Int) - 1)) xA2 (λhc=>?_) (λhc=>?_)
  ·have hc':(0:Int)<=(r:Int) - 1:=by simpa using hc
   obtain ⟨i,rfl⟩:∃i,r=i+1:=⟨r - 1,ae⟩;have e1:((i+1:Nat):Int) - 1=(i:Int):=by omega
   have e0:IntKind.u64.wrap (i:Int)=(i:Int):=IntWalk.u64_in _ ae;have e2:IntKind.u64.wrap (8*(i:Int))=((8*i:Nat):Int):=by rw[IntWalk.u64_in _ ae];omega
   have e4:¬((8*i:Nat):Int)<0:=by omega
   have e5:=oJ v i ae;have e6:dn.length+1<=140737488355328:=by omega
   have e7:dn.length+1<4611686018427387904:=by omega
   refine Wp.skip ?_;refine Wp.seq ?_;refine Wp.block ?_;rw[e1];refine (λ(h:Wp _ _ _ _ _)=>h) ?_;cases o with
   |none=>
    refine Wp.oy (by simp only[go_sem,reduceIte,Nat.reduceEqDiff,Nat.reduceAdd,bx,mi,jv,e0,e2,e4,e5,O4,Po,IntKind.bits,e6,e7,PC,Ol,Of,ne_eq,byte,OE,Nat.reduceMul,Nat.reduceLeDiff];exact rfl) al ?_;refine Wp.oy (by simp only[go_sem,reduceIte,Nat.reduceEqDiff,Nat.reduceAdd,bx];simp (disch:=omega) only[IntWalk.i64_in];exact rfl) al ?_;refine ⟨(i,dn++[UInt8.ofNat (v/256^i)],some m',m'+1),⟨by simp only;omega,by rw[<-h3];simp[be]⟩,by simp,?_⟩;refine aM.tm (by simp only[aQ,go_sem,reduceIte,Nat.reduceEqDiff,Nat.reduceAdd,bx,jv];and_intros<;>first|exact trivial|exact ay.refl _|exact ay.any _|exact ay.of_eq (by simp[aD,byte])|(refine ay.int ?_;omega))
   |some tk=>
    refine Wp.oy (by simp only[go_sem,reduceIte,Nat.reduceEqDiff,Nat.reduceAdd,bx,mi,jv,e0,e2,e4,e5,O4,Po,IntKind.bits,e6,e7,PC,Ol,Of,ne_eq,byte,OE,Nat.reduceMul,Nat.reduceLeDiff];exact rfl) al ?_;refine Wp.oy (by simp only[go_sem,reduceIte,Nat.reduceEqDiff,Nat.reduceAdd,bx];simp (disch:=omega) only[IntWalk.i64_in];exact rfl) al ?_;refine ⟨(i,dn++[UInt8.ofNat (v/256^i)],some m',m'+1),⟨by simp only;omega,by rw[<-h3];simp[be]⟩,by simp,?_⟩;refine aM.tm (by simp only[aQ,go_sem,reduceIte,Nat.reduceEqDiff,Nat.reduceAdd,bx,jv];and_intros<;>first|exact trivial|exact ay.refl _|exact ay.any _|exact ay.of_eq (by simp[aD,byte])|(refine ay.int ?_;omega))
  ·have hr:r=0:=by
    have:¬(0:Int)<=(r:Int) - 1:=by simpa using hc
    omega
   subst hr;have h4:dn=be b v:=by simpa [be] using h3
   subst h4;refine Wp.exit ?_;refine Wp.bU (xAd (cj2 @bR @O2)) al ?_;refine aG ?_;exact ay.refl _
abbrev Bs:=List UInt8
structure Pr where
 k:Bs
 v:Bs
 deriving DecidableEq
structure Ch where
 k:Bs
 v:Bs
 d:Bool
 deriving DecidableEq
instance:Inhabited Pr:=⟨⟨[],[]⟩⟩
instance:Inhabited Ch:=⟨⟨[],[],false⟩⟩
def fh(p:Pr):AV:= .agg [.str p.k,.str p.v]
def sf(c:Ch):AV:= .agg [.str c.k,.str c.v,.bool c.d]
def prs(l:List Pr):List AV:=l.map fh
def chs(l:List Ch):List AV:=l.map sf
theorem ba(l:List Pr):(prs l).length=l.length:=by simp[prs]
theorem fj(l:List Ch):(chs l).length=l.length:=by simp[chs]
theorem bT(l:List Pr)(k:Nat)(d:AV)(h:k<l.length):(prs l).getD k d=fh (l.getD k default):=by
 simp[prs,List.getD,Qo,N5 h]
theorem xt(l:List Ch)(k:Nat)(d:AV)(h:k<l.length):(chs l).getD k d=sf (l.getD k default):=by
 simp[chs,List.getD,Qo,N5 h]
theorem bG{α:Type}{f:α->AV}(h:∀x,aW (f x)=true):∀l:List α,aJ (l.map f)=true
 |[]=>rfl
 |x::l=>by simp only[OJ,aJ,h x,OM];exact bG h l
theorem dX(l:List Pr):aJ (prs l)=true:=bG (λx=>by simp[fh,aW,aJ]) l
theorem xu(l:List Ch):aJ (chs l)=true:=bG (λx=>by simp[sf,aW,aJ]) l
def si(l:List Pr)(i:Nat):Bool:=decide (i=0)||Op.bytesLess (l.getD (i - 1) default).k (l.getD i default).k
def sj(l:List Pr):Bool:=(List.range l.length).all (si l)
def differ:List Pr->List Pr->List Ch
 |[],b=>b.map λp=>⟨p.k,p.v,false⟩
 |x::a,[]=>⟨x.k,[],true⟩::differ a []
 |x::a,y::b=>
  if Op.bytesLess x.k y.k then ⟨x.k,[],true⟩::differ a (y::b)
  else if Op.bytesLess y.k x.k then ⟨y.k,y.v,false⟩::differ (x::a) b
  else if x.v=y.v then differ a b else ⟨y.k,y.v,false⟩::differ a b
termination_by a b=>a.length+b.length
def gf(a b:List Pr):List Ch:=if sj a&&sj b then differ a b else []
theorem dh{α:Type}[Inhabited α]{l:List α}{i:Nat}(h:i<l.length):l.drop i=l.getD i default::l.drop (i+1):=by
 rw[P7 h,OF,N5 h];rfl
theorem zM{a b:List Pr}{i k:Nat}(hi:i<a.length)(h:b.length<=k\/k<b.length/\Op.bytesLess (a.getD i default).k (b.getD k default).k=true):
  differ (a.drop i) (b.drop k)=⟨(a.getD i default).k,[],true⟩::differ (a.drop (i+1)) (b.drop k):=by
 rw[dh hi];rcases h with h|⟨h,hl⟩
 ·rw[Pg h,differ]
 ·rw[dh h,differ,Oi hl]
theorem zS{a b:List Pr}{i k:Nat}(hk:k<b.length)(h:a.length<=i\/i<a.length/\Op.bytesLess (a.getD i default).k (b.getD k default).k=false/\Op.bytesLess (b.getD k default).k (a.getD i default).k=true):
  differ (a.drop i) (b.drop k)=⟨(b.getD k default).k,(b.getD k default).v,false⟩::differ (a.drop i) (b.drop (k+1)):=by
 rw[dh hk];rcases h with h|⟨h,hl,hg⟩
 ·rw[Pg h,differ,differ];rfl
 ·rw[dh h,differ,hl,hg];simp only[Oq,Od,Of]
theorem ur{a b:List Pr}{i k:Nat}(hi:i<a.length)(hk:k<b.length)(h:Op.bytesLess (a.getD i default).k (b.getD k default).k=false)(h2:Op.bytesLess (b.getD k default).k (a.getD i default).k=false):
  differ (a.drop i) (b.drop k)=if (a.getD i default).v=(b.getD k default).v then differ (a.drop (i+1)) (b.drop (k+1)) else ⟨(b.getD k default).k,(b.getD k default).v,false⟩::differ (a.drop (i+1)) (b.drop (k+1)):=by
 rw[dh hi,dh hk,differ,h,h2];simp only[Oq,Od]
theorem zT{a b:List Pr}{i k:Nat}(hi:a.length<=i)(hk:b.length<=k):differ (a.drop i) (b.drop k)=[]:=by
 rw[Pg hi,Pg hk,differ];rfl
end Go.Proofs.YtjnoobmaedgooaaGreat.Batch
end
section
set_option maxRecDepth 100000
namespace Go.Proofs.YtjnoobmaedgooaaGreat.Batch
open Go Go.Av Go.Proofs Go.Proofs.YtjnoobmaedgooaaGreat.C
end Go.Proofs.YtjnoobmaedgooaaGreat.Batch
end
section
set_option maxRecDepth 10000
namespace Go.Proofs.YtjnoobmaedgooaaGreat.Batch
open Go Go.Av Go.Proofs Go.Proofs.YtjnoobmaedgooaaGreat.C
theorem all_true{n:Nat}{p:Nat->Bool}(h:∀i,i<n->p i=true):(List.range n).all p=true:=by
 rw[OK];intro i hi;exact h i (O6.1 hi)
theorem all_false{n:Nat}{p:Nat->Bool}{i:Nat}(hi:i<n)(h:p i=false):(List.range n).all p=false:=by
 rw[List.all_eq_false];exact ⟨i,O6.2 hi,by simp[h]⟩
theorem zE{n:Nat}{p:Nat->Bool}(h:(List.range n).all p=true){i:Nat}(hi:i<n):p i=true:=by
 rw[OK] at h;exact h i (O6.2 hi)
theorem oK(l:List Pr)(hl:l.length<=4611686018427387904):aI Tryz.prog 118 [.sl 2 (prs l) .any] (.bool (sj l)):=by
 refine f118.aF ah (by simp[aJ,aW,bA,dX]) rfl ?_;unfold LR zz;refine an0 @ba ?_;refine Wp.dJ [0,5] xA6 (λj:Nat=>[(6,.int .i64 j)]) (λj=>j<=l.length/\∀i,i<j->si l i=true) (λj=>l.length - j) 0 ⟨Ot _,λi h=>absurd h ae⟩ ?_ ?_
 ·exact cM @ba
 ·rintro j ⟨hj,hr⟩;by_cases hc:j<l.length
  ·have d1:decide ((j:Int)<(l.length:Int))=true:=N9 ae;have h2:(0:Int)<=(j:Int):=by omega
   have h3:(j:Int)<(l.length:Int):=by omega
   have e1:IntKind.i64.wrap ((j:Int)+1)=((j+1:Nat):Int):=by rw[IntWalk.i64_in _ ae];omega
   by_cases h0:j=0
   ·subst h0;have d2:decide ((0:Int)<((0:Nat):Int))=false:=by decide
    refine an0 (cj4 @ba d1 d2 e1) ?_;refine ⟨1,⟨ae,λi hi=>?_⟩,ae,?_⟩
    ·obtain rfl:i=0:=by omega
     simp[si]
    ·exact xSu
   ·have d2:decide ((0:Int)<(j:Int))=true:=N9 ae;have e2:IntKind.i64.wrap ((j:Int) - 1)=((j - 1:Nat):Int):=by rw[IntWalk.i64_in _ ae];omega
    have h4:(0:Int)<=((j - 1:Nat):Int):=by omega
    have h5:((j - 1:Nat):Int)<(l.length:Int):=by omega
    have h6:j - 1<l.length:=by omega
    have hra:si l j=Op.bytesLess (l.getD (j - 1) default).k (l.getD j default).k:=by simp[si,h0]
    cases hb:Op.bytesLess (l.getD (j - 1) default).k (l.getD j default).k with
    |true=>
     refine an0 (bf @ba d1 d2 e1 e2 h2 h3 h4 h5 @N7 (λd=>bT _ _ d h6) (cj3 (λd=>bT _ _ d hc) @fh.eq_1 hb)) ?_;refine ⟨j+1,⟨ae,λi hi=>?_⟩,ae,?_⟩
     ·by_cases he:i=j
      ·subst he;rw[hra,hb]
      ·exact hr i ae
     ·exact xSu
    |false=>
     have hf:sj l=false:=all_false hc (by rw[hra,hb]);refine an0 (bf @ba d1 d2 e1 e2 h2 h3 h4 h5 @N7 (λd=>bT _ _ d h6) (cj3 (λd=>bT _ _ d hc) @fh.eq_1 hb)) ?_;refine aG ?_;rw[hf];exact ay.refl _
  ·obtain rfl:j=l.length:=by omega
   have d1:decide ((l.length:Int)<(l.length:Int))=false:=N6 ae;have ht:sj l=true:=all_true hr;refine an0 d1 ?_;refine aG ?_;rw[ht];exact ay.refl _
theorem mj(l:List Ch)(c:Ch):chs l++[.agg [.str c.k,.str c.v,.bool c.d]]=chs (l++[c]):=by simp[chs,sf]
structure DI(a b:List Pr)(i k:Nat)(o:List Ch):Prop where
 hi:i<=a.length
 hk:k<=b.length
 hd:o++differ (a.drop i) (b.drop k)=differ a b
 hl:o.length<=i+k
theorem DI.del{a b:List Pr}{i k:Nat}{o:List Ch}(h:DI a b i k o)(hi:i<a.length)(hk:b.length<=k\/k<b.length/\Op.bytesLess (a.getD i default).k (b.getD k default).k=true):DI a b (i+1) k (o++[⟨(a.getD i default).k,[],true⟩]):=by
 refine ⟨hi,h.hk,?_,by have:=h.hl;simp;omega⟩;rw[<-h.hd,zM hi hk];simp
theorem DI.put{a b:List Pr}{i k:Nat}{o:List Ch}(h:DI a b i k o)(hk:k<b.length)(hi:a.length<=i\/i<a.length/\Op.bytesLess (a.getD i default).k (b.getD k default).k=false/\Op.bytesLess (b.getD k default).k (a.getD i default).k=true):DI a b i (k+1) (o++[⟨(b.getD k default).k,(b.getD k default).v,false⟩]):=by
 refine ⟨h.hi,hk,?_,by have:=h.hl;simp;omega⟩;rw[<-h.hd,zS hk hi];simp
theorem DI.same{a b:List Pr}{i k:Nat}{o:List Ch}(h:DI a b i k o)(hi:i<a.length)(hk:k<b.length)(h1:Op.bytesLess (a.getD i default).k (b.getD k default).k=false)(h2:Op.bytesLess (b.getD k default).k (a.getD i default).k=false)(hv:(a.getD i default).v=(b.getD k default).v):DI a b (i+1) (k+1) o:=by
 refine ⟨hi,hk,?_,by have:=h.hl;omega⟩;rw[<-h.hd,ur hi hk h1 h2,Oi hv]
theorem DI.set{a b:List Pr}{i k:Nat}{o:List Ch}(h:DI a b i k o)(hi:i<a.length)(hk:k<b.length)(h1:Op.bytesLess (a.getD i default).k (b.getD k default).k=false)(h2:Op.bytesLess (b.getD k default).k (a.getD i default).k=false)(hv:¬(a.getD i default).v=(b.getD k default).v):DI a b (i+1) (k+1) (o++[⟨(b.getD k default).k,(b.getD k default).v,false⟩]):=by
 refine ⟨hi,hk,?_,by have:=h.hl;simp;omega⟩;rw[<-h.hd,ur hi hk h1 h2,Ob hv];simp
theorem DI.fin{a b:List Pr}{i k:Nat}{o:List Ch}(h:DI a b i k o)(hi:a.length<=i)(hk:b.length<=k):o=differ a b:=by
 rw[<-h.hd,zT hi hk,OR]
theorem MZ{l:List Pr}(hk:∀p∈l,Ls p.k)(i:Nat):Ls (l.getD i default).k:=by
 by_cases h:i<l.length
 ·rw[OF,N5 h];exact hk _ (Pk h)
 ·rw[OF,Pq ae];exact Ot _
theorem Fw(l:List Pr)(k:Nat):(prs l).drop k=prs (l.drop k):=by simp[prs]
theorem Dz{α:Type}(l:List α)(i j:Nat)(d:α):(l.drop i).getD j d=l.getD (i+j) d:=by
 rw[OF,Qm,<-OF]
set_option maxHeartbeats 4000000 in
theorem Fx(a b:List Pr)(ha:a.length<=2000)(hb:b.length<=2000):aI Tryz.prog 69 [.sl 2 (prs a) .any,.sl 2 (prs b) .any] (.sl 3 (chs (gf a b)) .any):=by
 refine f69.aF ah (by simp[aJ,aW,bA,dX]) (by simp[aW,bA,xu]) ?_;unfold c69 zz;have nil:gf a b=[]->ay (.sl 3 [] (.exact 0)) (.sl 3 (chs (gf a b)) .any):=λe=>by rw[e];exact ay.cap
 refine Wp.bU xA1 al ?_;refine Wp.EX ?_;cases hra:sj a with
 |false=>
  refine an1 hra (oK a ae) ?_;refine aG ?_;exact nil (by simp[gf,hra])
 |true=>
  cases hrb:sj b with
  |false=>
   refine an2 (cj2 hra hrb) (oK a ae) (oK b ae) ?_;refine aG ?_;exact nil (by simp[gf,hrb])
  |true=>
   have hout:gf a b=differ a b:=by simp[gf,hra,hrb]
   rw[hout];refine an2 (cj3 hra hrb @ba) (oK a ae) (oK b ae) ?_;refine Wp.le (aM.tok _ _) ?_;refine Wp.gy [0,1,19,20] (by simp only[go_sem,reduceIte,Nat.reduceEqDiff,List.map,ba];exact rfl) (λ(j:Nat × Nat × List Ch) tk=>[(5,.sl 3 (chs j.2.2) (.own tk)),(6,.int .i64 j.1),(21,.int .i64 j.2.1)]) (λj=>DI a b j.1 j.2.1 j.2.2) (λj=>b.length - j.2.1) (0,0,[]) _ ⟨Ot _,Ot _,by simp,by simp⟩ rfl ?_ ?_
   ·simp only[aQ,go_sem,reduceIte,Nat.reduceEqDiff,Nat.reduceAdd,bx];and_intros<;>first|exact trivial|exact ay.refl _|exact ay.any _|exact ay.dt rfl|(refine ay.int ?_;omega)
   ·rintro ⟨i,k,o⟩ tk n m hn hI;obtain ⟨hi,hk,hd,hl⟩:=hI;have hI:DI a b i k o:=⟨hi,hk,hd,hl⟩;simp only at hi hk hl;have p2:(0:Int)<=(k:Int):=by omega
    have e2:IntKind.i64.wrap ((k:Int)+1)=((k+1:Nat):Int):=by rw[IntWalk.i64_in _ ae];omega
    by_cases hkb:k<b.length
    ·have d2:decide ((k:Int)<(b.length:Int))=true:=N9 ae;have q2:(k:Int)<(b.length:Int):=by omega
     refine an0 (cj7 @ba d2 p2 @q2 @N7 (λd=>bT _ _ d hkb) @fh.eq_1) ?_;refine Wp.qL [0,1,8,19,20,21] (by simp only[go_sem,reduceIte,Nat.reduceEqDiff,List.map,ba];exact rfl) (λ(j:Nat × List Ch) tk=>[(5,.sl 3 (chs j.2) (.own tk)),(6,.int .i64 j.1)]) (λj=>DI a b j.1 k j.2) (λj=>a.length - j.1) (i,o) tk hI rfl ?_ ?_
     ·exact xSb
     ·rintro ⟨i1,o1⟩ tk1 m1 hI;obtain ⟨hi,hk,hd,hl⟩:=hI;have hI:DI a b i1 k o1:=⟨hi,hk,hd,hl⟩;simp only at hi hk hl;have lo:o1.length<=4000:=by omega
      have g0:(o1.length+1)*40<=140737488355328:=by omega
      have g0':o1.length+1<4611686018427387904:=by omega
      have p1:(0:Int)<=(i1:Int):=by omega
      have e1:IntKind.i64.wrap ((i1:Int)+1)=((i1+1:Nat):Int):=by rw[IntWalk.i64_in _ ae];omega
      have e3:IntKind.i64.wrap (((i1+1:Nat):Int) - 1)=(i1:Int):=by rw[IntWalk.i64_in _ ae];omega
      by_cases hia:i1<a.length
      ·have d1:decide ((i1:Int)<(a.length:Int))=true:=N9 ae;have q1:(i1:Int)<(a.length:Int):=by omega
       cases h1:Op.bytesLess (a.getD i1 default).k (b.getD k default).k with
       |true=>
        refine an0 (bf @ba @fj d1 p1 @q1 e1 h1 g0 g0' @N7 (λd=>bT _ _ d hia) (cj4 @fh.eq_1 @N8.{0} @Oa.{0} @Oo)) ?_;refine ⟨(i1+1,o1++[⟨(a.getD i1 default).k,[],true⟩]),m1,m1+1,hI.del hia (.inr ⟨hkb,h1⟩),by simp only;omega,?_⟩;refine aM.tm (by simp only[aQ,go_sem,reduceIte,Nat.reduceEqDiff,Nat.reduceAdd,bx];and_intros<;>first|exact trivial|exact ay.refl _|exact ay.any _|exact ay.of_eq (by rw[<-mj])|(refine ay.int ?_;omega))
       |false=>
        by_cases hke:(a.getD i1 default).k=(b.getD k default).k
        ·have d3:decide ((a.getD i1 default).k=(b.getD k default).k)=true:=N9 hke;have h2:Op.bytesLess (b.getD k default).k (a.getD i1 default).k=false:=by rw[hke];exact cq _
         by_cases hv:(a.getD i1 default).v=(b.getD k default).v
         ·have d4:decide ((a.getD i1 default).v=(b.getD k default).v)=true:=N9 hv;refine an0 (bf @ba @fj d1 d3 d4 p1 @q1 e1 e2 e3 h1 (cj8 g0 g0' @N7 (λd=>bT _ _ d hia) @fh.eq_1 @N8.{0} @Oa.{0} @Oo)) ?_;refine ⟨(i1+1,k+1,o1),tk1,n+1,m1,ae,hI.same hia hkb h1 h2 hv,by simp only;omega,?_⟩;exact Lx
         ·have d4:decide ((a.getD i1 default).v=(b.getD k default).v)=false:=N6 hv;refine an0 (bf @ba @fj d1 d3 d4 p1 @q1 e1 e2 e3 h1 (cj8 g0 g0' @N7 (λd=>bT _ _ d hia) @fh.eq_1 @N8.{0} @Oa.{0} @Oo)) ?_;refine ⟨(i1+1,k+1,o1++[⟨(b.getD k default).k,(b.getD k default).v,false⟩]),m1,n+1,m1+1,ae,hI.set hia hkb h1 h2 hv,by simp only;omega,?_⟩;refine aM.tmN ae (OLe.none _) (by simp only[aQ,go_sem,reduceIte,Nat.reduceEqDiff,Nat.reduceAdd,bx];and_intros<;>first|exact trivial|exact ay.refl _|exact ay.any _|exact ay.of_eq (by rw[<-mj])|(refine ay.int ?_;omega))
        ·have d3:decide ((a.getD i1 default).k=(b.getD k default).k)=false:=N6 hke;have h2:Op.bytesLess (b.getD k default).k (a.getD i1 default).k=true:=by
          rcases fg (a.getD i1 default).k (b.getD k default).k with g|g|g
          ·rw[h1] at g;cases g
          ·exact absurd g hke
          ·exact g
         refine an0 (bf @ba @fj d1 d3 p1 @q1 e1 e2 e3 h1 g0 (cj7 g0' @N7 (λd=>bT _ _ d hia) @fh.eq_1 @N8.{0} @Oa.{0} @Oo)) ?_;refine ⟨(i1,k+1,o1++[⟨(b.getD k default).k,(b.getD k default).v,false⟩]),m1,n+1,m1+1,ae,hI.put hkb (.inr ⟨hia,h1,h2⟩),by simp only;omega,?_⟩;refine aM.tmN ae (OLe.none _) (by simp only[aQ,go_sem,reduceIte,Nat.reduceEqDiff,Nat.reduceAdd,bx];and_intros<;>first|exact trivial|exact ay.refl _|exact ay.any _|exact ay.of_eq (by rw[<-mj])|(refine ay.int ?_;omega))
      ·obtain rfl:i1=a.length:=by omega
       have d1:decide ((a.length:Int)<(a.length:Int))=false:=N6 ae;refine an0 (cj9 @ba @fj d1 e2 g0 g0' @N8.{0} @Oa.{0} @Oo) ?_;refine ⟨(a.length,k+1,o1++[⟨(b.getD k default).k,(b.getD k default).v,false⟩]),m1,n+1,m1+1,ae,hI.put hkb (.inl (N4 _)),by simp only;omega,?_⟩;refine aM.tmN ae (OLe.none _) (by simp only[aQ,go_sem,reduceIte,Nat.reduceEqDiff,Nat.reduceAdd,bx];and_intros<;>first|exact trivial|exact ay.refl _|exact ay.any _|exact ay.of_eq (by rw[<-mj])|(refine ay.int ?_;omega))
    ·obtain rfl:k=b.length:=by omega
     have d2:decide ((b.length:Int)<(b.length:Int))=false:=N6 ae;have p1:(0:Int)<=(i:Int):=by omega
     have p3:(i:Int)<=(a.length:Int):=by omega
     have t1:List.take a.length (prs a)=prs a:=O8 (by rw[ba];exact N4 _);have t2:(List.drop i a).length=a.length - i:=by simp
     refine an0 (cj8 @ba d2 p1 p3 @N7 t1 @Fw t2) ?_;refine Wp.gy [86,87] (by simp only[go_sem,reduceIte,Nat.reduceEqDiff,List.map,ba];exact rfl) (λ(j:Nat × List Ch) tk=>[(5,.sl 3 (chs j.2) (.own tk)),(88,.int .i64 j.1)]) (λj=>DI a b (i+j.1) b.length j.2) (λj=>a.length - (i+j.1)) (0,o) tk hI rfl ?_ ?_
     ·exact xSb
     ·rintro ⟨j,o1⟩ tk1 n1 m1 hn1 hI;obtain ⟨hi,hk,hd,hl⟩:=hI;have hI:DI a b (i+j) b.length o1:=⟨hi,hk,hd,hl⟩;simp only at hi hk hl;have lo:o1.length<=4000:=by omega
      have g0:(o1.length+1)*40<=140737488355328:=by omega
      have g0':o1.length+1<4611686018427387904:=by omega
      have p4:(0:Int)<=(j:Int):=by omega
      have e1:IntKind.i64.wrap ((j:Int)+1)=((j+1:Nat):Int):=by rw[IntWalk.i64_in _ ae];omega
      by_cases hj:i+j<a.length
      ·have d1:decide ((j:Int)<((a.length - i:Nat):Int))=true:=N9 ae;have q1:(j:Int)<((a.length - i:Nat):Int):=by omega
       have hjd:j<(a.drop i).length:=by rw[t2];omega
       refine an0 (bf @ba @fj d1 p4 @q1 e1 g0 g0' @N7 t2 (λd=>bT _ _ d hjd) (cj5 @Dz @fh.eq_1 @N8.{0} @Oa.{0} @Oo)) ?_;refine ⟨(j+1,o1++[⟨(a.getD (i+j) default).k,[],true⟩]),m1,n1+1,m1+1,ae,hI.del hj (.inl (N4 _)),by simp only;omega,?_⟩;refine aM.tmN ae (OLe.none _) (by simp only[aQ,go_sem,reduceIte,Nat.reduceEqDiff,Nat.reduceAdd,bx];and_intros<;>first|exact trivial|exact ay.refl _|exact ay.any _|exact ay.of_eq (by rw[<-mj])|(refine ay.int ?_;omega))
      ·have d1:decide ((j:Int)<((a.length - i:Nat):Int))=false:=N6 ae;refine an0 (cj3 @ba d1 t2) ?_;refine aG ?_;rw[hI.fin ae (N4 _)];exact ay.own
theorem kn(l:List Pr)(c:Pr):prs l++[.agg [.str c.k,.str c.v]]=prs (l++[c]):=by simp[prs,fh]
theorem By{α:Type}[Inhabited α]{l:List α}{i:Nat}(h:i<l.length):l.getD i default=l[i]:=by
 rw[OF,N5 h];rfl
def mW(k:Bs)(p:Pr):Bool:=decide (p.k=k)
def sk(l:List Pr)(k:Bs):Bs:=match l.find? (mW k) with|some p=>p.v|none=>[]
def pA(l:List Pr)(k:Bs):Nat:=match l.find? (mW k) with|some _=>0|none=>7
theorem Ie{l:List Pr}{k:Bs}{j:Nat}(hj:j<l.length)(h:∀i,i<j->¬(l.getD i default).k=k)(hk:(l.getD j default).k=k):l.find? (mW k)=some (l.getD j default):=by
 rw[By hj] at hk |-;rw[List.find?_eq_some_iff_getElem];refine ⟨by simp[mW,hk],j,hj,rfl,λi hi=>?_⟩;have:=h i hi;rw[By ae] at this;simp[mW,this]
theorem Ig{l:List Pr}{k:Bs}(h:∀i,i<l.length->¬(l.getD i default).k=k):l.find? (mW k)=none:=by
 rw[List.find?_eq_none];intro x hx;obtain ⟨i,hi,rfl⟩:=List.getElem_of_mem hx;have:=h i hi;rw[By hi] at this;simp[mW,this]
theorem M0(l:List Pr)(hl:l.length<=4611686018427387904)(k:Bs):aI Tryz.prog 117 [.sl 2 (prs l) .any,.str k] (.tup [.str (sk l k),.int .i64 (pA l k)]):=by
 refine f117.aF ah (by simp[aJ,aW,bA,dX]) (by simp[aW,aJ]) ?_;unfold LQ zz;refine Lv ?_;refine Wp.dJ [0,1] xA6 (λj:Nat=>[(6,.int .i64 j)]) (λj=>j<=l.length/\∀i,i<j->¬(l.getD i default).k=k) (λj=>l.length - j) 0 ⟨Ot _,λi h=>absurd h ae⟩ ?_ ?_
 ·exact xSb
 ·rintro j ⟨hj,hr⟩;by_cases hc:j<l.length
  ·have d1:decide ((j:Int)<(l.length:Int))=true:=N9 ae;have h2:(0:Int)<=(j:Int):=by omega
   have h3:(j:Int)<(l.length:Int):=by omega
   have e1:IntKind.i64.wrap ((j:Int)+1)=((j+1:Nat):Int):=by rw[IntWalk.i64_in _ ae];omega
   by_cases hk:(l.getD j default).k=k
   ·have d2:decide ((l.getD j default).k=k)=true:=N9 hk;have hf:=Ie hc hr hk;refine an0 (cj8 @ba d1 d2 h2 h3 @N7 (λd=>bT _ _ d hc) @fh.eq_1) ?_;refine aG ?_;exact ay.of_eq (by simp only[sk,pA,hf];rfl)
   ·have d2:decide ((l.getD j default).k=k)=false:=N6 hk;refine an0 (cj9 @ba d1 d2 h2 h3 e1 @N7 (λd=>bT _ _ d hc) @fh.eq_1) ?_;refine ⟨j+1,⟨ae,λi hi=>?_⟩,ae,?_⟩
    ·by_cases he:i=j
     ·subst he;exact hk
     ·exact hr i ae
    ·exact xSu
  ·obtain rfl:j=l.length:=by omega
   have d1:decide ((l.length:Int)<(l.length:Int))=false:=N6 ae;have hf:=Ig hr;refine an0 (cj2 @ba d1) ?_;refine aG ?_;exact ay.of_eq (by simp only[sk,pA,hf];rfl)
def rest(k:Bs)(l:List Pr):List Pr:=l.filter λp=> !mW k p
theorem uu(k:Bs)(p:Pr)(l:List Pr):rest k (p::l)=(if p.k=k then [] else [p])++rest k l:=by
 simp only[rest,List.filter_cons,mW];by_cases h:p.k=k<;>simp[h]
def shut(k v:Bs):Bool:=decide (128<k.length)||decide (200<v.length)
def eu(k v:Bs):Bool->List Pr->List Pr
 |laid,[]=>if laid then [] else [⟨k,v⟩]
 |laid,p::l=>(if laid=false/\Op.bytesLess p.k k=false then [⟨k,v⟩] else [])++((if p.k=k then [] else [p])++eu k v (laid|| !Op.bytesLess p.k k) l)
def lG(l:List Pr)(k v:Bs):List Pr:=if shut k v then l else eu k v false l
def Bz(k v:Bs):Nat:=if shut k v then 2 else 0
theorem pE(k v:Bs):∀(l:List Pr)(b:Bool),(eu k v b l).length<=l.length+(if b then 0 else 1)
 |[],b=>by cases b<;>simp[eu]
 |p::l,b=>by
  have h1:=pE k v l true;have h2:=pE k v l false;simp only[Of,Od,Oq,Nat.add_zero] at h1 h2;rw[eu];cases b<;>cases Op.bytesLess p.k k<;>by_cases hk:p.k=k<;>simp[hk] <;>omega
theorem Fy(l:List Pr)(k v:Bs):(lG l k v).length<=l.length+1:=by
 unfold lG;split
 ·omega
 ·exact pE k v l false
theorem M1{n:Nat}(h:n<=2000000):(n+1)*32<=140737488355328/\n+1<4611686018427387904/\(n+1+1)*32<=140737488355328/\n+1+1<4611686018427387904:=by omega
set_option maxHeartbeats 1000000 in
theorem Kx(l:List Pr)(hl:l.length<=1000000)(lk:∀p∈l,Ls p.k)(k v:Bs)(hkk:Ls k):aI Tryz.prog 48 [.sl 2 (prs l) .any,.str k,.str v] (.tup [.sl 2 (prs (lG l k v)) .any,.int .i64 (Bz k v)]):=by
 refine f48.aF ah (by simp[aJ,aW,bA,dX]) (by simp[aW,aJ,bA,dX]) ?_;unfold c48 zz;by_cases h1:128<k.length
 ·have d1:decide ((128:Int)<(k.length:Int))=true:=N9 ae;have hs:shut k v=true:=by simp[shut,h1]
  refine an0 d1 ?_;refine aG ?_;rw[lG,Oi hs,Bz,Oi hs];exact ay.refl _
 ·have d1:decide ((128:Int)<(k.length:Int))=false:=N6 ae;by_cases h2:200<v.length
  ·have d2:decide ((200:Int)<(v.length:Int))=true:=N9 ae;have hs:shut k v=true:=by simp[shut,h2]
   refine an0 (cj2 d1 d2) ?_;refine aG ?_;rw[lG,Oi hs,Bz,Oi hs];exact ay.refl _
  ·have d2:decide ((200:Int)<(v.length:Int))=false:=N6 ae;have hs:¬shut k v=true:=by simp[shut];omega
   rw[lG,Ob hs,Bz,Ob hs];refine an0 (cj2 d1 d2) ?_;refine Wp.le (aM.tok _ _) ?_;refine Wp.qL [0,1,2] xA7 (λ(j:Nat × List Pr × Bool) tk=>[(8,.sl 2 (prs j.2.1) (.own tk)),(9,.bool j.2.2),(10,.int .i64 j.1)]) (λj=>j.1<=l.length/\j.2.1++eu k v j.2.2 (l.drop j.1)=eu k v false l/\j.2.1.length<=2*j.1) (λj=>l.length - j.1) (0,[],false) _ ⟨Ot _,by simp,N4 _⟩ rfl ?_ ?_
   ·simp only[aQ,go_sem,reduceIte,Nat.reduceEqDiff,Nat.reduceAdd,bx];and_intros<;>first|exact trivial|exact ay.refl _|exact ay.any _|exact ay.dt rfl|(refine ay.int ?_;omega)
   ·rintro ⟨j,o,b⟩ tk m ⟨hj,ho,hol⟩;simp only at hj ho hol;obtain ⟨g0,g0',g1,g1'⟩:=M1 (show o.length<=2000000 by omega);by_cases hc:j<l.length
    ·have q1:decide ((j:Int)<(l.length:Int))=true:=N9 ae;have q2:(0:Int)<=(j:Int):=by omega
     have q3:(j:Int)<(l.length:Int):=by omega
     have e1:IntKind.i64.wrap ((j:Int)+1)=((j+1:Nat):Int):=by rw[IntWalk.i64_in _ ae];omega
     rw[dh hc,eu] at ho;have hls:=MZ lk j;have hbel:=qP (l.getD j default).k k hls hkk;by_cases hk:(l.getD j default).k=k
     ·have q4:decide ((l.getD j default).k=k)=true:=N9 hk;rw[Oi hk,List.nil_append] at ho;cases b with
      |true=>
       simp only[Bool.true_eq_false,false_and,Od,List.nil_append,PT] at ho;refine an0 (cj9 @ba @q1 @q2 q3 @q4 e1 @N7 (λd=>bT _ _ d hc) @fh.eq_1) ?_;refine ⟨(j+1,o,true),tk,m,⟨by simp only;omega,ho,by simp only;omega⟩,by simp only;omega,?_⟩;exact xSu
      |false=>
       cases hb:Op.bytesLess (l.getD j default).k k with
       |true=>
        rw[hb] at hbel ho;simp only[Bool.true_eq_false,and_false,Od,List.nil_append,Oy,Bool.or_self] at ho;refine an1 (cj9 @ba @q1 @q2 q3 @q4 e1 @N7 (λd=>bT _ _ d hc) @fh.eq_1) hbel ?_;refine ⟨(j+1,o,false),tk,m,⟨by simp only;omega,ho,by simp only;omega⟩,by simp only;omega,?_⟩;exact xSu
       |false=>
        rw[hb] at hbel ho;simp only[PC,Ol,Of,OB,Qg] at ho;refine an1 (bf @ba @q1 @q2 q3 @q4 e1 @N7 (λd=>bT _ _ d hc) @fh.eq_1 @N8.{0} @Oa.{0} (cj3 @Oo g0 g0')) hbel ?_;refine ⟨(j+1,o++[⟨k,v⟩],true),m,m+1,⟨by simp only;omega,by rw[<-ho];simp,by simp;omega⟩,by simp only;omega,?_⟩;refine aM.tm (by simp only[aQ,go_sem,reduceIte,Nat.reduceEqDiff,Nat.reduceAdd,bx];and_intros<;>first|exact trivial|exact ay.refl _|exact ay.any _|exact ay.of_eq (by rw[<-kn])|(refine ay.int ?_;omega))
     ·have q4:decide ((l.getD j default).k=k)=false:=N6 hk;rw[Ob hk] at ho;cases b with
      |true=>
       simp only[Bool.true_eq_false,false_and,Od,List.nil_append,PT] at ho;refine an0 (bf @ba @q1 @q2 q3 @q4 e1 @N7 (λd=>bT _ _ d hc) @fh.eq_1 @N8.{0} @Oa.{0} (cj3 @Oo g0 g0')) ?_;refine ⟨(j+1,o++[l.getD j default],true),m,m+1,⟨by simp only;omega,by rw[<-ho];simp,by simp;omega⟩,by simp only;omega,?_⟩;refine aM.tm (by simp only[aQ,go_sem,reduceIte,Nat.reduceEqDiff,Nat.reduceAdd,bx];and_intros<;>first|exact trivial|exact ay.refl _|exact ay.any _|exact ay.of_eq (by rw[<-kn])|(refine ay.int ?_;omega))
      |false=>
       cases hb:Op.bytesLess (l.getD j default).k k with
       |true=>
        rw[hb] at hbel ho;simp only[Bool.true_eq_false,and_false,Od,List.nil_append,Oy,Bool.or_self] at ho;refine an1 (bf @ba @q1 @q2 q3 @q4 e1 @N7 (λd=>bT _ _ d hc) @fh.eq_1 @N8.{0} @Oa.{0} (cj3 @Oo g0 g0')) hbel ?_;refine ⟨(j+1,o++[l.getD j default],false),m,m+1,⟨by simp only;omega,by rw[<-ho];simp,by simp;omega⟩,by simp only;omega,?_⟩;refine aM.tm (by simp only[aQ,go_sem,reduceIte,Nat.reduceEqDiff,Nat.reduceAdd,bx];and_intros<;>first|exact trivial|exact ay.refl _|exact ay.any _|exact ay.of_eq (by rw[<-kn])|(refine ay.int ?_;omega))
       |false=>
        rw[hb] at hbel ho;simp only[PC,Ol,Of,OB,Qg] at ho;refine an1 (bf @ba @q1 @q2 q3 @q4 e1 @N7 (λd=>bT _ _ d hc) @fh.eq_1 @N8.{0} @Oa.{0} (cj5 @Oo g0 g0' g1 g1')) hbel ?_;refine ⟨(j+1,o++[⟨k,v⟩]++[l.getD j default],true),m+1,m+2,⟨by simp only;omega,by rw[<-ho];simp,by simp;omega⟩,by simp only;omega,?_⟩;refine aM.tm (by simp only[aQ,go_sem,reduceIte,Nat.reduceEqDiff,Nat.reduceAdd,bx];and_intros<;>first|exact trivial|exact ay.refl _|exact ay.any _|exact ay.of_eq (by rw[<-kn,<-kn])|(refine ay.int ?_;omega))
    ·obtain rfl:j=l.length:=by omega
     have q1:decide ((l.length:Int)<(l.length:Int))=false:=N6 ae;rw[List.drop_length,eu] at ho;cases b with
     |true=>
      simp only[Of,OR] at ho;refine an0 (cj2 @ba @q1) ?_;refine aG ?_;rw[<-ho];exact ay.tup (aA.cons ay.own (aA.refl _))
     |false=>
      simp only[Oq,Od] at ho;refine an0 (cj7 @ba @q1 @N8.{0} @Oa.{0} @Oo g0 g0') ?_;refine aG ?_;rw[<-ho,<-kn];exact ay.tup (aA.cons ay.own (aA.refl _))
def aP(l:List Pr):List Pr:=l.foldl (λo p=>lG o p.k p.v) []
theorem iT{α:Type}[Inhabited α]{l:List α}{i:Nat}(h:i<l.length):l.take (i+1)=l.take i++[l.getD i default]:=by
 rw[OD h,By h]
theorem pF(k v:Bs):∀(l:List Pr)(b:Bool)(x:Pr),x∈eu k v b l->x=⟨k,v⟩\/x∈l
 |[],b,x,h=>by cases b<;>simp[eu] at h;exact .inl h
 |p::l,b,x,h=>by
  rw[eu,OS,OS] at h;rcases h with h|h|h
  ·split at h
   ·left;simpa using h
   ·simp at h
  ·split at h
   ·simp at h
   ·right;simp at h;simp[h]
  ·rcases pF k v l _ x h with h|h
   ·exact .inl h
   ·right;simp[h]
theorem Fz{l:List Pr}{k v:Bs}{x:Pr}(h:x∈lG l k v):x=⟨k,v⟩/\shut k v=false\/x∈l:=by
 unfold lG at h;split at h
 ·exact .inr h
 ·rename_i hs;rcases pF k v l false x h with h|h
  ·exact .inl ⟨h,by simpa using hs⟩
  ·exact .inr h
def Lt(a b:Bs):Prop:=Op.bytesLess a b=true
theorem Lt.trans{a b c:Bs}(h1:Lt a b)(h2:Lt b c):Lt a c:=eI h1 h2
theorem Lt.ne{a b:Bs}(h:Lt a b):¬a=b:=λe=>by rw[e,Lt,cq] at h;cases h
theorem tri(a b:Bs):Lt a b\/a=b\/Lt b a:=fg a b
theorem not_lt{a b:Bs}(h:Op.bytesLess a b=false):a=b\/Lt b a:=by
 rcases tri a b with g|g|g
 ·rw[Lt,h] at g;cases g
 ·exact .inl g
 ·exact .inr g
def qq(l:List Pr):Prop:=l.Pairwise λa b=>Lt a.k b.k
theorem sn(k v:Bs):∀l:List Pr,eu k v true l=rest k l
 |[]=>rfl
 |p::l=>by rw[eu,uu,PT,sn k v l];simp
theorem ml{k v:Bs}{q:List Pr}(hq:q=[]\/∃x q',q=x::q'/\Op.bytesLess x.k k=false):∀p:List Pr,(∀x∈p,Lt x.k k)->eu k v false (p++q)=p++⟨k,v⟩::rest k q
 |[],_=>by
  rcases hq with rfl|⟨x,q',rfl,hx⟩
  ·rfl
  ·rw[List.nil_append,eu,hx,uu,PI,OB,sn];simp
 |y::p,h=>by
  have hy:=h y ah;have rec':=ml (v:=v) hq p (λx hx=>h x (by simp[hx]));rw[List.cons_append,eu,Ob hy.ne,show Op.bytesLess y.k k=true from hy,Oy,Bool.or_self,rec'];simp
theorem xv{k v:Bs}:∀{l:List Pr},qq l->qq (eu k v false l)
 |[],_=>by simp[eu,qq]
 |x::l,h=>by
  have hx:=PA.1 h;cases hb:Op.bytesLess x.k k with
  |true=>
   have hlt:Lt x.k k:=hb;have:=ml (k:=k) (v:=v) (q:=[]) (.inl rfl);have e:eu k v false (x::l)=x::eu k v false l:=by rw[eu,hb,Ob hlt.ne];simp
   rw[e];refine PA.2 ⟨λy hy=>?_,xv hx.2⟩;rcases pF k v l false y hy with rfl|hy
   ·exact hlt
   ·exact hx.1 y hy
  |false=>
   have e:=ml (k:=k) (v:=v) (q:=x::l) (.inr ⟨x,l,rfl,hb⟩) [] ah;rw[List.nil_append,List.nil_append] at e;rw[e];refine PA.2 ⟨λy hy=>?_,h.sublist List.filter_sublist⟩;obtain ⟨h1,h2⟩:=Pe.1 hy;have hne:¬y.k=k:=by simpa [mW] using h2
   have hxk:=not_lt hb;rcases OA.1 h1 with rfl|h1
   ·rcases hxk with hxk|hxk
    ·exact absurd hxk hne
    ·exact hxk
   ·have h3:Lt x.k y.k:=hx.1 y h1;rcases hxk with hxk|hxk
    ·show Lt k y.k;rw[<-hxk];exact h3
    ·exact hxk.trans h3
theorem DA{l:List Pr}(h:qq l)(k v:Bs):qq (lG l k v):=by
 unfold lG;split
 ·exact h
 ·exact xv h
def OkP(l:List Pr):Prop:=∀p∈l,shut p.k p.v=false
theorem vC(l:List Pr):∀o:List Pr,qq o->OkP o->qq (l.foldl (λo p=>lG o p.k p.v) o)/\OkP (l.foldl (λo p=>lG o p.k p.v) o)/\(l.foldl (λo p=>lG o p.k p.v) o).length<=o.length+l.length:=by
 induction l with
 |nil=>intro o h1 h2;exact ⟨h1,h2,by simp⟩
 |cons p l ih=>
  intro o h1 h2;obtain ⟨a,b,c⟩:=ih (lG o p.k p.v) (DA h1 _ _) (λx hx=>by
   rcases Fz hx with ⟨rfl,hs⟩|hx
   ·exact hs
   ·exact h2 x hx)
  have:=Fy o p.k p.v;exact ⟨a,b,by simp only[List.foldl_cons,List.length_cons] at c |-;omega⟩
theorem pG(l:List Pr):qq (aP l)/\OkP (aP l)/\(aP l).length<=l.length:=by
 have:=vC l [] List.Pairwise.nil (by simp[OkP]);simpa [aP] using this
structure CF(x y:List Pr)(c:Ch):Prop where
 del:c.d=true->c.v=[]/\(∃q∈x,q.k=c.k)/\∀q∈y,¬q.k=c.k
 put:c.d=false->(⟨c.k,c.v⟩:Pr)∈y/\∀q∈x,q.k=c.k->¬q.v=c.v
theorem gA{α:Type}[Inhabited α]{l:List α}{i:Nat}(h:i<l.length):l.getD i default=l[i]:=by
 rw[OF,N5 h];rfl
def val(l:List UInt8):Nat:=l.foldl (λn c=>n*256+c.toNat) 0
theorem FA(l:List UInt8)(c:UInt8):val (l++[c])=val l*256+c.toNat:=by simp[val]
theorem eW(l:List UInt8):val l<256^l.length:=by
 have key:∀(l:List UInt8)(a:Nat),l.foldl (λn c=>n*256+c.toNat) a<(a+1)*256^l.length:=by
  intro l;induction l with
  |nil=>intro a;simp
  |cons c l ih=>
   intro a;rw[List.foldl_cons,List.length_cons,Nat.pow_succ,Nat.mul_comm (256^l.length) 256,<-Rl];refine OT (ih _) (PD _ ?_);have:=c.toNat_lt;omega
 simpa [val] using key l 0
theorem BA(v c:Nat)(hv:v<72057594037927936)(hc:c<256):((BitVec.ofInt 64 ((v*256:Nat):Int)) ||| (BitVec.ofInt 64 (c:Int))).toNat=v*256+c:=by
 rw[BitVec.toNat_or,BitVec.ofInt_natCast,BitVec.ofInt_natCast,QU,QU,O7 ae,O7 ae];have:=Nat.two_pow_add_eq_or_of_lt (i:=8) (b:=c) hc v;rw[Nat.mul_comm v 256];exact this.symm
theorem oL(l:List UInt8)(k:Nat)(h:k<l.length):val (l.take (k+1))=val (l.take k)*256+(l.getD k 0).toNat:=by
 rw[OD h,FA,OF,N5 h];rfl
theorem JS{l:List UInt8}{i:Nat}(h:i<l.length):l.getD i 0=l[i]:=by
 rw[OF,N5 h];rfl
def i64(l:List UInt8):Int:=IntKind.i64.wrap (val l:Int)
theorem iU(b:List UInt8)(p w:Nat)(hb:b.length<=140737488355328)(hp:p+w<=b.length)(hw:w<=8):
  aI Tryz.prog 107 [.str b,.int .i64 p,.int .i64 w] (.int .i64 (i64 ((b.drop p).take w))):=by
 refine f107.aF ah (by simp[aJ,aW]) rfl ?_;unfold LI zz;have lw:((b.drop p).take w).length=w:=by simp;omega
 have hg:∀j,j<w->((b.drop p).take w).getD j 0=b.getD (p+j) 0:=λj hj=>by
  rw[JS ae,JS ae,List.getElem_take,List.getElem_drop]
 have hv:∀j,j<=w->val (((b.drop p).take w).take j)<256^j:=λj hj=>by
  have:=eW (((b.drop p).take w).take j)
  rwa [OV,lw,P4 hj] at this
 generalize hP:(b.drop p).take w=P at*
 refine Lv ?_;refine Wp.dJ [0,1,2] xA6 (λj:Nat=>[(7,.int .u64 (val (P.take j))),(8,.int .i64 j)]) (λj=>j<=w) (λj=>w - j) 0 (Ot _) ?_ ?_
 ·exact xSb
 ·intro j hj;by_cases hlt:j<w
  ·have d1:decide ((j:Int)<(w:Int))=true:=N9 ae;have e0:IntKind.i64.wrap ((p:Int)+(j:Int))=((p+j:Nat):Int):=by rw[IntWalk.i64_in _ ae];omega
   have h1:(0:Int)<=((p+j:Nat):Int):=by omega
   have h2:((p+j:Nat):Int)<(b.length:Int):=by omega
   have h3:j<P.length:=by omega
   have hvj:=hv j hj;have hpw:(256:Nat)^j<=256^7:=Px ae ae;have hc:=(P.getD j 0).toNat_lt;have hgj:=(hg j hlt).symm;have e1:IntKind.u64.wrap (((val (P.take j):Nat):Int)*2^(min (Int.toNat 8) 64))=((val (P.take j)*256:Nat):Int):=by
    rw[show min (Int.toNat 8) 64=8 from rfl,IntWalk.u64_in _ ae];omega
   have e2:¬(8:Int)<0:=by omega
   have e3:IntKind.u64.wrap (((P.getD j 0).toNat:Nat):Int)=(((P.getD j 0).toNat:Nat):Int):=IntWalk.u64_in _ ae;have e4:IntKind.u64.wrap (((((BitVec.ofInt (IntKind.bits .u64) ((val (P.take j)*256:Nat):Int)) ||| (BitVec.ofInt (IntKind.bits .u64) (((P.getD j 0).toNat:Nat):Int))).toNat:Nat)):Int)=((val (P.take (j+1)):Nat):Int):=by
    rw[show ((BitVec.ofInt (IntKind.bits .u64) ((val (P.take j)*256:Nat):Int)) ||| (BitVec.ofInt (IntKind.bits .u64) (((P.getD j 0).toNat:Nat):Int))).toNat=_ from BA _ _ ae hc,oL P j h3,IntWalk.u64_in _ ae]
   have e5:IntKind.i64.wrap ((j:Int)+1)=((j+1:Nat):Int):=by rw[IntWalk.i64_in _ ae];omega
   refine an0 (fD d1 e0 h1 h2 hgj @byte.eq_1 wY e1 e2 e3 e5) ?_;refine ⟨j+1,ae,ae,?_⟩;refine aM.tm (by simp only[aQ,go_sem,reduceIte,Nat.reduceEqDiff,Nat.reduceAdd,bx];and_intros<;>first|exact trivial|exact ay.refl _|exact ay.any _|exact ay.of_eq (Pj (AV.int .u64) e4)|(refine ay.int ?_;omega))
  ·have hjw:j=w:=by omega
   subst hjw;have d1:decide ((j:Int)<(j:Int))=false:=N6 ae;have hPt:P.take j=P:=O8 ae;rw[hPt];refine an0 d1 ?_;refine aG ?_;exact ay.refl _
end Go.Proofs.YtjnoobmaedgooaaGreat.Batch
end
section
set_option maxRecDepth 100000
namespace Go.Proofs.YtjnoobmaedgooaaGreat.Batch
open Go Go.Proofs Go.Lib Go.RowKit Go.Shelf
def FB:Go.Shelf.Ren:=⟨λ|6=>45|14=>94|15=>95|20=>139|21=>140|22=>141|23=>142|24=>143|25=>144|26=>145|27=>146|28=>147|29=>148|46=>189|47=>190|48=>191|49=>192|50=>193|57=>217|n=>n,λ|0=>0|3=>3|4=>4|5=>5|9=>9|22=>33|24=>50|25=>96|39=>170|45=>237|46=>238|50=>133|53=>165|55=>169|66=>281|70=>285|76=>306|77=>307|n=>n,λn=>n⟩
theorem DB:SlLaysF0.n6 Tryz.prog FB where
 mixed:=by kernel_rfl
 f6:=⟨Tryz.f45.name,by kernel_rfl,Tryz.func45.trans (Pj some (by kernel_rfl))⟩
 f14:=⟨Tryz.f94.name,by kernel_rfl,Tryz.func94.trans (Pj some (by kernel_rfl))⟩
 f15:=Tryz.func95.trans (Pj some (by kernel_rfl))
 f20:=⟨Tryz.f139.name,by kernel_rfl,Tryz.func139.trans (Pj some (by kernel_rfl))⟩
 f21:=⟨Tryz.f140.name,by kernel_rfl,Tryz.func140.trans (Pj some (by kernel_rfl))⟩
 f22:=⟨Tryz.f141.name,by kernel_rfl,Tryz.func141.trans (Pj some (by kernel_rfl))⟩
 f23:=⟨Tryz.f142.name,by kernel_rfl,Tryz.func142.trans (Pj some (by kernel_rfl))⟩
 f24:=⟨Tryz.f143.name,by kernel_rfl,Tryz.func143.trans (Pj some (by kernel_rfl))⟩
 f25:=⟨Tryz.f144.name,by kernel_rfl,Tryz.func144.trans (Pj some (by kernel_rfl))⟩
 f26:=⟨Tryz.f145.name,by kernel_rfl,Tryz.func145.trans (Pj some (by kernel_rfl))⟩
 f27:=⟨Tryz.f146.name,by kernel_rfl,Tryz.func146.trans (Pj some (by kernel_rfl))⟩
 f28:=Tryz.func147.trans (Pj some (by kernel_rfl))
 f29:=Tryz.func148.trans (Pj some (by kernel_rfl))
 f46:=⟨Tryz.f189.name,by kernel_rfl,Tryz.func189.trans (Pj some (by kernel_rfl))⟩
 f47:=Tryz.func190.trans (Pj some (by kernel_rfl))
 f48:=Tryz.func191.trans (Pj some (by kernel_rfl))
 f49:=⟨Tryz.f192.name,by kernel_rfl,Tryz.func192.trans (Pj some (by kernel_rfl))⟩
 f50:=⟨Tryz.f193.name,by kernel_rfl,Tryz.func193.trans (Pj some (by kernel_rfl))⟩
 f57:=⟨Tryz.f217.name,by kernel_rfl,Tryz.func217.trans (Pj some (by kernel_rfl))⟩
 t0:=Tryz.underlying0
 a0:=Tryz.isAgg0
 z0:=Tryz.sizeOf0
 v0:=Tryz.zeroValue0
 t3:=Tryz.underlying3
 a3:=Tryz.isAgg3
 z3:=Tryz.sizeOf3
 v3:=Tryz.zeroValue3
 t4:=Tryz.underlying4
 a4:=Tryz.isAgg4
 z4:=Tryz.sizeOf4
 v4:=Tryz.zeroValue4
 t5:=Tryz.underlying5
 a5:=Tryz.isAgg5
 z5:=Tryz.sizeOf5
 v5:=Tryz.zeroValue5
 t9:=Tryz.underlying9
 a9:=Tryz.isAgg9
 z9:=Tryz.sizeOf9
 v9:=Tryz.zeroValue9
 t22:=Tryz.underlying33
 a22:=Tryz.isAgg33
 z22:=Tryz.sizeOf33
 v22:=Tryz.zeroValue33
 t25:=Tryz.underlying96
 a25:=Tryz.isAgg96
 z25:=Tryz.sizeOf96
 v25:=Tryz.zeroValue96
 t39:=Tryz.underlying170
 a39:=Tryz.isAgg170
 z39:=Tryz.sizeOf170
 v39:=Tryz.zeroValue170
 t45:=Tryz.underlying237
 a45:=Tryz.isAgg237
 z45:=Tryz.sizeOf237
 v45:=Tryz.zeroValue237
 t46:=Tryz.underlying238
 a46:=Tryz.isAgg238
 z46:=Tryz.sizeOf238
 v46:=Tryz.zeroValue238
 t50:=Tryz.underlying133
 a50:=Tryz.isAgg133
 z50:=Tryz.sizeOf133
 v50:=Tryz.zeroValue133
 t53:=Tryz.underlying165
 a53:=Tryz.isAgg165
 z53:=Tryz.sizeOf165
 v53:=Tryz.zeroValue165
 t55:=Tryz.underlying169
 a55:=Tryz.isAgg169
 z55:=Tryz.sizeOf169
 v55:=Tryz.zeroValue169
 t66:=Tryz.underlying281
 a66:=Tryz.isAgg281
 z66:=Tryz.sizeOf281
 v66:=Tryz.zeroValue281
 t70:=Tryz.underlying285
 a70:=Tryz.isAgg285
 z70:=Tryz.sizeOf285
 v70:=Tryz.zeroValue285
 t76:=Tryz.underlying306
 a76:=Tryz.isAgg306
 z76:=Tryz.sizeOf306
 v76:=Tryz.zeroValue306
 t77:=Tryz.underlying307
 a77:=Tryz.isAgg307
 z77:=Tryz.sizeOf307
 v77:=Tryz.zeroValue307
theorem BC(x:ByteArray)(w:World):Calls Tryz.prog 149 #[.string x] w λe w'=>e= .returned (.bool false)/\w'=w:=by
 go_enter Tryz.func149,Tryz.ntmps149
 go_wp2
 go_ret
 exact ⟨by simp,rfl⟩
def pH(x y:List UInt8):Int:=if Op.bytesLess x y=true then -1 else if Op.bytesLess y x=true then 1 else 0
theorem Ih{x y:List UInt8}{b:Bool}(h:Op.bytesLess x y=false)(h2:Op.bytesLess y x=b)(he:b=false->x=y)(hn:b=true->x≠y)(w:World):
  Sem.run Tryz.prog (binOp .gtr 9 (.string ⟨x.toArray⟩) (.string ⟨y.toArray⟩)) w= .ok (.bool b) w:=by
 have hu:=Tryz.underlying9;have e:((x == y):Bool)= !b:=by
  cases b with
  |true=>simpa using hn rfl
  |false=>simpa using he rfl
 simp[binOp,Op.stringOp,hu,ByteArray.toList_eq,h,h2,e]
set_option maxHeartbeats 1000000 in
theorem uv(x y:List UInt8)(w:World):Calls Tryz.prog 96 #[.string ⟨x.toArray⟩,.string ⟨y.toArray⟩] w λe w'=>e= .returned (.int .i64 (pH x y))/\w'=w:=by
 unfold pH;cases h1:Op.bytesLess x y
 ·have hg:∀w,Sem.run Tryz.prog (binOp .gtr 9 (.string ⟨x.toArray⟩) (.string ⟨y.toArray⟩)) w= .ok (.bool (Op.bytesLess y x)) w:=λw=>by
   refine Ih h1 rfl (λh2=>?_) (λh2 e=>?_) w
   ·rcases fg x y with h|h|h
    ·rw[h1] at h;cases h
    ·exact h
    ·rw[h2] at h;cases h
   ·rw[e,cq] at h2;cases h2
  cases h2:Op.bytesLess y x;all_goals
   rw[h2] at hg
   go_enter Tryz.func96,Tryz.ntmps96
   go_wp2_with (go_at_call 149;refine (BC _ _).mono ?_;rintro e w' ⟨rfl,hw⟩;rw[hw])
   go_ret
   exact ⟨by simp,rfl⟩
 ·go_enter Tryz.func96,Tryz.ntmps96
  go_wp2_with (go_at_call 149;refine (BC _ _).mono ?_;rintro e w' ⟨rfl,hw⟩;rw[hw])
  go_ret
  exact ⟨by simp,rfl⟩
end Go.Proofs.YtjnoobmaedgooaaGreat.Batch
end
section
set_option maxRecDepth 100000
namespace Go.Proofs.YtjnoobmaedgooaaGreat.Batch
open Go Go.Proofs Go.Lib Go.RowKit Go.Shelf Go.Sort
def tC(p:Pr):List Value:=[.string ⟨p.k.toArray⟩,.string ⟨p.v.toArray⟩]
def cfP(x y:Pr):Int:=pH x.k y.k
set_option maxHeartbeats 1000000 in
theorem DC(x y:Pr)(W:World):Calls Tryz.prog 46 #[.agg #[.string ⟨x.k.toArray⟩,.string ⟨x.v.toArray⟩],.agg #[.string ⟨y.k.toArray⟩,.string ⟨y.v.toArray⟩]] W λe w'=>e= .returned (.int .i64 (cfP x y))/\∃q os',w'=grow (W.drewN q) os':=by
 have hcon:=λW'=>uv x.k y.k W';unfold cfP;generalize pH x.k y.k=r at hcon |-
 go_enter Tryz.func46,Tryz.ntmps46
 go_wp2_with (go_at_call 96;refine (hcon _).mono ?_;rintro e w' ⟨rfl,rfl⟩)
 go_ret
 exact ⟨rfl,0,_,by rw[alloc_eq_grow,alloc_eq_grow,grow_grow];rfl⟩
theorem FC(blk off size:Nat)(w:World):CmpLays Tryz.prog 46 #[] tC 2 cfP blk off size w:=
 λ_ _ _ _ x y=>DC x y _
theorem uw(x y:Pr):ltOf cfP x y=Op.bytesLess x.k y.k:=by
 unfold ltOf cfP pH;cases h:Op.bytesLess x.k y.k<;>cases h2:Op.bytesLess y.k x.k<;>simp
theorem zU:SWO (ltOf cfP) where
 irrefl x:=by rw[uw,cq]
 trans x y z h1 h2:=by rw[uw] at*;exact eI h1 h2
 ntrans x y z h1 h2:=by
  rw[uw] at*
  cases h:Op.bytesLess x.k z.k with
  |false=>rfl
  |true=>
   rcases fg x.k y.k with h3|h3|h3
   ·rw[h1] at h3;cases h3
   ·rw[<-h3,h] at h2;cases h2
   ·rw[eI h3 h] at h2;cases h2
end Go.Proofs.YtjnoobmaedgooaaGreat.Batch
end
section
namespace Go.Av
open Go.Sort Go.Proofs
section
variable{α:Type}[Inhabited α]
theorem ko{α:Type}{enc:α->List Value}{k:Nat}(hk:∀x,(enc x).length=k):∀l:List α,(l.flatMap enc).length=l.length*k
 |[]=>by simp
 |x::l=>by simp[ko hk l,hk,Pz];omega
theorem xw{enc:α->List Value}{k:Nat}(k0:0<k)(hk:∀x,(enc x).length=k):∀(l:List α)(t:Nat),t<l.length*k->(l.flatMap enc)[t]! =(enc (l.toArray[t/k]!))[t%k]!
 |[],t,h=>by simp at h
 |x::l,t,h=>by
  have ih:=xw k0 hk l;by_cases c:t<k
  ·have e1:t/k=0:=Nat.div_eq_of_lt c;have e2:t%k=t:=O7 c;rw[e1,e2,PS];have:t<(enc x).length:=by rw[hk];exact c
   simp[List.getElem!_eq_getElem?_getD,OW this]
  ·have hc:k<=t:=by omega
   have e1:t/k=(t - k)/k+1:=by
    rw[Nat.div_eq t k,Oi ⟨k0,hc⟩]
   have e2:t%k=(t - k)%k:=Nat.mod_eq_sub_mod hc;have hb:t - k<l.length*k:=by simp[Pz] at h;omega
   have:=ih (t - k) hb;rw[e1,e2,PS];have e3:(enc x).length<=t:=by rw[hk];exact hc
   simp only[List.getElem!_eq_getElem?_getD] at this |-;rw[PE e3,hk,this];have e4:∀i,(x::l).toArray[i+1]! =l.toArray[i]! :=λi=>by simp[getElem!_def]
   rw[e4]
theorem BD{enc:α->List Value}{k:Nat}(k0:0<k)(hk:∀x,(enc x).length=k)(l:List α):flatK enc k l.toArray=(l.flatMap enc).toArray:=by
 refine ext_get! (by simp[ko hk]) λt ht=>?_;have ht':t<l.length*k:=by simpa using ht
 rw[get_flatK _ _ _ t (by simpa using ht')];have:=xw k0 hk l t ht';simpa using this.symm
theorem vD{enc:α->List Value}{k:Nat}(k0:0<k)(hk:∀x,(enc x).length=k){w:World}{blk n:Nat}{l l':List α}{os:Array Go.Obj}{rest:List Value}{T:TypeId}{fr:Nat × Nat}(hb:blk<w.heap.size)(hl:l'.length=l.length)
  (hg:w.heap[blk]? =some (.cells (l.flatMap enc++rest).toArray T fr)):
  (sortWorldK enc k w blk 0 n l'.toArray os).heap[blk]? =some (.cells (l'.flatMap enc++rest).toArray T fr)/\(∀b,b<w.heap.size->b≠blk->(sortWorldK enc k w blk 0 n l'.toArray os).heap[b]? =w.heap[b]?)/\w.heap.size<=(sortWorldK enc k w blk 0 n l'.toArray os).heap.size:=by
 have hf:=BD k0 hk l';have e:∀b,b<w.heap.size->(sortWorldK enc k w blk 0 n l'.toArray os).heap[b]? =(w.heap.modify blk (onCells (putCells id 0 (flatK enc k l'.toArray))))[b]? :=λb hb=>by
  simp only[sortWorldK,grow,putRowK,putRow,mapBlock,ahead];rw[Array.getElem?_append_left (by simpa [ahead] using hb)];rfl
 refine ⟨?_,λb hb hne=>?_,by simp[sortWorldK,grow,putRowK,putRow,mapBlock,ahead]⟩
 ·rw[e blk hb,PZ,Oi rfl,hg,Option.map_some,onCells,hf];congr 2;apply Array.ext_getElem?;intro j;have l1:=ko hk l';have l2:=ko hk l;simp only[putCells,Array.getElem?_mapIdx,List.getElem?_toArray,List.size_toArray,Ot,PC,Oo,Nat.sub_zero,id];by_cases c:j<l'.length*k
  ·have a1:j<(l'.flatMap enc).length:=by omega
   have a2:j<(l.flatMap enc).length:=by rw[l2,<-hl];exact c
   rw[OW a1,OW a2,N5 a1,N5 a2,Option.map_some,Oi a1];simp only[List.getElem!_toArray,List.getElem!_eq_getElem?_getD,N5 a1,Option.getD_some]
  ·have a1:(l'.flatMap enc).length<=j:=by omega
   have a2:(l.flatMap enc).length<=j:=by rw[l2,<-hl];omega
   rw[PE a1,PE a2,l1,l2,hl];cases rest[j - l.length*k]? with
   |none=>rfl
   |some v=>rw[Option.map_some,Ob ae]
 ·rw[e b hb,PZ,Ob (λh=>hne h.symm)]
theorem Kz{P:Program}{f g:Nat}{enc:α->List Value}{encA:α->List AV}{k:Nat}(k0:0<k)(hk:∀x,(enc x).length=k)(hkA:∀l:List α,(l.flatMap encA).length=l.length*k)
  (hE:∀(l:List α) G w,aE G w (l.flatMap encA) (l.flatMap enc)) (hD:∀(l:List α) G w vs,aE G w (l.flatMap encA) vs->vs=l.flatMap enc) (h1:∀l:List α,∀v∈l.flatMap enc,One v)
  {lt:α->α->Bool} (l l':List α) (hln:0<l.length) (hll:l'.length=l.length)
  (hu:∀d':Array α,PermIn 0 l.length l.toArray d'->SortedIn lt 0 l.length d'->d'=l'.toArray)
  (hcon:∀(blk cap:Nat)(w:World),HoldsK enc k w blk 0 l.toArray->blk<w.heap.size->Calls P f #[.slice (some ⟨blk,0,none⟩) l.length cap,.func (.func g) #[] #[]] w λe w'=>e= .returned (.tuple #[])/\∃d' n os,PermIn 0 l.length l.toArray d'/\SortedIn lt 0 l.length d'/\w'=sortWorldK enc k w blk 0 n d' os)
  {id:Nat} {h:H} (ho:h.objs id=some (.cells (l.flatMap encA))) (htk:h.toks=[]):
  bB P f [.tsl k id 0 l.length none,.clo (.func g) [] []] h (.tup []) {h with objs:=upd h.objs id (some (.cells (l'.flatMap encA)))}:=by
 intro G w vs hv R F;simp only[aE,aC] at hv;obtain ⟨v1,_,rfl,⟨hd1,hv1⟩,v2,_,rfl,⟨va,vb,rfl,rfl,rfl⟩,rfl⟩:=hv;obtain ⟨C,c,T,fr,rfl,⟨hnC,hc63⟩,-,hg,hroom⟩|⟨hz,-⟩:=hv1;rotate_left
 ·omega
 obtain ⟨-,hown,hB,us,rest,T',fr',hg',hvs,hfr,-⟩:=R.obj id _ ho;have hus:=hD l G w us hvs;subst hus;have hH:HoldsK enc k w (G.ι id) 0 l.toArray:=by
  intro j hj;rw[BD k0 hk] at hj |-;have hj':j<(l.flatMap enc).length:=by simpa using hj
  constructor
  ·unfold World.cell?;simp only[hg',Oo];simp[OW hj',getElem!_def,hj',N5 hj']
  ·unfold World.frozen?;simp only[hg'];have:=hfr;simp;omega
 refine (hcon (G.ι id) C w hH hB).mono λe w' ⟨he,d',n,os,hp,hs,hw⟩=>?_;have hdd:=hu d' hp hs;subst hdd;subst he hw;obtain ⟨w1,w2,w3⟩:=vD k0 hk (n:=n) (os:=os) hB hll hg';obtain ⟨T1,R1⟩:=HQ R ho htk w3 (by rfl) (by rfl) w2 (by rw[hg',w1];exact ⟨_,_,rfl,by simp[ko hk,hll],λ_ _ h=>h⟩) (by rw[hkA,ko hk]) (hE l') (h1 l') w1 hfr;exact ⟨_,G,rfl,T1,R1,by simp[aC,aE]⟩
theorem JT{α:Type}{r:α->α->Prop}(ir:∀x,¬r x x)(tr:∀x y z,r x y->r y z->r x z):∀{a b:List α},a.Pairwise r->b.Pairwise r->(∀x,x∈a↔x∈b)->a=b
 |[],[],_,_,_=>rfl
 |[],y::b,_,_,h=>by have:=(h y).2 ah;simp at this
 |x::a,[],_,_,h=>by have:=(h x).1 ah;simp at this
 |x::a,y::b,ha,hb,h=>by
  have ha':=PA.1 ha;have hb':=PA.1 hb;have hxy:x=y:=by
   rcases OA.1 ((h x).1 ah) with e|hx
   ·exact e
   ·rcases OA.1 ((h y).2 ah) with e|hy
    ·exact e.symm
    ·exact absurd (tr _ _ _ (hb'.1 x hx) (ha'.1 y hy)) (ir _)
  subst hxy;congr 1;refine JT ir tr ha'.2 hb'.2 λp=>⟨λhp=>?_,λhp=>?_⟩
  ·rcases OA.1 ((h p).1 (by simp[hp])) with e|h1
   ·subst e;exact absurd (ha'.1 p hp) (ir _)
   ·exact h1
  ·rcases OA.1 ((h p).2 (by simp[hp])) with e|h1
   ·subst e;exact absurd (hb'.1 p hp) (ir _)
   ·exact h1
theorem zW{α:Type}[Inhabited α]{lt:α->α->Bool}(ir:∀x,lt x x=false)(tr:∀x y z,lt x y=true->lt y z=true->lt x z=true){l l':List α}(tot:∀x∈l,∀y∈l,x=y\/lt x y=true\/lt y x=true)(nd:l.Nodup)
  (hp:l'.Pairwise λx y=>lt x y=true) (hm:∀x,x∈l'↔x∈l) {d':Array α} (h1:PermIn 0 l.length l.toArray d') (h2:SortedIn lt 0 l.length d'):d'=l'.toArray:=by
 obtain ⟨hs,-,hperm⟩:=h1;have hs':d'.size=l.length:=by simpa using hs
 have e1:(d'.extract 0 l.length)=d':=by rw[<-hs'];simp
 have e2:(l.toArray.extract 0 l.length)=l.toArray:=by simp
 rw[e1,e2] at hperm;have hperm:d'.toList.Perm l:=by simpa using hperm
 have nd':d'.toList.Nodup:=hperm.nodup_iff.2 nd;have pw:d'.toList.Pairwise λx y=>lt x y=true:=by
  rw[PV];intro i j hi hj hij;have hi':i<d'.size:=by simpa using hi
  have hj':j<d'.size:=by simpa using hj
  have:=h2 i j (Ot _) hij ae;rw[getElem!_pos d' i hi',getElem!_pos d' j hj'] at this;have m1:d'[i]∈l:=hperm.mem_iff.1 ah;have m2:d'[j]∈l:=hperm.mem_iff.1 ah;rcases tot _ m1 _ m2 with e|e|e
  ·have:=(List.nodup_iff_pairwise_ne.1 nd');have:=PV.1 this i j hi hj hij;exact absurd (by simpa using e) this
  ·simpa using e
  ·rw[this] at e;cases e
 have:=JT (r:=λx y=>lt x y=true) (λx=>by rw[ir];simp) tr pw hp λx=>by rw[hperm.mem_iff,hm]
 rw[<-this]
end
end Go.Av
end
section
set_option maxRecDepth 100000
namespace Go.Proofs.YtjnoobmaedgooaaGreat.Batch
open Go Go.Proofs Go.Lib Go.RowKit Go.Shelf Go.Sort Go.Av
def encA(p:Pr):List AV:=[.str p.k,.str p.v]
theorem FD(p:Pr)(G:aT)(w:World):aE G w (encA p) (tC p):=by
 simp[encA,tC,aE,aC]
theorem xz:∀(l:List Pr)(G:aT)(w:World),aE G w (l.flatMap encA) (l.flatMap tC)
 |[],G,w=>by simp[aE]
 |p::l,G,w=>by
  have:=xz l G w;simp only[PS];exact (FD p G w).append this
theorem BE:∀(l:List Pr)(G:aT)(w:World)(vs:List Value),aE G w (l.flatMap encA) vs->vs=l.flatMap tC
 |[],G,w,vs,h=>by simpa [aE] using h
 |p::l,G,w,vs,h=>by
  simp only[PS,encA,List.cons_append,List.nil_append,aE,aC] at h;obtain ⟨v,us,rfl,rfl,v',us',rfl,rfl,h⟩:=h;rw[BE l G w us' h];rfl
theorem FE(l:List Pr):∀v∈l.flatMap tC,One v:=by
 intro v hv;obtain ⟨p,-,hp⟩:=QT.1 hv;simp only[tC,OA,List.not_mem_nil,or_false] at hp;rcases hp with rfl|rfl<;>exact ⟨(λ_ e=>by cases e),(λ_ e=>by cases e)⟩
theorem xA(l:List Pr):(l.flatMap encA).length=l.length*2:=by
 induction l with
 |nil=>rfl
 |cons p l ih=>simp only[PS,Og,ih,encA,List.length_cons,List.length_nil];omega
theorem KA(l l':List Pr)(h0:0<l.length)(hl:l.length<4611686018427387904)(hll:l'.length=l.length)
  (tot:∀x∈l,∀y∈l,x=y\/Op.bytesLess x.k y.k=true\/Op.bytesLess y.k x.k=true) (nd:l.Nodup) (hp:l'.Pairwise λx y=>Op.bytesLess x.k y.k=true) (hm:∀x,x∈l'↔x∈l)
  {id:Nat} {h:H} (ho:h.objs id=some (.cells (l.flatMap encA))) (htk:h.toks=[]):
  bB Tryz.prog 45 [.tsl 2 id 0 l.length none,.clo (.func 46) [] []] h (.tup []) {h with objs:=upd h.objs id (some (.cells (l'.flatMap encA)))}:=by
 have eg:∀args w,(callFunc 46 args).run Tryz.prog w= .ok (.enter 46 args) w:=enters_of Tryz.func46 (by kernel_rfl) rfl;have hlt:ltOf cfP=λx y=>Op.bytesLess x.k y.k:=by funext x y;exact uw x y
 refine Kz (enc:=tC) (encA:=encA) (lt:=ltOf cfP) ae (λ_=>rfl) xA xz BE FE l l' h0 hll (λd' h1 h2=>?_) (λblk cap w hH hb=>?_) ho htk
 ·refine zW (lt:=ltOf cfP) zU.irrefl zU.trans (λx hx y hy=>?_) nd ?_ hm h1 h2
  ·rw[uw,uw];exact tot x hx y hy
  ·rw[hlt];exact hp
 ·have:=AnyQ.slices_SortFunc DB 2 Tryz.isAgg50 Tryz.sizeOf50 tC (λ_=>rfl) (λx v hv=>by simp[tC] at hv;rcases hv with rfl|rfl<;>rfl) cfP zU 46 #[] blk 0 cap l.toArray w eg (FC blk 0 l.toArray.size w) hH hb (by simpa using hl);exact this
end Go.Proofs.YtjnoobmaedgooaaGreat.Batch
end
section
set_option maxRecDepth 10000
namespace Go.Proofs.YtjnoobmaedgooaaGreat.C
open Go.Av
def zY:AC:=(.seq (.reg [⟨some 2,none,.mov (.c (.sl 3 [] (.exact 0)))⟩,⟨some 3,none,.mov (.c (.int .i64 4))⟩] none)
 .ret)
def sq:AC:=(.seq (.seq (.reg [⟨some 58,none,.mov (.t 6)⟩,⟨some 59,none,.mov (.t 0)⟩,⟨some 60,none,.len true (.t 59)⟩,⟨some 61,none,.bin .eql (.t 58) (.t 60)⟩] none)
 (.cond (.t 61) (.goto 3) .skip))
 (.seq (.reg [⟨some 62,none,.mov (.t 6)⟩,⟨some 63,none,.bin .add (.t 62) (.c (.int .i64 1))⟩,⟨some 6,none,.mov (.t 63)⟩] none)
 (.seq (.seq (.reg [⟨some 64,none,.mov (.t 0)⟩,⟨some 65,none,.mov (.t 6)⟩,⟨some 66,none,.bin .sub (.t 65) (.c (.int .i64 1))⟩,⟨some 67,none,.idx (.t 64) (.t 66)⟩,⟨some 68,none,.bin .neq (.t 67) (.c (.int .u8 0))⟩] none)
 (.cond (.t 68) (.seq (.reg [⟨some 69,none,.mov (.t 5)⟩,⟨some 70,none,.mov (.t 0)⟩,⟨some 71,none,.mov (.t 6)⟩,⟨some 72,none,.bin .sub (.t 71) (.c (.int .i64 1))⟩,⟨some 73,none,.idx (.t 70) (.t 72)⟩,⟨some 74,none,.buildSl 1 [(.t 73)]⟩,⟨some 75,none,.app false 1 1 (.t 69) (.t 74)⟩,⟨some 5,none,.mov (.t 75)⟩] none)
 (.goto 1)) .skip))
 (.seq (.seq (.reg [⟨some 76,none,.mov (.t 6)⟩,⟨some 77,none,.mov (.t 0)⟩,⟨some 78,none,.len true (.t 77)⟩,⟨some 79,none,.bin .eql (.t 76) (.t 78)⟩] none)
 (.cond (.t 79) (.goto 3) .skip))
 (.seq (.reg [⟨some 80,none,.mov (.t 6)⟩,⟨some 81,none,.bin .add (.t 80) (.c (.int .i64 1))⟩,⟨some 6,none,.mov (.t 81)⟩] none)
 (.seq (.seq (.reg [⟨some 82,none,.mov (.t 0)⟩,⟨some 83,none,.mov (.t 6)⟩,⟨some 84,none,.bin .sub (.t 83) (.c (.int .i64 1))⟩,⟨some 85,none,.idx (.t 82) (.t 84)⟩] none)
 (.block 1 (.seq (.reg [⟨some 87,none,.bin .eql (.t 85) (.c (.int .u8 255))⟩,⟨some 86,none,.mov (.t 87)⟩] none)
 (.cond (.t 86) (.seq (.reg [⟨some 88,none,.mov (.t 5)⟩,⟨some 89,none,.buildSl 1 [(.c (.int .u8 0))]⟩,⟨some 90,none,.app false 1 1 (.t 88) (.t 89)⟩,⟨some 5,none,.mov (.t 90)⟩] none)
 (.goto 1)) (.seq (.reg [⟨some 92,none,.bin .eql (.t 85) (.c (.int .u8 1))⟩,⟨some 91,none,.mov (.t 92)⟩] none)
 (.cond (.t 91) (.seq (.reg [⟨some 93,none,.mov (.t 4)⟩,⟨some 94,none,.mov (.t 5)⟩,⟨some 95,none,.conv .b2s (.t 94)⟩,⟨some 96,none,.build [.int .i64 0,.int .i64 0,.str []] [(0,1,(.c (.int .i64 1))),(2,1,(.t 95))]⟩,⟨some 97,none,.buildSl 3 [(.t 96)]⟩,⟨some 98,none,.app false 3 32 (.t 93) (.t 97)⟩,⟨some 4,none,.mov (.t 98)⟩] none)
 (.goto 0)) .skip))))))
 (.seq (.label 3)
 zY)))))))
def vE:AC:=(.seq (.seq (.reg [⟨some 26,none,.mov (.t 0)⟩,⟨some 27,none,.len true (.t 26)⟩,⟨some 28,none,.mov (.t 6)⟩,⟨some 29,none,.bin .sub (.t 27) (.t 28)⟩,⟨some 30,none,.bin .lss (.t 29) (.c (.int .i64 8))⟩] none)
 (.cond (.t 30) (.goto 3) .skip))
 (.seq (.seq (.reg [⟨some 31,none,.mov (.t 0)⟩,⟨some 32,none,.mov (.t 6)⟩,⟨some 33,none,.bin .sub (.t 32) (.c (.int .i64 1))⟩,⟨some 34,none,.idx (.t 31) (.t 33)⟩,⟨some 35,none,.bin .eql (.t 34) (.c (.int .u8 3))⟩] none)
 (.cond (.t 35) (.reg [⟨some 36,none,.mov (.t 4)⟩,⟨some 37,none,.mov (.t 0)⟩,⟨some 38,none,.mov (.t 6)⟩,⟨some 39,none,.mov (.t 6)⟩,⟨some 40,none,.bin .add (.t 39) (.c (.int .i64 8))⟩,⟨some 41,none,.slc true 0 (.t 37) (some (.t 38)) (some (.t 40)) none⟩,⟨some 42,none,.call 199 [(.t 41),(.c (.int .u8 0))]⟩,⟨some 43,none,.build [.int .i64 0,.int .i64 0,.str []] [(0,1,(.c (.int .i64 2))),(1,1,(.t 42))]⟩,⟨some 44,none,.buildSl 3 [(.t 43)]⟩,⟨some 45,none,.app false 3 32 (.t 36) (.t 44)⟩,⟨some 4,none,.mov (.t 45)⟩] none) (.reg [⟨some 46,none,.mov (.t 4)⟩,⟨some 47,none,.mov (.t 0)⟩,⟨some 48,none,.mov (.t 6)⟩,⟨some 49,none,.mov (.t 6)⟩,⟨some 50,none,.bin .add (.t 49) (.c (.int .i64 8))⟩,⟨some 51,none,.slc true 0 (.t 47) (some (.t 48)) (some (.t 50)) none⟩,⟨some 52,none,.call 199 [(.t 51),(.c (.int .u8 255))]⟩,⟨some 53,none,.build [.int .i64 0,.int .i64 0,.str []] [(0,1,(.c (.int .i64 3))),(1,1,(.t 52))]⟩,⟨some 54,none,.buildSl 3 [(.t 53)]⟩,⟨some 55,none,.app false 3 32 (.t 46) (.t 54)⟩,⟨some 4,none,.mov (.t 55)⟩] none)))
 (.seq (.reg [⟨some 56,none,.mov (.t 6)⟩,⟨some 57,none,.bin .add (.t 56) (.c (.int .i64 8))⟩,⟨some 6,none,.mov (.t 57)⟩] none)
 (.seq (.goto 0)
 (.seq (.label 1)
 sq)))))
def nO:AC:=(.seq (.seq (.reg [⟨some 10,none,.mov (.t 6)⟩,⟨some 11,none,.mov (.t 0)⟩,⟨some 12,none,.len true (.t 11)⟩,⟨some 13,none,.bin .eql (.t 10) (.t 12)⟩] none)
 (.cond (.t 13) (.seq (.reg [⟨some 14,none,.mov (.t 4)⟩,⟨some 2,none,.mov (.t 14)⟩,⟨some 3,none,.mov (.c (.int .i64 0))⟩] none)
 .ret) .skip))
 (.seq (.reg [⟨some 15,none,.mov (.t 6)⟩,⟨some 16,none,.bin .add (.t 15) (.c (.int .i64 1))⟩,⟨some 6,none,.mov (.t 16)⟩] none)
 (.seq (.seq (.reg [⟨some 17,none,.mov (.t 0)⟩,⟨some 18,none,.mov (.t 6)⟩,⟨some 19,none,.bin .sub (.t 18) (.c (.int .i64 1))⟩,⟨some 20,none,.idx (.t 17) (.t 19)⟩] none)
 (.block 0 (.seq (.reg [⟨some 22,none,.bin .eql (.t 20) (.c (.int .u8 2))⟩,⟨some 21,none,.mov (.t 22)⟩] none)
 (.cond (.t 21) (.seq (.reg [⟨some 5,none,.mov (.c (.sl 1 [] (.exact 0)))⟩] none)
 (.goto 1)) (.seq (.seq (.reg [⟨some 24,none,.bin .eql (.t 20) (.c (.int .u8 3))⟩,⟨some 23,none,.mov (.t 24)⟩] none)
 (.cond (.t 23) .skip (.reg [⟨some 25,none,.bin .eql (.t 20) (.c (.int .u8 4))⟩,⟨some 23,none,.mov (.t 25)⟩] none)))
 (.cond (.t 23) (.goto 2) .skip))))))
 (.seq (.goto 3)
 (.seq (.label 2)
 vE)))))
def oM:AC:=(.seq (.reg [⟨some 4,none,.mov (.c (.sl 3 [] (.exact 0)))⟩] none)
 (.seq (.reg [⟨some 5,none,.mov (.c (.sl 1 [] (.exact 0)))⟩] none)
 (.seq (.reg [⟨some 6,none,.mov (.c (.int .i64 0))⟩] none)
 (.seq (.seq (.reg [⟨some 7,none,.mov (.t 0)⟩,⟨some 8,none,.len true (.t 7)⟩,⟨some 9,none,.bin .gtr (.t 8) (.c (.int .i64 128))⟩] none)
 (.cond (.t 9) (.seq (.reg [⟨some 2,none,.mov (.c (.sl 3 [] (.exact 0)))⟩,⟨some 3,none,.mov (.c (.int .i64 5))⟩] none)
 .ret) .skip))
 (.seq (.label 0)
 nO)))))
theorem Ii:L2=(.seq (.reg [⟨some 2,none,.mov (.c (.sl 3 [] (.exact 0)))⟩,⟨some 3,none,.mov (.c (.int .i64 0))⟩] none)
 (.scope oM)):=rfl
theorem nP:fB oM 0=some (.seq .skip nO):=rfl
theorem sr:fB oM 2=some (.seq .skip vE):=rfl
theorem nQ:fB oM 1=some (.seq .skip sq):=rfl
theorem zZ:fB oM 3=some (.seq .skip zY):=rfl
end Go.Proofs.YtjnoobmaedgooaaGreat.C
end
section
set_option maxRecDepth 100000
namespace Go.Proofs.YtjnoobmaedgooaaGreat.Arch
open Go Go.Av Go.Proofs Go.Proofs.YtjnoobmaedgooaaGreat.C Go.Proofs.YtjnoobmaedgooaaGreat.Desk Go.Proofs.YtjnoobmaedgooaaGreat.Batch
theorem wrap32{n:Nat}(h:n<4294967296):IntKind.u32.wrap (n:Int)=n:=by
 simp[IntKind.wrap,IntKind.bits,IntKind.signed];omega
theorem ofInt32{n:Nat}(h:n<4294967296):(BitVec.ofInt IntKind.u32.bits (n:Int)).toNat=n:=by
 rw[BitVec.ofInt_natCast,QU];exact O7 h
theorem su{a b:Nat}(ha:a<4294967296)(hb:b<4294967296):lK .u32 (a:Int) (b:Int)=((a ^^^ b:Nat):Int):=by
 unfold lK;rw[BitVec.toNat_xor,ofInt32 ha,ofInt32 hb];exact wrap32 (Qs (n:=32) ha hb)
theorem M3{a b:Nat}(ha:a<4294967296)(hb:b<4294967296):nZ .u32 (a:Int) (b:Int)=((a &&& b:Nat):Int):=by
 unfold nZ;rw[BitVec.toNat_and,ofInt32 ha,ofInt32 hb];exact wrap32 (Nat.and_lt_two_pow (n:=32) a hb)
theorem M4{a:Nat}(ha:a<4294967296):nZ .u32 (a:Int) 1=((a%2:Nat):Int):=by
 rw[show (1:Int)=((1:Nat):Int) from rfl,M3 ha aq,Nat.and_one_is_mod]
def xB(c:Nat):Nat:=if c%2=1 then (c/2) ^^^ 2197175160 else c/2
def itN:Nat->Nat->Nat
 |0,c=>c
 |k+1,c=>xB (itN k c)
theorem Ij{c:Nat}(h:c<4294967296):xB c<4294967296:=by
 unfold xB;split
 ·exact Qs (n:=32) ae aq
 ·omega
theorem vF{c:Nat}(h:c<4294967296):∀k,itN k c<4294967296
 |0=>h
 |k+1=>Ij (vF h k)
def BF(c:Nat)(b:UInt8):Nat:=itN 8 (c ^^^ b.toNat)
theorem FF{c:Nat}(h:c<4294967296)(b:UInt8):BF c b<4294967296:=by
 refine vF (Qs (n:=32) h ?_) 8;have:=b.toNat_lt;omega
def goN(l:List UInt8):Nat:=l.foldl BF 4294967295
theorem xC:∀(l:List UInt8)(c:Nat),c<4294967296->l.foldl BF c<4294967296
 |[],c,h=>h
 |b::l,c,h=>xC l _ (FF h b)
theorem sv(l:List UInt8):goN l<4294967296:=xC l _ aq
theorem xD(l:List UInt8)(b:UInt8):goN (l++[b])=BF (goN l) b:=by simp[goN,List.foldl_append]
def jQ(l:List UInt8):Nat:=goN l ^^^ 4294967295
theorem vG(l:List UInt8):jQ l<4294967296:=Qs (n:=32) (sv l) aq
theorem M5(c:Nat):(c:Int).fdiv (2^(min (Int.toNat 1) 32))=((c/2:Nat):Int):=by
 rw[show (min (Int.toNat 1) 32)=1 from rfl,show (2:Int)^1=2 from rfl,Int.fdiv_eq_ediv_of_nonneg _ aq];rfl
theorem NS:IntKind.u32.wrap (0 - ((0:Nat):Int))=0:=by decide
theorem NT:IntKind.u32.wrap (0 - ((1:Nat):Int))=4294967295:=by decide
theorem M6{c:Nat}(h:c<4294967296):IntKind.i64.wrap (lK .u32 (if IntKind.u32.signed=true then -1 else IntKind.u32.max) (c:Int))=((c ^^^ 4294967295:Nat):Int):=by
 rw[show (if IntKind.u32.signed=true then (-1:Int) else IntKind.u32.max)=((4294967295:Nat):Int) from rfl,su aq h,Nat.xor_comm];have:=Qs (n:=32) h (show 4294967295<2^32 by decide);exact IntWalk.i64_in _ ae
theorem iT{l:List UInt8}{j:Nat}(h:j<l.length)(d:UInt8):l.take (j+1)=l.take j++[l.getD j d]:=by
 rw[List.take_add_one,List.getD,N5 h];simp
theorem FG(b:UInt8):IntKind.u32.wrap (b.toNat:Int)=(b.toNat:Int):=wrap32 (by have:=b.toNat_lt;omega)
theorem Ik(c:Nat)(h:c<4294967296):lK .u32 ((c/2:Nat):Int) (nZ .u32 2197175160 (IntKind.u32.wrap (0 - ((c%2:Nat):Int))))=((xB c:Nat):Int):=by
 have h2:c/2<4294967296:=by omega
 unfold xB;rcases Nat.mod_two_eq_zero_or_one c with e|e
 ·rw[e,NS,show (nZ .u32 2197175160 0)=((0:Nat):Int) by decide,su h2 aq,Ob aq,Nat.xor_zero]
 ·rw[e,NT,show (nZ .u32 2197175160 4294967295)=((2197175160:Nat):Int) by decide,su h2 aq,Oi rfl]
theorem JU(l:List UInt8)(hl:l.length<=4611686018427387904):aI Tryz.prog 42 [.sl 1 (aD l) .any] (.int .i64 (jQ l:Nat)):=by
 refine f42.aF ah (by
  have:aJ (aD l)=true:=Av.bG (λa=>rfl) l;simp[aJ,aW,bA,this]) rfl ?_
 unfold c42 zz;have hil:(aD l).length=l.length:=by simp[aD]
 refine rf0 hil ?_;refine Wp.dJ [6,7] xA6 (λj:Nat=>[(3,.int .u32 (goN (l.take j):Nat)),(8,.int .i64 (j:Nat))]) (λj=>j<=l.length) (λj=>l.length - j) 0 (Ot _) ?_ ?_
 ·exact xSb
 intro j hj;by_cases hcj:j<l.length
 ·have d1:decide ((j:Int)<(l.length:Int))=true:=N9 ae;have h2:(0:Int)<=(j:Int):=PM _;have h3:(j:Int)<(l.length:Int):=by omega
  have e1:IntKind.i64.wrap ((j:Int)+1)=((j+1:Nat):Int):=by rw[IntWalk.i64_in _ ae];omega
  have hat:∀d,(aD l).getD j d=byte (l.getD j 0):=λd=>jg l j d hcj;have hsn:=iT hcj 0;generalize hx:l.getD j 0=x at hat hsn;have hlt:=sv (l.take j);have hx8:x.toNat<4294967296:=by have:=x.toNat_lt;omega
  have hxor:=su hlt hx8;have hc0:goN (l.take j) ^^^ x.toNat<4294967296:=Qs (n:=32) hlt hx8;have hwx:=FG x;refine rf0 (iw hil d1 h2 h3 @N7 @Ol hat @byte.eq_1 hxor hwx) ?_;refine Wp.dJ [6,7,8] xA6 (λk:Nat=>[(3,.int .u32 (itN k (goN (l.take j) ^^^ x.toNat):Nat)),(16,.int .i64 (k:Nat))]) (λk=>k<=8) (λk=>8 - k) 0 (Ot _) ?_ ?_
  ·exact xSb
  intro k hk;by_cases hk8:k<8
  ·have d2:decide ((k:Int)<8)=true:=N9 ae;have e2:IntKind.i64.wrap ((k:Int)+1)=((k+1:Nat):Int):=by rw[IntWalk.i64_in _ ae];omega
   have hit:=vF hc0 k;have hb:=Ik _ hit;have ha:=M4 hit;have hs1:=M5 (itN k (goN (l.take j) ^^^ x.toNat));refine rf0 (cj5 d2 e2 hs1 ha hb) ?_;refine ⟨k+1,ae,ae,?_⟩;exact xSu
  ·obtain rfl:k=8:=by omega
   refine rf0 e1 ?_;refine ⟨j+1,ae,ae,?_⟩;refine aM.tm (by simp only[aQ,go_sem,reduceIte,Nat.reduceEqDiff,Nat.reduceAdd,bx];and_intros<;>first|exact trivial|exact ay.refl _|exact ay.any _|exact ay.of_eq (by rw[hsn,xD];rfl)|(refine ay.int ?_;omega))
 ·obtain rfl:j=l.length:=by omega
  have d1:decide ((l.length:Int)<(l.length:Int))=false:=N6 ae;refine rf0 d1 ?_;refine aG ?_;exact ay.of_eq (by rw[OG,M6 (sv l)];rfl)
theorem NU{c:Nat}(h:c<4294967296):IntKind.i64.wrap (lK .u32 (c:Int) 4294967295)=((c ^^^ 4294967295:Nat):Int):=by
 rw[show (4294967295:Int)=((4294967295:Nat):Int) from rfl,su h aq];have:=Qs (n:=32) h (show 4294967295<2^32 by decide);exact IntWalk.i64_in _ ae
theorem KB(l:List UInt8)(hl:l.length<=4611686018427387904):aI Tryz.prog 90 [.str l] (.int .i64 (jQ l:Nat)):=by
 refine f90.aF ah rfl rfl ?_;unfold c90 zz;refine dI ?_;refine Wp.dJ [0] xA6 (λj:Nat=>[(3,.int .u32 (goN (l.take j):Nat)),(4,.int .i64 (j:Nat))]) (λj=>j<=l.length) (λj=>l.length - j) 0 (Ot _) ?_ ?_
 ·exact xSb
 intro j hj;by_cases hcj:j<l.length
 ·have d1:decide ((j:Int)<(l.length:Int))=true:=N9 ae;have h2:(0:Int)<=(j:Int):=PM _;have h3:(j:Int)<(l.length:Int):=by omega
  have e1:IntKind.i64.wrap ((j:Int)+1)=((j+1:Nat):Int):=by rw[IntWalk.i64_in _ ae];omega
  have hsn:=iT hcj 0;generalize hx:l.getD j 0=x at hsn;have hlt:=sv (l.take j);have hx8:x.toNat<4294967296:=by have:=x.toNat_lt;omega
  have hxor:=su hlt hx8;have hc0:goN (l.take j) ^^^ x.toNat<4294967296:=Qs (n:=32) hlt hx8;have hwx:=FG x;refine rf0 (cj9 d1 h2 h3 @N7 @Ol hx @byte.eq_1 hxor hwx) ?_;refine Wp.dJ [0,4] xA6 (λk:Nat=>[(3,.int .u32 (itN k (goN (l.take j) ^^^ x.toNat):Nat)),(5,.int .i64 (k:Nat))]) (λk=>k<=8) (λk=>8 - k) 0 (Ot _) ?_ ?_
  ·exact xSb
  intro k hk;by_cases hk8:k<8
  ·have d2:decide ((k:Int)<8)=true:=N9 ae;have e2:IntKind.i64.wrap ((k:Int)+1)=((k+1:Nat):Int):=by rw[IntWalk.i64_in _ ae];omega
   have hit:=vF hc0 k;have ha:=M4 hit;have hs1:=M5 (itN k (goN (l.take j) ^^^ x.toNat));have hst:itN (k+1) (goN (l.take j) ^^^ x.toNat)=xB (itN k (goN (l.take j) ^^^ x.toNat)):=rfl;generalize itN k (goN (l.take j) ^^^ x.toNat)=c at hit ha hs1 hst;have hc2:c/2<4294967296:=by omega
   rcases Nat.mod_two_eq_zero_or_one c with e|e
   ·have d3:decide (((0:Nat):Int)=1)=false:=by decide
    rw[e] at ha;refine rf0 (cj5 d2 e2 hs1 ha d3) ?_;refine ⟨k+1,ae,ae,?_⟩;refine aM.tm (by simp only[aQ,go_sem,reduceIte,Nat.reduceEqDiff,Nat.reduceAdd,bx];and_intros<;>first|exact trivial|exact ay.refl _|exact ay.any _|exact ay.of_eq (by rw[hst,xB,e,Ob aq])|(refine ay.int ?_;omega))
   ·have d3:decide (((1:Nat):Int)=1)=true:=by decide
    have hx2:lK .u32 ((c/2:Nat):Int) 2197175160=(((c/2) ^^^ 2197175160:Nat):Int):=su (b:=2197175160) hc2 aq;rw[e] at ha;refine rf0 (cj6 d2 e2 hs1 ha d3 hx2) ?_;refine ⟨k+1,ae,ae,?_⟩;refine aM.tm (by simp only[aQ,go_sem,reduceIte,Nat.reduceEqDiff,Nat.reduceAdd,bx];and_intros<;>first|exact trivial|exact ay.refl _|exact ay.any _|exact ay.of_eq (by rw[hst,xB,Oi e])|(refine ay.int ?_;omega))
  ·obtain rfl:k=8:=by omega
   refine rf0 e1 ?_;refine ⟨j+1,ae,ae,?_⟩;refine aM.tm (by simp only[aQ,go_sem,reduceIte,Nat.reduceEqDiff,Nat.reduceAdd,bx];and_intros<;>first|exact trivial|exact ay.refl _|exact ay.any _|exact ay.of_eq (by rw[hsn,xD];rfl)|(refine ay.int ?_;omega))
 ·obtain rfl:j=l.length:=by omega
  have d1:decide ((l.length:Int)<(l.length:Int))=false:=N6 ae;refine rf0 d1 ?_;refine aG ?_;exact ay.of_eq (by rw[OG,NU (sv l)];rfl)
theorem KC(n:Int):(n.tmod 1048573+1048573).tmod 1048573=n%1048573/\ -1048573<n.tmod 1048573/\n.tmod 1048573<1048573:=by
 rcases Int.le_total 0 n with h|h
 ·have e:n.tmod 1048573=n%1048573:=Int.tmod_eq_emod_of_nonneg h;have h1:=Int.emod_nonneg n (show (1048573:Int)≠0 by decide);have h2:=Int.emod_lt_of_pos n (show (0:Int)<1048573 by decide);rw[e,Int.tmod_eq_emod_of_nonneg ae];omega
 ·have e:n.tmod 1048573= -((-n)%1048573):=by
   rw[<-Int.tmod_eq_emod_of_nonneg (show 0<= -n by omega),Int.neg_tmod,Int.neg_neg]
  have h1:=Int.emod_nonneg (-n) (show (1048573:Int)≠0 by decide);have h2:=Int.emod_lt_of_pos (-n) (show (0:Int)<1048573 by decide);rw[e,Int.tmod_eq_emod_of_nonneg ae];omega
theorem qQ(n:Int)(h: -1152921504606846976<=n/\n<=1152921504606846976):aI Tryz.prog 198 [.int .i64 n] (.int .i64 (n%1048573)):=by
 refine f198.aF ah rfl rfl ?_;unfold Mk zz;obtain ⟨e1,e2,e3⟩:=KC n;have hw:IntKind.i64.wrap (n.tmod 1048573+1048573)=n.tmod 1048573+1048573:=IntWalk.i64_in _ ae;refine rf0 (cj2 hw e1) ?_;refine aG ?_;exact ay.of_eq (by rw[hw,e1])
theorem Il(a b:Nat)(ha:a<1048573)(hb:b<1048573):aI Tryz.prog 197 [.agg [.int .i64 a,.int .i64 b]] (.agg [.int .i64 ((3*a - 2*b:Int)%1048573),.int .i64 ((2*a+3*b:Int)%1048573)]):=by
 refine f197.aF ah rfl rfl ?_;unfold Mj zz;have w1:IntKind.i64.wrap (3*(a:Int))=3*a:=IntWalk.i64_in _ ae;have w2:IntKind.i64.wrap (2*(b:Int))=2*b:=IntWalk.i64_in _ ae;have w3:IntKind.i64.wrap (3*(a:Int) - 2*b)=3*a - 2*b:=IntWalk.i64_in _ ae;have w4:IntKind.i64.wrap (2*(a:Int))=2*a:=IntWalk.i64_in _ ae;have w5:IntKind.i64.wrap (3*(b:Int))=3*b:=IntWalk.i64_in _ ae;have w6:IntKind.i64.wrap (2*(a:Int)+3*b)=2*a+3*b:=IntWalk.i64_in _ ae;have h1:=qQ (3*a - 2*b) ae;have h2:=qQ (2*a+3*b) ae;refine rn2 (iw w1 w2 w3 w4 w5 w6 @List.all_cons.{0} @List.all_nil.{0} @N8.{0} @Oa.{0}) h1 h2 ?_;refine aG ?_;exact ay.refl _
theorem step_eq(a b c:Nat)(ha:a<1048573)(hb:b<1048573)(hc:c<256):
  (((3*a - 2*b:Int)%1048573+c+1)%1048573=((Fl.gZ (a,b) c).1:Nat))/\(((2*a+3*b:Int)%1048573+256 - c)%1048573=((Fl.gZ (a,b) c).2:Nat)):=by
 unfold Fl.gZ;simp only;have hl:((Fl.ix (Fl.reS a b) (Fl.reN a b):Nat):Int)=(3*a - 2*b:Int)%1048573:=by
  unfold Fl.ix Fl.reS Fl.reN;by_cases h:(3*a:Int) - 2*b<0
  ·rw[Oi (N9 h)];split<;>omega
  ·rw[Ob (by rw[N6 h];simp)];omega
 rw[<-hl];constructor<;>omega
theorem DD(l:List UInt8)(b:UInt8):Fl.iO (l++[b])=Fl.gZ (Fl.iO l) b.toNat:=by simp[Fl.iO,List.foldl_append]
def tgH(t:Nat × Nat):H:=⟨upd (upd aB 0 (some (.cells [.int .i64 0,.int .i64 0]))) 1 (some (.cells [.int .i64 (t.1:Nat),.int .i64 (t.2:Nat)])),2,[],0⟩
theorem M7(l:List UInt8)(hl:l.length<=4611686018427387904):aI Tryz.prog 153 [.str l] (.agg [.int .i64 ((Fl.iO l).1:Nat),.int .i64 ((Fl.iO l).2:Nat)]):=by
 refine f153.aF ah rfl rfl ?_;unfold L0 zz;refine rW ?_;refine Wp.cO [0,2,3] xA7 (λj:Nat=>[(4,.int .i64 (j:Nat))]) (λj=>tgH (Fl.iO (l.take j))) (λj=>j<=l.length) (λj=>l.length - j) 0 (Ot _) rfl ?_ ?_
 ·exact xSb
 intro j hj;simp only[tgH];by_cases hcj:j<l.length
 ·have d1:decide ((j:Int)<(l.length:Int))=true:=N9 ae;have h2:(0:Int)<=(j:Int):=PM _;have h3:(j:Int)<(l.length:Int):=by omega
  have e1:IntKind.i64.wrap ((j:Int)+1)=((j+1:Nat):Int):=by rw[IntWalk.i64_in _ ae];omega
  have hsn:=iT hcj 0;generalize hx:l.getD j 0=x at hsn;obtain ⟨ha,hb⟩:=Fl.vA (l.take j);have hst:Fl.iO (l.take (j+1))=Fl.gZ (Fl.iO (l.take j)) x.toNat:=by rw[hsn,DD]
  generalize Fl.iO (l.take j)=t at ha hb hst;obtain ⟨a,b⟩:=t;simp only at ha hb;have hc:x.toNat<256:=x.toNat_lt;obtain ⟨s1,s2⟩:=step_eq a b x.toNat ha hb hc;have ht:=Il a b ha hb;have q1:=Int.emod_nonneg (3*a - 2*b:Int) (show (1048573:Int)≠0 by decide);have q2:=Int.emod_lt_of_pos (3*a - 2*b:Int) (show (0:Int)<1048573 by decide);have q3:=Int.emod_nonneg (2*a+3*b:Int) (show (1048573:Int)≠0 by decide);have q4:=Int.emod_lt_of_pos (2*a+3*b:Int) (show (0:Int)<1048573 by decide);generalize (3*a - 2*b:Int)%1048573=u at*
  generalize (2*a+3*b:Int)%1048573=v at*
  have wx:IntKind.i64.wrap (x.toNat:Int)=(x.toNat:Int):=IntWalk.i64_in _ ae;have w1:IntKind.i64.wrap (u+(x.toNat:Int))=u+x.toNat:=IntWalk.i64_in _ ae;have w2:IntKind.i64.wrap (u+(x.toNat:Int)+1)=u+x.toNat+1:=IntWalk.i64_in _ ae;have w3:IntKind.i64.wrap (v+256)=v+256:=IntWalk.i64_in _ ae;have w4:IntKind.i64.wrap (v+256 - (x.toNat:Int))=v+256 - x.toNat:=IntWalk.i64_in _ ae;have g1:=qQ (u+x.toNat+1) ae;have g2:=qQ (v+256 - x.toNat) ae;rw[s1] at g1;rw[s2] at g2;refine rn3 (bf d1 h2 h3 @N7 @Ol hx @byte.eq_1 wx w1 w2 w3 (cj6 w4 e1 @List.all_cons.{0} @List.all_nil.{0} @N8.{0} @Oa.{0})) ht g1 g2 ?_;refine ⟨j+1,ae,ae,?_⟩;rw[hst];refine aM.of (aY ?_) (λi o h=>⟨o,?_,cm.refl _⟩) (λ_ h=>h) (N4 _) (N4 _)
  ·exact xSb
  ·simp only[upd,aB] at h |-;by_cases i1:i=1
   ·simpa [i1] using h
   ·simpa [i1] using h
 ·obtain rfl:j=l.length:=by omega
  have d1:decide ((l.length:Int)<(l.length:Int))=false:=N6 ae;rw[OG];refine rn0 d1 ?_;refine aG ?_;exact ay.refl _
theorem ux(s:List UInt8):aI Tryz.prog 152 [.str s] (.int .i64 (cf s)):=by
 by_cases h0:(s.length:Int)<1
 ·have:s=[]:=by cases s with|nil=>rfl|cons a l=>simp at h0;omega
  subst this;refine f152.aF ah rfl rfl ?_;unfold HZ zz;refine dI ?_;refine aG ?_;exact ay.refl _
 have d0:=N6 h0;have hne:s≠[]:=by rintro rfl;exact h0 aq
 cases d1:decide (32<(s.length:Int)) with
 |true=>
  have:cf s=15:=Ob λh=>by have:=Ox d1;omega
  rw[this];refine f152.aF ah rfl rfl ?_;unfold HZ zz;refine rf0 (cj2 d0 d1) ?_;refine aG ?_;exact ay.refl _
 |false=>
 have hl:=ON d1;refine f152.aF ah rfl rfl ?_;unfold HZ zz;refine rf0 (cj2 d0 d1) ?_;refine Wp.dJ [0] xA6 (λj:Nat=>[(3,.int .i64 (j:Nat))]) (λj=>j<=s.length/\(s.take j).all Desk.seen=true) (λj=>s.length - j) 0 ⟨Ot _,rfl⟩ ?_ ?_
 ·exact xSb
 rintro j ⟨hj,hall⟩;by_cases hcj:j<s.length
 ·obtain ⟨g1,h2,h3,e1⟩:=ixF (j:=j) (n:=s.length) ae ae;have tk:=xo Desk.seen s j hcj;have fa:=zE Desk.seen s j hcj;have hxx:s.getD j 0=s.getD j default:=rfl;generalize hx:s.getD j default=x at tk fa hxx;cases b1:decide ((x.toNat:Int)<33) with
  |true=>
   have hv:cf s=15:=Ob λh=>by
    have:Desk.seen x=false:=by unfold Desk.seen;rw[N6 (by have:=Ox b1;omega)];rfl
    rw[fa this] at h;exact absurd h.2.2 aq
   refine rf0 (cj9 g1 h2 h3 e1 @N7 @Ol hxx @byte.eq_1 b1) ?_;refine aG ?_;rw[hv];exact ay.refl _
  |false=>
  cases b2:decide (126<(x.toNat:Int)) with
  |true=>
   have hv:cf s=15:=Ob λh=>by
    have:Desk.seen x=false:=by unfold Desk.seen;rw[N6 (p:=x.toNat<=126) (by have:=Ox b2;omega)];simp
    rw[fa this] at h;exact absurd h.2.2 aq
   refine rf0 (iw g1 h2 h3 e1 @N7 @Ol hxx @byte.eq_1 b1 b2) ?_;refine aG ?_;rw[hv];exact ay.refl _
  |false=>
   have hs:Desk.seen x=true:=by
    have:=ON b1;have:=ON b2;unfold Desk.seen;rw[N9 ae,N9 ae];rfl
   refine rf0 (iw g1 h2 h3 e1 @N7 @Ol hxx @byte.eq_1 b1 b2) ?_;refine ⟨j+1,⟨ae,by rw[tk,hall,hs];rfl⟩,ae,?_⟩;exact xSu
 ·have hj2:j=s.length:=by omega
  subst hj2;have g1:=ixE (s.length);have ha:s.all Desk.seen=true:=by rw[OG] at hall;exact hall
  have hv:cf s=0:=Oi ⟨hne,ae,ha⟩;rw[hv];refine rf0 g1 ?_;refine aG ?_;exact ay.refl _
def eJ(c:UInt8):Bool:=(decide (48<=c.toNat)&&decide (c.toNat<=57))||(decide (97<=c.toNat)&&decide (c.toNat<=122))
theorem sw(c:UInt8):aI Tryz.prog 151 [.int .u8 (c.toNat:Nat)] (.bool (eJ c)):=by
 refine f151.aF ah rfl rfl ?_;unfold LZ eJ zz;by_cases h1:97<=c.toNat
 ·have d1:decide ((97:Int)<=(c.toNat:Int))=true:=N9 ae;by_cases h2:c.toNat<=122
  ·have d2:decide ((c.toNat:Int)<=122)=true:=N9 ae;refine rf0 (cj2 d1 d2) ?_;refine aG ?_;exact ay.of_eq (by rw[N9 h1,N9 h2];simp)
  ·have d2:decide ((c.toNat:Int)<=122)=false:=N6 ae;have d3:decide ((48:Int)<=(c.toNat:Int))=true:=N9 ae;have d4:decide ((c.toNat:Int)<=57)=false:=N6 ae;refine rf0 (cj4 d1 d2 d3 d4) ?_;refine aG ?_;exact ay.of_eq (by rw[N6 h2,N6 (p:=c.toNat<=57) ae];simp)
 ·have d1:decide ((97:Int)<=(c.toNat:Int))=false:=N6 ae;by_cases h2:48<=c.toNat
  ·have d3:decide ((48:Int)<=(c.toNat:Int))=true:=N9 ae;by_cases h3:c.toNat<=57
   ·have d4:decide ((c.toNat:Int)<=57)=true:=N9 ae;refine rf0 (cj3 d1 d3 d4) ?_;refine aG ?_;exact ay.of_eq (by rw[N9 h2,N9 h3];simp)
   ·have d4:decide ((c.toNat:Int)<=57)=false:=N6 ae;refine rf0 (cj3 d1 d3 d4) ?_;refine aG ?_;exact ay.of_eq (by rw[N6 h1,N6 h3];simp)
  ·have d3:decide ((48:Int)<=(c.toNat:Int))=false:=N6 ae;refine rf0 (cj2 d1 d3) ?_;refine aG ?_;exact ay.of_eq (by rw[N6 h1,N6 h2];simp)
theorem kp(s:List UInt8)(i:Nat):nM s i=(if (s.getD i default).toNat=45 then decide (0<i)&&decide (i+1<s.length) else eJ (s.getD i default)):=by
 unfold nM eJ;rfl
theorem uy{c:UInt8}(h:c.toNat=45):eJ c=false:=by unfold eJ;rw[h];decide
theorem z6{s:List UInt8}(h3:0<s.length)(hp:eJ (s.getD 0 default)=false):bW s=15:=by
 refine lf s 0 h3 ?_;rw[kp];split
 ·simp
 ·exact hp
theorem DE{s:List UInt8}(h3:0<s.length)(hp:eJ (s.getD (s.length - 1) default)=false):bW s=15:=by
 refine lf s (s.length - 1) ae ?_;rw[kp];split
 ·simp;omega
 ·exact hp
theorem FH{s:List UInt8}{j:Nat}(hj:j<s.length)(hp:eJ (s.getD j default)=false)(hn:¬(s.getD j default).toNat=45):bW s=15:=by
 refine lf s j hj ?_;rw[kp,Ob hn,hp]
theorem Im{s:List UInt8}(h3:3<=s.length)(h12:s.length<=12)(ha:eJ (s.getD 0 default)=true)(hb:eJ (s.getD (s.length - 1) default)=true)(hall:∀i,i<s.length->eJ (s.getD i default)=true\/(s.getD i default).toNat=45):bW s=0:=by
 refine Oi ⟨h3,h12,OK.2 λi hi=>?_⟩;have hi:=O6.1 hi;rw[kp];split
 ·rename_i hc;have n0:i≠0:=by rintro rfl;rw[uy hc] at ha;cases ha
  have nl:i≠s.length - 1:=by rintro rfl;rw[uy hc] at hb;cases hb
  rw[N9 ae,N9 ae];rfl
 ·rename_i hc;exact (hall i hi).resolve_right hc
theorem uz(s:List UInt8):aI Tryz.prog 102 [.str s] (.int .i64 (bW s)):=by
 refine f102.aF ah rfl rfl ?_;unfold LF zz;by_cases h3:(s.length:Int)<3
 ·have d1:=N9 h3;refine rf0 d1 ?_;refine aG ?_;exact ay.of_eq (by rw[bW,Ob ae])
 have d1:=N6 h3;by_cases h12:12<(s.length:Int)
 ·have d2:=N9 h12;refine rf0 (cj2 d1 d2) ?_;refine aG ?_;exact ay.of_eq (by rw[bW,Ob ae])
 have d2:=N6 h12;have i0:(0:Int)<=0:=OU _;have i1:(0:Int)<(s.length:Int):=by omega
 have t0:(0:Int).toNat=0:=rfl;have hwl:IntKind.i64.wrap ((s.length:Int) - 1)=((s.length - 1:Nat):Int):=by rw[IntWalk.i64_in _ ae];omega
 have i3:(0:Int)<=((s.length - 1:Nat):Int):=PM _;have i4:((s.length - 1:Nat):Int)<(s.length:Int):=by omega
 have x0:s.getD 0 0=s.getD 0 default:=rfl;have xl:s.getD (s.length - 1) 0=s.getD (s.length - 1) default:=rfl;have p0:=sw (s.getD 0 default);have pl:=sw (s.getD (s.length - 1) default);have bad0:=z6 (s:=s) ae;have badl:=DE (s:=s) ae;have good:=Im (s:=s) ae ae;generalize s.getD 0 default=a at x0 p0 bad0 good;generalize s.getD (s.length - 1) default=b at xl pl badl good;cases ha:eJ a with
 |false=>
  rw[ha] at p0;refine rf1 (cj8 d1 d2 i0 i1 t0 x0 @byte.eq_1 @Ol) p0 ?_;refine aG ?_;exact ay.of_eq (by rw[bad0 ha])
 |true=>
 cases hb:eJ b with
 |false=>
  rw[ha] at p0;rw[hb] at pl;refine rf2 (bf d1 d2 i0 i1 i3 i4 t0 x0 xl hwl @byte.eq_1 (cj2 @N7 @Ol)) p0 pl ?_;refine aG ?_;exact ay.of_eq (by rw[badl hb])
 |true=>
 rw[ha] at p0;rw[hb] at pl;refine rf2 (bf d1 d2 i0 i1 i3 i4 t0 x0 xl hwl @byte.eq_1 (cj2 @N7 @Ol)) p0 pl ?_;refine Wp.dJ [0] xA6 (λj:Nat=>[(3,.int .i64 (j:Nat))]) (λj=>j<=s.length/\∀i,i<j->eJ (s.getD i default)=true\/(s.getD i default).toNat=45) (λj=>s.length - j) 0 ⟨Ot _,λi h=>absurd h (Nat.not_lt_zero _)⟩ ?_ ?_
 ·exact xSb
 rintro j ⟨hj,hall⟩;by_cases hcj:j<s.length
 ·obtain ⟨g1,h2,h3,e1⟩:=ixF (j:=j) (n:=s.length) ae ae;have hxx:s.getD j 0=s.getD j default:=rfl;have bad:=FH hcj;have hnext:(eJ (s.getD j default)=true\/(s.getD j default).toNat=45)->∀i,i<j+1->eJ (s.getD i default)=true\/(s.getD i default).toNat=45:=λh i hi=>by
   rcases Qq.1 hi with hi|rfl
   ·exact hall i hi
   ·exact h
  generalize s.getD j default=x at hxx bad hnext;have px:=sw x;cases hp:eJ x with
  |true=>
   rw[hp] at px;refine rf1 (cj8 g1 h2 h3 e1 @N7 @Ol hxx @byte.eq_1) px ?_;refine ⟨j+1,⟨ae,hnext (.inl hp)⟩,ae,?_⟩;exact xSu
  |false=>
   rw[hp] at px;by_cases hc:x.toNat=45
   ·have d5:decide ((x.toNat:Int)=45)=true:=N9 ae;refine rf1 (cj9 g1 h2 h3 e1 @N7 @Ol hxx @byte.eq_1 d5) px ?_;refine ⟨j+1,⟨ae,hnext (.inr hc)⟩,ae,?_⟩;exact xSu
   ·have d5:decide ((x.toNat:Int)=45)=false:=N6 ae;refine rf1 (cj9 g1 h2 h3 e1 @N7 @Ol hxx @byte.eq_1 d5) px ?_;refine aG ?_;exact ay.of_eq (by rw[bad hp hc])
 ·have hj2:j=s.length:=by omega
  subst hj2;have g1:=ixE (s.length);refine rf0 g1 ?_;refine aG ?_;exact ay.of_eq (by rw[good ha hb hall])
def oN(v:Int):Bool:=decide (0<=v/\v<=2)
def stS(v:Int):List UInt8:=if oN v=true then [UInt8.ofNat (48+v.toNat)] else []
def stE(v:Int):Int:=if oN v=true then 0 else 2
theorem oO(v:Int):(v=0\/v=1\/v=2)\/(oN v=false/\(v<0\/(¬v<0/\2<v))):=by
 by_cases h:oN v=true
 ·left;simp[oN] at h;omega
 ·right;refine ⟨by simpa using h,?_⟩;simp[oN] at h;omega
theorem BG(v:Int):aI Tryz.prog 49 [.int .i64 v] (.tup [.str (stS v),.int .i64 (stE v)]):=by
 refine f49.aF ah rfl rfl ?_;unfold c49 zz;rcases oO v with (rfl|rfl|rfl)|⟨h,h1|⟨h1,h2⟩⟩
 ·refine dI ?_;refine aG ?_;exact ay.refl _
 ·refine dI ?_;refine aG ?_;exact ay.refl _
 ·refine dI ?_;refine aG ?_;exact ay.refl _
 ·have d1:=N9 h1;refine rf0 d1 ?_;refine aG ?_;exact ay.of_eq (by simp[stS,stE,h])
 ·have d1:=N6 h1;have d2:=N9 h2;refine rf0 (cj2 d1 d2) ?_;refine aG ?_;exact ay.of_eq (by simp[stS,stE,h])
theorem FI(v:Int):aI Tryz.prog 97 [.int .i64 v] (.tup [.str (stS v),.int .i64 (stE v)]):=by
 refine f97.aF ah rfl rfl ?_;unfold c97 zz;rcases oO v with (rfl|rfl|rfl)|⟨h,h1|⟨h1,h2⟩⟩
 ·refine dI ?_;refine aG ?_;exact ay.refl _
 ·refine dI ?_;refine aG ?_;exact ay.refl _
 ·refine dI ?_;refine aG ?_;exact ay.refl _
 ·have d1:=N9 h1;refine rf0 d1 ?_;refine aG ?_;exact ay.of_eq (by simp[stS,stE,h])
 ·have d1:=N6 h1;have d2:=N9 h2;refine rf0 (cj2 d1 d2) ?_;refine aG ?_;exact ay.of_eq (by simp[stS,stE,h])
def gJ(n:Int):Bool:=decide (0<=n)&&decide (n<1048573)
theorem FJ(a b:Int):aI Tryz.prog 155 [.agg [.int .i64 a,.int .i64 b]] (.bool (gJ a&&gJ b)):=by
 refine f155.aF ah rfl rfl ?_;unfold L1 zz;cases d1:decide (0<=a) with
 |false=>
  refine rf0 d1 ?_;refine aG ?_;exact ay.of_eq (by simp[gJ,d1])
 |true=>
  cases d2:decide (a<1048573) with
  |false=>
   refine rf0 (cj2 d1 d2) ?_;refine aG ?_;exact ay.of_eq (by simp[gJ,d1,d2])
  |true=>
   cases d3:decide (0<=b) with
   |false=>
    refine rf0 (cj3 d1 d2 d3) ?_;refine aG ?_;exact ay.of_eq (by simp[gJ,d1,d2,d3])
   |true=>
    cases d4:decide (b<1048573) with
    |false=>
     refine rf0 (cj4 d1 d2 d3 d4) ?_;refine aG ?_;exact ay.of_eq (by simp[gJ,d1,d2,d3,d4])
    |true=>
     refine rf0 (cj4 d1 d2 d3 d4) ?_;refine aG ?_;exact ay.of_eq (by simp[gJ,d1,d2,d3,d4])
theorem BH{n:Int}(h:gJ n=false):n<0\/(¬n<0/\1048573<=n):=by
 simp[gJ] at h;omega
theorem FK{n:Int}(h:gJ n=true):¬n<0/\¬1048573<=n:=by
 simp[gJ] at h;omega
theorem FL(a b:Int):aI Tryz.prog 85 [.agg [.int .i64 a,.int .i64 b]] (.int .i64 (if gJ a&&gJ b then 0 else 2)):=by
 refine f85.aF ah rfl rfl ?_;unfold c85 zz;refine dI ?_;refine Wp.cO [9] xA7 (λj:Nat=>[(10,.int .i64 (j:Nat))]) (λj=>⟨upd aB 0 (some (.cells [.int .i64 a,.int .i64 b])),1,[],0⟩) (λj=>j<=2/\(1<=j->gJ a=true)/\(2<=j->gJ b=true)) (λj=>2 - j) 0 ⟨ae,ae,ae⟩ rfl ?_ ?_
 ·exact xSb
 rintro j ⟨hj,ha,hb⟩;have go:∀(n:Int),gJ n=false\/gJ n=true:=λn=>by cases gJ n<;>simp
 obtain rfl|rfl|rfl:j=0\/j=1\/j=2:=by omega
 ·rcases go a with h|h
  ·rcases BH h with h1|⟨h1,h2⟩
   ·have d1:=N9 h1;refine rf0 d1 ?_;refine aG ?_;exact ay.of_eq (by simp[h])
   ·have d1:=N6 h1;have d2:=N9 h2;refine rf0 (cj2 d1 d2) ?_;refine aG ?_;exact ay.of_eq (by simp[h])
  ·obtain ⟨h1,h2⟩:=FK h;have d1:=N6 h1;have d2:=N6 h2;refine rf0 (cj2 d1 d2) ?_;refine ⟨1,⟨ae,λ_=>h,ae⟩,ae,?_⟩;refine aM.of (aY ?_) (λi o h=>⟨o,h,cm.refl _⟩) (λ_ h=>h) (N4 _) (N4 _);exact xSb
 ·have ha:=ha ae;rcases go b with h|h
  ·rcases BH h with h1|⟨h1,h2⟩
   ·have d1:=N9 h1;refine rf0 d1 ?_;refine aG ?_;exact ay.of_eq (by simp[h])
   ·have d1:=N6 h1;have d2:=N9 h2;refine rf0 (cj2 d1 d2) ?_;refine aG ?_;exact ay.of_eq (by simp[h])
  ·obtain ⟨h1,h2⟩:=FK h;have d1:=N6 h1;have d2:=N6 h2;refine rf0 (cj2 d1 d2) ?_;refine ⟨2,⟨ae,λ_=>ha,λ_=>h⟩,ae,?_⟩;refine aM.of (aY ?_) (λi o h=>⟨o,h,cm.refl _⟩) (λ_ h=>h) (N4 _) (N4 _);exact xSb
 ·have ha:=ha ae;have hb:=hb ae;refine dI ?_;refine aG ?_;exact ay.of_eq (by simp[ha,hb])
theorem vH(v:Nat)(hv:v<65536)(xs:List UInt8)(hx:xs.length<=1099511627776):kW Tryz.prog 36 (λt=>[.sl 1 (aD xs) (.own t),.int .i64 v]) (λt=> .sl 1 (aD (xs++be 2 v)) (.own t)):=by
 intro t n m;suffices h:∃r h',bB Tryz.prog 36 [.sl 1 (aD xs) (.own t),.int .i64 v] (.only aB [t] n m) r h'/\∃t' m',m<=m'/\r= .sl 1 (aD (xs++be 2 v)) (.own t')/\h'= .only aB [t'] n m' by
  obtain ⟨r,h',ha,t',m',hm,rfl,rfl⟩:=h;exact ⟨t',m',hm,ha⟩
 refine f36.fe ah ?_;unfold c36 zz;have e1:IntKind.u16.wrap (v:Int)=(v:Int):=IntWalk.u16_in _ ae;refine Wp.bU xA1 al ?_;refine Wp.seqItems (xAe e1) ?_;refine az.dC t af xA4 af (vB f82 .u16 v ae 2 ae xs hx) λt' m' hm=>?_;refine az.eval xA1 ?_;refine az.nil ⟨by trivial,?_⟩;refine Wp.ret ⟨trivial,_,rfl,t',m',hm,?_,rfl⟩;simp only[go_sem,reduceIte,Nat.reduceEqDiff]
theorem qR(v:Nat)(hv:v<4294967296)(xs:List UInt8)(hx:xs.length<=1099511627776):kW Tryz.prog 37 (λt=>[.sl 1 (aD xs) (.own t),.int .i64 v]) (λt=> .sl 1 (aD (xs++be 4 v)) (.own t)):=by
 intro t n m;suffices h:∃r h',bB Tryz.prog 37 [.sl 1 (aD xs) (.own t),.int .i64 v] (.only aB [t] n m) r h'/\∃t' m',m<=m'/\r= .sl 1 (aD (xs++be 4 v)) (.own t')/\h'= .only aB [t'] n m' by
  obtain ⟨r,h',ha,t',m',hm,rfl,rfl⟩:=h;exact ⟨t',m',hm,ha⟩
 refine f37.fe ah ?_;unfold c37 zz;have e1:IntKind.u32.wrap (v:Int)=(v:Int):=IntWalk.u32_in _ ae;refine Wp.bU xA1 al ?_;refine Wp.seqItems (xAe e1) ?_;refine az.dC t af xA4 af (vB f83 .u32 v ae 4 ae xs hx) λt' m' hm=>?_;refine az.eval xA1 ?_;refine az.nil ⟨by trivial,?_⟩;refine Wp.ret ⟨trivial,_,rfl,t',m',hm,?_,rfl⟩;simp only[go_sem,reduceIte,Nat.reduceEqDiff]
def ez(sz re im:Int)(g u:Bool):AV:= .agg [.int .i64 sz,.int .i64 re,.int .i64 im,.bool g,.bool u]
def cX(sz re im:Int)(g:Bool):Bool:=decide (0<=sz)&&decide (sz<=2560)&&(gJ re&&gJ im)&&(!g||(decide (sz=0)&&(decide (re=0)&&decide (im=0))))
theorem lh(sz re im:Int)(g u:Bool):aI Tryz.prog 108 [ez sz re im g u] (.bool (cX sz re im g)):=by
 refine f108.aF ah rfl rfl ?_;unfold LJ ez zz;have ht:=FJ re im;cases d1:decide (0<=sz) with
 |false=>
  refine rf0 d1 ?_;refine aG ?_;exact ay.of_eq (by simp[cX,d1])
 |true=>
 cases d2:decide (sz<=2560) with
 |false=>
  refine rf0 (cj2 d1 d2) ?_;refine aG ?_;exact ay.of_eq (by simp[cX,d1,d2])
 |true=>
 cases d3:(gJ re&&gJ im) with
 |false=>
  rw[d3] at ht;refine rf1 (cj2 d1 d2) ht ?_;refine aG ?_;exact ay.of_eq (by simp only[cX,d1,d2,d3];simp)
 |true=>
 rw[d3] at ht;cases g with
 |false=>
  refine rf1 (cj2 d1 d2) ht ?_;refine aG ?_;exact ay.of_eq (by simp only[cX,d1,d2,d3];simp)
 |true=>
 cases d4:decide (sz=0) with
 |false=>
  refine rf1 (cj3 d1 d2 d4) ht ?_;refine aG ?_;exact ay.of_eq (by simp only[cX,d1,d2,d3,d4];simp)
 |true=>
  refine rf1 (cj3 d1 d2 d4) ht ?_;refine aG ?_;exact ay.of_eq (by simp only[cX,d1,d2,d3,d4];simp)
def flN(g u:Bool):Nat:=(if g then 1 else 0)+(if u then 2 else 0)
def dK(s r i:Nat)(g u:Bool):List UInt8:=be 1 (flN g u)++be 2 s++be 4 r++be 4 i
theorem dN(s r i:Nat)(g u:Bool):(dK s r i g u).length=11:=by simp[dK,aS]
theorem BI(s r i:Nat)(hs:s<65536)(hr:r<4294967296)(hi:i<4294967296)(g u:Bool):aI Tryz.prog 109 [ez s r i g u] (.str (dK s r i g u)):=by
 refine f109.aF ah rfl rfl ?_;unfold LK ez zz;have c1:=dW (flN g u) (by cases g<;>cases u<;>decide) 1 ae;have c2:=dW s ae 2 ae;have c3:=dW r ae 4 ae;have c4:=dW i ae 4 ae;have l1:=aS 1 (flN g u);have l2:=aS 2 s;have l3:=aS 4 r;have l4:=aS 4 i;unfold dK;generalize be 2 s=b2 at*
 generalize be 4 r=b3 at*
 generalize be 4 i=b4 at*
 have w1:b2.length<100:=by omega
 cases g with
 |false=>
  cases u with
  |false=>
   change aI _ _ [.int .i64 0,_] _ at c1;simp only[flN,Oq,Od,Nat.add_zero] at*
   generalize be 1 0=b1 at*
   refine rn4 (cj5 l1 l2 l3 l4 @Og.{0}) c1 c2 c3 c4 ?_;refine aG ?_;exact ay.refl _
  |true=>
   change aI _ _ [.int .i64 2,_] _ at c1;simp only[flN,Oq,Od,Of,Oo] at*
   generalize be 1 2=b1 at*
   refine rn4 (cj5 l1 l2 l3 l4 @Og.{0}) c1 c2 c3 c4 ?_;refine aG ?_;exact ay.refl _
 |true=>
  cases u with
  |false=>
   change aI _ _ [.int .i64 1,_] _ at c1;simp only[flN,Oq,Od,Of,Nat.add_zero] at*
   generalize be 1 1=b1 at*
   refine rn4 (cj5 l1 l2 l3 l4 @Og.{0}) c1 c2 c3 c4 ?_;refine aG ?_;exact ay.refl _
  |true=>
   change aI _ _ [.int .i64 3,_] _ at c1;simp only[flN,Of,Nat.reduceAdd] at*
   generalize be 1 3=b1 at*
   refine rn4 (cj5 l1 l2 l3 l4 @Og.{0}) c1 c2 c3 c4 ?_;refine aG ?_;exact ay.refl _
def cR(sz re im:Int)(g u:Bool):List UInt8:=if cX sz re im g=true then dK sz.toNat re.toNat im.toNat g u else []
def mn(sz re im:Int)(g:Bool):Int:=if cX sz re im g=true then 0 else 2
theorem kq{sz re im:Int}{g:Bool}(h:cX sz re im g=true):∃s r i:Nat,sz=s/\re=r/\im=i/\s<=2560/\r<1048573/\i<1048573:=by
 simp[cX,gJ] at h;exact ⟨sz.toNat,re.toNat,im.toNat,ae,ae,ae,ae,ae,ae⟩
theorem xE(sz re im:Int)(g u:Bool):aI Tryz.prog 89 [ez sz re im g u] (.tup [.str (cR sz re im g u),.int .i64 (mn sz re im g)]):=by
 refine f89.aF ah rfl rfl ?_;unfold c89 zz;have h1:=lh sz re im g u;unfold cR mn;cases hr:cX sz re im g with
 |false=>
  rw[hr] at h1;unfold ez at*
  refine tA h1 ?_;refine aG ?_;exact ay.refl _
 |true=>
  rw[hr] at h1;obtain ⟨s,r,i,rfl,rfl,rfl,hs,hr',hi⟩:=kq hr;have h2:=BI s r i ae ae ae g u;unfold ez at*
  simp only[Int.toNat_natCast];generalize dK s r i g u=b at*
  refine NP h1 h2 ?_;refine aG ?_;exact ay.refl _
theorem qS(sz re im:Int)(g u:Bool):aI Tryz.prog 40 [ez sz re im g u] (.tup [.str (cR sz re im g u),.int .i64 (mn sz re im g)]):=by
 have h1:=FL re im;cases hr:cX sz re im g with
 |false=>
  unfold cR mn;simp only[hr,Oq,Od];refine f40.aF ah rfl rfl ?_;unfold c40 ez zz;cases d1:decide (sz<0) with
  |true=>
   refine rf0 d1 ?_;refine aG ?_;exact ay.refl _
  |false=>
  cases d2:decide (2560<sz) with
  |true=>
   refine rf0 (cj2 d1 d2) ?_;refine aG ?_;exact ay.refl _
  |false=>
  have o1:=ON d1;have o2:=ON d2;have p1:decide (0<=sz)=true:=N9 ae;have p2:decide (sz<=2560)=true:=N9 ae;simp only[cX,p1,p2,OM] at hr;cases d3:(gJ re&&gJ im) with
  |false=>
   rw[d3] at h1;simp only[Oq,Od] at h1;refine rf1 (cj2 d1 d2) h1 ?_;refine aG ?_;exact ay.refl _
  |true=>
  rw[d3] at h1 hr;simp only[Of,OM] at h1 hr;cases g with
  |false=>cases hr
  |true=>
  simp only[Oy,PI] at hr;cases d4:decide (0<sz) with
  |true=>
   refine rf1 (cj3 d1 d2 d4) h1 ?_;refine aG ?_;exact ay.refl _
  |false=>
   have o4:=ON d4;have p4:decide (sz=0)=true:=N9 ae;rw[p4,OM] at hr;refine rf1 (cj4 d1 d2 d4 hr) h1 ?_;refine aG ?_;exact ay.refl _
 |true=>
  unfold cR mn;simp only[hr,Of];obtain ⟨s,r,i,rfl,rfl,rfl,hs,hr',hi⟩:=kq hr;simp only[Int.toNat_natCast];have d1:decide ((s:Int)<0)=false:=N6 ae;have d2:decide (2560<(s:Int))=false:=N6 ae;have d3:(gJ r&&gJ i)=true:=by simp only[cX,Oh] at hr;simpa using hr.1.2
  rw[d3] at h1;simp only[Of] at h1;have c1:=zK (flN g u) (by cases g<;>cases u<;>decide) [] ah;have c2:=vH s ae ([]++be 1 (flN g u)) (by simp[aS]);have c3:=qR r ae ([]++be 1 (flN g u)++be 2 s) (by simp[aS]);have c4:=qR i ae ([]++be 1 (flN g u)++be 2 s++be 4 r) (by simp[aS]);have lb:=dN s r i g u;refine f40.aF ah rfl rfl ?_;unfold c40 ez zz;refine Wp.le (aM.tok _ _) ?_;have o1:orI .i64 0 1=1:=rfl;have o2:orI .i64 0 2=2:=rfl;have o3:orI .i64 1 2=3:=rfl;cases g with
  |false=>
   cases u with
   |false=>
    refine rf1 (cj2 d1 d2) h1 ?_;refine rW ?_;refine az.dC 0 af (by simp only[go_sem,reduceIte,Nat.reduceEqDiff,List.map];exact aA.cons (ay.dt rfl) (aA.refl _)) af c1 λt1 m1 _=>?_;refine az.eval xA1 ?_;refine az.dC t1 af xA4 af c2 λt2 m2 _=>?_;refine az.eval xA1 ?_;refine az.nil ⟨by simp[bg,aN,apart,aU],?_⟩;refine rW ?_;refine az.dC t2 af xA4 af c3 λt3 m3 _=>?_;refine az.eval xA1 ?_;refine az.dC t3 af xA4 af c4 λt4 m4 _=>?_;refine az.evR (xAd (cj2 @bR @O2)) ?_;refine az.nil ⟨by simp[bg,aN,apart,aU],?_⟩;refine aG ?_;exact ay.refl _
   |true=>
    refine rf1 (cj5 d1 d2 o1 o2 o3) h1 ?_;refine rW ?_;refine az.dC 0 af (by simp only[go_sem,reduceIte,Nat.reduceEqDiff,List.map];exact aA.cons (ay.dt rfl) (aA.refl _)) af c1 λt1 m1 _=>?_;refine az.eval xA1 ?_;refine az.dC t1 af xA4 af c2 λt2 m2 _=>?_;refine az.eval xA1 ?_;refine az.nil ⟨by simp[bg,aN,apart,aU],?_⟩;refine rW ?_;refine az.dC t2 af xA4 af c3 λt3 m3 _=>?_;refine az.eval xA1 ?_;refine az.dC t3 af xA4 af c4 λt4 m4 _=>?_;refine az.evR (xAd (cj2 @bR @O2)) ?_;refine az.nil ⟨by simp[bg,aN,apart,aU],?_⟩;refine aG ?_;exact ay.refl _
  |true=>
   have e3:s=0/\r=0/\i=0:=by simp[cX] at hr;omega
   obtain ⟨rfl,rfl,rfl⟩:=e3;cases u with
   |false=>
    refine rf1 (cj5 d1 d2 o1 o2 o3) h1 ?_;refine rW ?_;refine az.dC 0 af (by simp only[go_sem,reduceIte,Nat.reduceEqDiff,List.map];exact aA.cons (ay.dt rfl) (aA.refl _)) af c1 λt1 m1 _=>?_;refine az.eval xA1 ?_;refine az.dC t1 af xA4 af c2 λt2 m2 _=>?_;refine az.eval xA1 ?_;refine az.nil ⟨by simp[bg,aN,apart,aU],?_⟩;refine rW ?_;refine az.dC t2 af xA4 af c3 λt3 m3 _=>?_;refine az.eval xA1 ?_;refine az.dC t3 af xA4 af c4 λt4 m4 _=>?_;refine az.evR (xAd (cj2 @bR @O2)) ?_;refine az.nil ⟨by simp[bg,aN,apart,aU],?_⟩;refine aG ?_;exact ay.refl _
   |true=>
    refine rf1 (cj5 d1 d2 o1 o2 o3) h1 ?_;refine rW ?_;refine az.dC 0 af (by simp only[go_sem,reduceIte,Nat.reduceEqDiff,List.map];exact aA.cons (ay.dt rfl) (aA.refl _)) af c1 λt1 m1 _=>?_;refine az.eval xA1 ?_;refine az.dC t1 af xA4 af c2 λt2 m2 _=>?_;refine az.eval xA1 ?_;refine az.nil ⟨by simp[bg,aN,apart,aU],?_⟩;refine rW ?_;refine az.dC t2 af xA4 af c3 λt3 m3 _=>?_;refine az.eval xA1 ?_;refine az.dC t3 af xA4 af c4 λt4 m4 _=>?_;refine az.evR (xAd (cj2 @bR @O2)) ?_;refine az.nil ⟨by simp[bg,aN,apart,aU],?_⟩;refine aG ?_;exact ay.refl _
structure Vs where
 o:List UInt8
 id:Int
 sz:Int
 re:Int
 im:Int
 g:Bool
 u:Bool
 b:List UInt8
def cz(v:Vs):AV:= .agg [.str v.o,.int .i64 v.id,.int .i64 v.sz,.int .i64 v.re,.int .i64 v.im,.bool v.g,.bool v.u,.str v.b]
theorem z7(v:Vs):aW (cz v)=true:=rfl
def Vs.rh(v:Vs):Bool:=cX v.sz v.re v.im v.g
def Vs.tag(v:Vs):Bool:=decide ((((Fl.iO v.b).1:Nat):Int)=v.re)&&decide ((((Fl.iO v.b).2:Nat):Int)=v.im)
def Vs.fit(v:Vs):Bool:=v.rh&&decide ((v.b.length:Int)=v.sz)&&(v.g||v.tag)
theorem DF(v:Vs):aI Tryz.prog 101 [cz v] (.bool v.fit):=by
 refine f101.aF ah rfl rfl ?_;unfold LD zz;have h1:=qS v.sz v.re v.im v.g v.u;obtain ⟨o,id,sz,re,im,g,u,b⟩:=v;unfold Vs.fit Vs.rh Vs.tag cz;simp only at h1 |-;unfold cR mn ez at h1;cases hr:cX sz re im g with
 |false=>
  rw[hr] at h1;simp only[Oq,Od] at h1;refine tA h1 ?_;refine aG ?_;exact ay.refl _
 |true=>
 rw[hr] at h1;simp only[Of] at h1;generalize dK sz.toNat re.toNat im.toNat g u=hb at h1;cases d1:decide ((b.length:Int)=sz) with
 |false=>
  refine rf1 d1 h1 ?_;refine aG ?_;exact ay.refl _
 |true=>
 cases g with
 |true=>
  refine rf1 d1 h1 ?_;refine rW ?_;refine aG ?_;exact ay.refl _
 |false=>
  have hl:b.length<=2560:=by
   have:=Ox d1;obtain ⟨s,r,i,rfl,rfl,rfl,hs,hr',hi⟩:=kq hr;omega
  have h2:=Fl.NR b ae;refine rf1 d1 h1 ?_;refine Dh h2 ?_;refine aG ?_;exact ay.of_eq ah
def Vs.okV(v:Vs):Bool:=decide (cf v.o=0)&&decide (0<=v.id)&&decide (v.id<=1152921504606846976)&&v.fit
def Vs.next(a v:Vs):Bool:=Op.bytesLess a.o v.o||(decide (a.o=v.o)&&decide (v.id<a.id))
theorem vI{s:List UInt8}(h:cf s=0):s.length<=32:=by
 unfold cf at h;split at h
 ·rename_i h';exact h'.2.1
 ·cases h
set_option maxHeartbeats 4000000 in
theorem Aa(v a:Vs)(f:Bool)(hla:f=true\/Ls a.o):aI Tryz.prog 103 [cz v,cz a,.bool f] (.bool (v.okV&&(f||a.next v))):=by
 refine f103.aF ah rfl rfl ?_;unfold LG zz;have h0:=ux v.o;have h1:=lh v.sz v.re v.im v.g v.u;obtain ⟨ao,aid,asz,are,aim,ag,au,ab⟩:=a;obtain ⟨o,id,sz,re,im,g,u,b⟩:=v;unfold Vs.okV Vs.next Vs.fit Vs.rh Vs.tag cz;simp only at h0 h1 hla |-;unfold ez at h1;cases d0:decide (cf o=0) with
 |false=>
  generalize cf o=z at*
  refine rn1 d0 h0 ?_;refine aG ?_;exact ay.refl _
 |true=>
 have hz:=Ox d0;rw[hz] at h0;have hlo:Ls o:=by have:=vI hz;unfold Ls;omega
 cases d1:decide (0<=id) with
 |false=>
  have e1:decide (id<0)=true:=N9 (by have:=ON d1;omega);refine rn1 e1 h0 ?_;refine aG ?_;exact ay.refl _
 |true=>
 have e1:decide (id<0)=false:=N6 (by have:=Ox d1;omega);cases d2:decide (id<=1152921504606846976) with
 |false=>
  have e2:decide (1152921504606846976<id)=true:=N9 (by have:=ON d2;omega);refine rn1 (cj2 e1 e2) h0 ?_;refine aG ?_;exact ay.refl _
 |true=>
 have e2:decide (1152921504606846976<id)=false:=N6 (by have:=Ox d2;omega);cases hr:cX sz re im g with
 |false=>
  rw[hr] at h1;refine rn2 (cj2 e1 e2) h0 h1 ?_;refine aG ?_;exact ay.refl _
 |true=>
 rw[hr] at h1;cases d3:decide ((b.length:Int)=sz) with
 |false=>
  refine rn2 (cj3 e1 e2 d3) h0 h1 ?_;refine aG ?_;exact ay.refl _
 |true=>
 have hl:b.length<=2560:=by
  have:=Ox d3;obtain ⟨s,r,i,rfl,rfl,rfl,hs,hr',hi⟩:=kq hr;omega
 have h2:=M7 b ae;have key:∀(S:St)(h:H),True:=λ_ _=>trivial;cases g with
 |true=>
  cases f with
  |true=>
   refine rn2 (cj3 e1 e2 d3) h0 h1 ?_;refine aG ?_;exact ay.refl _
  |false=>
   have h3:=qP ao o (hla.resolve_left ah) hlo;cases h4:Op.bytesLess ao o with
   |true=>
    rw[h4] at h3;refine rn3 (cj3 e1 e2 d3) h0 h1 h3 ?_;refine aG ?_;exact ay.refl _
   |false=>
    rw[h4] at h3;cases h5:decide (ao=o) with
    |false=>
     refine rn3 (cj4 e1 e2 d3 h5) h0 h1 h3 ?_;refine aG ?_;exact ay.refl _
    |true=>
     refine rn3 (cj4 e1 e2 d3 h5) h0 h1 h3 ?_;refine aG ?_;exact ay.of_eq ah
 |false=>
 cases h6:(decide ((((Fl.iO b).1:Nat):Int)=re)&&decide ((((Fl.iO b).2:Nat):Int)=im)) with
 |false=>
  refine rn3 (cj4 e1 e2 d3 h6) h0 h1 h2 ?_;refine aG ?_;exact ay.refl _
 |true=>
  cases f with
  |true=>
   refine rn3 (cj4 e1 e2 d3 h6) h0 h1 h2 ?_;refine aG ?_;exact ay.refl _
  |false=>
   have h3:=qP ao o (hla.resolve_left ah) hlo;cases h4:Op.bytesLess ao o with
   |true=>
    rw[h4] at h3;refine rn4 (cj4 e1 e2 d3 h6) h0 h1 h2 h3 ?_;refine aG ?_;exact ay.refl _
   |false=>
    rw[h4] at h3;cases h5:decide (ao=o) with
    |false=>
     refine rn4 (cj5 e1 e2 d3 h5 h6) h0 h1 h2 h3 ?_;refine aG ?_;exact ay.refl _
    |true=>
     refine rn4 (cj5 e1 e2 d3 h5 h6) h0 h1 h2 h3 ?_;refine aG ?_;exact ay.of_eq ah
instance:Inhabited Vs:=⟨⟨[],0,0,0,0,false,false,[]⟩⟩
def vss(l:List Vs):List AV:=l.map cz
theorem dF(l:List Vs):(vss l).length=l.length:=PF _
theorem gB(l:List Vs)(j:Nat)(d:AV)(h:j<l.length):(vss l).getD j d=cz (l.getD j default):=by
 simp[vss,OF,N5 h]
theorem oP(l:List Vs):aJ (vss l)=true:=Av.bG (λa=>rfl) l
def same(l:List Vs)(j:Nat):Bool:=decide (0<j)&&decide ((l.getD (j - 1) default).o=(l.getD j default).o)
def gg(l:List Vs):Nat->Nat
 |0=>0
 |j+1=>(if same l j=true then gg l j else 0)+(if (l.getD j default).u=true then 1 else 0)
def jy(l:List Vs)(j:Nat):Bool:=(l.getD j default).okV&&(decide (j=0)||(l.getD (j - 1) default).next (l.getD j default))&&decide (gg l (j+1)<=1)
def cS(l:List Vs):Bool:=(List.range l.length).all (jy l)
theorem fV{l:List Vs}{j:Nat}(hj:j<l.length)(h:jy l j=false):cS l=false:=by
 cases e:cS l with
 |false=>rfl
 |true=>
  unfold cS at e;rw[OK] at e;rw[e j (O6.2 hj)] at h;cases h
theorem xF{l:List Vs}(h:∀i,i<l.length->jy l i=true):cS l=true:=by
 unfold cS;rw[OK];intro i hi;exact h i (O6.1 hi)
theorem cq(a:List UInt8):Op.bytesLess a a=false:=by
 induction a with
 |nil=>rfl
 |cons x a ih=>simp[Op.bytesLess,ih]
set_option maxHeartbeats 8000000 in
theorem FM(l:List Vs)(hl:l.length<=1000000):aI Tryz.prog 51 [.sl 8 (vss l) .any] (.bool (cS l)):=by
 refine f51.aF ah (by simp[aJ,aW,bA,oP]) rfl ?_;unfold c51 zz;have len:=dF l;refine rn0 @len ?_;refine Wp.oD [0,7,8] (by simp only[go_sem,reduceIte,Nat.reduceEqDiff,List.map,len];exact rfl) (λj:Nat=>[(3,.int .i64 (gg l j:Nat)),(9,.int .i64 j)]) (λj=>j<=l.length/\∀i,i<j->jy l i=true) (λj=>l.length - j) 0 ⟨Ot _,λi h=>by omega⟩ ?_ ?_
 ·exact cM @gg.eq_1
 rintro j n hn ⟨hj,hok⟩;by_cases hc:j<l.length
 ·have h2:(0:Int)<=(j:Int):=by omega
  have q1:decide ((j:Int)<(l.length:Int))=true:=N9 ae;have h3:(j:Int)<(l.length:Int):=by omega
  have e1:IntKind.i64.wrap ((j:Int)+1)=((j+1:Nat):Int):=by rw[IntWalk.i64_in _ ae];omega
  have gj:=λd=>gB l j d hc;have gp:=λd (h:0<j)=>gB l (j - 1) d ae;have hob:=xp (l.getD j default).o;have hm:=DF (l.getD j default);generalize hv:l.getD j default=v at*
  cases b0:decide (cf v.o=0) with
  |false=>
   have hb:cS l=false:=fV hc (by simp only[jy,hv,Vs.okV,b0,Pv]);generalize cf v.o=z at*
   refine rn1 (cj9 @q1 h2 h3 e1 @N7 gj @cz.eq_1 @len b0) hob ?_;refine aG ?_;rw[hb];exact ay.refl _
  |true=>
  have hz:=Ox b0;rw[hz] at hob;cases b1:decide (0<=v.id) with
  |false=>
   have hb:cS l=false:=fV hc (by simp only[jy,hv,Vs.okV,b1,Pv,Qd]);have d1:decide (v.id<0)=true:=N9 (by have:=ON b1;omega);refine rn1 (cj9 @q1 h2 h3 e1 @N7 gj @cz.eq_1 @len d1) hob ?_;refine aG ?_;rw[hb];exact ay.refl _
  |true=>
  have d1:decide (v.id<0)=false:=N6 (by have:=Ox b1;omega);cases b2:decide (v.id<=1152921504606846976) with
  |false=>
   have hb:cS l=false:=fV hc (by simp only[jy,hv,Vs.okV,b2,Pv,Qd]);have d2:decide (1152921504606846976<v.id)=true:=N9 (by have:=ON b2;omega);refine rn1 (iw @q1 h2 h3 e1 @N7 gj @cz.eq_1 @len d1 d2) hob ?_;refine aG ?_;rw[hb];exact ay.refl _
  |true=>
  have d2:decide (1152921504606846976<v.id)=false:=N6 (by have:=Ox b2;omega);cases b3:v.fit with
  |false=>
   have hb:cS l=false:=fV hc (by simp only[jy,hv,Vs.okV,b3,Pv,Qd]);rw[b3] at hm;unfold cz at hm;refine rn2 (iw @q1 h2 h3 e1 @N7 gj @cz.eq_1 @len d1 d2) hob hm ?_;refine aG ?_;rw[hb];exact ay.refl _
  |true=>
  rw[b3] at hm;unfold cz at hm;have hov:v.okV=true:=by simp only[Vs.okV,b0,b1,b2,b3,PG]
  have next:∀(k:Nat),jy l j=true->∀i,i<j+1->jy l i=true:=λ_ h i hi=>by
   rcases Qq.1 hi with h'|rfl
   ·exact hok i h'
   ·exact h
  have w1:IntKind.i64.wrap (0+1)=1:=rfl;by_cases hj0:j=0
  ·subst hj0;have n1:gg l 1=if v.u=true then 1 else 0:=by simp only[gg,same,hv,Nat.lt_irrefl,decide_false,Pv,Oq,Od,Oo]
   have g0:decide ((0:Int)<((0:Nat):Int))=false:=rfl;have ho:jy l 0=true:=by
    simp only[jy,hv,hov,n1,OE,PT,OM,Oo];split<;>rfl
   cases hu:v.u with
   |true=>
    rw[hu,Oi rfl] at n1;rw[hu] at hm;refine rn2 (bf @q1 h2 h3 e1 @N7 gj @cz.eq_1 @len d1 d2 hu (cj2 w1 g0)) hob hm ?_;refine ⟨1,n+1,Ot _,⟨ae,next 0 ho⟩,ae,?_⟩;rw[n1];refine aM.tmN ae (λj p hp=>by simp[aB] at hp) (by simp only[aQ,go_sem,reduceIte,Nat.reduceEqDiff,Nat.reduceAdd];and_intros<;>first|exact trivial|exact ay.refl _|exact ay.any _|(refine ay.int ?_;omega))
   |false=>
    rw[hu,Ob ah] at n1;rw[hu] at hm;refine rn2 (bf @q1 h2 h3 e1 @N7 gj @cz.eq_1 @len d1 d2 hu (cj2 w1 g0)) hob hm ?_;refine ⟨1,n+1,Ot _,⟨ae,next 0 ho⟩,ae,?_⟩;rw[n1];refine aM.tmN ae (λj p hp=>by simp[aB] at hp) (by simp only[aQ,go_sem,reduceIte,Nat.reduceEqDiff,Nat.reduceAdd];and_intros<;>first|exact trivial|exact ay.refl _|exact ay.any _|(refine ay.int ?_;omega))
  have hj1:0<j:=by omega
  have g0:decide ((0:Int)<(j:Int))=true:=N9 ae;have ew:IntKind.i64.wrap ((j:Int) - 1)=((j - 1:Nat):Int):=by rw[IntWalk.i64_in _ ae];omega
  have h6:(0:Int)<=((j - 1:Nat):Int):=PM _;have h7:((j - 1:Nat):Int)<(l.length:Int):=by omega
  have gp:=λd=>gp d hj1;have hq:gg l j<=1:=by
   have:=hok (j - 1) ae;simp only[jy,Oh,Ov] at this;have e:j - 1+1=j:=by omega
   rw[e] at this;exact this.2
  generalize hp:l.getD (j - 1) default=p at*
  have nj:gg l (j+1)=(if same l j=true then gg l j else 0)+(if v.u=true then 1 else 0):=by simp only[gg,hv]
  have hs:same l j=decide (p.o=v.o):=by simp only[same,hv,hp,N9 hj1,OM]
  have ho:jy l j=(p.next v&&decide (gg l (j+1)<=1)):=by simp only[jy,hv,hp,hov,N6 hj0,PI,OM]
  rw[hs] at nj;generalize gg l j=q at*
  cases c1:decide (p.o=v.o) with
  |true=>
   have hpo:=Ox c1;rw[c1,Oi rfl] at nj;cases c2:decide (p.id<=v.id) with
   |true=>
    have hb:cS l=false:=fV hc (by
     rw[ho];have:decide (v.id<p.id)=false:=N6 (by have:=Ox c2;omega);simp only[Vs.next,hpo,cq,this,Qd,Bool.or_self,Pv])
    refine rn2 (bf @q1 h2 h3 e1 @N7 gj @cz.eq_1 @len d1 d2 g0 (cj6 ew h6 h7 gp c1 c2)) hob hm ?_;refine aG ?_;rw[hb];exact ay.refl _
   |false=>
    have nx:p.next v=true:=by
     have:decide (v.id<p.id)=true:=N9 (by have:=ON c2;omega);simp only[Vs.next,c1,this,PG,Qg]
    cases hu:v.u with
    |true=>
     rw[hu,Oi rfl] at nj;rw[hu] at hm;have e5:IntKind.i64.wrap ((q:Int)+1)=((q+1:Nat):Int):=by rw[IntWalk.i64_in _ ae];omega
     cases c3:decide ((1:Int)<((q+1:Nat):Int)) with
     |true=>
      have hb:cS l=false:=fV hc (by
       rw[ho,nj,N6 (by have:=Ox c3;omega),Qd])
      refine rn2 (bf @q1 h2 h3 e1 @N7 gj @cz.eq_1 @len d1 d2 g0 (cj9 ew h6 h7 gp c1 c2 hu e5 c3)) hob hm ?_;refine aG ?_;rw[hb];exact ay.refl _
     |false=>
      refine rn2 (bf @q1 h2 h3 e1 @N7 gj @cz.eq_1 @len d1 d2 g0 (cj9 ew h6 h7 gp c1 c2 hu e5 c3)) hob hm ?_;refine ⟨j+1,n+1,Ot _,⟨ae,next 0 (by rw[ho,nx,nj,N9 (by have:=ON c3;omega)];rfl)⟩,ae,?_⟩;rw[nj];refine aM.tmN ae (λj p hp=>by simp[aB] at hp) (by simp only[aQ,go_sem,reduceIte,Nat.reduceEqDiff,Nat.reduceAdd];and_intros<;>first|exact trivial|exact ay.refl _|exact ay.any _|(refine ay.int ?_;omega))
    |false=>
     rw[hu,Ob ah] at nj;rw[hu] at hm;have c3:decide ((1:Int)<(q:Int))=false:=N6 ae;refine rn2 (bf @q1 h2 h3 e1 @N7 gj @cz.eq_1 @len d1 d2 g0 (cj8 ew h6 h7 gp c1 c2 hu c3)) hob hm ?_;refine ⟨j+1,n+1,Ot _,⟨ae,next 0 (by rw[ho,nx,nj,N9 ae];rfl)⟩,ae,?_⟩;rw[nj];refine aM.tmN ae (λj p hp=>by simp[aB] at hp) (by simp only[aQ,go_sem,reduceIte,Nat.reduceEqDiff,Nat.reduceAdd];and_intros<;>first|exact trivial|exact ay.refl _|exact ay.any _|(refine ay.int ?_;omega))
  |false=>
   have hpo:=ON c1;rw[c1,Ob ah] at nj;cases c2:Op.bytesLess p.o v.o with
   |false=>
    have hb:cS l=false:=fV hc (by
     rw[ho];simp only[Vs.next,c2,c1,Pv,Bool.or_self])
    refine rn2 (bf @q1 h2 h3 e1 @N7 gj @cz.eq_1 @len d1 d2 g0 (cj6 ew h6 h7 gp c1 c2)) hob hm ?_;refine aG ?_;rw[hb];exact ay.refl _
   |true=>
    have nx:p.next v=true:=by simp only[Vs.next,c2,PT]
    cases hu:v.u with
    |true=>
     rw[hu,Oi rfl] at nj;rw[hu] at hm;refine rn2 (bf @q1 h2 h3 e1 @N7 gj @cz.eq_1 @len d1 d2 g0 (cj8 ew h6 h7 gp c1 c2 hu w1)) hob hm ?_;refine ⟨j+1,n+1,Ot _,⟨ae,next 0 (by rw[ho,nx,nj];rfl)⟩,ae,?_⟩;rw[nj];refine aM.tmN ae (λj p hp=>by simp[aB] at hp) (by simp only[aQ,go_sem,reduceIte,Nat.reduceEqDiff,Nat.reduceAdd];and_intros<;>first|exact trivial|exact ay.refl _|exact ay.any _|(refine ay.int ?_;omega))
    |false=>
     rw[hu,Ob ah] at nj;rw[hu] at hm;refine rn2 (bf @q1 h2 h3 e1 @N7 gj @cz.eq_1 @len d1 d2 g0 (cj7 ew h6 h7 gp c1 c2 hu)) hob hm ?_;refine ⟨j+1,n+1,Ot _,⟨ae,next 0 (by rw[ho,nx,nj];rfl)⟩,ae,?_⟩;rw[nj];refine aM.tmN ae (λj p hp=>by simp[aB] at hp) (by simp only[aQ,go_sem,reduceIte,Nat.reduceEqDiff,Nat.reduceAdd];and_intros<;>first|exact trivial|exact ay.refl _|exact ay.any _|(refine ay.int ?_;omega))
 ·have hj2:j=l.length:=by omega
  subst hj2;have q1:decide ((l.length:Int)<(l.length:Int))=false:=N6 ae;refine rn0 @q1 ?_;refine aG ?_;rw[xF hok];exact ay.refl _
structure Bk where
 n:List UInt8
 st:Int
 l:List Vs
def eA(b:Bk):AV:= .agg [.str b.n,.int .i64 b.st,.sl 8 (vss b.l) .any]
theorem fW(b:Bk):aW (eA b)=true:=by simp[eA,aW,aJ,bA,oP]
def gL(l:List Vs):Nat->List UInt8
 |0=>[]
 |j+1=>if (l.getD j default).u=true then (l.getD j default).o else gL l j
def okR(l:List Vs)(j:Nat):Bool:=(l.getD j default).okV&&(decide (j=0)||(l.getD (j - 1) default).next (l.getD j default))&& !((l.getD j default).u&&decide ((l.getD j default).o=gL l j))
def ic(l:List Vs):Bool:=(List.range l.length).all (okR l)
theorem qt{l:List Vs}{j:Nat}(hj:j<l.length)(h:okR l j=false):ic l=false:=by
 cases e:ic l with
 |false=>rfl
 |true=>
  unfold ic at e;rw[OK] at e;rw[e j (O6.2 hj)] at h;cases h
theorem vJ{l:List Vs}(h:∀i,i<l.length->okR l i=true):ic l=true:=by
 unfold ic;rw[OK];intro i hi;exact h i (O6.1 hi)
def bkR(b:Bk):Bool:=decide (bW b.n=0)&&oN b.st&&ic b.l
set_option maxHeartbeats 8000000 in
theorem DG(b:Bk)(hl:b.l.length<=1000000):aI Tryz.prog 52 [eA b] (.bool (bkR b)):=by
 refine f52.aF ah (by simp[aJ,fW]) rfl ?_;unfold c52 zz;have h0:=uz b.n;obtain ⟨nm,st,l⟩:=b;unfold eA bkR;simp only at h0 hl |-;have len:=dF l;cases b0:decide (bW nm=0) with
 |false=>
  generalize bW nm=z at*
  refine rn1 b0 h0 ?_;refine aG ?_;exact ay.refl _
 |true=>
 have hz:=Ox b0;rw[hz] at h0;rcases oO st with hst|⟨h,h1|⟨h1,h2⟩⟩
 ·have hso:oN st=true:=by rcases hst with rfl|rfl|rfl<;>rfl
  have s1:decide (st<0)=false:=N6 ae;have s2:decide (2<st)=false:=N6 ae;rw[hso];refine rn1 (cj2 s1 s2) h0 ?_;refine Wp.oD [1] (by simp only[go_sem,reduceIte,Nat.reduceEqDiff,List.map,len];exact rfl) (λj:Nat=>[(3,.str (gL l j)),(4,.int .i64 j)]) (λj=>j<=l.length/\∀i,i<j->okR l i=true) (λj=>l.length - j) 0 ⟨Ot _,λi h=>by omega⟩ ?_ ?_
  ·exact cM @gL.eq_1
  rintro j n hn ⟨hj,hok⟩;have hn':1<=n:=hn;have n0:¬(0=n):=by omega
  have n1:¬(n=0):=by omega
  by_cases hc:j<l.length
  ·have h2:(0:Int)<=(j:Int):=by omega
   have q1:decide ((j:Int)<(l.length:Int))=true:=N9 ae;have h3:(j:Int)<(l.length:Int):=by omega
   have e1:IntKind.i64.wrap ((j:Int)+1)=((j+1:Nat):Int):=by rw[IntWalk.i64_in _ ae];omega
   have gj:=λd=>gB l j d hc;have ga:=λd=>gB l (j - 1) d ae;have ew:(if (0:Int)<IntKind.i64.wrap ((j:Int) - 1) then IntKind.i64.wrap ((j:Int) - 1) else 0)=((j - 1:Nat):Int):=by rw[IntWalk.i64_in _ ae];split<;>omega
   have h6:(0:Int)<=((j - 1:Nat):Int):=PM _;have h7:((j - 1:Nat):Int)<(l.length:Int):=by omega
   have hla:decide ((j:Int)=0)=true\/Ls (l.getD (j - 1) default).o:=by
    by_cases hj0:j=0
    ·left;subst hj0;rfl
    ·right;have:=hok (j - 1) ae;simp only[okR,Vs.okV,Oh,Ov] at this;have:=vI this.1.1.1.1.1;unfold Ls;omega
   have hv:=Aa (l.getD j default) (l.getD (j - 1) default) (decide ((j:Int)=0)) hla;have dj:decide ((j:Int)=0)=decide (j=0):=by
    by_cases hj0:j=0
    ·subst hj0;rfl
    ·rw[N6 hj0,N6 ae]
   have ok1:okR l j=((l.getD j default).okV&&(decide ((j:Int)=0)||(l.getD (j - 1) default).next (l.getD j default))&& !((l.getD j default).u&&decide ((l.getD j default).o=gL l j))):=by rw[dj];rfl
   have nx:gL l (j+1)=if (l.getD j default).u=true then (l.getD j default).o else gL l j:=rfl
   have next:okR l j=true->∀i,i<j+1->okR l i=true:=λh i hi=>by
    rcases Qq.1 hi with h'|rfl
    ·exact hok i h'
    ·exact h
   generalize hfz:decide ((j:Int)=0)=fz at*
   generalize l.getD j default=v at*
   generalize l.getD (j - 1) default=p at*
   cases c1:(v.okV&&(fz||p.next v)) with
   |false=>
    have hb:ic l=false:=qt hc (by rw[ok1,c1];rfl);rw[c1] at hv;unfold cz at hv gj ga;refine rn1 (bf @q1 h2 h3 e1 n0 n1 @N7 gj ga @len ew (cj3 h6 h7 hfz)) hv ?_;refine aG ?_;rw[hb];exact ay.refl _
   |true=>
    rw[c1] at hv ok1;cases hu:v.u with
    |false=>
     rw[hu] at ok1;rw[hu,Ob ah] at nx;unfold cz at hv gj ga;rw[hu] at hv;generalize gL l j=q at*
     refine rn1 (bf @q1 h2 h3 e1 n0 n1 @N7 gj ga @len ew (cj4 h6 h7 hfz hu)) hv ?_;refine ⟨j+1,n+1,by show 1<=n+1;omega,⟨ae,next (by rw[ok1];rfl)⟩,ae,?_⟩;rw[nx];refine aM.tmN ae (OLe.at (by simp[upd,aB,n0,n1])) (by simp only[aQ,go_sem,reduceIte,Nat.reduceEqDiff,Nat.reduceAdd,bx,n0,n1];and_intros<;>first|exact trivial|exact ay.refl _|exact ay.any _|(refine ay.int ?_;omega))
    |true=>
     rw[hu] at ok1;rw[hu,Oi rfl] at nx;unfold cz at hv gj ga;rw[hu] at hv;generalize gL l j=q at*
     cases c2:decide (v.o=q) with
     |true=>
      have hb:ic l=false:=qt hc (by rw[ok1,c2];rfl);refine rn1 (bf @q1 h2 h3 e1 n0 n1 @N7 gj ga @len ew (cj5 h6 h7 hfz hu c2)) hv ?_;refine aG ?_;rw[hb];exact ay.refl _
     |false=>
      rw[c2] at ok1;refine rn1 (bf @q1 h2 h3 e1 n0 n1 @N7 gj ga @len ew (cj5 h6 h7 hfz hu c2)) hv ?_;refine ⟨j+1,n+1,by show 1<=n+1;omega,⟨ae,next (by rw[ok1];rfl)⟩,ae,?_⟩;rw[nx];refine aM.tmN ae (OLe.at (by simp[upd,aB,n0,n1])) (by simp only[aQ,go_sem,reduceIte,Nat.reduceEqDiff,Nat.reduceAdd,bx,n0,n1];and_intros<;>first|exact trivial|exact ay.refl _|exact ay.any _|(refine ay.int ?_;omega))
  ·have hj2:j=l.length:=by omega
   subst hj2;have q1:decide ((l.length:Int)<(l.length:Int))=false:=N6 ae;refine rn0 (cj2 @q1 @len) ?_;refine aG ?_;rw[vJ hok];exact ay.refl _
 ·have d1:=N9 h1;rw[h];refine rn1 d1 h0 ?_;refine aG ?_;exact ay.refl _
 ·have d1:=N6 h1;have d2:=N9 h2;rw[h];refine rn1 (cj2 d1 d2) h0 ?_;refine aG ?_;exact ay.refl _
theorem KD{s:List UInt8}(h:cf s=0):s≠[]:=by
 unfold cf at h;split at h
 ·rename_i h';exact h'.1
 ·cases h
theorem jG{a b:List UInt8}(h:Op.bytesLess a b=true):a≠b:=by
 rintro rfl;rw[cq] at h;cases h
structure Inv(l:List Vs)(k:Nat):Prop where
 one:gg l k<=1
 iff:0<k->(gg l k=1↔gL l k=(l.getD (k - 1) default).o)
 txt:gL l k=[]\/∃i,i<k/\gL l k=(l.getD i default).o
 ord:∀i,i<k->(l.getD i default).o=(l.getD (k - 1) default).o\/Op.bytesLess (l.getD i default).o (l.getD (k - 1) default).o=true
theorem vK{l:List Vs}{k:Nat}(I:Inv l k):jy l k=okR l k/\(jy l k=true->Inv l (k+1)):=by
 have hsame:same l k=(decide (0<k)&&decide ((l.getD (k - 1) default).o=(l.getD k default).o)):=rfl;have hn:gg l (k+1)=(if same l k=true then gg l k else 0)+(if (l.getD k default).u=true then 1 else 0):=rfl;have ht:gL l (k+1)=if (l.getD k default).u=true then (l.getD k default).o else gL l k:=rfl
 have ha:jy l k=((l.getD k default).okV&&(decide (k=0)||(l.getD (k - 1) default).next (l.getD k default))&&decide (gg l (k+1)<=1)):=rfl;have hr:okR l k=((l.getD k default).okV&&(decide (k=0)||(l.getD (k - 1) default).next (l.getD k default))&& !((l.getD k default).u&&decide ((l.getD k default).o=gL l k))):=rfl;have e1:k+1 - 1=k:=by omega
 obtain ⟨I1,I2,I3,I4⟩:=I;cases c:((l.getD k default).okV&&(decide (k=0)||(l.getD (k - 1) default).next (l.getD k default))) with
 |false=>rw[ha,hr,c];exact ⟨rfl,λh=>by cases h⟩
 |true=>
 rw[c,OM] at ha hr;simp only[Oh,OZ,Ov] at c;have hne:(l.getD k default).o≠[]:=by
  have:=c.1;simp only[Vs.okV,Oh,Ov] at this;exact KD this.1.1.1
 have hord:∀i,i<k->(l.getD i default).o=(l.getD k default).o\/Op.bytesLess (l.getD i default).o (l.getD k default).o=true:=by
  intro i hi;have nx:=c.2.resolve_left ae;simp only[Vs.next,OZ,Oh,Ov] at nx;rcases I4 i hi with h|h<;>rcases nx with h'|⟨h',-⟩
  ·right;rw[h];exact h'
  ·left;rw[h];exact h'
  ·right;exact eI h h'
  ·right;rw[<-h'];exact h
 have hfar:same l k=false->gL l k≠(l.getD k default).o:=by
  intro hs;rcases I3 with h|⟨i,hi,h⟩
  ·rw[h];exact λe=>hne e.symm
  ·rw[h];have nx:=c.2.resolve_left ae;simp only[Vs.next,OZ,Oh,Ov] at nx;rw[hsame,N9 (by omega:0<k),OM] at hs;have hs:=ON hs;have nx:=nx.resolve_right λx=>hs x.1;rcases I4 i hi with h'|h'
   ·rw[h'];exact jG nx
   ·exact jG (eI h' nx)
 have hsm:same l k=true->0<k/\(l.getD (k - 1) default).o=(l.getD k default).o:=by
  intro hs;rw[hsame,Oh] at hs;exact ⟨Ox hs.1,Ox hs.2⟩
 have key:((l.getD k default).u=true->same l k=true->(gg l k=1↔gL l k=(l.getD k default).o)):=by
  intro _ hs;obtain ⟨g1,g2⟩:=hsm hs;rw[<-g2];exact I2 g1
 refine ⟨?_,λhok=>⟨?_,λ_=>?_,?_,?_⟩⟩
 ·rw[ha,hr,hn];cases hu:(l.getD k default).u with
  |false=>
   cases hs:same l k with
   |false=>simp
   |true=>simp[I1]
  |true=>
   cases hs:same l k with
   |false=>
    have:=hfar hs;simp only[Oq,Od,Of,OM,N6 (λe=>this (Eq.symm e))];rfl
   |true=>
    have kk:=key hu hs;simp only[Of,OM];by_cases h1:gg l k=1
    ·rw[h1,N9 (kk.1 h1).symm];rfl
    ·have h0:gg l k=0:=by omega
     have d:decide ((l.getD k default).o=gL l k)=false:=N6 λe=>h1 (kk.2 e.symm);rw[h0,d];rfl
 ·rw[ha] at hok;exact Ox hok
 ·rw[e1,hn,ht];rw[ha,hn] at hok;have hok:=Ox hok;cases hu:(l.getD k default).u with
  |true=>
   rw[hu] at hok;simp only[Of] at hok |-;constructor
   ·exact λ_=>trivial
   ·intro _;omega
  |false=>
   simp only[Oq,Od,Nat.add_zero];cases hs:same l k with
   |false=>
    simp only[Oq,Od];constructor
    ·intro h;cases h
    ·intro h;exact absurd h (hfar hs)
   |true=>
    obtain ⟨g1,g2⟩:=hsm hs;simp only[Of];rw[<-g2];exact I2 g1
 ·rw[ht];cases hu:(l.getD k default).u with
  |true=>right;exact ⟨k,ae,by simp⟩
  |false=>
   simp only[Oq,Od];rcases I3 with h|⟨i,hi,h⟩
   ·exact .inl h
   ·exact .inr ⟨i,ae,h⟩
 ·intro i hi;rw[e1];rcases Qq.1 hi with h|rfl
  ·exact hord i h
  ·exact .inl rfl
theorem inv_zero(l:List Vs):Inv l 0:=⟨Ot _,λh=>by omega,.inl rfl,λi h=>by omega⟩
theorem FN(l:List Vs):∀k,((∀i,i<k->jy l i=true)↔(∀i,i<k->okR l i=true))/\((∀i,i<k->jy l i=true)->Inv l k)
 |0=>⟨⟨λ_ i h=>by omega,λ_ i h=>by omega⟩,λ_=>inv_zero l⟩
 |k+1=>by
  obtain ⟨ih1,ih2⟩:=FN l k;have up:∀(f:Nat->Bool),(∀i,i<k+1->f i=true)↔((∀i,i<k->f i=true)/\f k=true):=λf=>⟨λh=>⟨λi hi=>h i ae,h k ae⟩,λh i hi=>by
   rcases Qq.1 hi with h'|rfl
   ·exact h.1 i h'
   ·exact h.2⟩
  rw[up,up];refine ⟨⟨λh=>⟨ih1.1 h.1,?_⟩,λh=>⟨ih1.2 h.1,?_⟩⟩,λh=>?_⟩
  ·rw[<-(vK (ih2 h.1)).1];exact h.2
  ·rw[(vK (ih2 (ih1.2 h.1))).1];exact h.2
  ·exact (vK (ih2 h.1)).2 h.2
theorem DH(l:List Vs):ic l=cS l:=by
 have h:=(FN l l.length).1;rw[Q5];unfold ic cS;simp only[OK,O6];exact h.symm
instance:Inhabited Bk:=⟨⟨[],0,[]⟩⟩
def bks(m:List Bk):List AV:=m.map eA
def cC(m:List Bk):AV:= .agg [.sl 3 (bks m) .any]
theorem eK(l:List Bk):(bks l).length=l.length:=PF _
theorem gC(l:List Bk)(j:Nat)(d:AV)(h:j<l.length):(bks l).getD j d=eA (l.getD j default):=by
 simp[bks,OF,N5 h]
theorem FO(l:List Bk):aJ (bks l)=true:=Av.bG (λa=>fW a) l
theorem dR(m:List Bk):aW (cC m)=true:=by simp[cC,aW,aJ,bA,FO]
def Few(m:List Bk):Prop:=∀b∈m,b.l.length<=1000000
theorem Few.at{m:List Bk}(h:Few m)(j:Nat):(m.getD j default).l.length<=1000000:=by
 by_cases hj:j<m.length
 ·rw[OF,N5 hj];exact h _ (Pk hj)
 ·rw[OF,Pq ae];exact Ot _
def gq(b:Bk):Bool:=decide (bW b.n=0)&&oN b.st&&cS b.l
def oQ(m:List Bk)(j:Nat):Bool:=gq (m.getD j default)&&(decide (j=0)||Op.bytesLess (m.getD (j - 1) default).n (m.getD j default).n)
def imB(m:List Bk):Bool:=decide (m.length<=65535)&&(List.range m.length).all (oQ m)
def imE(m:List Bk):Int:=if imB m=true then 0 else 4
theorem nR{m:List Bk}{j:Nat}(hj:j<m.length)(h:oQ m j=false):imE m=4:=by
 unfold imE;rw[Ob];unfold imB;simp only[Oh,OK,O6,not_and];intro _ hh;rw[hh j hj] at h;cases h
theorem BJ{m:List Bk}(hl:m.length<=65535)(h:∀i,i<m.length->oQ m i=true):imE m=0:=by
 unfold imE imB;rw[Oi];simp only[Oh,OK,O6,Ov];exact ⟨hl,h⟩
theorem sA{s:List UInt8}(h:bW s=0):s.length<=12:=by
 unfold bW at h;split at h
 ·rename_i h';exact h'.2.1
 ·cases h
set_option maxHeartbeats 8000000 in
theorem xG(m:List Bk)(hf:Few m):aI Tryz.prog 16 [cC m] (.int .i64 (imE m)):=by
 refine f16.aF ah (by simp[aJ,dR]) rfl ?_;unfold c16 cC zz;have len:=eK m;cases d0:decide ((65535:Int)<(m.length:Int)) with
 |true=>
  have hb:imE m=4:=by
   unfold imE imB;rw[N6 (by have:=Ox d0;omega)];rfl
  rw[hb];refine rn0 (cj2 @len d0) ?_;refine aG ?_;exact ay.refl _
 |false=>
 have hl:=ON d0;refine rn0 (cj2 @len d0) ?_;refine Wp.oD [1] (by simp only[go_sem,reduceIte,Nat.reduceEqDiff,List.map,len];exact rfl) (λj:Nat=>[(3,.int .i64 j)]) (λj=>j<=m.length/\∀i,i<j->oQ m i=true) (λj=>m.length - j) 0 ⟨Ot _,λi h=>by omega⟩ ?_ ?_
 ·exact xSb
 rintro j n hn ⟨hj,hok⟩;have hn':1<=n:=hn;have n0:¬(0=n):=by omega
 have n1:¬(n=0):=by omega
 by_cases hc:j<m.length
 ·have h2:(0:Int)<=(j:Int):=by omega
  have q1:decide ((j:Int)<(m.length:Int))=true:=N9 ae;have h3:(j:Int)<(m.length:Int):=by omega
  have e1:IntKind.i64.wrap ((j:Int)+1)=((j+1:Nat):Int):=by rw[IntWalk.i64_in _ ae];omega
  have gj:=λd=>gC m j d hc;have ga:=λd=>gC m (j - 1) d ae;have hv:=DG (m.getD j default) (hf.at j);have hbk:bkR (m.getD j default)=gq (m.getD j default):=by unfold bkR gq;rw[DH]
  rw[hbk] at hv;have ok1:oQ m j=(gq (m.getD j default)&&(decide (j=0)||Op.bytesLess (m.getD (j - 1) default).n (m.getD j default).n)):=rfl;have hls:gq (m.getD j default)=true->Ls (m.getD j default).n:=by
   intro h;simp only[gq,Oh,Ov] at h;have:=sA h.1.1;unfold Ls;omega
  have hla:0<j->Ls (m.getD (j - 1) default).n:=by
   intro h;have:=hok (j - 1) ae;simp only[oQ,gq,Oh,Ov] at this;have:=sA this.1.1.1;unfold Ls;omega
  have next:oQ m j=true->∀i,i<j+1->oQ m i=true:=λh i hi=>by
   rcases Qq.1 hi with h'|rfl
   ·exact hok i h'
   ·exact h
  generalize m.getD j default=v at*
  generalize m.getD (j - 1) default=p at*
  cases c1:gq v with
  |false=>
   have hb:imE m=4:=nR hc (by rw[ok1,c1];rfl);rw[c1] at hv;unfold eA at hv gj ga;rw[hb];refine rn1 (iw @q1 h2 h3 e1 n0 n1 @N7 gj ga @len) hv ?_;refine aG ?_;exact ay.refl _
  |true=>
  rw[c1,OM] at ok1;rw[c1] at hv;by_cases hj0:j=0
  ·have g0:decide ((0:Int)<(j:Int))=false:=N6 ae;unfold eA at hv gj ga;refine rn1 (fD @q1 h2 h3 e1 n0 n1 @N7 gj ga @len g0) hv ?_;refine ⟨j+1,n,by show 1<=n;omega,⟨ae,next (by rw[ok1,N9 hj0];rfl)⟩,ae,?_⟩;exact xSu
  ·have g0:decide ((0:Int)<(j:Int))=true:=N9 ae;have ew:IntKind.i64.wrap ((j:Int) - 1)=((j - 1:Nat):Int):=by rw[IntWalk.i64_in _ ae];omega
   have h6:(0:Int)<=((j - 1:Nat):Int):=PM _;have h7:((j - 1:Nat):Int)<(m.length:Int):=by omega
   have hb3:=qP p.n v.n (hla ae) (hls c1);rw[N6 hj0,PI] at ok1;cases c2:Op.bytesLess p.n v.n with
   |false=>
    have hb:imE m=4:=nR hc (by rw[ok1,c2]);rw[c2] at hb3;unfold eA at hv gj ga;rw[hb];refine rn2 (bf @q1 h2 h3 e1 n0 n1 @N7 gj ga @len g0 (cj3 ew h6 h7)) hv hb3 ?_;refine aG ?_;exact ay.refl _
   |true=>
    rw[c2] at hb3;unfold eA at hv gj ga;refine rn2 (bf @q1 h2 h3 e1 n0 n1 @N7 gj ga @len g0 (cj3 ew h6 h7)) hv hb3 ?_;refine ⟨j+1,n,by show 1<=n;omega,⟨ae,next (by rw[ok1,c2])⟩,ae,?_⟩;exact xSu
 ·have hj2:j=m.length:=by omega
  subst hj2;have q1:decide ((m.length:Int)<(m.length:Int))=false:=N6 ae;rw[BJ ae hok];refine rn0 (cj2 @q1 @len) ?_;refine aG ?_;exact ay.refl _
theorem xH(m:List Bk)(hl:m.length<=35184372088832)(hv:∀b∈m,b.l.length<=35184372088832):aI Tryz.prog 22 [cC m,cC m] (.bool true):=by
 refine f22.aF ah (by simp[aJ,dR]) rfl ?_;unfold c22 cC zz;have len:=eK m;have e0:decide (((m.length:Nat):Int)=((m.length:Nat):Int))=true:=N9 rfl;refine rn0 (cj3 @len e0 @Oy) ?_;refine Wp.oD [2,3] (by simp only[go_sem,reduceIte,Nat.reduceEqDiff,List.map,len];exact rfl) (λj:Nat=>[(5,.int .i64 j)]) (λj=>j<=m.length) (λj=>m.length - j) 0 (Ot _) ?_ ?_
 ·exact xSb
 rintro j n hn hj;have hn':2<=n:=hn;have n0:¬(0=n):=by omega
 have n1:¬(1=n):=by omega
 have n0':¬(n=0):=by omega
 have n1':¬(n=1):=by omega
 have o0:¬(0=n+1):=by omega
 have o1:¬(1=n+1):=by omega
 have o2:¬(n=n+1):=by omega
 have o3:¬(n+1=n):=by omega
 by_cases hc:j<m.length
 ·have h2:(0:Int)<=(j:Int):=by omega
  have q1:decide ((j:Int)<(m.length:Int))=true:=N9 ae;have h3:(j:Int)<(m.length:Int):=by omega
  have e1:IntKind.i64.wrap ((j:Int)+1)=((j+1:Nat):Int):=by rw[IntWalk.i64_in _ ae];omega
  have gj:=λd=>gC m j d hc;have hlb:(m.getD j default).l.length<=35184372088832:=hv _ (by rw[Av.gA hc];exact Pk hc);generalize m.getD j default=v at*
  obtain ⟨nm,st,l⟩:=v;simp only at hlb;unfold eA at gj;have len2:=dF l;have ev:decide (((l.length:Nat):Int)=((l.length:Nat):Int))=true:=N9 rfl;refine rn0 (bf @q1 h2 h3 e1 n0 n1 n0' n1' o0 o1 o2 (cj8 o3 @N7 gj @len len2 ev @OE @Oy)) ?_;refine az.nil ⟨by simp[bg,aN,apart,aU,n0,n1,n0',n1',o0,o1,o2,o3],?_⟩;refine rn0 (bf n0 n1 n0' n1' o0 o1 o2 o3 len2 ev e1 (cj4 @PJ.{0} @Rb.{0} @OE @Oy)) ?_;refine Wp.oD [2,3,6,7] xA7 (λi:Nat=>[(5,.int .i64 j),(8,.int .i64 i)]) (λi=>i<=l.length) (λi=>l.length - i) 0 (Ot _) ?_ ?_
  ·exact xSb
  rintro i k hk hi;have hk':n+1+1<=k:=hk;by_cases hci:i<l.length
  ·have i2:(0:Int)<=(i:Int):=by omega
   have i1:decide ((i:Int)<(l.length:Int))=true:=N9 ae;have i3:(i:Int)<(l.length:Int):=by omega
   have i4:IntKind.i64.wrap ((i:Int)+1)=((i+1:Nat):Int):=by rw[IntWalk.i64_in _ ae];omega
   have gi:=λd=>gB l i d hci;generalize l.getD i default=v at*
   unfold cz at gi;refine rn0 (bf i1 i2 i3 i4 n0 n1 n0' n1' o0 o1 o2 (iw o3 @N7 gi len2 @PJ.{0} @Rb.{0} @OE @PG @Oz.{0,0} @Oy)) ?_;refine ⟨i+1,k,by show n+1+1<=k;omega,ae,ae,?_⟩;refine aM.of (aY ?_) (λa o ho=>⟨o,ho,cm.refl _⟩) (λ_ h=>h) (N4 _) (N4 _);exact cM i4
  ·have hi2:i=l.length:=by omega
   subst hi2;have i1:decide ((l.length:Int)<(l.length:Int))=false:=N6 ae;refine rn0 (fD i1 e1 n0 n1 n0' n1' o0 o1 o2 o3 len2) ?_;refine ⟨j+1,k,by show 2<=k;omega,ae,ae,?_⟩;refine aM.of (aY ?_) (λa o ho=>⟨o,?_,cm.refl _⟩) (λ_ h=>h) (N4 _) (N4 _)
   ·exact cM e1
   ·simp only[upd,aB] at ho |-;by_cases a1:a=1
    ·subst a1;simpa [o1,n1,n0',n1'] using ho
    ·by_cases a0:a=0
     ·subst a0;simpa [o0,n0,n0'] using ho
     ·rw[Ob a1,Ob a0] at ho;cases ho
 ·have hj2:j=m.length:=by omega
  subst hj2;have q1:decide ((m.length:Int)<(m.length:Int))=false:=N6 ae;refine rn0 (cj2 @q1 @len) ?_;refine aG ?_;exact ay.refl _
structure Pt where
 k:Int
 n:Int
 s:List UInt8
deriving Inhabited
def bX(p:Pt):AV:= .agg [.int .i64 p.k,.int .i64 p.n,.str p.s]
def upB(n:Nat):List UInt8:=be 8 (n+9223372036854775808)
def bD(m:UInt8)(l:List UInt8):List UInt8:=l.map (· ^^^ m)
def ptB(p:Pt):List UInt8:=if p.k=2 then 3::bD 0 (upB p.n.toNat) else if p.k=3 then 4::bD 255 (upB p.n.toNat) else 2::p.s++[0,1]
structure Pt.ok(p:Pt):Prop where
 k:p.k=1\/p.k=2\/p.k=3
 t:p.k=1->p.n=0/\(∀b∈p.s,b≠0)/\p.s.length<=128
 u:p.k≠1->p.s=[]/\0<=p.n/\p.n<9223372036854775808
theorem FP(a b:UInt8):lK .u8 (a.toNat:Int) (b.toNat:Int)=((a ^^^ b).toNat:Int):=by
 unfold lK;change IntKind.u8.wrap (((BitVec.ofInt 8 (a.toNat:Int) ^^^ BitVec.ofInt 8 (b.toNat:Int)).toNat:Nat):Int)=_;have h1:BitVec.ofInt 8 (a.toNat:Int)=a.toBitVec:=by
  apply BitVec.eq_of_toNat_eq;simp[BitVec.toNat_ofInt]
 have h2:BitVec.ofInt 8 (b.toNat:Int)=b.toBitVec:=by
  apply BitVec.eq_of_toNat_eq;simp[BitVec.toNat_ofInt]
 rw[h1,h2];have h3:(a.toBitVec ^^^ b.toBitVec).toNat=(a ^^^ b).toNat:=rfl;rw[h3];have:=(a ^^^ b).toNat_lt;exact IntWalk.u8_in _ ae
theorem FQ(n:Nat)(h:n<9223372036854775808):lK .u64 (n:Int) 9223372036854775808=((n+9223372036854775808:Nat):Int):=by
 unfold lK;change IntKind.u64.wrap (((BitVec.ofInt 64 (n:Int) ^^^ BitVec.ofInt 64 9223372036854775808).toNat:Nat):Int)=_;have h1:BitVec.ofInt 64 (n:Int)=BitVec.ofNat 64 n:=by
  apply BitVec.eq_of_toNat_eq;simp[BitVec.toNat_ofInt]
 have h2:BitVec.ofInt 64 9223372036854775808=BitVec.ofNat 64 9223372036854775808:=rfl;rw[h1,h2];have h3:(BitVec.ofNat 64 n ^^^ BitVec.ofNat 64 9223372036854775808).toNat=n+9223372036854775808:=by
  rw[BitVec.toNat_xor,QU,QU,O7 ae,O7 ae,Nat.xor_comm];have:=Nat.two_pow_add_eq_or_of_lt (i:=63) (show n<2^63 by omega) 1;have hx:(9223372036854775808 ^^^ n)=9223372036854775808 ||| n:=by
   apply Nat.eq_of_testBit_eq;intro i;rw[Nat.testBit_xor,Nat.testBit_or,show (9223372036854775808:Nat)=2^63 from rfl,Nat.testBit_two_pow];by_cases hi:63=i
   ·subst hi;rw[Nat.testBit_lt_two_pow ae];simp
   ·simp[hi]
  rw[hx];simp only[O4] at this;rw[<-this];omega
 rw[h3];exact IntWalk.u64_in _ ae
theorem DJ(v i:Nat)(hi:i<=7)(m:UInt8):lK .u8 (IntKind.u8.wrap ((v:Int).fdiv (2^(min ((8*i:Nat):Int).toNat 64)))) (m.toNat:Int)=((UInt8.ofNat (v/256^i) ^^^ m).toNat:Int):=by
 have h:=oJ v i hi;unfold byte at h;simp only[AV.int.injEq,PC] at h;rw[h];exact FP _ _
theorem cJ(m:UInt8)(l:List UInt8):(bD m l).length=l.length:=by simp[bD]
theorem uA(v:Nat)(hv:v<9223372036854775808)(mk:UInt8)(xs:List UInt8)(hx:xs.length<=1000):kW Tryz.prog 228 (λt=>[.sl 1 (aD xs) (.own t),.int .i64 v,.int .u8 mk.toNat]) (λt=> .sl 1 (aD (xs++bD mk (upB v))) (.own t)):=by
 intro t n m;suffices h:∃r h',bB Tryz.prog 228 [.sl 1 (aD xs) (.own t),.int .i64 v,.int .u8 mk.toNat] (.only aB [t] n m) r h'/\∃t' m',m<=m'/\r= .sl 1 (aD (xs++bD mk (upB v))) (.own t')/\h'= .only aB [t'] n m' by
  obtain ⟨r,h',ha,t',m',hm,rfl,rfl⟩:=h;exact ⟨t',m',hm,ha⟩
 refine f228.fe ah ?_;unfold Mz upB zz;have e0:IntKind.u64.wrap (v:Int)=(v:Int):=IntWalk.u64_in _ ae;have e1:=FQ v hv;generalize hu:v+9223372036854775808=u at*
 refine rf0 (cj2 e0 e1) ?_;refine Wp.cO [7,2] xA7 (λj:Nat × List UInt8 × Nat × Nat=>[(0,.sl 1 (aD (xs++bD mk j.2.1)) (.own j.2.2.1)),(8,.int .i64 (8*(j.1:Int) - 8))]) (λj=> .only aB [j.2.2.1] n j.2.2.2)
  (λj=>j.1<=8/\m<=j.2.2.2/\j.2.1++be j.1 u=be 8 u) (λj=>j.1) (8,[],t,m) ⟨N4 _,N4 _,rfl⟩ rfl ?_ ?_
 ·exact cM (cj3 @bD.eq_1 @OQ.{0,0} @OR.{0})
 ·intro j hj;obtain ⟨r,dn,tk,m'⟩:=j;obtain ⟨h1,h2,h3⟩:=hj;simp only at h1 h2 h3;have hdl:dn.length+r=8:=by have:=Pj List.length h3;simp only[Og,aS] at this;exact this
  by_cases hc:r=0
  ·subst hc;have h4:dn=be 8 u:=by simpa [be] using h3
   subst h4;have d1:decide ((0:Int)<=8*((0:Nat):Int) - 8)=false:=by decide
   refine rf0 d1 ?_;refine Wp.ret ⟨trivial,_,rfl,tk,m',h2,?_,rfl⟩;simp only[go_sem,reduceIte,Nat.reduceEqDiff]
  ·obtain ⟨i,rfl⟩:∃i,r=i+1:=⟨r - 1,ae⟩;have d1:decide ((0:Int)<=8*(((i+1:Nat):Nat):Int) - 8)=true:=N9 ae;have e2:8*(((i+1:Nat):Nat):Int) - 8=((8*i:Nat):Int):=by omega
   have e3:IntKind.i64.wrap (((8*i:Nat):Int) - 8)=8*(i:Int) - 8:=by rw[IntWalk.i64_in _ ae];omega
   have e4:¬((8*i:Nat):Int)<0:=by omega
   have e5:=DJ u i ae mk;have e6:(aD (xs++bD mk dn)).length+1<=140737488355328:=by rw[bm,Og,cJ];omega
   have e7:(aD (xs++bD mk dn)).length+1<4611686018427387904:=by omega
   rw[bm] at e6 e7;rw[e2] at d1;rw[e2];refine rf0 d1 ?_;refine Wp.oy (by simp only[go_sem,reduceIte,Nat.reduceEqDiff,Nat.reduceAdd,bx,e3,e4,e5,O4,Po,IntKind.bits,e6,e7,PC,Ol,Of,ne_eq,byte,OE,Nat.reduceMul,Nat.reduceLeDiff];exact rfl) al ?_;refine Wp.oy (xAe e3) al ?_;refine ⟨(i,dn++[UInt8.ofNat (u/256^i)],m',m'+1),⟨by simp only;omega,by simp only;omega,by rw[<-h3];simp[be]⟩,by simp,?_⟩;refine aM.tm (by simp only[aQ,go_sem,reduceIte,Nat.reduceEqDiff,Nat.reduceAdd,bx];and_intros<;>first|exact trivial|exact ay.refl _|exact ay.any _|exact ay.of_eq (by simp[aD,bD,byte])|(refine ay.int ?_;omega))
theorem FR(s:List UInt8)(j:Nat)(h:j<s.length):s.take (j+1)=s.take j++[s.getD j 0]:=by
 rw[List.take_add_one];simp[List.getD,N5 h]
theorem sB{x:UInt8}(h:x≠0):decide (((x.toNat:Nat):Int)=0)=false:=by
 refine N6 λe=>h ?_;have:x.toNat=0:=by omega
 exact QZ.1 (by simpa using this)
theorem KE(p:Pt)(hp:p.ok)(xs:List UInt8)(hx:xs.length<=500):Bm Tryz.prog 211 (λt=>[.sl 1 (aD xs) (.own t),bX p]) (λt=> .sl 1 (aD (xs++ptB p)) (.own t)):=by
 intro t n m;suffices h:∃r h',bB Tryz.prog 211 [.sl 1 (aD xs) (.own t),bX p] (.only aB [t] n m) r h'/\∃t' n' m',n<=n'/\m<=m'/\r= .sl 1 (aD (xs++ptB p)) (.own t')/\h'= .only aB [t'] n' m' by
  obtain ⟨r,h',ha,t',n',m',hn,hm,rfl,rfl⟩:=h;exact ⟨t',n',m',hn,hm,ha⟩
 refine f211.fe (by simp[bX]) ?_;unfold Ms zz;have lx:=bm xs;have e1:xs.length+1<=140737488355328:=by omega
 have e2:xs.length+1<4611686018427387904:=by omega
 obtain ⟨pk,pn,ps⟩:=p;rcases hp.k with hk|hk|hk
 ·simp only at hk;subst hk;obtain ⟨hn,hz,hl⟩:=hp.t rfl;simp only at hn hz hl;subst hn;have hE:bX ⟨1,0,ps⟩= .agg [.int .i64 1,.int .i64 0,.str ps]:=rfl;have hB:ptB ⟨1,0,ps⟩=2::ps++[0,1]:=rfl;rw[hE,hB];have d1:decide ((1:Int)=2)=false:=rfl;have d2:decide ((1:Int)=3)=false:=rfl;have lp:=bm ps;refine rf0 (bf d1 d2 lx e1 e2 @O4 @Po @PC @Ol @ne_eq.{1} @byte.eq_1 (cj7 @OE @N8.{0} @Oa.{0} @Oo @Oj.{0} @O2 lp)) ?_;refine Wp.le (s':=⟨tm [(0,.sl 1 (aD (xs++[2])) (.own m)),(30,.sl 1 (aD ps) .any),(31,.int .i64 ps.length),(32,.int .i64 0)],⟨aB,n+1,[m],m+2⟩⟩) (aM.of (aY ?_) (λi o h=>by cases h) (λj hj=>?_) (N4 _) (N4 _)) ?_
  ·simp only[aQ,go_sem,reduceIte,Nat.reduceEqDiff];exact ⟨ay.of_eq (by simp[aD,byte]),ay.cap,ay.refl _,ay.refl _,trivial⟩
  ·have:j=m:=by simpa using hj
   subst this;simp
  refine Wp.cO [30,31] xA7 (λj:Nat × Nat × Nat=>[(0,.sl 1 (aD (xs++2::ps.take j.1)) (.own j.2.1)),(32,.int .i64 (j.1:Nat))]) (λj=>⟨aB,n+1,[j.2.1],j.2.2⟩)
   (λj=>j.1<=ps.length/\m<=j.2.2) (λj=>ps.length - j.1) (0,m,m+2) ⟨Ot _,by simp⟩ rfl ?_ ?_
  ·exact cM @O9.{0}
  rintro ⟨j,tk,m'⟩ ⟨hj,hm⟩;simp only at hj hm;have lq:(aD (xs++2::ps.take j)).length=xs.length+1+min j ps.length:=by rw[bm];simp;omega
  by_cases hcj:j<ps.length
  ·obtain ⟨g1,h2,h3,e1⟩:=ixF (j:=j) (n:=ps.length) ae ae;have hat:(aD ps).getD j .any=byte (ps.getD j 0):=by
    exact jg ps j .any hcj
   have hnz:ps.getD j 0≠0:=hz _ (by simp[List.getD,N5 hcj]);have d3:=sB hnz;have hsn:=FR ps j hcj;have e3:xs.length+1+min j ps.length+1<=140737488355328:=by omega
   have e4:xs.length+1+min j ps.length+1<4611686018427387904:=by omega
   generalize ps.getD j 0=b at*
   unfold byte at hat;refine rf0 (bf g1 h2 h3 hat d3 lp lq e3 e4 @O4 @Po (iw @PC @Ol @ne_eq.{1} @OE @N8.{0} @Oa.{0} @Oo @Oj.{0} @O2 @N7)) ?_;refine ⟨(j+1,m',m'+1),⟨by simp only;omega,by simp only;omega⟩,by simp only;omega,?_⟩;refine aM.tm (by simp only[aQ,go_sem,reduceIte,Nat.reduceEqDiff,Nat.reduceAdd,bx];and_intros<;>first|exact trivial|exact ay.refl _|exact ay.any _|exact ay.of_eq (by rw[hsn];simp[aD,byte])|(refine ay.int ?_;omega))
  ·have hj2:j=ps.length:=by omega
   subst hj2;have g1:=ixE (ps.length);rw[OG] at lq;rw[Nat.min_self] at lq;have e3:xs.length+1+ps.length+2<=140737488355328:=by omega
   have e4:xs.length+1+ps.length+2<4611686018427387904:=by omega
   rw[OG];refine rf0 (bf g1 lq e3 e4 @O4 @Po @PC @Ol @ne_eq.{1} @OE @N8.{0} (cj4 @Oa.{0} @Oo @Oj.{0} @O2)) ?_;refine Wp.ret ⟨trivial,_,rfl,m',n+1,m'+1,ae,ae,?_,?_⟩
   ·simp only[go_sem,reduceIte,Nat.reduceEqDiff];simp[aD,byte]
   ·simp[H.only]
 ·simp only at hk;subst hk;obtain ⟨hs,h0,h63⟩:=hp.u ah;simp only at hs h0 h63;subst hs;obtain ⟨v,rfl⟩:∃v:Nat,pn=v:=⟨pn.toNat,ae⟩;have hE:bX ⟨2,v,[]⟩= .agg [.int .i64 2,.int .i64 v,.str []]:=rfl;have hB:ptB ⟨2,v,[]⟩=3::bD 0 (upB v):=rfl;rw[hE,hB];have d1:decide ((2:Int)=2)=true:=rfl;have hT:=uA v ae 0 (xs++[3]) ar;have hb:aD (xs++[3])=aD xs++[.int .u8 3]:=by simp[aD,byte]
  rw[hb] at hT;refine rn0 (bf d1 lx e1 e2 @O4 @Po @PC @Ol @ne_eq.{1} @byte.eq_1 @OE (cj5 @N8.{0} @Oa.{0} @Oo @Oj.{0} @O2)) ?_;refine az.dC m af xA4 (by simp only[go_sem,Oj,OA,O2]) hT λt1 m1 hm1=>?_;refine az.eval xA1 ?_;refine az.nil ⟨by simp[bg,aN,apart,aU],?_⟩;refine Wp.le (s':=⟨tm [(4,.sl 1 (aD (xs++[3]++bD 0 (upB v))) (.own t1))],⟨aB,n+1,[t1],m1⟩⟩) (aM.of (aY ?_) (λi o h=>by cases h) (λj hj=>?_) (N4 _) (N4 _)) ?_
  ·exact xSb
  ·have:j=t1:=by simpa using hj
   subst this;simp
  refine dI ?_;refine Wp.ret ⟨trivial,_,rfl,t1,n+1,m1,ae,by have:m+1<=m1:=hm1;omega,?_,?_⟩
  ·simp only[go_sem,reduceIte,Nat.reduceEqDiff];simp
  ·simp[H.only]
 ·simp only at hk;subst hk;obtain ⟨hs,h0,h63⟩:=hp.u ah;simp only at hs h0 h63;subst hs;obtain ⟨v,rfl⟩:∃v:Nat,pn=v:=⟨pn.toNat,ae⟩;have hE:bX ⟨3,v,[]⟩= .agg [.int .i64 3,.int .i64 v,.str []]:=rfl;have hB:ptB ⟨3,v,[]⟩=4::bD 255 (upB v):=rfl;rw[hE,hB];have d1:decide ((3:Int)=2)=false:=rfl;have d2:decide ((3:Int)=3)=true:=rfl;have hT:=uA v ae 255 (xs++[4]) ar;have hb:aD (xs++[4])=aD xs++[.int .u8 4]:=by simp[aD,byte]
  rw[hb] at hT;refine rn0 (bf d1 d2 lx e1 e2 @O4 @Po @PC @Ol @ne_eq.{1} @byte.eq_1 (cj6 @OE @N8.{0} @Oa.{0} @Oo @Oj.{0} @O2)) ?_;refine az.dC m af xA4 (by simp only[go_sem,Oj,OA,O2]) hT λt1 m1 hm1=>?_;refine az.eval xA1 ?_;refine az.nil ⟨by simp[bg,aN,apart,aU],?_⟩;refine Wp.le (s':=⟨tm [(4,.sl 1 (aD (xs++[4]++bD 255 (upB v))) (.own t1))],⟨aB,n+1,[t1],m1⟩⟩) (aM.of (aY ?_) (λi o h=>by cases h) (λj hj=>?_) (N4 _) (N4 _)) ?_
  ·exact xSb
  ·have:j=t1:=by simpa using hj
   subst this;simp
  refine dI ?_;refine Wp.ret ⟨trivial,_,rfl,t1,n+1,m1,ae,by have:m+1<=m1:=hm1;omega,?_,?_⟩
  ·simp only[go_sem,reduceIte,Nat.reduceEqDiff];simp
  ·simp[H.only]
def cY(l:List Pt):List UInt8:=(l.map ptB).flatten
theorem BM(p:Pt):3<=(ptB p).length:=by
 unfold ptB;split
 ·simp[cJ,upB,aS]
 ·split<;>simp[cJ,upB,aS]
theorem oR:∀l:List Pt,3*l.length<=(cY l).length
 |[]=>by simp[cY]
 |p::l=>by
  have h1:=BM p;have h2:=oR l;unfold cY at*
  simp only[OJ,List.flatten_cons,Og,List.length_cons];omega
theorem iV(l:List Pt)(j:Nat)(h:j<l.length):cY (l.take (j+1))=cY (l.take j)++ptB (l.getD j default):=by
 have e:l.getD j default=l[j]:=by simp[OF,N5 h]
 unfold cY;rw[e,OD h,Pl,PN];congr 1;simp
theorem mQ(l:List Pt)(j:Nat):(cY (l.take j)).length<=(cY l).length:=by
 have:cY l=cY (l.take j)++cY (l.drop j):=by unfold cY;rw[<-PN,<-Pl,P3]
 rw[this,Og];omega
def pts(l:List Pt):List AV:=l.map bX
theorem dY(l:List Pt)(j:Nat)(d:AV)(h:j<l.length):(pts l).getD j d=bX (l.getD j default):=by simp[pts,List.getD,N5 h]
theorem cE(l:List Pt):(pts l).length=l.length:=by simp[pts]
theorem FU(p:Pt)(hp:p.ok):aI Tryz.prog 210 [bX p] (.bool true):=by
 refine f210.aF ah rfl rfl ?_;unfold Mr zz;obtain ⟨pk,pn,ps⟩:=p;rcases hp.k with hk|hk|hk
 ·simp only at hk;subst hk;obtain ⟨hn,-,-⟩:=hp.t rfl;simp only at hn;subst hn;have hE:bX ⟨1,0,ps⟩= .agg [.int .i64 1,.int .i64 0,.str ps]:=rfl;rw[hE];refine rf0 @OE ?_;refine aG ?_;exact ay.refl _
 ·simp only at hk;subst hk;obtain ⟨hs,-,-⟩:=hp.u ah;simp only at hs;subst hs;have hE:bX ⟨2,pn,[]⟩= .agg [.int .i64 2,.int .i64 pn,.str []]:=rfl;have d1:decide ((2:Int)=1)=false:=rfl;have d2:decide ((2:Int)=2)=true:=rfl;rw[hE];refine rf0 (cj3 d1 d2 @OE) ?_;refine aG ?_;exact ay.refl _
 ·simp only at hk;subst hk;obtain ⟨hs,-,-⟩:=hp.u ah;simp only at hs;subst hs;have hE:bX ⟨3,pn,[]⟩= .agg [.int .i64 3,.int .i64 pn,.str []]:=rfl;have d1:decide ((3:Int)=1)=false:=rfl;have d2:decide ((3:Int)=2)=false:=rfl;have d3:decide ((3:Int)=3)=true:=rfl;rw[hE];refine rf0 (cj4 d1 d2 d3 @OE) ?_;refine aG ?_;exact ay.refl _
theorem DK(l:List Pt)(hok:∀p∈l,p.ok)(hl:(cY l).length<=128):aI Tryz.prog 178 [.sl 3 (pts l) .any] (.tup [.str (cY l),.int .i64 0]):=by
 have hll:=oR l;have pu:aJ (pts l)=true:=Av.bG (λa=>rfl) _;refine f178.aF ah (by simp[aJ,aW,bA,pu]) (by simp[aW,aJ]) ?_;unfold Mf zz;have len:=cE l;refine rf0 @len ?_;refine Wp.oD [0,9,10] (by simp only[go_sem,reduceIte,Nat.reduceEqDiff,List.map,len];exact rfl) (λj:Nat=>[(11,.int .i64 j)]) (λj=>j<=l.length) (λj=>l.length - j) 0 (Ot _) ?_ ?_
 ·exact xSb
 rintro j n hn hj;by_cases hc:j<l.length
 ·obtain ⟨g1,h2,h3,e1⟩:=ixF (j:=j) (n:=l.length) ae ae;have hat:=dY l j .any hc;have hm:l.getD j default∈l:=by rw[Av.gA hc];exact Pk hc
  have c1:=FU _ (hok _ hm);generalize l.getD j default=p at*
  obtain ⟨pk,pn,ps⟩:=p;unfold bX at hat c1;refine rf1 (cj7 g1 h2 h3 hat @len @N7 @Oy) c1 ?_;refine ⟨j+1,n+1,by have:0<=n:=hn;omega,ae,ae,?_⟩;exact Lx
 ·have hj2:j=l.length:=by omega
  subst hj2;have g1:=ixE (l.length);refine rf0 (cj2 g1 @len) ?_;refine Wp.le (aM.tok _ _) ?_;refine Wp.gy [0,19,20] (by simp only[go_sem,reduceIte,Nat.reduceEqDiff,List.map,len];exact rfl) (λ(j:Nat) tk=>[(6,.sl 1 (aD (cY (l.take j))) (.own tk)),(21,.int .i64 j)]) (λj=>j<=l.length) (λj=>l.length - j) 0 0 (Ot _) rfl ?_ ?_
  ·simp only[aQ,go_sem,reduceIte,Nat.reduceEqDiff,Nat.reduceAdd,bx,List.take_zero];and_intros<;>first|exact trivial|exact ay.refl _|exact ay.any _|exact ay.dt rfl|(refine ay.int ?_;omega)
  rintro j tk n2 m2 hn2 hj2;by_cases hc2:j<l.length
  ·obtain ⟨g1,h2,h3,e1⟩:=ixF (j:=j) (n:=l.length) ae ae;have hat:=dY l j .any hc2;have hm:l.getD j default∈l:=by rw[Av.gA hc2];exact Pk hc2
   have hok1:=hok _ hm;have ht1:=mQ l j;have ht2:=mQ l (j+1);rw[iV l j hc2,Og] at ht2;have hT:=KE _ hok1 (cY (l.take j)) ae;have hsn:=iV l j hc2;have lq:(aD (cY (l.take j)++ptB (l.getD j default))).length=(cY (l.take j)++ptB (l.getD j default)).length:=bm _;have d3:decide ((128:Int)<(((cY (l.take j)).length+(ptB (l.getD j default)).length:Nat):Int))=false:=N6 ae;have d2:decide ((128:Int)<(((l.getD j default).s.length:Nat):Int))=false:=by
    refine N6 ?_;rcases hok1.k with h|h
    ·have:=(hok1.t h).2.2;omega
    ·have:=(hok1.u (by rcases h with h|h<;>rw[h] <;>decide)).1;rw[this];decide
   generalize l.getD j default=p at*
   generalize cY (l.take j)=b at*
   generalize hq:ptB p=q at*
   obtain ⟨pk,pn,ps⟩:=p;simp only at d2;unfold bX at hat hT;refine rf0 (cj7 g1 h2 h3 hat @len @N7 d2) ?_;refine aw.Kj tk af xA4 (by simp only[go_sem,Oj,OA,O2,or_true]) (by simp only[upd,aB,go_sem];intro j hj;repeat (first|rfl|rw[Ob ae])) (hT) λt1 n1 m1 hn1 hm1=>?_;refine aw.evF xAc ?_;refine rf0 (cj4 lq @Og.{0} d3 @len) ?_;have hn1':n2+1<=n1:=hn1;refine ⟨j+1,t1,n1,m1,by show n<=n1;have:n<=n2:=hn2;omega,ae,ae,?_⟩;refine aM.of (aY ?_) (λa o ho=>?_) (λa ha=>?_) (N4 _) (N4 _)
   ·exact cM hsn
   ·cases ho
   ·simpa using ha
  ·have hj3:j=l.length:=by omega
   subst hj3;have g1:=ixE (l.length);rw[OG];refine rf0 (cj5 g1 @len @bR @Oz.{0,0} @O2) ?_;refine aG ?_;exact ay.refl _
theorem FV(b:UInt8):b ^^^ 255=255 - b:=by
 have h:∀x:BitVec 8,x ^^^ 255#8=255#8 - x:=by decide
 apply UInt8.eq_of_toBitVec_eq;exact h b.toBitVec
theorem FW(b:UInt8):IntKind.u8.wrap (255 - (b.toNat:Int))=((255 - b).toNat:Int):=by
 have h:(255 - b:UInt8).toNat=255 - b.toNat:=by
  have:=b.toNat_lt;rw[UInt8.toNat_sub_of_le]
  ·rfl
  ·rw[UInt8.le_iff_toNat_le];show b.toNat<=255;omega
 have:=b.toNat_lt;rw[h,IntWalk.u8_in _ ae];omega
theorem NV:∀k,k<128->UInt8.ofNat k ^^^ 128=UInt8.ofNat (k+128):=by decide
theorem FX(n:Nat)(h:n<9223372036854775808):(be 8 n).set 0 ((be 8 n).getD 0 0 ^^^ 128)=upB n:=by
 unfold upB;simp only[be,List.set_cons_zero,OP,Nat.reducePow,Nat.pow_zero,Nat.div_one];rw[NV _ ae];have e:∀a b:Nat,a%256=b%256->UInt8.ofNat a=UInt8.ofNat b:=λa b h=>by
  apply QZ.1;simpa using h
 congr 1
 ·exact e _ _ ae
 congr 1
 ·exact e _ _ ae
 congr 1
 ·exact e _ _ ae
 congr 1
 ·exact e _ _ ae
 congr 1
 ·exact e _ _ ae
 congr 1
 ·exact e _ _ ae
 congr 1
 ·exact e _ _ ae
 congr 1;exact e _ _ ae
def uB(s:List UInt8)(d:Bool):List UInt8:=if d then (s.set 0 (s.getD 0 0 ^^^ 128)).map (255 - ·) else s.set 0 (s.getD 0 0 ^^^ 128)
theorem Io(n:Nat)(h:n<9223372036854775808):uB (be 8 n) false=bD 0 (upB n):=by
 unfold uB;rw[FX n h];simp[bD]
theorem DL(n:Nat)(h:n<9223372036854775808):uB (be 8 n) true=bD 255 (upB n):=by
 unfold uB;rw[FX n h];simp[bD,FV]
def mix(b:List UInt8)(i:Nat):List UInt8:=(b.take i).map (255 - ·)++b.drop i
theorem nS(b:List UInt8)(i:Nat):(mix b i).length=b.length:=by simp[mix];omega
theorem FY(b:List UInt8)(i:Nat)(h:i<b.length):(mix b i).getD i 0=b.getD i 0:=by
 simp only[mix,List.getD];rw[PE ar];simp[P4 (Nat.le_of_lt h)]
theorem BN(b:List UInt8)(i:Nat)(h:i<b.length):(mix b i).set i (255 - b.getD i 0)=mix b (i+1):=by
 have e:b.getD i 0=b[i]:=by simp[List.getD,N5 h]
 unfold mix;have hl:((b.take i).map λx=>255 - x).length=i:=by simp;omega
 rw[e,List.set_append_right _ _ (by rw[hl];exact N4 _)];rw[hl,Nat.sub_self,P7 h,List.set_cons_zero,OD h,Pl,OX];rfl
theorem xI(s:List UInt8)(hs:s.length=8)(d:Bool):aI Tryz.prog 238 [.str s,.bool d] (.str (uB s d)):=by
 refine f238.aF ah rfl rfl ?_;unfold MD zz;have l0:(0:Int)<((s.length:Nat):Int):=by omega
 have x0:=FP (s.getD 0 0) 128;have x1:((128:UInt8).toNat:Int)=128:=rfl;rw[x1] at x0;refine Wp.bU xA1 al ?_;refine Wp.seq (Wp.zp ?_);refine aw.op1 af xA1 ?_;simp only[bL];refine aw.s2b (l:=s) af (by simp only[go_sem,reduceIte,Nat.reduceEqDiff]) ae ?_;simp only[bL];refine aw.evF xAc ?_;refine rf0 (cj6 l0 Int.toNat_zero @OU @Ol @QN @Nat.add_zero) ?_;refine aw.wZ (l:=s) af av (by simp only[upd,reduceIte]) ae ?_;simp only[bL];refine aw.evF (xAd (cj7 x0 l0 Int.toNat_zero @OU @Ol @QN @Nat.add_zero)) ?_;refine aw.rY (b:=s.getD 0 0 ^^^ 128) (l:=s) af av (by simp only[upd,reduceIte]) (by simp only[go_sem,reduceIte,Nat.reduceEqDiff]) ae ?_;simp only[bL];refine dI ?_;have hb:(s.set 0 (s.getD 0 0 ^^^ 128)).length=s.length:=by simp
 have ht:uB s d=if d then (s.set 0 (s.getD 0 0 ^^^ 128)).map (255 - ·) else s.set 0 (s.getD 0 0 ^^^ 128):=rfl
 rw[ht];rw[<-hb] at hs;clear ht l0 x0;generalize hB:s.set 0 (s.getD 0 0 ^^^ 128)=b at*
 refine Wp.le (s':=⟨tm [(1,.bool d),(5,.tsl 1 0 0 b.length none),(6,.int .i64 0)],⟨upd aB 0 (some (dx b)),1,[],0⟩⟩) (aM.of (aY ?_) (λa o ho=>?_) (λa ha=>ha) (N4 _) (N4 _)) ?_
 ·exact cM hb
 ·simp only[upd,aB] at ho |-;by_cases a0:a=0
  ·subst a0;exact ⟨o,by simpa using ho,cm.refl _⟩
  ·simp[a0] at ho
 refine dI ?_;cases d with
 |false=>
  refine Wp.cO [1,5] xA7 (λj:Unit=>[(6,.int .i64 0)]) (λj=>⟨upd aB 0 (some (dx b)),1,[],0⟩) (λ_=>True) (λ_=>0) () trivial rfl ?_ ?_
  ·exact xSb
  ·rintro - -
   have l1:decide ((0:Int)<(b.length:Int))=true:=N9 ae;refine rf0 l1 ?_;refine aw.b2s (l:=b) (id:=0) (cp:=none) af (by simp only[go_sem,reduceIte,Nat.reduceEqDiff]) (by simp only[upd,reduceIte]) ae ?_;simp only[bL];refine aw.evF xAc ?_;refine dI ?_;refine aG ?_;exact ay.refl _
 |true=>
  refine Wp.cO [1,5] xA7 (λj:Nat=>[(6,.int .i64 j)]) (λj=>⟨upd aB 0 (some (dx (mix b j))),1,[],0⟩) (λj=>j<=b.length) (λj=>b.length - j) 0 (Ot _) (by simp[mix]) ?_ ?_
  ·exact xSb
  ·rintro j hj;have lm:=nS b j;by_cases hc:j<b.length
   ·obtain ⟨g1,h2,h3,e1⟩:=ixF (j:=j) (n:=b.length) ae ae;have hat:=FY b j hc;have hse:=BN b j hc;have hsu:=FW (b.getD j 0);refine rf0 (cj7 g1 h2 h3 @Ol @N7 @O4 @Oo) ?_;refine aw.wZ (l:=mix b j) af av (by simp only[upd,reduceIte]) ae ?_;simp only[bL];refine aw.evF (xAd (cj8 hat hsu h2 h3 @Ol @N7 @O4 @Oo)) ?_;refine aw.rY (b:=255 - b.getD j 0) (l:=mix b j) af av (by simp only[upd,reduceIte]) (by simp only[go_sem,reduceIte,Nat.reduceEqDiff]) ae ?_;simp only[bL];refine dI ?_;rw[hse];refine ⟨j+1,ae,ae,?_⟩;refine aM.of (aY ?_) (λa o ho=>?_) (λa ha=>ha) (N4 _) (N4 _)
    ·exact cM e1
    ·simp only[upd,aB] at ho |-;by_cases a0:a=0
     ·subst a0;exact ⟨o,by simpa using ho,cm.refl _⟩
     ·simp[a0] at ho
   ·have hj2:j=b.length:=by omega
    subst hj2;have g1:=ixE (b.length);refine rf0 g1 ?_;have e:mix b b.length=b.map (255 - ·):=by simp[mix]
    refine aw.b2s (l:=mix b b.length) (id:=0) (cp:=none) af (by simp only[go_sem,reduceIte,Nat.reduceEqDiff];rw[nS]) (by simp only[upd,reduceIte]) ae ?_;simp only[bL];refine aw.evF xAc ?_;refine dI ?_;refine aG ?_;rw[e];exact ay.refl _
theorem DM(p:Pt)(hp:p.ok):aI Tryz.prog 236 [bX p] (.bool true):=by
 refine f236.aF ah rfl rfl ?_;unfold MB zz;obtain ⟨pk,pn,ps⟩:=p;rcases hp.k with hk|hk|hk
 ·simp only at hk;subst hk;obtain ⟨hn,-,-⟩:=hp.t rfl;simp only at hn;subst hn;have hE:bX ⟨1,0,ps⟩= .agg [.int .i64 1,.int .i64 0,.str ps]:=rfl;rw[hE];refine rf0 @OE ?_;refine aG ?_;exact ay.refl _
 ·simp only at hk;subst hk;obtain ⟨hs,-,-⟩:=hp.u ah;simp only at hs;subst hs;have hE:bX ⟨2,pn,[]⟩= .agg [.int .i64 2,.int .i64 pn,.str []]:=rfl;have d1:decide ((2:Int)=1)=false:=rfl;have d2:decide ((2:Int)=2)=true:=rfl;rw[hE];refine rf0 (cj3 d1 d2 @OE) ?_;refine aG ?_;exact ay.refl _
 ·simp only at hk;subst hk;obtain ⟨hs,-,-⟩:=hp.u ah;simp only at hs;subst hs;have hE:bX ⟨3,pn,[]⟩= .agg [.int .i64 3,.int .i64 pn,.str []]:=rfl;have d1:decide ((3:Int)=1)=false:=rfl;have d2:decide ((3:Int)=2)=false:=rfl;have d3:decide ((3:Int)=3)=true:=rfl;rw[hE];refine rf0 (cj4 d1 d2 d3 @OE) ?_;refine aG ?_;exact ay.refl _
theorem Ip(p:Pt)(hp:p.ok):aI Tryz.prog 237 [bX p] (.int .i64 ((ptB p).length:Nat)):=by
 refine f237.aF ah rfl rfl ?_;unfold MC zz;obtain ⟨pk,pn,ps⟩:=p;rcases hp.k with hk|hk|hk
 ·simp only at hk;subst hk;obtain ⟨hn,hz,hl⟩:=hp.t rfl;simp only at hn hz hl;subst hn;have hE:bX ⟨1,0,ps⟩= .agg [.int .i64 1,.int .i64 0,.str ps]:=rfl;have hB:(((ptB ⟨1,0,ps⟩).length:Nat):Int)=((ps.length+3:Nat):Int):=by simp[ptB];omega
  rw[hE,hB];have d1:decide ((1:Int)=1)=true:=rfl;have w1:IntKind.i64.wrap (3+(ps.length:Int))=((ps.length+3:Nat):Int):=by rw[IntWalk.i64_in _ ae];omega
  refine rf0 (cj2 d1 w1) ?_;refine Wp.dJ [1,3] xA6 (λj:Nat=>[(4,.int .i64 (j:Nat))]) (λj=>j<=ps.length) (λj=>ps.length - j) 0 (Ot _) ?_ ?_
  ·exact xSb
  rintro j hj;by_cases hc:j<ps.length
  ·obtain ⟨g1,h2,h3,e1⟩:=ixF (j:=j) (n:=ps.length) ae ae;have hnz:ps.getD j 0≠0:=hz _ (by simp[List.getD,N5 hc]);have d3:=sB hnz;refine rf0 (cj7 g1 h2 h3 @N7 @Ol @byte.eq_1 d3) ?_;refine ⟨j+1,ae,ae,?_⟩;exact xSu
  ·have hj2:j=ps.length:=by omega
   subst hj2;have g1:=ixE (ps.length);refine rf0 g1 ?_;refine aG ?_;exact ay.refl _
 ·simp only at hk;subst hk;have hE:bX ⟨2,pn,ps⟩= .agg [.int .i64 2,.int .i64 pn,.str ps]:=rfl;have hB:(((ptB ⟨2,pn,ps⟩).length:Nat):Int)=9:=by simp[ptB,cJ,upB,aS]
  have d1:decide ((2:Int)=1)=false:=rfl;rw[hE,hB];refine rf0 d1 ?_;refine aG ?_;exact ay.refl _
 ·simp only at hk;subst hk;have hE:bX ⟨3,pn,ps⟩= .agg [.int .i64 3,.int .i64 pn,.str ps]:=rfl;have hB:(((ptB ⟨3,pn,ps⟩).length:Nat):Int)=9:=by simp[ptB,cJ,upB,aS]
  have d1:decide ((3:Int)=1)=false:=rfl;rw[hE,hB];refine rf0 d1 ?_;refine aG ?_;exact ay.refl _
theorem Iq(p:Pt)(hp:p.ok):aI Tryz.prog 226 [bX p] (.str (ptB p)):=by
 refine f226.aF ah rfl rfl ?_;unfold My zz;obtain ⟨pk,pn,ps⟩:=p;rcases hp.k with hk|hk|hk
 ·simp only at hk;subst hk;obtain ⟨hn,hz,hl⟩:=hp.t rfl;simp only at hn hz hl;subst hn;have hE:bX ⟨1,0,ps⟩= .agg [.int .i64 1,.int .i64 0,.str ps]:=rfl;have hB:ptB ⟨1,0,ps⟩=2::ps++[0,1]:=rfl;rw[hE,hB];have d1:decide ((1:Int)=2)=false:=rfl;have d2:decide ((1:Int)=3)=false:=rfl;refine rf0 (cj2 d1 d2) ?_;refine Wp.dJ [1] xA6 (λj:Nat=>[(3,.str (2::ps.take j)),(4,.int .i64 (j:Nat))]) (λj=>j<=ps.length) (λj=>ps.length - j) 0 (Ot _) ?_ ?_
  ·exact cM @O9.{0}
  rintro j hj;have lt:(ps.take j).length=j:=by simp;omega
  by_cases hc:j<ps.length
  ·obtain ⟨g1,h2,h3,e1⟩:=ixF (j:=j) (n:=ps.length) ae ae;have hnz:ps.getD j 0≠0:=hz _ (by simp[List.getD,N5 hc]);have d3:=sB hnz;have hsn:=FR ps j hc;have h4:(j:Int)<=((j+1:Nat):Int):=by omega
   have h5:((j+1:Nat):Int)<=(ps.length:Int):=by omega
   have h6:(0:Int)<=((j+1:Nat):Int):=by omega
   have es:(ps.take (j+1)).drop j=[ps.getD j 0]:=by
    rw[hsn,List.drop_append_of_le_length ar];simp
   have l1:j+1+1<9223372036854775808:=by omega
   refine rf0 (bf g1 h2 h3 h4 h5 h6 e1 es @lt l1 @Ou.{0,0} (cj8 @Oz.{0,0} @N7 @Ol @byte.eq_1 d3 @N8.{0} @Oa.{0} @Oo)) ?_;refine ⟨j+1,ae,ae,?_⟩;refine aM.tm (by simp only[aQ,go_sem,reduceIte,Nat.reduceEqDiff,Nat.reduceAdd,bx];and_intros<;>first|exact trivial|exact ay.refl _|exact ay.any _|exact ay.of_eq (by rw[hsn])|(refine ay.int ?_;omega))
  ·have hj2:j=ps.length:=by omega
   subst hj2;have g1:=ixE (ps.length);rw[OG];have l1:ps.length+1+2<9223372036854775808:=by omega
   refine rf0 (cj5 g1 l1 @N8.{0} @Oa.{0} @Oo) ?_;refine aG ?_;exact ay.refl _
 ·simp only at hk;subst hk;obtain ⟨hs,h0,h63⟩:=hp.u ah;simp only at hs h0 h63;subst hs;obtain ⟨v,rfl⟩:∃v:Nat,pn=v:=⟨pn.toNat,ae⟩;have hE:bX ⟨2,v,[]⟩= .agg [.int .i64 2,.int .i64 v,.str []]:=rfl;have hB:ptB ⟨2,v,[]⟩=3::bD 0 (upB v):=rfl;have d1:decide ((2:Int)=2)=true:=rfl;have c1:=dW v ae 8 ae;have c2:=xI (be 8 v) (aS _ _) false;rw[Io v ae] at c2;have lm:(bD 0 (upB v)).length=8:=by simp[cJ,upB,aS]
  rw[hE,hB];refine rf2 (cj5 d1 lm @N8.{0} @Oa.{0} @Oo) c1 c2 ?_;refine aG ?_;exact ay.refl _
 ·simp only at hk;subst hk;obtain ⟨hs,h0,h63⟩:=hp.u ah;simp only at hs h0 h63;subst hs;obtain ⟨v,rfl⟩:∃v:Nat,pn=v:=⟨pn.toNat,ae⟩;have hE:bX ⟨3,v,[]⟩= .agg [.int .i64 3,.int .i64 v,.str []]:=rfl;have hB:ptB ⟨3,v,[]⟩=4::bD 255 (upB v):=rfl;have d1:decide ((3:Int)=2)=false:=rfl;have d2:decide ((3:Int)=3)=true:=rfl;have c1:=dW v ae 8 ae;have c2:=xI (be 8 v) (aS _ _) true;rw[DL v ae] at c2;have lm:(bD 255 (upB v)).length=8:=by simp[cJ,upB,aS]
  rw[hE,hB];refine rf2 (cj6 d1 d2 lm @N8.{0} @Oa.{0} @Oo) c1 c2 ?_;refine aG ?_;exact ay.refl _
theorem DN(l:List Pt)(hok:∀p∈l,p.ok)(hl:(cY l).length<=128):aI Tryz.prog 225 [.sl 3 (pts l) .any] (.int .i64 0):=by
 have hll:=oR l;have pu:aJ (pts l)=true:=Av.bG (λa=>rfl) _;refine f225.aF ah (by simp[aJ,aW,bA,pu]) rfl ?_;unfold Mx zz;have len:=cE l;refine rf0 @len ?_;refine Wp.dJ [0] xA6 (λj:Nat=>[(3,.int .i64 (j:Nat))]) (λj=>j<=l.length) (λj=>l.length - j) 0 (Ot _) ?_ ?_
 ·exact xSb
 rintro j hj;by_cases hc:j<l.length
 ·obtain ⟨g1,h2,h3,e1⟩:=ixF (j:=j) (n:=l.length) ae ae;have hat:=dY l j .any hc;have hm:l.getD j default∈l:=by rw[Av.gA hc];exact Pk hc
  have c1:=DM _ (hok _ hm);generalize l.getD j default=p at*
  obtain ⟨pk,pn,ps⟩:=p;unfold bX at hat c1;refine rf1 (cj7 g1 h2 h3 hat @len @N7 @Oy) c1 ?_;refine ⟨j+1,ae,ae,?_⟩;exact xSu
 ·have hj2:j=l.length:=by omega
  subst hj2;have g1:=ixE (l.length);refine rf0 (cj2 g1 @len) ?_;refine Wp.dJ [0] xA6 (λj:Nat=>[(4,.int .i64 ((cY (l.take j)).length:Nat)),(5,.int .i64 (j:Nat))]) (λj=>j<=l.length) (λj=>l.length - j) 0 (Ot _) ?_ ?_
  ·exact cM (cj5 @O9.{0} @cY.eq_1 @OQ.{0,0} @PH.{0} @Oa.{0})
  rintro j hj;by_cases hc2:j<l.length
  ·obtain ⟨g1,h2,h3,e1⟩:=ixF (j:=j) (n:=l.length) ae ae;have hat:=dY l j .any hc2;have hm:l.getD j default∈l:=by rw[Av.gA hc2];exact Pk hc2
   have c1:=Ip _ (hok _ hm);have ht2:=mQ l (j+1);rw[iV l j hc2,Og] at ht2;have hsn:=iV l j hc2;have w1:IntKind.i64.wrap (((cY (l.take j)).length:Int)+((ptB (l.getD j default)).length:Int))=(((cY (l.take j)).length+(ptB (l.getD j default)).length:Nat):Int):=by rw[IntWalk.i64_in _ ae];omega
   have d1:decide ((128:Int)<(((cY (l.take j)).length+(ptB (l.getD j default)).length:Nat):Int))=false:=N6 ae;generalize ptB (l.getD j default)=q at*
   generalize l.getD j default=p at*
   obtain ⟨pk,pn,ps⟩:=p;unfold bX at hat c1;refine rf1 (cj8 g1 h2 h3 hat @len @N7 w1 d1) c1 ?_;refine ⟨j+1,ae,ae,?_⟩;exact vj (cj2 hsn @Og.{0})
  ·have hj3:j=l.length:=by omega
   subst hj3;have g1:=ixE (l.length);refine rf0 (cj2 g1 @len) ?_;refine aG ?_;exact ay.refl _
theorem DP(l:List Pt)(hok:∀p∈l,p.ok)(hl:(cY l).length<=128):aI Tryz.prog 205 [.sl 3 (pts l) .any] (.tup [.str (cY l),.int .i64 0]):=by
 have hll:=oR l;have pu:aJ (pts l)=true:=Av.bG (λa=>rfl) _;refine f205.aF ah (by simp[aJ,aW,bA,pu]) (by simp[aW,aJ]) ?_;unfold Mq zz;have len:=cE l;have c0:=DN l hok hl;refine rf1 @len c0 ?_;refine Wp.dJ [0] xA6 (λj:Nat=>[(5,.str (cY (l.take j))),(6,.int .i64 (j:Nat))]) (λj=>j<=l.length) (λj=>l.length - j) 0 (Ot _) ?_ ?_
 ·exact cM (cj5 @O9.{0} @cY.eq_1 @OQ.{0,0} @PH.{0} @Oa.{0})
 rintro j hj;by_cases hc2:j<l.length
 ·obtain ⟨g1,h2,h3,e1⟩:=ixF (j:=j) (n:=l.length) ae ae;have hat:=dY l j .any hc2;have hm:l.getD j default∈l:=by rw[Av.gA hc2];exact Pk hc2
  have c1:=Iq _ (hok _ hm);have ht2:=mQ l (j+1);rw[iV l j hc2,Og] at ht2;have hsn:=iV l j hc2;have l1:(cY (l.take j)).length+(ptB (l.getD j default)).length<9223372036854775808:=by omega
  generalize ptB (l.getD j default)=q at*
  generalize l.getD j default=p at*
  obtain ⟨pk,pn,ps⟩:=p;unfold bX at hat c1;refine rf1 (cj7 g1 h2 h3 hat @len @N7 l1) c1 ?_;refine ⟨j+1,ae,ae,?_⟩;exact vj hsn
 ·have hj3:j=l.length:=by omega
  subst hj3;have g1:=ixE (l.length);rw[OG];refine rf0 (cj2 g1 @len) ?_;refine aG ?_;exact ay.refl _
structure Ky where
 k:Int
 b:List UInt8
 o:List UInt8
 ns:List Int
deriving Inhabited,DecidableEq
def di(k:Ky):AV:= .agg [.int .i64 k.k,.str k.b,.str k.o,.sl 1 (ints k.ns) .any]
def eB(k:Int):Int:=if k=6 then 3 else if k=5\/k=3 then 2 else if k=4\/k=2 then 1 else if k=1 then 0 else -1
def du(k:Int):UInt8:=[98,111,99,117,112,113].getD (k.toNat - 1) 0
def txt(s:List UInt8):Pt:=⟨1,0,s⟩
def bY(k n:Int):Pt:=⟨if k=2 then 3 else 2,n,[]⟩
def eX(k:Ky):List Pt:=txt [du k.k]::txt k.b::((if k.o=[] then [] else [txt k.o])++k.ns.map (bY k.k))
def cU(k:Ky):List UInt8:=cY (eX k)
structure Ky.ok(x:Ky):Prop where
 k:1<=x.k/\x.k<=6
 n:eB x.k=x.ns.length
 r:∀n∈x.ns,0<=n/\n<9223372036854775808
 e:x.k=1->x.o=[]
 b:bW x.b=0
 o:x.k≠1->cf x.o=0
theorem sC(k:Int):eB k<=3:=by
 unfold eB
 repeat' split
 all_goals omega
theorem fx{s:List UInt8}(h:bW s=0):3<=s.length/\s.length<=12/\∀b∈s,45<=b.toNat/\b.toNat<=122:=by
 unfold bW at h;split at h
 ·rename_i hc;obtain ⟨h1,h2,h3⟩:=hc;refine ⟨h1,h2,λb hb=>?_⟩;obtain ⟨i,hi,rfl⟩:=Qt.1 hb;have:=OK.1 h3 i (O6.2 hi);rw[kp] at this;have e:s.getD i default=s[i]:=by simp[List.getD,N5 hi]
  rw[e] at this;split at this
  ·omega
  ·unfold eJ at this;simp only[OZ,Oh,Ov] at this;omega
 ·simp at h
theorem eL{s:List UInt8}(h:cf s=0):1<=s.length/\s.length<=32/\∀b∈s,33<=b.toNat/\b.toNat<=126:=by
 unfold cf at h;split at h
 ·rename_i hc;obtain ⟨h1,h2,h3⟩:=hc;refine ⟨Qn.2 h1,h2,λb hb=>?_⟩;have:=OK.1 h3 b hb;unfold Desk.seen at this;simpa using this
 ·simp at h
theorem BO{b:UInt8}{n:Nat}(h:n+1<=b.toNat):b≠0:=by
 rintro rfl;simp at h
theorem Ab{s:List UInt8}(h:∀b∈s,b≠0)(hl:s.length<=128):(txt s).ok:=⟨.inl rfl,λ_=>⟨rfl,h,hl⟩,λh=>absurd rfl h⟩
theorem KF{k n:Int}(h:0<=n/\n<9223372036854775808):(bY k n).ok:=by
 refine ⟨?_,λh=>?_,λ_=>⟨rfl,h.1,h.2⟩⟩
 ·unfold bY;by_cases hk:k=2<;>simp[hk]
 ·unfold bY at h;by_cases hk:k=2<;>simp[hk] at h
theorem DQ{k:Int}(h:1<=k/\k<=6):du k≠0:=by
 obtain ⟨h1,h2⟩:=h;obtain rfl|rfl|rfl|rfl|rfl|rfl:k=1\/k=2\/k=3\/k=4\/k=5\/k=6:=by omega
 all_goals decide
theorem ji{k:Ky}(h:k.ok):∀p∈eX k,p.ok:=by
 obtain ⟨b1,b2,b3⟩:=fx h.b;intro p hp;unfold eX at hp;simp only[OA,OS,OC] at hp;rcases hp with rfl|rfl|hp|⟨n,hn,rfl⟩
 ·exact Ab (λb hb=>by simp only[Oj] at hb;rw[hb];exact DQ h.k) ah
 ·exact Ab (λb hb=>BO (n:=44) (b3 b hb).1) ae
 ·split at hp
  ·cases hp
  ·rename_i ho;simp only[Oj] at hp;subst hp;have hk:k.k≠1:=λhk=>ho (h.e hk);obtain ⟨o1,o2,o3⟩:=eL (h.o hk);exact Ab (λb hb=>BO (n:=32) (o3 b hb).1) ae
 ·exact KF (h.r n hn)
theorem FZ(k n:Int):(ptB (bY k n)).length=9:=by
 unfold bY ptB;by_cases hk:k=2<;>simp[hk,cJ,upB,aS]
theorem xJ(k:Int):∀l:List Int,(cY (l.map (bY k))).length=9*l.length
 |[]=>rfl
 |n::l=>by
  have h1:=FZ k n;have h2:=xJ k l;unfold cY at*
  simp only[OJ,List.flatten_cons,Og,List.length_cons];omega
theorem oS{k:Ky}(h:k.ok):(cU k).length<=81:=by
 obtain ⟨b1,b2,b3⟩:=fx h.b;have hn:=h.n;have h3:=sC k.k;have h4:=xJ k.k k.ns;have ho:k.o.length<=32:=by
  by_cases hk:k.k=1
  ·rw[h.e hk];simp
  ·exact (eL (h.o hk)).2.1
 unfold cU eX cY at*
 simp only[OJ,List.flatten_cons,Og,Pl,PN];have t1:∀s,(ptB (txt s)).length=s.length+3:=λs=>by simp[ptB,txt]
 rw[t1,t1,h4];by_cases he:k.o=[]
 ·simp[he];omega
 ·simp[he,t1];omega
theorem kinds(k:Int):k=1\/k=2\/k=3\/k=4\/k=5\/k=6\/(k≠1/\k≠2/\k≠3/\k≠4/\k≠5/\k≠6):=by omega
theorem F3(k:Int):aI Tryz.prog 175 [.int .i64 k] (.int .i64 (eB k)):=by
 rcases kinds k with rfl|rfl|rfl|rfl|rfl|rfl|⟨h1,h2,h3,h4,h5,h6⟩
 ·refine f175.aF ah rfl rfl ?_;unfold xf zz;have d1:decide ((1:Int)=1)=true:=rfl;have d2:decide ((1:Int)=2)=false:=rfl;have d3:decide ((1:Int)=3)=false:=rfl;have d4:decide ((1:Int)=4)=false:=rfl;have d5:decide ((1:Int)=5)=false:=rfl;have d6:decide ((1:Int)=6)=false:=rfl;refine rf0 (cj6 d1 d2 d3 d4 d5 d6) ?_;refine aG ?_;exact ay.of_eq rfl
 ·refine f175.aF ah rfl rfl ?_;unfold xf zz;have d1:decide ((2:Int)=1)=false:=rfl;have d2:decide ((2:Int)=2)=true:=rfl;have d3:decide ((2:Int)=3)=false:=rfl;have d4:decide ((2:Int)=4)=false:=rfl;have d5:decide ((2:Int)=5)=false:=rfl;have d6:decide ((2:Int)=6)=false:=rfl;refine rf0 (cj6 d1 d2 d3 d4 d5 d6) ?_;refine aG ?_;exact ay.of_eq rfl
 ·refine f175.aF ah rfl rfl ?_;unfold xf zz;have d1:decide ((3:Int)=1)=false:=rfl;have d2:decide ((3:Int)=2)=false:=rfl;have d3:decide ((3:Int)=3)=true:=rfl;have d4:decide ((3:Int)=4)=false:=rfl;have d5:decide ((3:Int)=5)=false:=rfl;have d6:decide ((3:Int)=6)=false:=rfl;refine rf0 (cj6 d1 d2 d3 d4 d5 d6) ?_;refine aG ?_;exact ay.of_eq rfl
 ·refine f175.aF ah rfl rfl ?_;unfold xf zz;have d1:decide ((4:Int)=1)=false:=rfl;have d2:decide ((4:Int)=2)=false:=rfl;have d3:decide ((4:Int)=3)=false:=rfl;have d4:decide ((4:Int)=4)=true:=rfl;have d5:decide ((4:Int)=5)=false:=rfl;have d6:decide ((4:Int)=6)=false:=rfl;refine rf0 (cj6 d1 d2 d3 d4 d5 d6) ?_;refine aG ?_;exact ay.of_eq rfl
 ·refine f175.aF ah rfl rfl ?_;unfold xf zz;have d1:decide ((5:Int)=1)=false:=rfl;have d2:decide ((5:Int)=2)=false:=rfl;have d3:decide ((5:Int)=3)=false:=rfl;have d4:decide ((5:Int)=4)=false:=rfl;have d5:decide ((5:Int)=5)=true:=rfl;have d6:decide ((5:Int)=6)=false:=rfl;refine rf0 (cj6 d1 d2 d3 d4 d5 d6) ?_;refine aG ?_;exact ay.of_eq rfl
 ·refine f175.aF ah rfl rfl ?_;unfold xf zz;have d1:decide ((6:Int)=1)=false:=rfl;have d2:decide ((6:Int)=2)=false:=rfl;have d3:decide ((6:Int)=3)=false:=rfl;have d4:decide ((6:Int)=4)=false:=rfl;have d5:decide ((6:Int)=5)=false:=rfl;have d6:decide ((6:Int)=6)=true:=rfl;refine rf0 (cj6 d1 d2 d3 d4 d5 d6) ?_;refine aG ?_;exact ay.of_eq rfl
 have hn:eB k= -1:=by simp[eB,h1,h2,h3,h4,h5,h6]
 rw[hn];refine f175.aF ah rfl rfl ?_;unfold xf zz;have d1:=N6 h1;have d2:=N6 h2;have d3:=N6 h3;have d4:=N6 h4;have d5:=N6 h5;have d6:=N6 h6;refine rf0 (cj6 d1 d2 d3 d4 d5 d6) ?_;refine aG ?_;exact ay.refl _
def mo(l:List Int):Bool:=l.all λn=>decide (0<=n)
theorem sD{l:List Int}{j:Nat}(h:j<l.length)(hn:l.getD j 0<0):mo l=false:=by
 refine List.all_eq_false.2 ⟨_,Pk h,?_⟩;have:l.getD j 0=l[j]:=by simp[List.getD,N5 h]
 rw[this] at hn;simpa using hn
theorem uC{l:List Int}(h:∀j,j<l.length->0<=l.getD j 0):mo l=true:=by
 refine OK.2 λn hn=>?_;obtain ⟨i,hi,rfl⟩:=Qt.1 hn;have:=h i hi;have e:l.getD i 0=l[i]:=by simp[List.getD,N5 hi]
 rw[e] at this;simpa using this
def fL(x:Ky):Bool:=mo x.ns&&decide (((x.ns.length:Nat):Int)<=eB x.k)&&(!decide (x.k=1)||decide (x.o=[]))
theorem eM(x:Ky):aW (di x)=true:=by simp[di,aW,aJ,bA,tX]
theorem DR(x:Ky)(hl:x.ns.length<=1000000):aI Tryz.prog 130 [di x] (.bool (fL x)):=by
 refine f130.aF ah (by simp[aJ,eM]) rfl ?_;unfold LS zz;obtain ⟨k,b,o,ns⟩:=x;have hE:di ⟨k,b,o,ns⟩= .agg [.int .i64 k,.str b,.str o,.sl 1 (ints ns) .any]:=rfl;have len:=dM ns;simp only at hl;rw[hE];refine rf0 @len ?_;refine Wp.dJ [1,6,7] xA6 (λj:Nat=>[(8,.int .i64 (j:Nat))]) (λj=>j<=ns.length/\∀i,i<j->0<=ns.getD i 0) (λj=>ns.length - j) 0 ⟨Ot _,λi h=>absurd h (Nat.not_lt_zero _)⟩ ?_ ?_
 ·exact xSb
 rintro j ⟨hj,hall⟩;by_cases hc:j<ns.length
 ·obtain ⟨g1,h2,h3,e1⟩:=ixF (j:=j) (n:=ns.length) ae ae;have hat:=iS ns j .any hc;by_cases hn:ns.getD j 0<0
  ·have d1:=N9 hn;refine rf0 (cj7 g1 h2 h3 @len hat @N7 d1) ?_;refine aG ?_;exact ay.of_eq (by simp[fL,sD hc hn])
  ·have d1:=N6 hn;refine rf0 (cj7 g1 h2 h3 @len hat @N7 d1) ?_;refine ⟨j+1,⟨ae,λi hi=>?_⟩,ae,?_⟩
   ·by_cases e:i=j
    ·subst e;omega
    ·exact hall i ae
   exact xSu
 ·have hj2:j=ns.length:=by omega
  subst hj2;have g1:=ixE (ns.length);have hok:=uC hall;have c1:=F3 k;cases d1:decide (((ns.length:Nat):Int)<=eB k) with
  |false=>
   refine rn1 (cj3 g1 @len d1) c1 ?_;refine aG ?_;exact ay.of_eq (by simp[fL,d1])
  |true=>
  cases d2:decide (k=1) with
  |false=>
   refine rn1 (cj5 g1 @len d1 d2 @OB) c1 ?_;refine aG ?_;exact ay.of_eq (by simp[fL,d1,d2,hok])
  |true=>
   cases d3:decide (o=[]) with
   |true=>
    refine rn1 (cj6 g1 @len d1 d2 d3 @Oy) c1 ?_;refine aG ?_;exact ay.of_eq (by simp[fL,d1,d2,d3,hok])
   |false=>
    refine rn1 (cj6 g1 @len d1 d2 d3 @Oy) c1 ?_;refine aG ?_;exact ay.of_eq (by simp[fL,d1,d2,d3,hok])
theorem Ac(s:List UInt8):aI Tryz.prog 176 [.str s] (bX (txt s)):=by
 refine f176.aF ah rfl rfl ?_;unfold Md zz;refine dI ?_;refine aG ?_;exact ay.refl _
theorem uD(k n:Int):aI Tryz.prog 177 [.int .i64 k,.int .i64 n] (bX (bY k n)):=by
 refine f177.aF ah rfl rfl ?_;unfold Me zz;cases d1:decide (k=2) with
 |true=>
  have:bY k n=⟨3,n,[]⟩:=by unfold bY;rw[Oi (Ox d1)]
  rw[this];refine rf0 d1 ?_;refine aG ?_;exact ay.refl _
 |false=>
  have:bY k n=⟨2,n,[]⟩:=by unfold bY;rw[Ob (ON d1)]
  rw[this];refine rf0 d1 ?_;refine aG ?_;exact ay.refl _
theorem uE{k:Int}(h:1<=k/\k<=6):(List.take k.toNat [98,111,99,117,112,113]).drop (k - 1).toNat=[du k]:=by
 obtain ⟨h1,h2⟩:=h;obtain rfl|rfl|rfl|rfl|rfl|rfl:k=1\/k=2\/k=3\/k=4\/k=5\/k=6:=by omega
 all_goals rfl
theorem fm(l:List Pt)(p:Pt):pts (l++[p])=pts l++[bX p]:=by simp[pts]
def lj(x:Ky):List Pt:=txt [du x.k]::txt x.b::(if x.o=[] then [] else [txt x.o])
theorem sE(x:Ky):eX x=lj x++x.ns.map (bY x.k):=by simp[eX,lj]
theorem F4(x:Ky):(lj x).length<=3:=by unfold lj;split<;>simp
theorem jH(k:Int)(l:List Int)(j:Nat)(h:j<l.length):(l.take (j+1)).map (bY k)=(l.take j).map (bY k)++[bY k (l.getD j 0)]:=by
 have e:l.getD j 0=l[j]:=by simp[OF,N5 h]
 rw[e,OD h,Pl];simp
theorem DS(x:Ky)(hx:x.ok):aI Tryz.prog 131 [di x,.sl 1 [.str x.b,.str x.o] .any] (.str (cU x)):=by
 refine f131.aF ah (by simp[aJ,eM,aW,bA]) rfl ?_;unfold LU zz;have hk:=hx.k;have hl:=uE hk;obtain ⟨b1,b2,b3⟩:=fx hx.b;have henc:=DK (eX x) (ji hx) (by have:=oS hx;unfold cU at this;omega);have hn:=hx.n;have hn3:=sC x.k;have hh:=F4 x;rw[sE] at henc;have hkb:cU x=cY (lj x++x.ns.map (bY x.k)):=by unfold cU;rw[sE]
 rw[hkb];unfold lj at*
 clear hkb b3 hx;obtain ⟨k,b,o,ns⟩:=x;simp only at*
 have hE:di ⟨k,b,o,ns⟩= .agg [.int .i64 k,.str b,.str o,.sl 1 (ints ns) .any]:=rfl;have len:=dM ns;rw[hE];have w1:IntKind.i64.wrap (k - 1)=k - 1:=IntWalk.i64_in _ ae;have k0:(0:Int)<=k:=by omega
 have k1:(0:Int)<=k - 1:=by omega
 have k2:k - 1<=k:=by omega
 have k3:k<=((6:Nat):Int):=hk.2;have k4:((k.toNat:Nat):Int)=k:=Int.toNat_of_nonneg k0;have c1:=Ac [du k];have c2:=Ac b;have c3:=Ac o;have db:decide (b=[])=false:=N6 (by rintro rfl;simp at b1);have i0:decide ((0:Int)<((2:Nat):Int))=true:=rfl;have i1:decide ((1:Int)<((2:Nat):Int))=true:=rfl;have i2:decide ((2:Int)<((2:Nat):Int))=false:=rfl;have u1:IntKind.i64.wrap (0+1)=1:=rfl;have u2:IntKind.i64.wrap (1+1)=2:=rfl;have t0:Int.toNat 0=0:=rfl;have t1:Int.toNat 1=1:=rfl;have x1:(0:Int)<((2:Nat):Int):=by decide
 have x2:(1:Int)<((2:Nat):Int):=by decide
 have x3:(0:Int)<=1:=by decide
 unfold bX txt at c1 c2 c3;refine rf1 (bf w1 k0 k1 k2 k3 k4 hl @Ou.{0,0} @Oz.{0,0} @N8.{0} @Oa.{0} (cj2 @Oo @Ol)) c1 ?_;cases dq:decide (o=[]) with
 |true=>
  have ho:=Ox dq;subst ho;refine Wp.JJ (WpL.next ?_);refine rf1 (bf i0 i1 i2 u1 u2 t0 t1 x1 x2 x3 @OU (bf @Ol @OP.{0} @Ph.{0} db dq @OB @Oy @N8.{0} @Oa.{0} @Oo @O2 (cj2 @Oj.{0} @OE))) c2 ?_;refine WpL.next ?_;refine rf0 (bf i0 i1 i2 u1 u2 t0 t1 x1 x2 x3 @OU (bf @Ol @OP.{0} @Ph.{0} db dq @OB @Oy @N8.{0} @Oa.{0} @Oo @O2 (cj2 @Oj.{0} @OE))) ?_;refine WpL.next ?_;refine rf0 (bf i0 i1 i2 u1 u2 t0 t1 x1 x2 x3 @OU (bf @Ol @OP.{0} @Ph.{0} db dq @OB @Oy @N8.{0} @Oa.{0} @Oo @O2 (cj3 @Oj.{0} @OE @len))) ?_;obtain ⟨H,hH⟩:∃H,H=[txt [du k],txt b]:=⟨_,rfl⟩;have hP:pts H=[.agg [.int .i64 1,.int .i64 0,.str [du k]],.agg [.int .i64 1,.int .i64 0,.str b]]:=by rw[hH];rfl
  have hHl:H.length<=3:=by rw[hH];simp
  have hd:(txt [du k]::txt b::(if ([]:List UInt8)=[] then [] else [txt []]))=H:=by rw[hH];simp
  rw[hd] at henc |-;refine Wp.le (s':=⟨tm [(2,.ptr 0 0),(5,.sl 3 (pts H) (.own 0)),(35,.sl 1 (ints ns) .any),(36,.int .i64 ns.length),(37,.int .i64 0)],⟨upd aB 0 (some (.cells [.int .i64 k,.str b,.str [],.sl 1 (ints ns) .any])),1,[0],1⟩⟩) (aM.of (aY ?_) (λa u hu=>⟨u,hu,cm.refl _⟩) (λa ha=>ha) (N4 _) (N4 _)) ?_
  ·rw[hP];exact xSb
  clear hP hd;refine Wp.qL [2,35,36] xA7 (λ(j:Nat) tk=>[(5,.sl 3 (pts (H++(ns.take j).map (bY k))) (.own tk)),(37,.int .i64 (j:Nat))]) (λj=>j<=ns.length) (λj=>ns.length - j) 0 0 (Ot _) rfl ?_ ?_
  ·exact cM (cj3 @O9.{0} @OQ.{0,0} @OR.{0})
  rintro j tk m hj;have lp:(pts (H++(ns.take j).map (bY k))).length=H.length+j:=by rw[cE];simp;omega
  by_cases hc:j<ns.length
  ·obtain ⟨g1,h2,h3,e1⟩:=ixF (j:=j) (n:=ns.length) ae ae;have hat:=iS ns j .any hc;have hsn:=jH k ns j hc;have c5:=uD k (ns.getD j 0);have e6:(H.length+j+1)*32<=140737488355328:=by omega
   have e7:H.length+j+1<4611686018427387904:=by omega
   generalize hnp:bY k (ns.getD j 0)=np at*
   have hen:bX np= .agg [.int .i64 np.k,.int .i64 np.n,.str np.s]:=rfl;rw[hen] at c5;refine rf1 (bf g1 h2 h3 @len hat @N7 lp e6 e7 @N8.{0} @Oa.{0} (cj4 @Oo @Oj.{0} @O2 @Ol)) c5 ?_;refine ⟨j+1,m,m+1,ae,ae,?_⟩;refine aM.tm (by simp only[aQ,go_sem,reduceIte,Nat.reduceEqDiff,Nat.reduceAdd,bx];and_intros<;>first|exact trivial|exact ay.refl _|exact ay.any _|exact ay.of_eq (by rw[hsn,<-OX,fm];rfl)|(refine ay.int ?_;omega))
  ·have hj2:j=ns.length:=by omega
   subst hj2;have g1:=ixE (ns.length);rw[OG];refine rf1 (cj2 g1 @len) henc ?_;refine aG ?_;exact ay.refl _
 |false=>
  refine Wp.JJ (WpL.next ?_);refine rf1 (bf i0 i1 i2 u1 u2 t0 t1 x1 x2 x3 @OU (bf @Ol @OP.{0} @Ph.{0} db dq @OB @Oy @N8.{0} @Oa.{0} @Oo @O2 (cj2 @Oj.{0} @OE))) c2 ?_;refine WpL.next ?_;refine rf1 (bf i0 i1 i2 u1 u2 t0 t1 x1 x2 x3 @OU (bf @Ol @OP.{0} @Ph.{0} db dq @OB @Oy @N8.{0} @Oa.{0} @Oo @O2 (cj2 @Oj.{0} @OE))) c3 ?_;refine WpL.next ?_;refine rf0 (bf i0 i1 i2 u1 u2 t0 t1 x1 x2 x3 @OU (bf @Ol @OP.{0} @Ph.{0} db dq @OB @Oy @N8.{0} @Oa.{0} @Oo @O2 (cj3 @Oj.{0} @OE @len))) ?_;obtain ⟨H,hH⟩:∃H,H=[txt [du k],txt b,txt o]:=⟨_,rfl⟩;have hP:pts H=[.agg [.int .i64 1,.int .i64 0,.str [du k]],.agg [.int .i64 1,.int .i64 0,.str b],.agg [.int .i64 1,.int .i64 0,.str o]]:=by rw[hH];rfl
  have hHl:H.length<=3:=by rw[hH];simp
  have hd:(txt [du k]::txt b::(if o=[] then [] else [txt o]))=H:=by rw[hH];simp[ON dq]
  rw[hd] at henc |-;refine Wp.le (s':=⟨tm [(2,.ptr 0 0),(5,.sl 3 (pts H) (.own 1)),(35,.sl 1 (ints ns) .any),(36,.int .i64 ns.length),(37,.int .i64 0)],⟨upd aB 0 (some (.cells [.int .i64 k,.str b,.str o,.sl 1 (ints ns) .any])),1,[1],2⟩⟩) (aM.of (aY ?_) (λa u hu=>⟨u,hu,cm.refl _⟩) (λa ha=>ha) (N4 _) (N4 _)) ?_
  ·rw[hP];exact xSb
  clear hP hd;refine Wp.qL [2,35,36] xA7 (λ(j:Nat) tk=>[(5,.sl 3 (pts (H++(ns.take j).map (bY k))) (.own tk)),(37,.int .i64 (j:Nat))]) (λj=>j<=ns.length) (λj=>ns.length - j) 0 1 (Ot _) rfl ?_ ?_
  ·exact cM (cj3 @O9.{0} @OQ.{0,0} @OR.{0})
  rintro j tk m hj;have lp:(pts (H++(ns.take j).map (bY k))).length=H.length+j:=by rw[cE];simp;omega
  by_cases hc:j<ns.length
  ·obtain ⟨g1,h2,h3,e1⟩:=ixF (j:=j) (n:=ns.length) ae ae;have hat:=iS ns j .any hc;have hsn:=jH k ns j hc;have c5:=uD k (ns.getD j 0);have e6:(H.length+j+1)*32<=140737488355328:=by omega
   have e7:H.length+j+1<4611686018427387904:=by omega
   generalize hnp:bY k (ns.getD j 0)=np at*
   have hen:bX np= .agg [.int .i64 np.k,.int .i64 np.n,.str np.s]:=rfl;rw[hen] at c5;refine rf1 (bf g1 h2 h3 @len hat @N7 lp e6 e7 @N8.{0} @Oa.{0} (cj4 @Oo @Oj.{0} @O2 @Ol)) c5 ?_;refine ⟨j+1,m,m+1,ae,ae,?_⟩;refine aM.tm (by simp only[aQ,go_sem,reduceIte,Nat.reduceEqDiff,Nat.reduceAdd,bx];and_intros<;>first|exact trivial|exact ay.refl _|exact ay.any _|exact ay.of_eq (by rw[hsn,<-OX,fm];rfl)|(refine ay.int ?_;omega))
  ·have hj2:j=ns.length:=by omega
   subst hj2;have g1:=ixE (ns.length);rw[OG];refine rf1 (cj2 g1 @len) henc ?_;refine aG ?_;exact ay.refl _
def iJ(x:Ky):Bool:=mo x.ns&&decide (((x.ns.length:Nat):Int)=eB x.k)&&(!decide (x.k=1)||decide (x.o=[]))
def gr(x:Ky):Int:=if iJ x=true then (if bW x.b=0 then (if x.k=1 then 0 else cf x.o) else 15) else 2
def dB(x:Ky):List UInt8:=if gr x=0 then cU x else []
def Ky.fit(x:Ky):Prop:=x.ns.length<=1000000/\∀n∈x.ns,n<9223372036854775808
theorem nT(s:List UInt8):bW s=0\/bW s=15:=by unfold bW;split<;>simp
theorem sF(s:List UInt8):cf s=0\/cf s=15:=by unfold cf;split<;>simp
theorem F5{x:Ky}(h:iJ x=true):fL x=true:=by
 unfold iJ at h;unfold fL;simp only[Oh,Ov] at h |-;exact ⟨⟨h.1.1,ae⟩,h.2⟩
theorem pI{x:Ky}(hf:x.fit)(h:gr x=0):x.ok:=by
 unfold gr at h;split at h
 case isFalse=>simp at h
 rename_i ha;split at h
 case isFalse=>simp at h
 rename_i hb;unfold iJ at ha;simp only[Oh,Ov,OZ,Qv,decide_eq_false_iff_not] at ha;obtain ⟨⟨a1,a2⟩,a3⟩:=ha;refine ⟨?_,a2.symm,λn hn=>⟨?_,hf.2 n hn⟩,λhk=>?_,hb,λhk=>?_⟩
 ·rcases kinds x.k with e|e|e|e|e|e|⟨h1,h2,h3,h4,h5,h6⟩;all_goals first
   |omega
   |(have hn:eB x.k= -1:=by simp[eB,h1,h2,h3,h4,h5,h6]
     omega)
 ·have:=OK.1 a1 n hn;simpa using this
 ·rcases a3 with h|h
  ·exact absurd hk h
  ·exact h
 ·rw[Ob hk] at h;exact h
theorem JV(x:Ky)(hf:x.fit):aI Tryz.prog 138 [di x] (.tup [.str (dB x),.int .i64 (gr x)]):=by
 refine f138.aF ah (by simp[aJ,eM]) rfl ?_;unfold LV zz;have c1:=DR x hf.1;have c2:=F3 x.k;have c3:=xq x.b;have c4:=xp x.o;have len:=dM x.ns;have hE:di x= .agg [.int .i64 x.k,.str x.b,.str x.o,.sl 1 (ints x.ns) .any]:=rfl;have hok:=λh=>DS x (pI hf h);have hS:dB x=if gr x=0 then cU x else []:=rfl
 rw[hE] at c1 hok |-;cases ha:iJ x with
 |false=>
  have hk:gr x=2:=by unfold gr;rw[ha];rfl
  rw[hS,hk,Ob aq];cases hn:fL x with
  |false=>
   rw[hn] at c1;refine rn2 (cj2 @len @OB) c1 c2 ?_;refine aG ?_;exact ay.refl _
  |true=>
   rw[hn] at c1;have d1:decide (((x.ns.length:Nat):Int)=eB x.k)=false:=by
    refine N6 λe=>?_;unfold iJ at ha;unfold fL at hn;simp only[Oh] at hn;rw[hn.1.1,hn.2,N9 e] at ha;simp at ha
   refine rn2 (cj4 @len d1 @Oy @OB) c1 c2 ?_;refine aG ?_;exact ay.refl _
 |true=>
  rw[F5 ha] at c1;have d1:decide (((x.ns.length:Nat):Int)=eB x.k)=true:=by
   unfold iJ at ha;simp only[Oh] at ha;exact ha.1.2
  have hk:gr x=if bW x.b=0 then (if x.k=1 then 0 else cf x.o) else 15:=by unfold gr;rw[ha];rfl
  rcases nT x.b with hb|hb
  ·rw[hb] at c3;rw[hb,Oi rfl] at hk;have e0:decide ((0:Int)=0)=true:=rfl;cases d2:decide (x.k=1) with
   |true=>
    rw[Oi (Ox d2)] at hk;have c5:=hok hk;rw[hS,hk,Oi rfl];refine rn4 (cj5 @len d1 d2 e0 @Oy) c1 c2 c3 c5 ?_;refine aG ?_;exact ay.refl _
   |false=>
    rw[Ob (ON d2)] at hk;rcases sF x.o with ho|ho
    ·rw[ho] at c4 hk;have c5:=hok hk;rw[hS,hk,Oi rfl];refine rn8 (cj6 @len d1 d2 e0 @Oy @OB) c1 c2 c3 c4 c5 c5 c5 c5 ?_;refine aG ?_;exact ay.refl _
    ·rw[ho] at c4 hk;have e15:decide ((15:Int)=0)=false:=rfl;rw[hS,hk,Ob aq];refine rn4 (cj7 @len d1 d2 e0 e15 @Oy @OB) c1 c2 c3 c4 ?_;refine aG ?_;exact ay.refl _
  ·rw[hb] at c3;rw[hb,Ob aq] at hk;have e15:decide ((15:Int)=0)=false:=rfl;rw[hS,hk,Ob aq];refine rn3 (cj5 @len d1 e15 @Oy @OB) c1 c2 c3 ?_;refine aG ?_;exact ay.refl _
end Go.Proofs.YtjnoobmaedgooaaGreat.Arch
end
