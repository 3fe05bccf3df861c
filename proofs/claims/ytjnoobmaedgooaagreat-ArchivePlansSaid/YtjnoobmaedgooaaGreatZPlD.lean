/- Parts of a proof: a layer of abstract values over the model, the functions' walks, plain laws. -/
import Derived.Test.YtjnoobmaedgooaaGreatZPlC
set_option linter.unusedSimpArgs false
set_option linter.unusedVariables false
section
set_option maxRecDepth 10000
namespace Go.Proofs.YtjnoobmaedgooaaGreat.Batch
open Go Go.Av Go.Proofs Go.Proofs.YtjnoobmaedgooaaGreat.C
theorem zK(b:List UInt8):Op.bytesLess [] b=decide (0<b.length):=by cases b<;>simp[Op.bytesLess]
theorem n9(a:List UInt8):Op.bytesLess a []=false:=by cases a<;>simp[Op.bytesLess]
theorem H9{a b:List UInt8}{j:Nat}(ha:j<a.length)(hb:j<b.length):Op.bytesLess (a.drop j) (b.drop j)=(decide (a.getD j 0<b.getD j 0)||(a.getD j 0 == b.getD j 0&&Op.bytesLess (a.drop (j+1)) (b.drop (j+1)))):=by
 rw[PX ha,PX hb];simp[Op.bytesLess,List.getD,N0 ha,N0 hb]
theorem xo{a b:List UInt8}{j:Nat}(ha:j<=a.length)(hb:j<=b.length)(h:¬(j<a.length/\j<b.length)):Op.bytesLess (a.drop j) (b.drop j)=decide ((a.length:Int)<(b.length:Int)):=by
 by_cases h1:j<a.length
 ·have:b.drop j=[]:=OY aa;rw[this,n9];symm;simp;omega
 ·have:a.drop j=[]:=OY aa;rw[this,zK];simp;omega
def Ls(l:List UInt8):Prop:=l.length<=9223372036854775806
theorem fB(a b:List UInt8)(la:Ls a)(lb:Ls b):aI Tryz.prog 53 [.str a,.str b] (.bool (Op.bytesLess a b)):=by
 refine f53.uX af (cB _ rfl) (dL _ rfl) λk m=>?_;unfold Ls at la lb;unfold c53 zz;refine Wp.bQ xA1 ah ?_;refine Wp.seq ?_;refine Wp.bQ xA1 ah ?_;refine Wp.block ?_;refine Wp.dB [0,1] xA6 (λj:Nat=>[(5,.int .i64 j)]) (λj=>j<=a.length/\j<=b.length/\Op.bytesLess (a.drop j) (b.drop j)=Op.bytesLess a b) (λj=>a.length - j) 0 ⟨Og _,Og _,rfl⟩ ?_ ?_
 ·exact xSb
 ·intro j hj;obtain ⟨h1,h2,h3⟩:=hj;refine Wp.seq ?_;by_cases hc:j<a.length/\j<b.length
  ·have ha:decide ((j:Int)<(a.length:Int))=true:=by simp;omega
   have hb:decide ((j:Int)<(b.length:Int))=true:=by simp;omega
   have h4:(0:Int)<=(j:Int):=by omega
   have h5:(j:Int)<(a.length:Int):=by omega
   have h6:(j:Int)<(b.length:Int):=by omega
   refine Wp.bQ (xAe (cj2 ha hb)) ah ?_;refine Wp.cond_true (by simp only[go_sem,reduceIte,Nat.reduceEqDiff,Oa]) ?_;refine Wp.skip ?_;refine Wp.seq ?_;refine Wp.block ?_;refine Wp.bQ (xAd (cj6 h4 h5 h6 @Oe @NZ @byte.eq_1)) ah ?_;have hs:=H9 hc.1 hc.2;refine Wp.kZ (b:= !decide (((a.getD j 0).toNat:Int)=((b.getD j 0).toNat:Int))) xA2 (λhd=>?_) (λhd=>?_)
   ·refine Wp.bQ (xAd (cj6 h4 h5 h6 @Oe @NZ @byte.eq_1)) ah ?_;refine aG ?_;refine av.of_eq ?_;congr 1;rw[<-h3,hs];have hne:¬(a.getD j 0=b.getD j 0):=λhe=>by rw[he] at hd;simp at hd
    have:(a.getD j 0 == b.getD j 0)=false:=by simpa using hne
    rw[this,O6,Bool.or_false];congr 1;rw[Qi];simp
   ·refine Wp.skip ?_;refine Wp.nX (by simp only[go_sem,reduceIte,Nat.reduceEqDiff,Nat.reduceAdd,bx];simp (disch:=omega) only[IntWalk.i64_in];exact rfl) ah ?_;have he:a.getD j 0=b.getD j 0:=by
     apply Q4.1;have:((a.getD j 0).toNat:Int)=((b.getD j 0).toNat:Int):=by simpa using hd
     omega
    refine ⟨j+1,⟨aa,aa,?_⟩,aa,?_⟩
    ·rw[<-h3,hs,he];simp[UInt8.lt_irrefl]
    ·exact xSu
  ·have hx:(decide ((j:Int)<(a.length:Int))&&decide ((j:Int)<(b.length:Int)))=false:=by
    by_cases h:j<a.length
    ·have:¬j<b.length:=λh'=>hc ⟨h,h'⟩;simp;omega
    ·simp;omega
   by_cases ha:j<a.length
   ·have h7:decide ((j:Int)<(a.length:Int))=true:=by simp;omega
    have h8:decide ((j:Int)<(b.length:Int))=false:=by rw[h7,OP] at hx;exact hx
    refine Wp.bQ (xAe (cj2 h7 h8)) ah ?_;refine Wp.cond_false (by simp only[go_sem,reduceIte,Nat.reduceEqDiff,Oa]) ?_;refine Wp.exit ?_;refine Wp.bQ xA1 ah ?_;refine aG ?_;rw[<-h3,xo h1 h2 hc];exact av.refl _
   ·have h7:decide ((j:Int)<(a.length:Int))=false:=by simp;omega
    refine Wp.bQ (xAe h7) ah ?_;refine Wp.cond_false (by simp only[go_sem,reduceIte,Nat.reduceEqDiff,Oa]) ?_;refine Wp.exit ?_;refine Wp.bQ xA1 ah ?_;refine aG ?_;rw[<-h3,xo h1 h2 hc];exact av.refl _
theorem bZ:∀a,Op.bytesLess a a=false
 |[]=>rfl
 |x::a=>by simp[Op.bytesLess,bZ a,UInt8.lt_irrefl]
theorem dH:∀{a b c},Op.bytesLess a b=true->Op.bytesLess b c=true->Op.bytesLess a c=true
 |a,b,[],_,h=>by rw[n9] at h;cases h
 |a,[],c::cs,h,_=>by rw[n9] at h;cases h
 |[],b::bs,c::cs,_,_=>rfl
 |a::x,b::y,c::z,h1,h2=>by
  simp only[Op.bytesLess,OS,Oj,Ob,Qh] at h1 h2 |-;rcases h1 with h1|⟨rfl,h1⟩
  ·rcases h2 with h2|⟨rfl,h2⟩
   ·exact .inl (UInt8.lt_trans h1 h2)
   ·exact .inl h1
  ·rcases h2 with h2|⟨rfl,h2⟩
   ·exact .inl h2
   ·exact .inr ⟨rfl,dH h1 h2⟩
theorem fo:∀a b,Op.bytesLess a b=true\/a=b\/Op.bytesLess b a=true
 |[],[]=> .inr (.inl rfl)
 |[],_::_=> .inl rfl
 |_::_,[]=> .inr (.inr rfl)
 |x::a,y::b=>by
  simp only[Op.bytesLess,OS,Oj,Ob,Qh,Pf];rcases Nat.lt_trichotomy x.toNat y.toNat with h|h|h
  ·exact .inl (.inl (Qi.2 h))
  ·have:=Q4.1 h;subst this;rcases fo a b with h|h|h
   ·exact .inl (.inr ⟨rfl,h⟩)
   ·exact .inr (.inl ⟨rfl,h⟩)
   ·exact .inr (.inr (.inr ⟨rfl,h⟩))
  ·exact .inr (.inr (.inl (Qi.2 h)))
theorem zM{a b}(h:Op.bytesLess a b=true):Op.bytesLess b a=false:=by
 cases h':Op.bytesLess b a
 ·rfl
 ·have:=dH h h';rw[bZ] at this;cases this
def be:Nat->Nat->List UInt8
 |0,_=>[]
 |b+1,v=>UInt8.ofNat (v/256^b)::be b v
theorem aW:∀b v,(be b v).length=b
 |0,_=>rfl
 |b+1,v=>by simp[be,aW b v]
theorem oT(v i:Nat)(hi:i<=7):AV.int .u8 (IntKind.u8.wrap ((v:Int).fdiv (2^(min ((8*i:Nat):Int).toNat 64))))=byte (UInt8.ofNat (v/256^i)):=by
 have h1:min ((8*i:Nat):Int).toNat 64=8*i:=by rw[Int.toNat_natCast];omega
 have h2:(2:Int)^(8*i)=((256^i:Nat):Int):=by
  rw[Int.pow_mul];norm_cast
 rw[h1,h2,byte,Qu _ (PL _),<-Int.natCast_ediv,IntKind.wrap_u8];congr 1
theorem lz(l m:List UInt8):aD (l++m)=aD l++aD m:=by simp[aD]
theorem vi{f:FuncId}(hF:aT Tryz.prog f 24 c84 [.tmp 6])(K:IntKind)(v:Nat)(hv:v<18446744073709551616)(b:Nat)(hb:b<=8)(xs:List UInt8)(hx:xs.length<=1099511627776):
  lh Tryz.prog f (λt=>[.sl 1 (aD xs) (.own t),.int K v,.int .i64 b]) (λt=> .sl 1 (aD (xs++be b v)) (.own t)):=by
 intro t n m;suffices h:∃r h',bo Tryz.prog f [.sl 1 (aD xs) (.own t),.int K v,.int .i64 b] (.only aA [t] n m) r h'/\∃t' m',m<=m'/\r= .sl 1 (aD (xs++be b v)) (.own t')/\h'= .only aA [t'] n m' by
  obtain ⟨r,h',ha,t',m',hm,rfl,rfl⟩:=h;exact ⟨t',m',hm,ha⟩
 refine hF.eY af ?_;unfold c84 zz;refine Wp.bQ xA1 ah ?_;refine Wp.seq ?_;refine Wp.bQ (by simp only[go_sem,reduceIte,Nat.reduceEqDiff,Nat.reduceAdd,bx];simp (disch:=omega) only[IntWalk.i64_in];exact rfl) ah ?_;refine Wp.block ?_;refine Wp.cI [1] xA7 (λj:Nat × List UInt8 × Nat × Nat=>[(0,.sl 1 (aD (xs++j.2.1)) (.own j.2.2.1)),(7,.int .i64 ((j.1:Int) - 1))]) (λj=> .only aA [j.2.2.1] n j.2.2.2)
  (λj=>j.1<=b/\m<=j.2.2.2/\j.2.1++be j.1 v=be b v) (λj=>j.1) (b,[],t,m) ⟨NY _,NY _,rfl⟩ rfl ?_ ?_
 ·exact bY @ON.{0}
 ·intro j hj;obtain ⟨r,dn,tk,m'⟩:=j;obtain ⟨h1,h2,h3⟩:=hj;simp only at h1 h2 h3;have hdl:dn.length+r=b:=by have:=Pb List.length h3;simp only[N6,aW] at this;exact this
  refine Wp.seq ?_;refine Wp.bQ xA1 ah ?_;refine Wp.kZ (b:=decide ((0:Int)<=(r:Int) - 1)) xA2 (λhc=>?_) (λhc=>?_)
  ·have hc':(0:Int)<=(r:Int) - 1:=by simpa using hc
   obtain ⟨i,rfl⟩:∃i,r=i+1:=⟨r - 1,aa⟩;have e1:((i+1:Nat):Int) - 1=(i:Int):=by omega
   have e2:IntKind.i64.wrap (8*(i:Int))=((8*i:Nat):Int):=by rw[IntWalk.i64_in _ aa];omega
   have e3:IntKind.u64.wrap (v:Int)=(v:Int):=IntWalk.u64_in _ aa;have e4:¬((8*i:Nat):Int)<0:=by omega
   have e5:=oT v i aa;have e6:(aD (xs++dn)).length+1<=140737488355328:=by rw[bI,N6];omega
   have e7:(aD (xs++dn)).length+1<4611686018427387904:=by omega
   rw[bI] at e6 e7;refine Wp.skip ?_;refine Wp.seq ?_;refine Wp.block ?_;rw[e1];refine Wp.nX (by simp only[go_sem,reduceIte,Nat.reduceEqDiff,Nat.reduceAdd,bx,e2,e3,e4,e5,OO,Pl,IntKind.bits,e6,e7,Pz,Oe,N9,ne_eq,byte,Ow,Nat.reduceMul,Nat.reduceLeDiff];exact rfl) ah ?_;refine Wp.nX (by simp only[go_sem,reduceIte,Nat.reduceEqDiff,Nat.reduceAdd,bx];simp (disch:=omega) only[IntWalk.i64_in];exact rfl) ah ?_;refine ⟨(i,dn++[UInt8.ofNat (v/256^i)],m',m'+1),⟨by simp only;omega,by simp only;omega,by rw[<-h3];simp[be]⟩,by simp,?_⟩;refine aL.tm (by simp only[aR,go_sem,reduceIte,Nat.reduceEqDiff,Nat.reduceAdd,bx];and_intros<;>first|exact trivial|exact av.refl _|exact av.any _|exact av.of_eq (by simp[aD,byte])|(refine av.int ?_;omega))
  ·skip
   refine Wp.exit ?_;refine Wp.bQ xA1 ah ?_;have hr:r=0:=by
    have:¬(0:Int)<=(r:Int) - 1:=by simpa using hc
    omega
   subst hr;have h4:dn=be b v:=by simpa [be] using h3
   subst h4;refine Wp.ret ⟨trivial,_,rfl,tk,m',h2,?_,rfl⟩;simp only[go_sem,reduceIte,Nat.reduceEqDiff]
theorem DC{f:FuncId}(hF:aT Tryz.prog f 23 c86 [.tmp 6])(v:Nat)(hv:v<18446744073709551616)(b:Nat)(hb:b<=8)(xs:List UInt8)(hx:xs.length<=1099511627776):
  lh Tryz.prog f (λt=>[.sl 1 (aD xs) (.own t),.int .u64 v,.int .i64 b]) (λt=> .sl 1 (aD (xs++be b v)) (.own t)):=by
 intro t n m;suffices h:∃r h',bo Tryz.prog f [.sl 1 (aD xs) (.own t),.int .u64 v,.int .i64 b] (.only aA [t] n m) r h'/\∃t' m',m<=m'/\r= .sl 1 (aD (xs++be b v)) (.own t')/\h'= .only aA [t'] n m' by
  obtain ⟨r,h',ha,t',m',hm,rfl,rfl⟩:=h;exact ⟨t',m',hm,ha⟩
 refine hF.eY af ?_;unfold c86 zz;refine Wp.bQ xA1 ah ?_;refine Wp.seq ?_;refine Wp.bQ (by simp only[go_sem,reduceIte,Nat.reduceEqDiff,Nat.reduceAdd,bx];simp (disch:=omega) only[IntWalk.i64_in];exact rfl) ah ?_;refine Wp.block ?_;refine Wp.cI [1] xA7 (λj:Nat × List UInt8 × Nat × Nat=>[(0,.sl 1 (aD (xs++j.2.1)) (.own j.2.2.1)),(7,.int .i64 ((j.1:Int) - 1))]) (λj=> .only aA [j.2.2.1] n j.2.2.2)
  (λj=>j.1<=b/\m<=j.2.2.2/\j.2.1++be j.1 v=be b v) (λj=>j.1) (b,[],t,m) ⟨NY _,NY _,rfl⟩ rfl ?_ ?_
 ·exact bY @ON.{0}
 ·intro j hj;obtain ⟨r,dn,tk,m'⟩:=j;obtain ⟨h1,h2,h3⟩:=hj;simp only at h1 h2 h3;have hdl:dn.length+r=b:=by have:=Pb List.length h3;simp only[N6,aW] at this;exact this
  refine Wp.seq ?_;refine Wp.bQ xA1 ah ?_;refine Wp.kZ (b:=decide ((0:Int)<=(r:Int) - 1)) xA2 (λhc=>?_) (λhc=>?_)
  ·have hc':(0:Int)<=(r:Int) - 1:=by simpa using hc
   obtain ⟨i,rfl⟩:∃i,r=i+1:=⟨r - 1,aa⟩;have e1:((i+1:Nat):Int) - 1=(i:Int):=by omega
   have e2:IntKind.i64.wrap (8*(i:Int))=((8*i:Nat):Int):=by rw[IntWalk.i64_in _ aa];omega
   have e3:IntKind.u64.wrap (v:Int)=(v:Int):=IntWalk.u64_in _ aa;have e4:¬((8*i:Nat):Int)<0:=by omega
   have e5:=oT v i aa;have e6:(aD (xs++dn)).length+1<=140737488355328:=by rw[bI,N6];omega
   have e7:(aD (xs++dn)).length+1<4611686018427387904:=by omega
   rw[bI] at e6 e7;refine Wp.skip ?_;refine Wp.seq ?_;refine Wp.block ?_;rw[e1];refine Wp.nX (by simp only[go_sem,reduceIte,Nat.reduceEqDiff,Nat.reduceAdd,bx,e2,e3,e4,e5,OO,Pl,IntKind.bits,e6,e7,Pz,Oe,N9,ne_eq,byte,Ow,Nat.reduceMul,Nat.reduceLeDiff];exact rfl) ah ?_;refine Wp.nX (by simp only[go_sem,reduceIte,Nat.reduceEqDiff,Nat.reduceAdd,bx];simp (disch:=omega) only[IntWalk.i64_in];exact rfl) ah ?_;refine ⟨(i,dn++[UInt8.ofNat (v/256^i)],m',m'+1),⟨by simp only;omega,by simp only;omega,by rw[<-h3];simp[be]⟩,by simp,?_⟩;refine aL.tm (by simp only[aR,go_sem,reduceIte,Nat.reduceEqDiff,Nat.reduceAdd,bx];and_intros<;>first|exact trivial|exact av.refl _|exact av.any _|exact av.of_eq (by simp[aD,byte])|(refine av.int ?_;omega))
  ·skip
   refine Wp.exit ?_;refine Wp.bQ xA1 ah ?_;have hr:r=0:=by
    have:¬(0:Int)<=(r:Int) - 1:=by simpa using hc
    omega
   subst hr;have h4:dn=be b v:=by simpa [be] using h3
   subst h4;refine Wp.ret ⟨trivial,_,rfl,tk,m',h2,?_,rfl⟩;simp only[go_sem,reduceIte,Nat.reduceEqDiff]
theorem zS(v:Nat)(hv:v<256)(xs:List UInt8)(hx:xs.length<=1099511627776):lh Tryz.prog 38 (λt=>[.sl 1 (aD xs) (.own t),.int .i64 v]) (λt=> .sl 1 (aD (xs++be 1 v)) (.own t)):=by
 intro t n m;suffices h:∃r h',bo Tryz.prog 38 [.sl 1 (aD xs) (.own t),.int .i64 v] (.only aA [t] n m) r h'/\∃t' m',m<=m'/\r= .sl 1 (aD (xs++be 1 v)) (.own t')/\h'= .only aA [t'] n m' by
  obtain ⟨r,h',ha,t',m',hm,rfl,rfl⟩:=h;exact ⟨t',m',hm,ha⟩
 refine f38.eY af ?_;unfold c38 zz;have e1:IntKind.u8.wrap (v:Int)=(v:Int):=IntWalk.u8_in _ aa;refine Wp.bQ xA1 ah ?_;refine Wp.seqItems (xAe e1) ?_;refine az.dD t ae xA4 ae (vi f84 .u8 v aa 1 aa xs hx) λt' m' hm=>?_;refine az.eval xA1 ?_;refine az.nil ⟨by trivial,?_⟩;refine Wp.ret ⟨trivial,_,rfl,t',m',hm,?_,rfl⟩;simp only[go_sem,reduceIte,Nat.reduceEqDiff]
theorem Ia(v:Nat)(hv:v<9223372036854775808)(xs:List UInt8)(hx:xs.length<=1099511627776):lh Tryz.prog 41 (λt=>[.sl 1 (aD xs) (.own t),.int .i64 v]) (λt=> .sl 1 (aD (xs++be 8 v)) (.own t)):=by
 intro t n m;suffices h:∃r h',bo Tryz.prog 41 [.sl 1 (aD xs) (.own t),.int .i64 v] (.only aA [t] n m) r h'/\∃t' m',m<=m'/\r= .sl 1 (aD (xs++be 8 v)) (.own t')/\h'= .only aA [t'] n m' by
  obtain ⟨r,h',ha,t',m',hm,rfl,rfl⟩:=h;exact ⟨t',m',hm,ha⟩
 refine f41.eY af ?_;unfold c41 zz;have e1:IntKind.u64.wrap (v:Int)=(v:Int):=IntWalk.u64_in _ aa;refine Wp.bQ xA1 ah ?_;refine Wp.seqItems (xAe e1) ?_;refine az.dD t ae xA4 ae (DC f86 v aa 8 aa xs hx) λt' m' hm=>?_;refine az.eval xA1 ?_;refine az.nil ⟨by trivial,?_⟩;refine Wp.ret ⟨trivial,_,rfl,t',m',hm,?_,rfl⟩;simp only[go_sem,reduceIte,Nat.reduceEqDiff]
def mu:Option Nat->List Nat
 |none=>[]
 |some t=>[t]
def ju(k:Nat):Option Nat->Cap
 |none=> .exact k
 |some t=> .own t
theorem kq(v:Nat)(hv:v<9223372036854775808)(b:Nat)(hb:b<=8):aI Tryz.prog 87 [.int .i64 v,.int .i64 b] (.str (be b v)):=by
 refine f87.uX af (cB _ rfl) (dL _ rfl) λn m=>?_;unfold c87 zz;have e3:IntKind.u64.wrap (v:Int)=(v:Int):=IntWalk.u64_in _ aa;refine Wp.bQ xA1 ah ?_;refine Wp.bQ (xAe e3) ah ?_;refine Wp.bQ xA1 ah ?_;refine Wp.seq ?_;refine Wp.bQ (by simp only[go_sem,reduceIte,Nat.reduceEqDiff,Nat.reduceAdd,bx];simp (disch:=omega) only[IntWalk.i64_in];exact rfl) ah ?_;refine Wp.block ?_;refine Wp.cI [5] xA7 (λj:Nat × List UInt8 × Option Nat × Nat=>[(6,.sl 1 (aD j.2.1) (ju j.2.1.length j.2.2.1)),(7,.int .i64 ((j.1:Int) - 1))]) (λj=> .only aA (mu j.2.2.1) n j.2.2.2)
  (λj=>j.1<=b/\j.2.1++be j.1 v=be b v) (λj=>j.1) (b,[],none,m) ⟨NY _,rfl⟩ rfl ?_ ?_
 ·exact bY (cj4 @ju.eq_1 @aD.eq_1 @OE.{0,0} @N4.{0})
 ·intro j hj;obtain ⟨r,dn,o,m'⟩:=j;obtain ⟨h1,h3⟩:=hj;simp only at h1 h3;have hdl:dn.length+r=b:=by have:=Pb List.length h3;simp only[N6,aW] at this;exact this
  refine Wp.seq ?_;refine Wp.bQ xA1 ah ?_;refine Wp.kZ (b:=decide ((0:Int)<=(r:Int) - 1)) xA2 (λhc=>?_) (λhc=>?_)
  ·have hc':(0:Int)<=(r:Int) - 1:=by simpa using hc
   obtain ⟨i,rfl⟩:∃i,r=i+1:=⟨r - 1,aa⟩;have e1:((i+1:Nat):Int) - 1=(i:Int):=by omega
   have e0:IntKind.u64.wrap (i:Int)=(i:Int):=IntWalk.u64_in _ aa;have e2:IntKind.u64.wrap (8*(i:Int))=((8*i:Nat):Int):=by rw[IntWalk.u64_in _ aa];omega
   have e4:¬((8*i:Nat):Int)<0:=by omega
   have e5:=oT v i aa;have e6:dn.length+1<=140737488355328:=by omega
   have e7:dn.length+1<4611686018427387904:=by omega
   refine Wp.skip ?_;refine Wp.seq ?_;refine Wp.block ?_;rw[e1];refine (λ(h:Wp _ _ _ _ _)=>h) ?_;cases o with
   |none=>
    refine Wp.nX (by simp only[go_sem,reduceIte,Nat.reduceEqDiff,Nat.reduceAdd,bx,mu,ju,e0,e2,e4,e5,OO,Pl,IntKind.bits,e6,e7,Pz,Oe,N9,ne_eq,byte,Ow,Nat.reduceMul,Nat.reduceLeDiff];exact rfl) ah ?_;refine Wp.nX (by simp only[go_sem,reduceIte,Nat.reduceEqDiff,Nat.reduceAdd,bx];simp (disch:=omega) only[IntWalk.i64_in];exact rfl) ah ?_;refine ⟨(i,dn++[UInt8.ofNat (v/256^i)],some m',m'+1),⟨by simp only;omega,by rw[<-h3];simp[be]⟩,by simp,?_⟩;refine aL.tm (by simp only[aR,go_sem,reduceIte,Nat.reduceEqDiff,Nat.reduceAdd,bx,ju];and_intros<;>first|exact trivial|exact av.refl _|exact av.any _|exact av.of_eq (by simp[aD,byte])|(refine av.int ?_;omega))
   |some tk=>
    refine Wp.nX (by simp only[go_sem,reduceIte,Nat.reduceEqDiff,Nat.reduceAdd,bx,mu,ju,e0,e2,e4,e5,OO,Pl,IntKind.bits,e6,e7,Pz,Oe,N9,ne_eq,byte,Ow,Nat.reduceMul,Nat.reduceLeDiff];exact rfl) ah ?_;refine Wp.nX (by simp only[go_sem,reduceIte,Nat.reduceEqDiff,Nat.reduceAdd,bx];simp (disch:=omega) only[IntWalk.i64_in];exact rfl) ah ?_;refine ⟨(i,dn++[UInt8.ofNat (v/256^i)],some m',m'+1),⟨by simp only;omega,by rw[<-h3];simp[be]⟩,by simp,?_⟩;refine aL.tm (by simp only[aR,go_sem,reduceIte,Nat.reduceEqDiff,Nat.reduceAdd,bx,ju];and_intros<;>first|exact trivial|exact av.refl _|exact av.any _|exact av.of_eq (by simp[aD,byte])|(refine av.int ?_;omega))
  ·have hr:r=0:=by
    have:¬(0:Int)<=(r:Int) - 1:=by simpa using hc
    omega
   subst hr;have h4:dn=be b v:=by simpa [be] using h3
   subst h4;refine Wp.exit ?_;refine Wp.bQ (xAd (cj2 @cz @OW)) ah ?_;refine aG ?_;exact av.refl _
abbrev Bs:=List UInt8
structure Pr where
 k:Bs
 v:Bs
 deriving DecidableEq
structure Ch where
 k:Bs
 v:Bs
 d:Bool
 deriving DecidableEq
instance:Inhabited Pr:=⟨⟨[],[]⟩⟩
instance:Inhabited Ch:=⟨⟨[],[],false⟩⟩
def cw(p:Pr):AV:= .agg [.str p.k,.str p.v]
def mv(c:Ch):AV:= .agg [.str c.k,.str c.v,.bool c.d]
def prs(l:List Pr):List AV:=l.map cw
def chs(l:List Ch):List AV:=l.map mv
theorem aP(l:List Pr):(prs l).length=l.length:=by simp[prs]
theorem bF(l:List Ch):(chs l).length=l.length:=by simp[chs]
theorem bj(l:List Pr)(k:Nat)(d:AV)(h:k<l.length):(prs l).getD k d=cw (l.getD k default):=by
 simp[prs,List.getD,Qc,N0 h]
theorem mw(l:List Ch)(k:Nat)(d:AV)(h:k<l.length):(chs l).getD k d=mv (l.getD k default):=by
 simp[chs,List.getD,Qc,N0 h]
theorem bC{α:Type}{f:α->AV}(h:∀x,aO (f x)=true):∀l:List α,aF (l.map f)=true
 |[]=>rfl
 |x::l=>by simp only[Oy,aF,h x,OP];exact bC h l
theorem dw(l:List Pr):aF (prs l)=true:=bC (λx=>by simp[cw,aO,aF]) l
theorem gC(l:List Ch):aF (chs l)=true:=bC (λx=>by simp[mv,aO,aF]) l
def jT(l:List Pr)(i:Nat):Bool:=decide (i=0)||Op.bytesLess (l.getD (i - 1) default).k (l.getD i default).k
def kr(l:List Pr):Bool:=(List.range l.length).all (jT l)
def differ:List Pr->List Pr->List Ch
 |[],b=>b.map λp=>⟨p.k,p.v,false⟩
 |x::a,[]=>⟨x.k,[],true⟩::differ a []
 |x::a,y::b=>
  if Op.bytesLess x.k y.k then ⟨x.k,[],true⟩::differ a (y::b)
  else if Op.bytesLess y.k x.k then ⟨y.k,y.v,false⟩::differ (x::a) b
  else if x.v=y.v then differ a b else ⟨y.k,y.v,false⟩::differ a b
termination_by a b=>a.length+b.length
def cq(a b:List Pr):List Ch:=if kr a&&kr b then differ a b else []
theorem cA{α:Type}[Inhabited α]{l:List α}{i:Nat}(h:i<l.length):l.drop i=l.getD i default::l.drop (i+1):=by
 rw[PX h,Ou,N0 h];rfl
theorem zT{a b:List Pr}{i k:Nat}(hi:i<a.length)(h:b.length<=k\/k<b.length/\Op.bytesLess (a.getD i default).k (b.getD k default).k=true):
  differ (a.drop i) (b.drop k)=⟨(a.getD i default).k,[],true⟩::differ (a.drop (i+1)) (b.drop k):=by
 rw[cA hi];rcases h with h|⟨h,hl⟩
 ·rw[OY h,differ]
 ·rw[cA h,differ,Of hl]
theorem zU{a b:List Pr}{i k:Nat}(hk:k<b.length)(h:a.length<=i\/i<a.length/\Op.bytesLess (a.getD i default).k (b.getD k default).k=false/\Op.bytesLess (b.getD k default).k (a.getD i default).k=true):
  differ (a.drop i) (b.drop k)=⟨(b.getD k default).k,(b.getD k default).v,false⟩::differ (a.drop i) (b.drop (k+1)):=by
 rw[cA hk];rcases h with h|⟨h,hl,hg⟩
 ·rw[OY h,differ,differ];rfl
 ·rw[cA h,differ,hl,hg];simp only[Oa,N5,N9]
theorem uh{a b:List Pr}{i k:Nat}(hi:i<a.length)(hk:k<b.length)(h:Op.bytesLess (a.getD i default).k (b.getD k default).k=false)(h2:Op.bytesLess (b.getD k default).k (a.getD i default).k=false):
  differ (a.drop i) (b.drop k)=if (a.getD i default).v=(b.getD k default).v then differ (a.drop (i+1)) (b.drop (k+1)) else ⟨(b.getD k default).k,(b.getD k default).v,false⟩::differ (a.drop (i+1)) (b.drop (k+1)):=by
 rw[cA hi,cA hk,differ,h,h2];simp only[Oa,N5]
theorem zW{a b:List Pr}{i k:Nat}(hi:a.length<=i)(hk:b.length<=k):differ (a.drop i) (b.drop k)=[]:=by
 rw[OY hi,OY hk,differ];rfl
theorem zY(a b:List Pr):(differ a b).length<=a.length+b.length:=by
 induction a,b using differ.induct with
 |case1 b=>simp[differ]
 |case2 x a ih=>rw[differ];simp only[List.length_cons] at ih |-;omega
 |case3 x a y b h ih=>rw[differ,Of h];simp only[List.length_cons] at ih |-;omega
 |case4 x a y b h h2 ih=>rw[differ,N7 h,Of h2];simp only[List.length_cons] at ih |-;omega
 |case5 x a y b h h2 h3 ih=>rw[differ,N7 h,N7 h2,Of h3];simp only[List.length_cons] at ih |-;omega
 |case6 x a y b h h2 h3 ih=>rw[differ,N7 h,N7 h2,N7 h3];simp only[List.length_cons] at ih |-;omega
end Go.Proofs.YtjnoobmaedgooaaGreat.Batch
end
section
set_option maxRecDepth 100000
namespace Go.Proofs.YtjnoobmaedgooaaGreat.Batch
open Go Go.Av Go.Proofs Go.Proofs.YtjnoobmaedgooaaGreat.C
end Go.Proofs.YtjnoobmaedgooaaGreat.Batch
end
section
set_option maxRecDepth 10000
namespace Go.Proofs.YtjnoobmaedgooaaGreat.Batch
open Go Go.Av Go.Proofs Go.Proofs.YtjnoobmaedgooaaGreat.C
theorem all_true{n:Nat}{p:Nat->Bool}(h:∀i,i<n->p i=true):(List.range n).all p=true:=by
 rw[OH];intro i hi;exact h i (O1.1 hi)
theorem all_false{n:Nat}{p:Nat->Bool}{i:Nat}(hi:i<n)(h:p i=false):(List.range n).all p=false:=by
 rw[List.all_eq_false];exact ⟨i,O1.2 hi,by simp[h]⟩
theorem zH{n:Nat}{p:Nat->Bool}(h:(List.range n).all p=true){i:Nat}(hi:i<n):p i=true:=by
 rw[OH] at h;exact h i (O1.2 hi)
theorem oV(l:List Pr)(hl:l.length<=4611686018427387904):aI Tryz.prog 118 [.sl 2 (prs l) .any] (.bool (kr l)):=by
 refine f118.aE af (by simp[aF,aO,aU,dw]) rfl ?_;unfold LX zz;refine an0 @aP ?_;refine Wp.dB [0,5] xA6 (λj:Nat=>[(6,.int .i64 j)]) (λj=>j<=l.length/\∀i,i<j->jT l i=true) (λj=>l.length - j) 0 ⟨Og _,λi h=>absurd h aa⟩ ?_ ?_
 ·exact bY @aP
 ·rintro j ⟨hj,hr⟩;by_cases hc:j<l.length
  ·have d1:decide ((j:Int)<(l.length:Int))=true:=N3 aa;have h2:(0:Int)<=(j:Int):=by omega
   have h3:(j:Int)<(l.length:Int):=by omega
   have e1:IntKind.i64.wrap ((j:Int)+1)=((j+1:Nat):Int):=by rw[IntWalk.i64_in _ aa];omega
   by_cases h0:j=0
   ·subst h0;have d2:decide ((0:Int)<((0:Nat):Int))=false:=by decide
    refine an0 (cj4 @aP d1 d2 e1) ?_;refine ⟨1,⟨aa,λi hi=>?_⟩,aa,?_⟩
    ·obtain rfl:i=0:=by omega
     simp[jT]
    ·exact xSu
   ·have d2:decide ((0:Int)<(j:Int))=true:=N3 aa;have e2:IntKind.i64.wrap ((j:Int) - 1)=((j - 1:Nat):Int):=by rw[IntWalk.i64_in _ aa];omega
    have h4:(0:Int)<=((j - 1:Nat):Int):=by omega
    have h5:((j - 1:Nat):Int)<(l.length:Int):=by omega
    have h6:j - 1<l.length:=by omega
    have hra:jT l j=Op.bytesLess (l.getD (j - 1) default).k (l.getD j default).k:=by simp[jT,h0]
    cases hb:Op.bytesLess (l.getD (j - 1) default).k (l.getD j default).k with
    |true=>
     refine an0 (aY @aP d1 d2 e1 e2 h2 h3 h4 h5 @NZ (λd=>bj _ _ d h6) (cj3 (λd=>bj _ _ d hc) @cw.eq_1 hb)) ?_;refine ⟨j+1,⟨aa,λi hi=>?_⟩,aa,?_⟩
     ·by_cases he:i=j
      ·subst he;rw[hra,hb]
      ·exact hr i aa
     ·exact xSu
    |false=>
     have hf:kr l=false:=all_false hc (by rw[hra,hb]);refine an0 (aY @aP d1 d2 e1 e2 h2 h3 h4 h5 @NZ (λd=>bj _ _ d h6) (cj3 (λd=>bj _ _ d hc) @cw.eq_1 hb)) ?_;refine aG ?_;rw[hf];exact av.refl _
  ·obtain rfl:j=l.length:=by omega
   have d1:decide ((l.length:Int)<(l.length:Int))=false:=N1 aa;have ht:kr l=true:=all_true hr;refine an0 d1 ?_;refine aG ?_;rw[ht];exact av.refl _
theorem my(l:List Pr)(hl:l.length<=4611686018427387904)(hk:∀p∈l,Ls p.k):aI Tryz.prog 121 [.sl 2 (prs l) .any] (.bool (kr l)):=by
 refine f121.aE af (by simp[aF,aO,aU,dw]) rfl ?_;unfold LY zz;have hls:∀i,Ls (l.getD i default).k:=λi=>by
  by_cases h:i<l.length
  ·rw[Ou,N0 h];exact hk _ (O0 h)
  ·rw[Ou,Pp aa];exact Og _
 refine an0 @aP ?_;refine Wp.dB [0] xA6 (λj:Nat=>[(3,.int .i64 j)]) (λj=>1<=j/\j<=l.length+1/\∀i,i<j->i<l.length->jT l i=true) (λj=>l.length+1 - j) 1 ⟨NY _,aa,λi h _=>by (obtain rfl:i=0:=by omega);simp[jT]⟩ ?_ ?_
 ·exact bY @aP
 ·rintro j ⟨hj1,hj,hr⟩;by_cases hc:j<l.length
  ·have d1:decide ((j:Int)<(l.length:Int))=true:=N3 aa;have h2:(0:Int)<=(j:Int):=by omega
   have h3:(j:Int)<(l.length:Int):=by omega
   have e1:IntKind.i64.wrap ((j:Int)+1)=((j+1:Nat):Int):=by rw[IntWalk.i64_in _ aa];omega
   have e2:IntKind.i64.wrap ((j:Int) - 1)=((j - 1:Nat):Int):=by rw[IntWalk.i64_in _ aa];omega
   have h4:(0:Int)<=((j - 1:Nat):Int):=by omega
   have h5:((j - 1:Nat):Int)<(l.length:Int):=by omega
   have h6:j - 1<l.length:=by omega
   have hra:jT l j=Op.bytesLess (l.getD (j - 1) default).k (l.getD j default).k:=by simp[jT];omega
   cases hb:Op.bytesLess (l.getD (j - 1) default).k (l.getD j default).k with
   |true=>
    refine an1 (aY @aP d1 e1 e2 h2 h3 h4 h5 @NZ (λd=>bj _ _ d h6) (λd=>bj _ _ d hc) (cj2 @cw.eq_1 hb)) (fB (l.getD (j - 1) default).k (l.getD j default).k (hls _) (hls _)) ?_;refine ⟨j+1,⟨aa,aa,λi hi hil=>?_⟩,aa,?_⟩
    ·by_cases he:i=j
     ·subst he;rw[hra,hb]
     ·exact hr i aa hil
    ·exact xSu
   |false=>
    have hf:kr l=false:=all_false hc (by rw[hra,hb]);refine an1 (aY @aP d1 e1 e2 h2 h3 h4 h5 @NZ (λd=>bj _ _ d h6) (λd=>bj _ _ d hc) (cj2 @cw.eq_1 hb)) (fB (l.getD (j - 1) default).k (l.getD j default).k (hls _) (hls _)) ?_;refine aG ?_;rw[hf];exact av.refl _
  ·have d1:decide ((j:Int)<(l.length:Int))=false:=N1 aa;have ht:kr l=true:=all_true λi hi=>hr i aa hi;refine an0 (cj2 d1 @aP) ?_;refine aG ?_;rw[ht];exact av.refl _
theorem nK(l:List Ch)(hl:l.length<=4611686018427387904):aI Tryz.prog 30 [.sl 3 (chs l) .any,.sl 3 (chs l) .any] (.bool true):=by
 refine f30.aE af (by simp[aF,aO,aU,gC]) rfl ?_;unfold c30 zz;refine an0 @bF ?_;refine Wp.dB [0,1] xA6 (λj:Nat=>[(5,.int .i64 j)]) (λj=>j<=l.length) (λj=>l.length - j) 0 (Og _) ?_ ?_
 ·exact xSb
 ·intro j hj;by_cases hc:j<l.length
  ·have d1:decide ((j:Int)<(l.length:Int))=true:=N3 aa;have h2:(0:Int)<=(j:Int):=by omega
   have h3:(j:Int)<(l.length:Int):=by omega
   have e1:IntKind.i64.wrap ((j:Int)+1)=((j+1:Nat):Int):=by rw[IntWalk.i64_in _ aa];omega
   refine an0 (gw @bF d1 e1 h2 h3 @NZ (λd=>mw _ _ d hc) @mv.eq_1 @PC.{0} @O7 @Ol.{0,0}) ?_;refine ⟨j+1,aa,aa,?_⟩;exact xSu
  ·have d1:decide ((j:Int)<(l.length:Int))=false:=N1 aa;refine an0 (cj2 d1 @bF) ?_;refine aG ?_;exact av.refl _
theorem fL(l:List Ch)(c:Ch):chs l++[.agg [.str c.k,.str c.v,.bool c.d]]=chs (l++[c]):=by simp[chs,mv]
structure DI(a b:List Pr)(i k:Nat)(o:List Ch):Prop where
 hi:i<=a.length
 hk:k<=b.length
 hd:o++differ (a.drop i) (b.drop k)=differ a b
 hl:o.length<=i+k
theorem DI.del{a b:List Pr}{i k:Nat}{o:List Ch}(h:DI a b i k o)(hi:i<a.length)(hk:b.length<=k\/k<b.length/\Op.bytesLess (a.getD i default).k (b.getD k default).k=true):DI a b (i+1) k (o++[⟨(a.getD i default).k,[],true⟩]):=by
 refine ⟨hi,h.hk,?_,by have:=h.hl;simp;omega⟩;rw[<-h.hd,zT hi hk];simp
theorem DI.put{a b:List Pr}{i k:Nat}{o:List Ch}(h:DI a b i k o)(hk:k<b.length)(hi:a.length<=i\/i<a.length/\Op.bytesLess (a.getD i default).k (b.getD k default).k=false/\Op.bytesLess (b.getD k default).k (a.getD i default).k=true):DI a b i (k+1) (o++[⟨(b.getD k default).k,(b.getD k default).v,false⟩]):=by
 refine ⟨h.hi,hk,?_,by have:=h.hl;simp;omega⟩;rw[<-h.hd,zU hk hi];simp
theorem DI.same{a b:List Pr}{i k:Nat}{o:List Ch}(h:DI a b i k o)(hi:i<a.length)(hk:k<b.length)(h1:Op.bytesLess (a.getD i default).k (b.getD k default).k=false)(h2:Op.bytesLess (b.getD k default).k (a.getD i default).k=false)(hv:(a.getD i default).v=(b.getD k default).v):DI a b (i+1) (k+1) o:=by
 refine ⟨hi,hk,?_,by have:=h.hl;omega⟩;rw[<-h.hd,uh hi hk h1 h2,Of hv]
theorem DI.set{a b:List Pr}{i k:Nat}{o:List Ch}(h:DI a b i k o)(hi:i<a.length)(hk:k<b.length)(h1:Op.bytesLess (a.getD i default).k (b.getD k default).k=false)(h2:Op.bytesLess (b.getD k default).k (a.getD i default).k=false)(hv:¬(a.getD i default).v=(b.getD k default).v):DI a b (i+1) (k+1) (o++[⟨(b.getD k default).k,(b.getD k default).v,false⟩]):=by
 refine ⟨hi,hk,?_,by have:=h.hl;simp;omega⟩;rw[<-h.hd,uh hi hk h1 h2,N7 hv];simp
theorem DI.fin{a b:List Pr}{i k:Nat}{o:List Ch}(h:DI a b i k o)(hi:a.length<=i)(hk:b.length<=k):o=differ a b:=by
 rw[<-h.hd,zW hi hk,ON]
theorem jh{l:List Pr}(hk:∀p∈l,Ls p.k)(i:Nat):Ls (l.getD i default).k:=by
 by_cases h:i<l.length
 ·rw[Ou,N0 h];exact hk _ (O0 h)
 ·rw[Ou,Pp aa];exact Og _
set_option maxHeartbeats 4000000 in
theorem DD(a b:List Pr)(ha:a.length<=2000)(hb:b.length<=2000)(la:∀p∈a,Ls p.k)(lb:∀p∈b,Ls p.k):aI Tryz.prog 73 [.sl 2 (prs a) .any,.sl 2 (prs b) .any] (.sl 3 (chs (cq a b)) .any):=by
 refine f73.aE af (by simp[aF,aO,aU,dw]) (by simp[aO,aU,gC]) ?_;unfold c73 zz;have nil:cq a b=[]->av (.sl 3 [] (.exact 0)) (.sl 3 (chs (cq a b)) .any):=λe=>by rw[e];exact av.cap
 cases hra:kr a with
 |false=>
  refine an1 hra (my a aa la) ?_;refine aG ?_;exact nil (by simp[cq,hra])
 |true=>
  cases hrb:kr b with
  |false=>
   refine an2 (cj2 hra hrb) (my a aa la) (my b aa lb) ?_;refine aG ?_;exact nil (by simp[cq,hrb])
  |true=>
   have hout:cq a b=differ a b:=by simp[cq,hra,hrb]
   rw[hout];refine an2 (cj2 hra hrb) (my a aa la) (my b aa lb) ?_;refine Wp.le (aL.tok _ _) ?_;refine Wp.mY [0,1] xA7 (λ(j:Nat × Nat × List Ch) tk=>[(5,.sl 3 (chs j.2.2) (.own tk)),(6,.int .i64 j.1),(7,.int .i64 j.2.1)]) (λj=>DI a b j.1 j.2.1 j.2.2) (λj=>(a.length - j.1)+(b.length - j.2.1)) (0,0,[]) _ ⟨Og _,Og _,by simp,by simp⟩ rfl ?_ ?_
   ·simp only[aR,go_sem,reduceIte,Nat.reduceEqDiff,Nat.reduceAdd,bx];and_intros<;>first|exact trivial|exact av.refl _|exact av.any _|exact av.dF rfl|(refine av.int ?_;omega)
   ·rintro ⟨i,k,o⟩ tk m hI;obtain ⟨hi,hk,hd,hl⟩:=hI;have hI:DI a b i k o:=⟨hi,hk,hd,hl⟩;simp only at hi hk hl;have lo:o.length<=4000:=by omega
    have g0:(o.length+1)*40<=140737488355328:=by omega
    have g0':o.length+1<4611686018427387904:=by omega
    have p1:(0:Int)<=(i:Int):=by omega
    have p2:(0:Int)<=(k:Int):=by omega
    have e1:IntKind.i64.wrap ((i:Int)+1)=((i+1:Nat):Int):=by rw[IntWalk.i64_in _ aa];omega
    have e2:IntKind.i64.wrap ((k:Int)+1)=((k+1:Nat):Int):=by rw[IntWalk.i64_in _ aa];omega
    by_cases hia:i<a.length
    ·have d1:decide ((i:Int)<(a.length:Int))=true:=N3 aa;have q1:(i:Int)<(a.length:Int):=by omega
     have d3:decide ((i:Int)=(a.length:Int))=false:=N1 aa;by_cases hkb:k<b.length
     ·have d2:decide ((k:Int)=(b.length:Int))=false:=N1 aa;have q2:(k:Int)<(b.length:Int):=by omega
      cases h1:Op.bytesLess (a.getD i default).k (b.getD k default).k with
      |true=>
       refine an1 (aY @aP @bF d1 d2 d3 p1 p2 @q1 @q2 e1 e2 (gv h1 g0 g0' @NZ (λd=>bj _ _ d hia) (λd=>bj _ _ d hkb) @cw.eq_1 @N2.{0} @N4.{0} @Od)) (fB (a.getD i default).k (b.getD k default).k (jh la _) (jh lb _)) ?_;refine ⟨(i+1,k,o++[⟨(a.getD i default).k,[],true⟩]),m,m+1,hI.del hia (.inr ⟨hkb,h1⟩),by simp only;omega,?_⟩;refine aL.tm (by simp only[aR,go_sem,reduceIte,Nat.reduceEqDiff,Nat.reduceAdd,bx];and_intros<;>first|exact trivial|exact av.refl _|exact av.any _|exact av.of_eq (by rw[<-fL])|(refine av.int ?_;omega))
      |false=>
       cases h2:Op.bytesLess (b.getD k default).k (a.getD i default).k with
       |true=>
        refine an2 (aY @aP @bF d1 d2 d3 p1 p2 @q1 @q2 e1 e2 (gw h1 h2 g0 g0' @NZ (λd=>bj _ _ d hia) (λd=>bj _ _ d hkb) @cw.eq_1 @N2.{0} @N4.{0} @Od)) (fB (a.getD i default).k (b.getD k default).k (jh la _) (jh lb _)) (fB (b.getD k default).k (a.getD i default).k (jh lb _) (jh la _)) ?_;refine ⟨(i,k+1,o++[⟨(b.getD k default).k,(b.getD k default).v,false⟩]),m,m+1,hI.put hkb (.inr ⟨hia,h1,h2⟩),by simp only;omega,?_⟩;refine aL.tm (by simp only[aR,go_sem,reduceIte,Nat.reduceEqDiff,Nat.reduceAdd,bx];and_intros<;>first|exact trivial|exact av.refl _|exact av.any _|exact av.of_eq (by rw[<-fL])|(refine av.int ?_;omega))
       |false=>
        by_cases hv:(a.getD i default).v=(b.getD k default).v
        ·have d4:decide ((a.getD i default).v=(b.getD k default).v)=true:=N3 hv;refine an2 (aY @aP @bF d1 d2 d3 d4 p1 p2 @q1 @q2 e1 (aY e2 h1 h2 g0 g0' @NZ (λd=>bj _ _ d hia) (λd=>bj _ _ d hkb) @cw.eq_1 @N2.{0} @N4.{0} @Od)) (fB (a.getD i default).k (b.getD k default).k (jh la _) (jh lb _)) (fB (b.getD k default).k (a.getD i default).k (jh lb _) (jh la _)) ?_;refine ⟨(i+1,k+1,o),tk,m,hI.same hia hkb h1 h2 hv,by simp only;omega,?_⟩;exact xSu
        ·have d4:decide ((a.getD i default).v=(b.getD k default).v)=false:=N1 hv;refine an2 (aY @aP @bF d1 d2 d3 d4 p1 p2 @q1 @q2 e1 (aY e2 h1 h2 g0 g0' @NZ (λd=>bj _ _ d hia) (λd=>bj _ _ d hkb) @cw.eq_1 @N2.{0} @N4.{0} @Od)) (fB (a.getD i default).k (b.getD k default).k (jh la _) (jh lb _)) (fB (b.getD k default).k (a.getD i default).k (jh lb _) (jh la _)) ?_;refine ⟨(i+1,k+1,o++[⟨(b.getD k default).k,(b.getD k default).v,false⟩]),m,m+1,hI.set hia hkb h1 h2 hv,by simp only;omega,?_⟩;refine aL.tm (by simp only[aR,go_sem,reduceIte,Nat.reduceEqDiff,Nat.reduceAdd,bx];and_intros<;>first|exact trivial|exact av.refl _|exact av.any _|exact av.of_eq (by rw[<-fL])|(refine av.int ?_;omega))
     ·obtain rfl:k=b.length:=by omega
      have d2:decide ((b.length:Int)=(b.length:Int))=true:=N3 rfl;refine an0 (aY @aP @bF d1 d2 d3 p1 p2 @q1 e1 e2 g0 (cj7 g0' @NZ (λd=>bj _ _ d hia) @cw.eq_1 @N2.{0} @N4.{0} @Od)) ?_;refine ⟨(i+1,b.length,o++[⟨(a.getD i default).k,[],true⟩]),m,m+1,hI.del hia (.inl (NY _)),by simp only;omega,?_⟩;refine aL.tm (by simp only[aR,go_sem,reduceIte,Nat.reduceEqDiff,Nat.reduceAdd,bx];and_intros<;>first|exact trivial|exact av.refl _|exact av.any _|exact av.of_eq (by rw[<-fL])|(refine av.int ?_;omega))
    ·obtain rfl:i=a.length:=by omega
     have d1:decide ((a.length:Int)<(a.length:Int))=false:=N1 aa;by_cases hkb:k<b.length
     ·have d2:decide ((k:Int)<(b.length:Int))=true:=N3 aa;have d3:decide ((k:Int)=(b.length:Int))=false:=N1 aa;have d4:decide ((a.length:Int)=(a.length:Int))=true:=N3 rfl;have q2:(k:Int)<(b.length:Int):=by omega
      refine an0 (aY @aP @bF d1 d2 d3 d4 p1 p2 @q2 e1 e2 (cj8 g0 g0' @NZ (λd=>bj _ _ d hkb) @cw.eq_1 @N2.{0} @N4.{0} @Od)) ?_;refine ⟨(a.length,k+1,o++[⟨(b.getD k default).k,(b.getD k default).v,false⟩]),m,m+1,hI.put hkb (.inl (NY _)),by simp only;omega,?_⟩;refine aL.tm (by simp only[aR,go_sem,reduceIte,Nat.reduceEqDiff,Nat.reduceAdd,bx];and_intros<;>first|exact trivial|exact av.refl _|exact av.any _|exact av.of_eq (by rw[<-fL])|(refine av.int ?_;omega))
     ·obtain rfl:k=b.length:=by omega
      have d2:decide ((b.length:Int)<(b.length:Int))=false:=N1 aa;refine an0 (cj3 @aP d1 d2) ?_;refine aG ?_;rw[hI.fin (NY _) (NY _)];exact av.own
theorem FG(l:List Pr)(k:Nat):(prs l).drop k=prs (l.drop k):=by simp[prs]
theorem DE{α:Type}(l:List α)(i j:Nat)(d:α):(l.drop i).getD j d=l.getD (i+j) d:=by
 rw[Ou,PM,<-Ou]
set_option maxHeartbeats 4000000 in
theorem xp(a b:List Pr)(ha:a.length<=2000)(hb:b.length<=2000):aI Tryz.prog 69 [.sl 2 (prs a) .any,.sl 2 (prs b) .any] (.sl 3 (chs (cq a b)) .any):=by
 refine f69.aE af (by simp[aF,aO,aU,dw]) (by simp[aO,aU,gC]) ?_;unfold c69 zz;have nil:cq a b=[]->av (.sl 3 [] (.exact 0)) (.sl 3 (chs (cq a b)) .any):=λe=>by rw[e];exact av.cap
 refine Wp.bQ xA1 ah ?_;refine Wp.E8 ?_;cases hra:kr a with
 |false=>
  refine an1 hra (oV a aa) ?_;refine aG ?_;exact nil (by simp[cq,hra])
 |true=>
  cases hrb:kr b with
  |false=>
   refine an2 (cj2 hra hrb) (oV a aa) (oV b aa) ?_;refine aG ?_;exact nil (by simp[cq,hrb])
  |true=>
   have hout:cq a b=differ a b:=by simp[cq,hra,hrb]
   rw[hout];refine an2 (cj3 hra hrb @aP) (oV a aa) (oV b aa) ?_;refine Wp.le (aL.tok _ _) ?_;refine Wp.gB [0,1,19,20] (by simp only[go_sem,reduceIte,Nat.reduceEqDiff,List.map,aP];exact rfl) (λ(j:Nat × Nat × List Ch) tk=>[(5,.sl 3 (chs j.2.2) (.own tk)),(6,.int .i64 j.1),(21,.int .i64 j.2.1)]) (λj=>DI a b j.1 j.2.1 j.2.2) (λj=>b.length - j.2.1) (0,0,[]) _ ⟨Og _,Og _,by simp,by simp⟩ rfl ?_ ?_
   ·simp only[aR,go_sem,reduceIte,Nat.reduceEqDiff,Nat.reduceAdd,bx];and_intros<;>first|exact trivial|exact av.refl _|exact av.any _|exact av.dF rfl|(refine av.int ?_;omega)
   ·rintro ⟨i,k,o⟩ tk n m hn hI;obtain ⟨hi,hk,hd,hl⟩:=hI;have hI:DI a b i k o:=⟨hi,hk,hd,hl⟩;simp only at hi hk hl;have p2:(0:Int)<=(k:Int):=by omega
    have e2:IntKind.i64.wrap ((k:Int)+1)=((k+1:Nat):Int):=by rw[IntWalk.i64_in _ aa];omega
    by_cases hkb:k<b.length
    ·have d2:decide ((k:Int)<(b.length:Int))=true:=N3 aa;have q2:(k:Int)<(b.length:Int):=by omega
     refine an0 (cj7 @aP d2 p2 @q2 @NZ (λd=>bj _ _ d hkb) @cw.eq_1) ?_;refine Wp.mY [0,1,8,19,20,21] (by simp only[go_sem,reduceIte,Nat.reduceEqDiff,List.map,aP];exact rfl) (λ(j:Nat × List Ch) tk=>[(5,.sl 3 (chs j.2) (.own tk)),(6,.int .i64 j.1)]) (λj=>DI a b j.1 k j.2) (λj=>a.length - j.1) (i,o) tk hI rfl ?_ ?_
     ·exact xSb
     ·rintro ⟨i1,o1⟩ tk1 m1 hI;obtain ⟨hi,hk,hd,hl⟩:=hI;have hI:DI a b i1 k o1:=⟨hi,hk,hd,hl⟩;simp only at hi hk hl;have lo:o1.length<=4000:=by omega
      have g0:(o1.length+1)*40<=140737488355328:=by omega
      have g0':o1.length+1<4611686018427387904:=by omega
      have p1:(0:Int)<=(i1:Int):=by omega
      have e1:IntKind.i64.wrap ((i1:Int)+1)=((i1+1:Nat):Int):=by rw[IntWalk.i64_in _ aa];omega
      have e3:IntKind.i64.wrap (((i1+1:Nat):Int) - 1)=(i1:Int):=by rw[IntWalk.i64_in _ aa];omega
      by_cases hia:i1<a.length
      ·have d1:decide ((i1:Int)<(a.length:Int))=true:=N3 aa;have q1:(i1:Int)<(a.length:Int):=by omega
       cases h1:Op.bytesLess (a.getD i1 default).k (b.getD k default).k with
       |true=>
        refine an0 (aY @aP @bF d1 p1 @q1 e1 h1 g0 g0' @NZ (λd=>bj _ _ d hia) (cj4 @cw.eq_1 @N2.{0} @N4.{0} @Od)) ?_;refine ⟨(i1+1,o1++[⟨(a.getD i1 default).k,[],true⟩]),m1,m1+1,hI.del hia (.inr ⟨hkb,h1⟩),by simp only;omega,?_⟩;refine aL.tm (by simp only[aR,go_sem,reduceIte,Nat.reduceEqDiff,Nat.reduceAdd,bx];and_intros<;>first|exact trivial|exact av.refl _|exact av.any _|exact av.of_eq (by rw[<-fL])|(refine av.int ?_;omega))
       |false=>
        by_cases hke:(a.getD i1 default).k=(b.getD k default).k
        ·have d3:decide ((a.getD i1 default).k=(b.getD k default).k)=true:=N3 hke;have h2:Op.bytesLess (b.getD k default).k (a.getD i1 default).k=false:=by rw[hke];exact bZ _
         by_cases hv:(a.getD i1 default).v=(b.getD k default).v
         ·have d4:decide ((a.getD i1 default).v=(b.getD k default).v)=true:=N3 hv;refine an0 (aY @aP @bF d1 d3 d4 p1 @q1 e1 e2 e3 h1 (cj8 g0 g0' @NZ (λd=>bj _ _ d hia) @cw.eq_1 @N2.{0} @N4.{0} @Od)) ?_;refine ⟨(i1+1,k+1,o1),tk1,n+1,m1,aa,hI.same hia hkb h1 h2 hv,by simp only;omega,?_⟩;exact LF
         ·have d4:decide ((a.getD i1 default).v=(b.getD k default).v)=false:=N1 hv;refine an0 (aY @aP @bF d1 d3 d4 p1 @q1 e1 e2 e3 h1 (cj8 g0 g0' @NZ (λd=>bj _ _ d hia) @cw.eq_1 @N2.{0} @N4.{0} @Od)) ?_;refine ⟨(i1+1,k+1,o1++[⟨(b.getD k default).k,(b.getD k default).v,false⟩]),m1,n+1,m1+1,aa,hI.set hia hkb h1 h2 hv,by simp only;omega,?_⟩;refine aL.tmN aa (OLe.none _) (by simp only[aR,go_sem,reduceIte,Nat.reduceEqDiff,Nat.reduceAdd,bx];and_intros<;>first|exact trivial|exact av.refl _|exact av.any _|exact av.of_eq (by rw[<-fL])|(refine av.int ?_;omega))
        ·have d3:decide ((a.getD i1 default).k=(b.getD k default).k)=false:=N1 hke;have h2:Op.bytesLess (b.getD k default).k (a.getD i1 default).k=true:=by
          rcases fo (a.getD i1 default).k (b.getD k default).k with g|g|g
          ·rw[h1] at g;cases g
          ·exact absurd g hke
          ·exact g
         refine an0 (aY @aP @bF d1 d3 p1 @q1 e1 e2 e3 h1 g0 (cj7 g0' @NZ (λd=>bj _ _ d hia) @cw.eq_1 @N2.{0} @N4.{0} @Od)) ?_;refine ⟨(i1,k+1,o1++[⟨(b.getD k default).k,(b.getD k default).v,false⟩]),m1,n+1,m1+1,aa,hI.put hkb (.inr ⟨hia,h1,h2⟩),by simp only;omega,?_⟩;refine aL.tmN aa (OLe.none _) (by simp only[aR,go_sem,reduceIte,Nat.reduceEqDiff,Nat.reduceAdd,bx];and_intros<;>first|exact trivial|exact av.refl _|exact av.any _|exact av.of_eq (by rw[<-fL])|(refine av.int ?_;omega))
      ·obtain rfl:i1=a.length:=by omega
       have d1:decide ((a.length:Int)<(a.length:Int))=false:=N1 aa;refine an0 (cj9 @aP @bF d1 e2 g0 g0' @N2.{0} @N4.{0} @Od) ?_;refine ⟨(a.length,k+1,o1++[⟨(b.getD k default).k,(b.getD k default).v,false⟩]),m1,n+1,m1+1,aa,hI.put hkb (.inl (NY _)),by simp only;omega,?_⟩;refine aL.tmN aa (OLe.none _) (by simp only[aR,go_sem,reduceIte,Nat.reduceEqDiff,Nat.reduceAdd,bx];and_intros<;>first|exact trivial|exact av.refl _|exact av.any _|exact av.of_eq (by rw[<-fL])|(refine av.int ?_;omega))
    ·obtain rfl:k=b.length:=by omega
     have d2:decide ((b.length:Int)<(b.length:Int))=false:=N1 aa;have p1:(0:Int)<=(i:Int):=by omega
     have p3:(i:Int)<=(a.length:Int):=by omega
     have t1:List.take a.length (prs a)=prs a:=OT (by rw[aP];exact NY _);have t2:(List.drop i a).length=a.length - i:=by simp
     refine an0 (cj8 @aP d2 p1 p3 @NZ t1 @FG t2) ?_;refine Wp.gB [86,87] (by simp only[go_sem,reduceIte,Nat.reduceEqDiff,List.map,aP];exact rfl) (λ(j:Nat × List Ch) tk=>[(5,.sl 3 (chs j.2) (.own tk)),(88,.int .i64 j.1)]) (λj=>DI a b (i+j.1) b.length j.2) (λj=>a.length - (i+j.1)) (0,o) tk hI rfl ?_ ?_
     ·exact xSb
     ·rintro ⟨j,o1⟩ tk1 n1 m1 hn1 hI;obtain ⟨hi,hk,hd,hl⟩:=hI;have hI:DI a b (i+j) b.length o1:=⟨hi,hk,hd,hl⟩;simp only at hi hk hl;have lo:o1.length<=4000:=by omega
      have g0:(o1.length+1)*40<=140737488355328:=by omega
      have g0':o1.length+1<4611686018427387904:=by omega
      have p4:(0:Int)<=(j:Int):=by omega
      have e1:IntKind.i64.wrap ((j:Int)+1)=((j+1:Nat):Int):=by rw[IntWalk.i64_in _ aa];omega
      by_cases hj:i+j<a.length
      ·have d1:decide ((j:Int)<((a.length - i:Nat):Int))=true:=N3 aa;have q1:(j:Int)<((a.length - i:Nat):Int):=by omega
       have hjd:j<(a.drop i).length:=by rw[t2];omega
       refine an0 (aY @aP @bF d1 p4 @q1 e1 g0 g0' @NZ t2 (λd=>bj _ _ d hjd) (cj5 @DE @cw.eq_1 @N2.{0} @N4.{0} @Od)) ?_;refine ⟨(j+1,o1++[⟨(a.getD (i+j) default).k,[],true⟩]),m1,n1+1,m1+1,aa,hI.del hj (.inl (NY _)),by simp only;omega,?_⟩;refine aL.tmN aa (OLe.none _) (by simp only[aR,go_sem,reduceIte,Nat.reduceEqDiff,Nat.reduceAdd,bx];and_intros<;>first|exact trivial|exact av.refl _|exact av.any _|exact av.of_eq (by rw[<-fL])|(refine av.int ?_;omega))
      ·have d1:decide ((j:Int)<((a.length - i:Nat):Int))=false:=N1 aa;refine an0 (cj3 @aP d1 t2) ?_;refine aG ?_;rw[hI.fin aa (NY _)];exact av.own
theorem ji(l:List Pr)(c:Pr):prs l++[.agg [.str c.k,.str c.v]]=prs (l++[c]):=by simp[prs,cw]
theorem oW{α:Type}[Inhabited α]{l:List α}{i:Nat}(h:i<l.length):l.getD i default=l[i]:=by
 rw[Ou,N0 h];rfl
def jv(k:Bs)(p:Pr):Bool:=decide (p.k=k)
def pY(l:List Pr)(k:Bs):Bs:=match l.find? (jv k) with|some p=>p.v|none=>[]
def jj(l:List Pr)(k:Bs):Nat:=match l.find? (jv k) with|some _=>0|none=>7
theorem Ib{l:List Pr}{k:Bs}{j:Nat}(hj:j<l.length)(h:∀i,i<j->¬(l.getD i default).k=k)(hk:(l.getD j default).k=k):l.find? (jv k)=some (l.getD j default):=by
 rw[oW hj] at hk |-;rw[List.find?_eq_some_iff_getElem];refine ⟨by simp[jv,hk],j,hj,rfl,λi hi=>?_⟩;have:=h i hi;rw[oW aa] at this;simp[jv,this]
theorem Ic{l:List Pr}{k:Bs}(h:∀i,i<l.length->¬(l.getD i default).k=k):l.find? (jv k)=none:=by
 rw[List.find?_eq_none];intro x hx;obtain ⟨i,hi,rfl⟩:=List.getElem_of_mem hx;have:=h i hi;rw[oW hi] at this;simp[jv,this]
theorem JX(l:List Pr)(hl:l.length<=4611686018427387904)(k:Bs):aI Tryz.prog 117 [.sl 2 (prs l) .any,.str k] (.tup [.str (pY l k),.int .i64 (jj l k)]):=by
 refine f117.aE af (by simp[aF,aO,aU,dw]) (by simp[aO,aF]) ?_;unfold LW zz;refine LC ?_;refine Wp.dB [0,1] xA6 (λj:Nat=>[(6,.int .i64 j)]) (λj=>j<=l.length/\∀i,i<j->¬(l.getD i default).k=k) (λj=>l.length - j) 0 ⟨Og _,λi h=>absurd h aa⟩ ?_ ?_
 ·exact xSb
 ·rintro j ⟨hj,hr⟩;by_cases hc:j<l.length
  ·have d1:decide ((j:Int)<(l.length:Int))=true:=N3 aa;have h2:(0:Int)<=(j:Int):=by omega
   have h3:(j:Int)<(l.length:Int):=by omega
   have e1:IntKind.i64.wrap ((j:Int)+1)=((j+1:Nat):Int):=by rw[IntWalk.i64_in _ aa];omega
   by_cases hk:(l.getD j default).k=k
   ·have d2:decide ((l.getD j default).k=k)=true:=N3 hk;have hf:=Ib hc hr hk;refine an0 (cj8 @aP d1 d2 h2 h3 @NZ (λd=>bj _ _ d hc) @cw.eq_1) ?_;refine aG ?_;exact av.of_eq (by simp only[pY,jj,hf];rfl)
   ·have d2:decide ((l.getD j default).k=k)=false:=N1 hk;refine an0 (cj9 @aP d1 d2 h2 h3 e1 @NZ (λd=>bj _ _ d hc) @cw.eq_1) ?_;refine ⟨j+1,⟨aa,λi hi=>?_⟩,aa,?_⟩
    ·by_cases he:i=j
     ·subst he;exact hk
     ·exact hr i aa
    ·exact xSu
  ·obtain rfl:j=l.length:=by omega
   have d1:decide ((l.length:Int)<(l.length:Int))=false:=N1 aa;have hf:=Ic hr;refine an0 (cj2 @aP d1) ?_;refine aG ?_;exact av.of_eq (by simp only[pY,jj,hf];rfl)
def rest(k:Bs)(l:List Pr):List Pr:=l.filter λp=> !jv k p
theorem ku(k:Bs)(p:Pr)(l:List Pr):rest k (p::l)=(if p.k=k then [] else [p])++rest k l:=by
 simp only[rest,List.filter_cons,jv];by_cases h:p.k=k<;>simp[h]
def jI(l:List Pr)(k:Bs):List Pr:=if jj l k=0 then rest k l else l
def FH(l:List Pr)(k:Bs):Nat:=jj l k
theorem zZ(l:List Pr)(k:Bs):jj l k=0\/jj l k=7:=by
 unfold jj;split<;>simp
set_option maxHeartbeats 2000000 in
theorem Ie(l:List Pr)(hl:l.length<=1000000)(k:Bs):aI Tryz.prog 74 [.sl 2 (prs l) .any,.str k] (.tup [.sl 2 (prs (jI l k)) .any,.int .i64 (FH l k)]):=by
 refine f74.aE af (by simp[aF,aO,aU,dw]) (by simp[aO,aF,aU,dw]) ?_;unfold c74 zz;have hg:=JX l aa k;rcases zZ l k with h0|h7
 ·have hd:jI l k=rest k l:=by rw[jI,Of h0]
  have he:FH l k=0:=h0;rw[hd,he];rw[h0] at hg;have z:decide (((0:Nat):Int)=0)=true:=by decide
  refine an1 @z hg ?_;refine Wp.le (aL.tok _ _) ?_;refine Wp.mY [0,1] xA7 (λ(j:Nat × List Pr) tk=>[(8,.sl 2 (prs j.2) (.own tk)),(9,.int .i64 j.1)]) (λj=>j.1<=l.length/\j.2++rest k (l.drop j.1)=rest k l/\j.2.length<=j.1) (λj=>l.length - j.1) (0,[]) _ ⟨Og _,by simp,NY _⟩ rfl ?_ ?_
  ·simp only[aR,go_sem,reduceIte,Nat.reduceEqDiff,Nat.reduceAdd,bx];and_intros<;>first|exact trivial|exact av.refl _|exact av.any _|exact av.dF rfl|(refine av.int ?_;omega)
  ·rintro ⟨j,o⟩ tk m ⟨hj,ho,hol⟩;simp only at hj ho hol;by_cases hc:j<l.length
   ·have d1:decide ((j:Int)<(l.length:Int))=true:=N3 aa;have h2:(0:Int)<=(j:Int):=by omega
    have h3:(j:Int)<(l.length:Int):=by omega
    have e1:IntKind.i64.wrap ((j:Int)+1)=((j+1:Nat):Int):=by rw[IntWalk.i64_in _ aa];omega
    rw[cA hc,ku] at ho;have g0:(o.length+1)*32<=140737488355328:=by omega
    have g0':o.length+1<4611686018427387904:=by omega
    by_cases hk:(l.getD j default).k=k
    ·have d2:decide ((l.getD j default).k=k)=true:=N3 hk;rw[Of hk,List.nil_append] at ho;refine an0 (cj9 @aP d1 d2 h2 h3 e1 @NZ (λd=>bj _ _ d hc) @cw.eq_1) ?_;refine ⟨(j+1,o),tk,m,⟨by simp only;omega,ho,by simp only;omega⟩,by simp only;omega,?_⟩;exact xSu
    ·have d2:decide ((l.getD j default).k=k)=false:=N1 hk;rw[N7 hk] at ho;refine an0 (aY @aP d1 d2 h2 h3 e1 @NZ (λd=>bj _ _ d hc) @cw.eq_1 @N2.{0} @N4.{0} (cj3 @Od g0 g0')) ?_;refine ⟨(j+1,o++[l.getD j default]),m,m+1,⟨by simp only;omega,by rw[<-ho];simp,by simp;omega⟩,by simp only;omega,?_⟩;refine aL.tm (by simp only[aR,go_sem,reduceIte,Nat.reduceEqDiff,Nat.reduceAdd,bx];and_intros<;>first|exact trivial|exact av.refl _|exact av.any _|exact av.of_eq (by rw[<-ji])|(refine av.int ?_;omega))
   ·obtain rfl:j=l.length:=by omega
    have d1:decide ((l.length:Int)<(l.length:Int))=false:=N1 aa;rw[List.drop_length] at ho;have ho':o=rest k l:=by rw[<-ho];simp[rest]
    refine an0 (cj2 @aP d1) ?_;refine aG ?_;rw[ho'];exact av.tup (ay.cons av.own (ay.refl _))
 ·have hd:jI l k=l:=by rw[jI,N7 aa]
  have he:FH l k=7:=h7;rw[hd,he];rw[h7] at hg;have z:decide (((7:Nat):Int)=0)=false:=by decide
  refine an1 @z hg ?_;refine aG ?_;exact av.refl _
def shut(k v:Bs):Bool:=decide (128<k.length)||decide (200<v.length)
def eh(k v:Bs):Bool->List Pr->List Pr
 |laid,[]=>if laid then [] else [⟨k,v⟩]
 |laid,p::l=>(if laid=false/\Op.bytesLess p.k k=false then [⟨k,v⟩] else [])++((if p.k=k then [] else [p])++eh k v (laid|| !Op.bytesLess p.k k) l)
def jk(l:List Pr)(k v:Bs):List Pr:=if shut k v then l else eh k v false l
def qG(k v:Bs):Nat:=if shut k v then 2 else 0
theorem pZ(k v:Bs):∀(l:List Pr)(b:Bool),(eh k v b l).length<=l.length+(if b then 0 else 1)
 |[],b=>by cases b<;>simp[eh]
 |p::l,b=>by
  have h1:=pZ k v l true;have h2:=pZ k v l false;simp only[N9,N5,Oa,Nat.add_zero] at h1 h2;rw[eh];cases b<;>cases Op.bytesLess p.k k<;>by_cases hk:p.k=k<;>simp[hk] <;>omega
theorem xq(l:List Pr)(k v:Bs):(jk l k v).length<=l.length+1:=by
 unfold jk;split
 ·omega
 ·exact pZ k v l false
theorem M6{n:Nat}(h:n<=2000000):(n+1)*32<=140737488355328/\n+1<4611686018427387904/\(n+1+1)*32<=140737488355328/\n+1+1<4611686018427387904:=by omega
set_option maxHeartbeats 1000000 in
theorem FI(l:List Pr)(hl:l.length<=1000000)(lk:∀p∈l,Ls p.k)(k v:Bs)(hkk:Ls k):aI Tryz.prog 48 [.sl 2 (prs l) .any,.str k,.str v] (.tup [.sl 2 (prs (jk l k v)) .any,.int .i64 (qG k v)]):=by
 refine f48.aE af (by simp[aF,aO,aU,dw]) (by simp[aO,aF,aU,dw]) ?_;unfold c48 zz;by_cases h1:128<k.length
 ·have d1:decide ((128:Int)<(k.length:Int))=true:=N3 aa;have hs:shut k v=true:=by simp[shut,h1]
  refine an0 d1 ?_;refine aG ?_;rw[jk,Of hs,qG,Of hs];exact av.refl _
 ·have d1:decide ((128:Int)<(k.length:Int))=false:=N1 aa;by_cases h2:200<v.length
  ·have d2:decide ((200:Int)<(v.length:Int))=true:=N3 aa;have hs:shut k v=true:=by simp[shut,h2]
   refine an0 (cj2 d1 d2) ?_;refine aG ?_;rw[jk,Of hs,qG,Of hs];exact av.refl _
  ·have d2:decide ((200:Int)<(v.length:Int))=false:=N1 aa;have hs:¬shut k v=true:=by simp[shut];omega
   rw[jk,N7 hs,qG,N7 hs];refine an0 (cj2 d1 d2) ?_;refine Wp.le (aL.tok _ _) ?_;refine Wp.mY [0,1,2] xA7 (λ(j:Nat × List Pr × Bool) tk=>[(8,.sl 2 (prs j.2.1) (.own tk)),(9,.bool j.2.2),(10,.int .i64 j.1)]) (λj=>j.1<=l.length/\j.2.1++eh k v j.2.2 (l.drop j.1)=eh k v false l/\j.2.1.length<=2*j.1) (λj=>l.length - j.1) (0,[],false) _ ⟨Og _,by simp,NY _⟩ rfl ?_ ?_
   ·simp only[aR,go_sem,reduceIte,Nat.reduceEqDiff,Nat.reduceAdd,bx];and_intros<;>first|exact trivial|exact av.refl _|exact av.any _|exact av.dF rfl|(refine av.int ?_;omega)
   ·rintro ⟨j,o,b⟩ tk m ⟨hj,ho,hol⟩;simp only at hj ho hol;obtain ⟨g0,g0',g1,g1'⟩:=M6 (show o.length<=2000000 by omega);by_cases hc:j<l.length
    ·have q1:decide ((j:Int)<(l.length:Int))=true:=N3 aa;have q2:(0:Int)<=(j:Int):=by omega
     have q3:(j:Int)<(l.length:Int):=by omega
     have e1:IntKind.i64.wrap ((j:Int)+1)=((j+1:Nat):Int):=by rw[IntWalk.i64_in _ aa];omega
     rw[cA hc,eh] at ho;have hls:=jh lk j;have hbel:=fB (l.getD j default).k k hls hkk;by_cases hk:(l.getD j default).k=k
     ·have q4:decide ((l.getD j default).k=k)=true:=N3 hk;rw[Of hk,List.nil_append] at ho;cases b with
      |true=>
       simp only[Bool.true_eq_false,false_and,N5,List.nil_append,Bool.true_or] at ho;refine an0 (cj9 @aP @q1 @q2 q3 @q4 e1 @NZ (λd=>bj _ _ d hc) @cw.eq_1) ?_;refine ⟨(j+1,o,true),tk,m,⟨by simp only;omega,ho,by simp only;omega⟩,by simp only;omega,?_⟩;exact xSu
      |false=>
       cases hb:Op.bytesLess (l.getD j default).k k with
       |true=>
        rw[hb] at hbel ho;simp only[Bool.true_eq_false,and_false,N5,List.nil_append,OB,Bool.or_self] at ho;refine an1 (cj9 @aP @q1 @q2 q3 @q4 e1 @NZ (λd=>bj _ _ d hc) @cw.eq_1) hbel ?_;refine ⟨(j+1,o,false),tk,m,⟨by simp only;omega,ho,by simp only;omega⟩,by simp only;omega,?_⟩;exact xSu
       |false=>
        rw[hb] at hbel ho;simp only[Pz,Oe,N9,OK,Bool.or_true] at ho;refine an1 (aY @aP @q1 @q2 q3 @q4 e1 @NZ (λd=>bj _ _ d hc) @cw.eq_1 @N2.{0} @N4.{0} (cj3 @Od g0 g0')) hbel ?_;refine ⟨(j+1,o++[⟨k,v⟩],true),m,m+1,⟨by simp only;omega,by rw[<-ho];simp,by simp;omega⟩,by simp only;omega,?_⟩;refine aL.tm (by simp only[aR,go_sem,reduceIte,Nat.reduceEqDiff,Nat.reduceAdd,bx];and_intros<;>first|exact trivial|exact av.refl _|exact av.any _|exact av.of_eq (by rw[<-ji])|(refine av.int ?_;omega))
     ·have q4:decide ((l.getD j default).k=k)=false:=N1 hk;rw[N7 hk] at ho;cases b with
      |true=>
       simp only[Bool.true_eq_false,false_and,N5,List.nil_append,Bool.true_or] at ho;refine an0 (aY @aP @q1 @q2 q3 @q4 e1 @NZ (λd=>bj _ _ d hc) @cw.eq_1 @N2.{0} @N4.{0} (cj3 @Od g0 g0')) ?_;refine ⟨(j+1,o++[l.getD j default],true),m,m+1,⟨by simp only;omega,by rw[<-ho];simp,by simp;omega⟩,by simp only;omega,?_⟩;refine aL.tm (by simp only[aR,go_sem,reduceIte,Nat.reduceEqDiff,Nat.reduceAdd,bx];and_intros<;>first|exact trivial|exact av.refl _|exact av.any _|exact av.of_eq (by rw[<-ji])|(refine av.int ?_;omega))
      |false=>
       cases hb:Op.bytesLess (l.getD j default).k k with
       |true=>
        rw[hb] at hbel ho;simp only[Bool.true_eq_false,and_false,N5,List.nil_append,OB,Bool.or_self] at ho;refine an1 (aY @aP @q1 @q2 q3 @q4 e1 @NZ (λd=>bj _ _ d hc) @cw.eq_1 @N2.{0} @N4.{0} (cj3 @Od g0 g0')) hbel ?_;refine ⟨(j+1,o++[l.getD j default],false),m,m+1,⟨by simp only;omega,by rw[<-ho];simp,by simp;omega⟩,by simp only;omega,?_⟩;refine aL.tm (by simp only[aR,go_sem,reduceIte,Nat.reduceEqDiff,Nat.reduceAdd,bx];and_intros<;>first|exact trivial|exact av.refl _|exact av.any _|exact av.of_eq (by rw[<-ji])|(refine av.int ?_;omega))
       |false=>
        rw[hb] at hbel ho;simp only[Pz,Oe,N9,OK,Bool.or_true] at ho;refine an1 (aY @aP @q1 @q2 q3 @q4 e1 @NZ (λd=>bj _ _ d hc) @cw.eq_1 @N2.{0} @N4.{0} (cj5 @Od g0 g0' g1 g1')) hbel ?_;refine ⟨(j+1,o++[⟨k,v⟩]++[l.getD j default],true),m+1,m+2,⟨by simp only;omega,by rw[<-ho];simp,by simp;omega⟩,by simp only;omega,?_⟩;refine aL.tm (by simp only[aR,go_sem,reduceIte,Nat.reduceEqDiff,Nat.reduceAdd,bx];and_intros<;>first|exact trivial|exact av.refl _|exact av.any _|exact av.of_eq (by rw[<-ji,<-ji])|(refine av.int ?_;omega))
    ·obtain rfl:j=l.length:=by omega
     have q1:decide ((l.length:Int)<(l.length:Int))=false:=N1 aa;rw[List.drop_length,eh] at ho;cases b with
     |true=>
      simp only[N9,ON] at ho;refine an0 (cj2 @aP @q1) ?_;refine aG ?_;rw[<-ho];exact av.tup (ay.cons av.own (ay.refl _))
     |false=>
      simp only[Oa,N5] at ho;refine an0 (cj7 @aP @q1 @N2.{0} @N4.{0} @Od g0 g0') ?_;refine aG ?_;rw[<-ho,<-ji];exact av.tup (ay.cons av.own (ay.refl _))
def aH(l:List Pr):List Pr:=l.foldl (λo p=>jk o p.k p.v) []
def tp(l:List Pr)(c:Ch):List Pr:=if c.d then jI l c.k else jk l c.k c.v
theorem gW{α:Type}[Inhabited α]{l:List α}{i:Nat}(h:i<l.length):l.take (i+1)=l.take i++[l.getD i default]:=by
 rw[Ov h,oW h]
theorem p5(k v:Bs):∀(l:List Pr)(b:Bool)(x:Pr),x∈eh k v b l->x=⟨k,v⟩\/x∈l
 |[],b,x,h=>by cases b<;>simp[eh] at h;exact .inl h
 |p::l,b,x,h=>by
  rw[eh,OM,OM] at h;rcases h with h|h|h
  ·split at h
   ·left;simpa using h
   ·simp at h
  ·split at h
   ·simp at h
   ·right;simp at h;simp[h]
  ·rcases p5 k v l _ x h with h|h
   ·exact .inl h
   ·right;simp[h]
theorem xr{l:List Pr}{k v:Bs}{x:Pr}(h:x∈jk l k v):x=⟨k,v⟩/\shut k v=false\/x∈l:=by
 unfold jk at h;split at h
 ·exact .inr h
 ·rename_i hs;rcases p5 k v l false x h with h|h
  ·exact .inl ⟨h,by simpa using hs⟩
  ·exact .inr h
theorem FJ(l:List Pr)(c:Ch):(tp l c).length<=l.length+1:=by
 unfold tp;split
 ·unfold jI;split
  ·exact Oz (QD _ _) aa
  ·omega
 ·exact xq _ _ _
def Lt(a b:Bs):Prop:=Op.bytesLess a b=true
theorem Lt.trans{a b c:Bs}(h1:Lt a b)(h2:Lt b c):Lt a c:=dH h1 h2
theorem Lt.ne{a b:Bs}(h:Lt a b):¬a=b:=λe=>by rw[e,Lt,bZ] at h;cases h
theorem Lt.ne'{a b:Bs}(h:Lt a b):¬b=a:=λe=>h.ne e.symm
theorem tri(a b:Bs):Lt a b\/a=b\/Lt b a:=fo a b
theorem not_lt{a b:Bs}(h:Op.bytesLess a b=false):a=b\/Lt b a:=by
 rcases tri a b with g|g|g
 ·rw[Lt,h] at g;cases g
 ·exact .inl g
 ·exact .inr g
def eN(l:List Pr):Prop:=l.Pairwise λa b=>Lt a.k b.k
theorem lA{l:List Pr}(h:eN l):kr l=true:=by
 refine all_true λi hi=>?_;simp only[jT,OS,Oj];rcases QC i with h0|h0
 ·exact .inl h0
 ·right;rw[oW (show i - 1<l.length by omega),oW hi];exact PA.1 h _ _ _ _ aa
theorem Ig{l:List Pr}(h:eN l){a b:Pr}(ha:a∈l)(hb:b∈l)(e:a.k=b.k):a=b:=by
 obtain ⟨i,hi,rfl⟩:=List.getElem_of_mem ha;obtain ⟨j,hj,rfl⟩:=List.getElem_of_mem hb;have g:=PA.1 h;rcases Nat.lt_trichotomy i j with hij|hij|hij
 ·exact absurd e (g i j hi hj hij).ne
 ·subst hij;rfl
 ·exact absurd e (g j i hj hi hij).ne'
theorem get_mem{l:List Pr}(h:eN l){q:Pr}(hq:q∈l):jj l q.k=0/\pY l q.k=q.v:=by
 unfold jj pY;cases hf:l.find? (jv q.k) with
 |none=>
  have:=List.find?_eq_none.1 hf q hq;simp[jv] at this
 |some p=>
  have h1:=List.find?_some hf;have h2:=QE hf;simp only[jv,Oj] at h1;rw[Ig h h2 hq h1];exact ⟨rfl,rfl⟩
theorem get_none{l:List Pr}{k:Bs}(h:∀q∈l,¬q.k=k):jj l k=7:=by
 unfold jj;cases hf:l.find? (jv k) with
 |none=>rfl
 |some p=>
  have h1:=List.find?_some hf;simp only[jv,Oj] at h1;exact absurd h1 (h p (QE hf))
theorem gV{q:List Pr}{k:Bs}(h:∀x∈q,¬x.k=k):rest k q=q:=by
 rw[rest,List.filter_eq_self];intro x hx;simp[jv,h x hx]
theorem xt(k:Bs)(p q:List Pr):rest k (p++q)=rest k p++rest k q:=by simp[rest]
theorem sn(k v:Bs):∀l:List Pr,eh k v true l=rest k l
 |[]=>rfl
 |p::l=>by rw[eh,ku,Bool.true_or,sn k v l];simp
theorem gq{k v:Bs}{q:List Pr}(hq:q=[]\/∃x q',q=x::q'/\Op.bytesLess x.k k=false):∀p:List Pr,(∀x∈p,Lt x.k k)->eh k v false (p++q)=p++⟨k,v⟩::rest k q
 |[],_=>by
  rcases hq with rfl|⟨x,q',rfl,hx⟩
  ·rfl
  ·rw[List.nil_append,eh,hx,ku,Qt,OK,sn];simp
 |y::p,h=>by
  have hy:=h y af;have rec':=gq (v:=v) hq p (λx hx=>h x (by simp[hx]));rw[List.cons_append,eh,N7 hy.ne,show Op.bytesLess y.k k=true from hy,OB,Bool.or_self,rec'];simp
theorem xu{k v:Bs}:∀{l:List Pr},eN l->eN (eh k v false l)
 |[],_=>by simp[eh,eN]
 |x::l,h=>by
  have hx:=Pu.1 h;cases hb:Op.bytesLess x.k k with
  |true=>
   have hlt:Lt x.k k:=hb;have:=gq (k:=k) (v:=v) (q:=[]) (.inl rfl);have e:eh k v false (x::l)=x::eh k v false l:=by rw[eh,hb,N7 hlt.ne];simp
   rw[e];refine Pu.2 ⟨λy hy=>?_,xu hx.2⟩;rcases p5 k v l false y hy with rfl|hy
   ·exact hlt
   ·exact hx.1 y hy
  |false=>
   have e:=gq (k:=k) (v:=v) (q:=x::l) (.inr ⟨x,l,rfl,hb⟩) [] af;rw[List.nil_append,List.nil_append] at e;rw[e];refine Pu.2 ⟨λy hy=>?_,h.sublist List.filter_sublist⟩;obtain ⟨h1,h2⟩:=Pm.1 hy;have hne:¬y.k=k:=by simpa [jv] using h2
   have hxk:=not_lt hb;rcases Om.1 h1 with rfl|h1
   ·rcases hxk with hxk|hxk
    ·exact absurd hxk hne
    ·exact hxk
   ·have h3:Lt x.k y.k:=hx.1 y h1;rcases hxk with hxk|hxk
    ·show Lt k y.k;rw[<-hxk];exact h3
    ·exact hxk.trans h3
theorem ui{l:List Pr}(h:eN l)(k v:Bs):eN (jk l k v):=by
 unfold jk;split
 ·exact h
 ·exact xu h
def OkP(l:List Pr):Prop:=∀p∈l,shut p.k p.v=false
theorem vj(l:List Pr):∀o:List Pr,eN o->OkP o->eN (l.foldl (λo p=>jk o p.k p.v) o)/\OkP (l.foldl (λo p=>jk o p.k p.v) o)/\(l.foldl (λo p=>jk o p.k p.v) o).length<=o.length+l.length:=by
 induction l with
 |nil=>intro o h1 h2;exact ⟨h1,h2,by simp⟩
 |cons p l ih=>
  intro o h1 h2;obtain ⟨a,b,c⟩:=ih (jk o p.k p.v) (ui h1 _ _) (λx hx=>by
   rcases xr hx with ⟨rfl,hs⟩|hx
   ·exact hs
   ·exact h2 x hx)
  have:=xq o p.k p.v;exact ⟨a,b,by simp only[List.foldl_cons,List.length_cons] at c |-;omega⟩
theorem dM(l:List Pr):eN (aH l)/\OkP (aH l)/\(aH l).length<=l.length:=by
 have:=vj l [] List.Pairwise.nil (by simp[OkP]);simpa [aH] using this
theorem so{p q:List Pr}{x:Pr}(h:eN (p++x::q)):eN (p++q)/\(∀z∈p,Lt z.k x.k)/\(∀z∈q,Lt x.k z.k):=by
 have h':=h;rw[eN,QO] at h';obtain ⟨a,b,c⟩:=h';obtain ⟨b1,b2⟩:=Pu.1 b;exact ⟨QO.2 ⟨a,b2,λu hu w hw=>c u hu w (by simp[hw])⟩,λz hz=>c z hz x af,b1⟩
theorem FK{p a:List Pr}{x:Pr}(h:eN (p++x::a)):jI (p++x::a) x.k=p++a:=by
 obtain ⟨-,h1,h2⟩:=so h;have hg:=(get_mem h (q:=x) af).1;rw[jI,Of hg,xt,ku,Of rfl,gV (λz hz=>(h1 z hz).ne),gV (λz hz=>(h2 z hz).ne')];simp
structure CF(x y:List Pr)(c:Ch):Prop where
 del:c.d=true->c.v=[]/\(∃q∈x,q.k=c.k)/\∀q∈y,¬q.k=c.k
 put:c.d=false->(⟨c.k,c.v⟩:Pr)∈y/\∀q∈x,q.k=c.k->¬q.v=c.v
theorem fT{α:Type}[Inhabited α]{l:List α}{i:Nat}(h:i<l.length):l.getD i default=l[i]:=by
 rw[Ou,N0 h];rfl
def val(l:List UInt8):Nat:=l.foldl (λn c=>n*256+c.toNat) 0
theorem FL(l:List UInt8)(c:UInt8):val (l++[c])=val l*256+c.toNat:=by simp[val]
theorem jU(l:List UInt8):val l<256^l.length:=by
 have key:∀(l:List UInt8)(a:Nat),l.foldl (λn c=>n*256+c.toNat) a<(a+1)*256^l.length:=by
  intro l;induction l with
  |nil=>intro a;simp
  |cons c l ih=>
   intro a;rw[List.foldl_cons,List.length_cons,Nat.pow_succ,Nat.mul_comm (256^l.length) 256,<-Nat.mul_assoc];refine OU (ih _) (PB _ ?_);have:=c.toNat_lt;omega
 simpa [val] using key l 0
theorem BE(v c:Nat)(hv:v<72057594037927936)(hc:c<256):((BitVec.ofInt 64 ((v*256:Nat):Int)) ||| (BitVec.ofInt 64 (c:Int))).toNat=v*256+c:=by
 rw[BitVec.toNat_or,BitVec.ofInt_natCast,BitVec.ofInt_natCast,Qz,Qz,O9 aa,O9 aa];have:=Nat.two_pow_add_eq_or_of_lt (i:=8) (b:=c) hc v;rw[Nat.mul_comm v 256];exact this.symm
theorem sq(l:List UInt8)(k:Nat)(h:k<l.length):val (l.take (k+1))=val (l.take k)*256+(l.getD k 0).toNat:=by
 rw[Ov h,FL,Ou,N0 h];rfl
theorem JY{l:List UInt8}{i:Nat}(h:i<l.length):l.getD i 0=l[i]:=by
 rw[Ou,N0 h];rfl
def i64(l:List UInt8):Int:=IntKind.i64.wrap (val l:Int)
theorem kv(b:List UInt8)(p w:Nat)(hb:b.length<=140737488355328)(hp:p+w<=b.length)(hw:w<=8):
  aI Tryz.prog 107 [.str b,.int .i64 p,.int .i64 w] (.int .i64 (i64 ((b.drop p).take w))):=by
 refine f107.aE af (by simp[aF,aO]) rfl ?_;unfold LN zz;have lw:((b.drop p).take w).length=w:=by simp;omega
 have hg:∀j,j<w->((b.drop p).take w).getD j 0=b.getD (p+j) 0:=λj hj=>by
  rw[JY aa,JY aa,List.getElem_take,List.getElem_drop]
 have hv:∀j,j<=w->val (((b.drop p).take w).take j)<256^j:=λj hj=>by
  have:=jU (((b.drop p).take w).take j)
  rwa [OJ,lw,Pv hj] at this
 generalize hP:(b.drop p).take w=P at*
 refine LC ?_;refine Wp.dB [0,1,2] xA6 (λj:Nat=>[(7,.int .u64 (val (P.take j))),(8,.int .i64 j)]) (λj=>j<=w) (λj=>w - j) 0 (Og _) ?_ ?_
 ·exact xSb
 ·intro j hj;by_cases hlt:j<w
  ·have d1:decide ((j:Int)<(w:Int))=true:=N3 aa;have e0:IntKind.i64.wrap ((p:Int)+(j:Int))=((p+j:Nat):Int):=by rw[IntWalk.i64_in _ aa];omega
   have h1:(0:Int)<=((p+j:Nat):Int):=by omega
   have h2:((p+j:Nat):Int)<(b.length:Int):=by omega
   have h3:j<P.length:=by omega
   have hvj:=hv j hj;have hpw:(256:Nat)^j<=256^7:=P8 aa aa;have hc:=(P.getD j 0).toNat_lt;have hgj:=(hg j hlt).symm;have e1:IntKind.u64.wrap (((val (P.take j):Nat):Int)*2^(min (Int.toNat 8) 64))=((val (P.take j)*256:Nat):Int):=by
    rw[show min (Int.toNat 8) 64=8 from rfl,IntWalk.u64_in _ aa];omega
   have e2:¬(8:Int)<0:=by omega
   have e3:IntKind.u64.wrap (((P.getD j 0).toNat:Nat):Int)=(((P.getD j 0).toNat:Nat):Int):=IntWalk.u64_in _ aa;have e4:IntKind.u64.wrap (((((BitVec.ofInt (IntKind.bits .u64) ((val (P.take j)*256:Nat):Int)) ||| (BitVec.ofInt (IntKind.bits .u64) (((P.getD j 0).toNat:Nat):Int))).toNat:Nat)):Int)=((val (P.take (j+1)):Nat):Int):=by
    rw[show ((BitVec.ofInt (IntKind.bits .u64) ((val (P.take j)*256:Nat):Int)) ||| (BitVec.ofInt (IntKind.bits .u64) (((P.getD j 0).toNat:Nat):Int))).toNat=_ from BE _ _ aa hc,sq P j h3,IntWalk.u64_in _ aa]
   have e5:IntKind.i64.wrap ((j:Int)+1)=((j+1:Nat):Int):=by rw[IntWalk.i64_in _ aa];omega
   refine an0 (gw d1 e0 h1 h2 hgj @byte.eq_1 wU e1 e2 e3 e5) ?_;refine ⟨j+1,aa,aa,?_⟩;refine aL.tm (by simp only[aR,go_sem,reduceIte,Nat.reduceEqDiff,Nat.reduceAdd,bx];and_intros<;>first|exact trivial|exact av.refl _|exact av.any _|exact av.of_eq (Pb (AV.int .u64) e4)|(refine av.int ?_;omega))
  ·have hjw:j=w:=by omega
   subst hjw;have d1:decide ((j:Int)<(j:Int))=false:=N1 aa;have hPt:P.take j=P:=OT aa;rw[hPt];refine an0 d1 ?_;refine aG ?_;exact av.refl _
end Go.Proofs.YtjnoobmaedgooaaGreat.Batch
end
section
set_option maxRecDepth 100000
namespace Go.Proofs.YtjnoobmaedgooaaGreat.Batch
open Go Go.Proofs Go.Lib Go.RowKit Go.Shelf
def FM:Go.Shelf.Ren:=⟨λ|6=>45|14=>94|15=>95|20=>139|21=>140|22=>141|23=>142|24=>143|25=>144|26=>145|27=>146|28=>147|29=>148|46=>189|47=>190|48=>191|49=>192|50=>193|57=>217|n=>n,λ|0=>0|3=>3|4=>4|5=>5|9=>9|22=>33|24=>50|25=>96|39=>170|45=>237|46=>238|50=>133|53=>165|55=>169|66=>281|70=>285|76=>306|77=>307|n=>n,λn=>n⟩
theorem DF:SlLaysF0.n6 Tryz.prog FM where
 mixed:=by kernel_rfl
 f6:=⟨Tryz.f45.name,by kernel_rfl,Tryz.func45.trans (Pb some (by kernel_rfl))⟩
 f14:=⟨Tryz.f94.name,by kernel_rfl,Tryz.func94.trans (Pb some (by kernel_rfl))⟩
 f15:=Tryz.func95.trans (Pb some (by kernel_rfl))
 f20:=⟨Tryz.f139.name,by kernel_rfl,Tryz.func139.trans (Pb some (by kernel_rfl))⟩
 f21:=⟨Tryz.f140.name,by kernel_rfl,Tryz.func140.trans (Pb some (by kernel_rfl))⟩
 f22:=⟨Tryz.f141.name,by kernel_rfl,Tryz.func141.trans (Pb some (by kernel_rfl))⟩
 f23:=⟨Tryz.f142.name,by kernel_rfl,Tryz.func142.trans (Pb some (by kernel_rfl))⟩
 f24:=⟨Tryz.f143.name,by kernel_rfl,Tryz.func143.trans (Pb some (by kernel_rfl))⟩
 f25:=⟨Tryz.f144.name,by kernel_rfl,Tryz.func144.trans (Pb some (by kernel_rfl))⟩
 f26:=⟨Tryz.f145.name,by kernel_rfl,Tryz.func145.trans (Pb some (by kernel_rfl))⟩
 f27:=⟨Tryz.f146.name,by kernel_rfl,Tryz.func146.trans (Pb some (by kernel_rfl))⟩
 f28:=Tryz.func147.trans (Pb some (by kernel_rfl))
 f29:=Tryz.func148.trans (Pb some (by kernel_rfl))
 f46:=⟨Tryz.f189.name,by kernel_rfl,Tryz.func189.trans (Pb some (by kernel_rfl))⟩
 f47:=Tryz.func190.trans (Pb some (by kernel_rfl))
 f48:=Tryz.func191.trans (Pb some (by kernel_rfl))
 f49:=⟨Tryz.f192.name,by kernel_rfl,Tryz.func192.trans (Pb some (by kernel_rfl))⟩
 f50:=⟨Tryz.f193.name,by kernel_rfl,Tryz.func193.trans (Pb some (by kernel_rfl))⟩
 f57:=⟨Tryz.f217.name,by kernel_rfl,Tryz.func217.trans (Pb some (by kernel_rfl))⟩
 t0:=Tryz.underlying0
 a0:=Tryz.isAgg0
 z0:=Tryz.sizeOf0
 v0:=Tryz.zeroValue0
 t3:=Tryz.underlying3
 a3:=Tryz.isAgg3
 z3:=Tryz.sizeOf3
 v3:=Tryz.zeroValue3
 t4:=Tryz.underlying4
 a4:=Tryz.isAgg4
 z4:=Tryz.sizeOf4
 v4:=Tryz.zeroValue4
 t5:=Tryz.underlying5
 a5:=Tryz.isAgg5
 z5:=Tryz.sizeOf5
 v5:=Tryz.zeroValue5
 t9:=Tryz.underlying9
 a9:=Tryz.isAgg9
 z9:=Tryz.sizeOf9
 v9:=Tryz.zeroValue9
 t22:=Tryz.underlying33
 a22:=Tryz.isAgg33
 z22:=Tryz.sizeOf33
 v22:=Tryz.zeroValue33
 t25:=Tryz.underlying96
 a25:=Tryz.isAgg96
 z25:=Tryz.sizeOf96
 v25:=Tryz.zeroValue96
 t39:=Tryz.underlying170
 a39:=Tryz.isAgg170
 z39:=Tryz.sizeOf170
 v39:=Tryz.zeroValue170
 t45:=Tryz.underlying237
 a45:=Tryz.isAgg237
 z45:=Tryz.sizeOf237
 v45:=Tryz.zeroValue237
 t46:=Tryz.underlying238
 a46:=Tryz.isAgg238
 z46:=Tryz.sizeOf238
 v46:=Tryz.zeroValue238
 t50:=Tryz.underlying133
 a50:=Tryz.isAgg133
 z50:=Tryz.sizeOf133
 v50:=Tryz.zeroValue133
 t53:=Tryz.underlying165
 a53:=Tryz.isAgg165
 z53:=Tryz.sizeOf165
 v53:=Tryz.zeroValue165
 t55:=Tryz.underlying169
 a55:=Tryz.isAgg169
 z55:=Tryz.sizeOf169
 v55:=Tryz.zeroValue169
 t66:=Tryz.underlying281
 a66:=Tryz.isAgg281
 z66:=Tryz.sizeOf281
 v66:=Tryz.zeroValue281
 t70:=Tryz.underlying285
 a70:=Tryz.isAgg285
 z70:=Tryz.sizeOf285
 v70:=Tryz.zeroValue285
 t76:=Tryz.underlying306
 a76:=Tryz.isAgg306
 z76:=Tryz.sizeOf306
 v76:=Tryz.zeroValue306
 t77:=Tryz.underlying307
 a77:=Tryz.isAgg307
 z77:=Tryz.sizeOf307
 v77:=Tryz.zeroValue307
theorem BF(x:ByteArray)(w:World):Calls Tryz.prog 149 #[.string x] w λe w'=>e= .returned (.bool false)/\w'=w:=by
 go_enter Tryz.func149,Tryz.ntmps149
 go_wp2
 go_ret
 exact ⟨by simp,rfl⟩
def nB(x y:List UInt8):Int:=if Op.bytesLess x y=true then -1 else if Op.bytesLess y x=true then 1 else 0
theorem Ih{x y:List UInt8}{b:Bool}(h:Op.bytesLess x y=false)(h2:Op.bytesLess y x=b)(he:b=false->x=y)(hn:b=true->x≠y)(w:World):
  Sem.run Tryz.prog (binOp .gtr 9 (.string ⟨x.toArray⟩) (.string ⟨y.toArray⟩)) w= .ok (.bool b) w:=by
 have hu:=Tryz.underlying9;have e:((x == y):Bool)= !b:=by
  cases b with
  |true=>simpa using hn rfl
  |false=>simpa using he rfl
 simp[binOp,Op.stringOp,hu,ByteArray.toList_eq,h,h2,e]
set_option maxHeartbeats 1000000 in
theorem uj(x y:List UInt8)(w:World):Calls Tryz.prog 96 #[.string ⟨x.toArray⟩,.string ⟨y.toArray⟩] w λe w'=>e= .returned (.int .i64 (nB x y))/\w'=w:=by
 unfold nB;cases h1:Op.bytesLess x y
 ·have hg:∀w,Sem.run Tryz.prog (binOp .gtr 9 (.string ⟨x.toArray⟩) (.string ⟨y.toArray⟩)) w= .ok (.bool (Op.bytesLess y x)) w:=λw=>by
   refine Ih h1 rfl (λh2=>?_) (λh2 e=>?_) w
   ·rcases fo x y with h|h|h
    ·rw[h1] at h;cases h
    ·exact h
    ·rw[h2] at h;cases h
   ·rw[e,bZ] at h2;cases h2
  cases h2:Op.bytesLess y x;all_goals
   rw[h2] at hg
   go_enter Tryz.func96,Tryz.ntmps96
   go_wp2_with (go_at_call 149;refine (BF _ _).mono ?_;rintro e w' ⟨rfl,hw⟩;rw[hw])
   go_ret
   exact ⟨by simp,rfl⟩
 ·go_enter Tryz.func96,Tryz.ntmps96
  go_wp2_with (go_at_call 149;refine (BF _ _).mono ?_;rintro e w' ⟨rfl,hw⟩;rw[hw])
  go_ret
  exact ⟨by simp,rfl⟩
end Go.Proofs.YtjnoobmaedgooaaGreat.Batch
end
section
set_option maxRecDepth 100000
namespace Go.Proofs.YtjnoobmaedgooaaGreat.Batch
open Go Go.Proofs Go.Lib Go.RowKit Go.Shelf Go.Sort
def fM(p:Pr):List Value:=[.string ⟨p.k.toArray⟩,.string ⟨p.v.toArray⟩]
def cfP(x y:Pr):Int:=nB x.k y.k
set_option maxHeartbeats 1000000 in
theorem DG(x y:Pr)(W:World):Calls Tryz.prog 46 #[.agg #[.string ⟨x.k.toArray⟩,.string ⟨x.v.toArray⟩],.agg #[.string ⟨y.k.toArray⟩,.string ⟨y.v.toArray⟩]] W λe w'=>e= .returned (.int .i64 (cfP x y))/\∃q os',w'=grow (W.drewN q) os':=by
 have hcon:=λW'=>uj x.k y.k W';unfold cfP;generalize nB x.k y.k=r at hcon |-
 go_enter Tryz.func46,Tryz.ntmps46
 go_wp2_with (go_at_call 96;refine (hcon _).mono ?_;rintro e w' ⟨rfl,rfl⟩)
 go_ret
 exact ⟨rfl,0,_,by rw[alloc_eq_grow,alloc_eq_grow,grow_grow];rfl⟩
theorem FN(blk off size:Nat)(w:World):CmpLays Tryz.prog 46 #[] fM 2 cfP blk off size w:=
 λ_ _ _ _ x y=>DG x y _
theorem uk(x y:Pr):ltOf cfP x y=Op.bytesLess x.k y.k:=by
 unfold ltOf cfP nB;cases h:Op.bytesLess x.k y.k<;>cases h2:Op.bytesLess y.k x.k<;>simp
theorem z6:SWO (ltOf cfP) where
 irrefl x:=by rw[uk,bZ]
 trans x y z h1 h2:=by rw[uk] at*;exact dH h1 h2
 ntrans x y z h1 h2:=by
  rw[uk] at*
  cases h:Op.bytesLess x.k z.k with
  |false=>rfl
  |true=>
   rcases fo x.k y.k with h3|h3|h3
   ·rw[h1] at h3;cases h3
   ·rw[<-h3,h] at h2;cases h2
   ·rw[dH h3 h] at h2;cases h2
end Go.Proofs.YtjnoobmaedgooaaGreat.Batch
end
section
namespace Go.Av
open Go.Sort Go.Proofs
section
variable{α:Type}[Inhabited α]
theorem kz{α:Type}{enc:α->List Value}{k:Nat}(hk:∀x,(enc x).length=k):∀l:List α,(l.flatMap enc).length=l.length*k
 |[]=>by simp
 |x::l=>by simp[kz hk l,hk,Px];omega
theorem xv{enc:α->List Value}{k:Nat}(k0:0<k)(hk:∀x,(enc x).length=k):∀(l:List α)(t:Nat),t<l.length*k->(l.flatMap enc)[t]! =(enc (l.toArray[t/k]!))[t%k]!
 |[],t,h=>by simp at h
 |x::l,t,h=>by
  have ih:=xv k0 hk l;by_cases c:t<k
  ·have e1:t/k=0:=Nat.div_eq_of_lt c;have e2:t%k=t:=O9 c;rw[e1,e2,Py];have:t<(enc x).length:=by rw[hk];exact c
   simp[List.getElem!_eq_getElem?_getD,OI this]
  ·have hc:k<=t:=by omega
   have e1:t/k=(t - k)/k+1:=by
    rw[Nat.div_eq t k,Of ⟨k0,hc⟩]
   have e2:t%k=(t - k)%k:=Nat.mod_eq_sub_mod hc;have hb:t - k<l.length*k:=by simp[Px] at h;omega
   have:=ih (t - k) hb;rw[e1,e2,Py];have e3:(enc x).length<=t:=by rw[hk];exact hc
   simp only[List.getElem!_eq_getElem?_getD] at this |-;rw[PD e3,hk,this];have e4:∀i,(x::l).toArray[i+1]! =l.toArray[i]! :=λi=>by simp[getElem!_def]
   rw[e4]
theorem BG{enc:α->List Value}{k:Nat}(k0:0<k)(hk:∀x,(enc x).length=k)(l:List α):flatK enc k l.toArray=(l.flatMap enc).toArray:=by
 refine ext_get! (by simp[kz hk]) λt ht=>?_;have ht':t<l.length*k:=by simpa using ht
 rw[get_flatK _ _ _ t (by simpa using ht')];have:=xv k0 hk l t ht';simpa using this.symm
theorem vk{enc:α->List Value}{k:Nat}(k0:0<k)(hk:∀x,(enc x).length=k){w:World}{blk n:Nat}{l l':List α}{os:Array Go.Obj}{rest:List Value}{T:TypeId}{fr:Nat × Nat}(hb:blk<w.heap.size)(hl:l'.length=l.length)
  (hg:w.heap[blk]? =some (.cells (l.flatMap enc++rest).toArray T fr)):
  (sortWorldK enc k w blk 0 n l'.toArray os).heap[blk]? =some (.cells (l'.flatMap enc++rest).toArray T fr)/\(∀b,b<w.heap.size->b≠blk->(sortWorldK enc k w blk 0 n l'.toArray os).heap[b]? =w.heap[b]?)/\w.heap.size<=(sortWorldK enc k w blk 0 n l'.toArray os).heap.size:=by
 have hf:=BG k0 hk l';have e:∀b,b<w.heap.size->(sortWorldK enc k w blk 0 n l'.toArray os).heap[b]? =(w.heap.modify blk (onCells (putCells id 0 (flatK enc k l'.toArray))))[b]? :=λb hb=>by
  simp only[sortWorldK,grow,putRowK,putRow,mapBlock,ahead];rw[Array.getElem?_append_left (by simpa [ahead] using hb)];rfl
 refine ⟨?_,λb hb hne=>?_,by simp[sortWorldK,grow,putRowK,putRow,mapBlock,ahead]⟩
 ·rw[e blk hb,PV,Of rfl,hg,Option.map_some,onCells,hf];congr 2;apply Array.ext_getElem?;intro j;have l1:=kz hk l';have l2:=kz hk l;simp only[putCells,Array.getElem?_mapIdx,List.getElem?_toArray,List.size_toArray,Og,Pz,Od,Nat.sub_zero,id];by_cases c:j<l'.length*k
  ·have a1:j<(l'.flatMap enc).length:=by omega
   have a2:j<(l.flatMap enc).length:=by rw[l2,<-hl];exact c
   rw[OI a1,OI a2,N0 a1,N0 a2,Option.map_some,Of a1];simp only[List.getElem!_toArray,List.getElem!_eq_getElem?_getD,N0 a1,Option.getD_some]
  ·have a1:(l'.flatMap enc).length<=j:=by omega
   have a2:(l.flatMap enc).length<=j:=by rw[l2,<-hl];omega
   rw[PD a1,PD a2,l1,l2,hl];cases rest[j - l.length*k]? with
   |none=>rfl
   |some v=>rw[Option.map_some,N7 aa]
 ·rw[e b hb,PV,N7 (λh=>hne h.symm)]
theorem KD{P:Program}{f g:Nat}{enc:α->List Value}{encA:α->List AV}{k:Nat}(k0:0<k)(hk:∀x,(enc x).length=k)(hkA:∀l:List α,(l.flatMap encA).length=l.length*k)
  (hE:∀(l:List α) G w,aC G w (l.flatMap encA) (l.flatMap enc)) (hD:∀(l:List α) G w vs,aC G w (l.flatMap encA) vs->vs=l.flatMap enc) (h1:∀l:List α,∀v∈l.flatMap enc,One v)
  {lt:α->α->Bool} (l l':List α) (hln:0<l.length) (hll:l'.length=l.length)
  (hu:∀d':Array α,PermIn 0 l.length l.toArray d'->SortedIn lt 0 l.length d'->d'=l'.toArray)
  (hcon:∀(blk cap:Nat)(w:World),HoldsK enc k w blk 0 l.toArray->blk<w.heap.size->Calls P f #[.slice (some ⟨blk,0,none⟩) l.length cap,.func (.func g) #[] #[]] w λe w'=>e= .returned (.tuple #[])/\∃d' n os,PermIn 0 l.length l.toArray d'/\SortedIn lt 0 l.length d'/\w'=sortWorldK enc k w blk 0 n d' os)
  {id:Nat} {h:H} (ho:h.objs id=some (.cells (l.flatMap encA))) (htk:h.toks=[]):
  bo P f [.tsl k id 0 l.length none,.clo (.func g) [] []] h (.tup []) {h with objs:=upd h.objs id (some (.cells (l'.flatMap encA)))}:=by
 intro G w vs hv R F;simp only[aC,aB] at hv;obtain ⟨v1,_,rfl,⟨hd1,hv1⟩,v2,_,rfl,⟨va,vb,rfl,rfl,rfl⟩,rfl⟩:=hv;obtain ⟨C,c,T,fr,rfl,⟨hnC,hc63⟩,-,hg,hroom⟩|⟨hz,-⟩:=hv1;rotate_left
 ·omega
 obtain ⟨-,hown,hB,us,rest,T',fr',hg',hvs,hfr,-⟩:=R.obj id _ ho;have hus:=hD l G w us hvs;subst hus;have hH:HoldsK enc k w (G.ι id) 0 l.toArray:=by
  intro j hj;rw[BG k0 hk] at hj |-;have hj':j<(l.flatMap enc).length:=by simpa using hj
  constructor
  ·unfold World.cell?;simp only[hg',Od];simp[OI hj',getElem!_def,hj',N0 hj']
  ·unfold World.frozen?;simp only[hg'];have:=hfr;simp;omega
 refine (hcon (G.ι id) C w hH hB).mono λe w' ⟨he,d',n,os,hp,hs,hw⟩=>?_;have hdd:=hu d' hp hs;subst hdd;subst he hw;obtain ⟨w1,w2,w3⟩:=vk k0 hk (n:=n) (os:=os) hB hll hg';obtain ⟨T1,R1⟩:=HP R ho htk w3 (by rfl) (by rfl) w2 (by rw[hg',w1];exact ⟨_,_,rfl,by simp[kz hk,hll],λ_ _ h=>h⟩) (by rw[hkA,kz hk]) (hE l') (h1 l') w1 hfr;exact ⟨_,G,rfl,T1,R1,by simp[aB,aC]⟩
theorem JZ{α:Type}{r:α->α->Prop}(ir:∀x,¬r x x)(tr:∀x y z,r x y->r y z->r x z):∀{a b:List α},a.Pairwise r->b.Pairwise r->(∀x,x∈a↔x∈b)->a=b
 |[],[],_,_,_=>rfl
 |[],y::b,_,_,h=>by have:=(h y).2 af;simp at this
 |x::a,[],_,_,h=>by have:=(h x).1 af;simp at this
 |x::a,y::b,ha,hb,h=>by
  have ha':=Pu.1 ha;have hb':=Pu.1 hb;have hxy:x=y:=by
   rcases Om.1 ((h x).1 af) with e|hx
   ·exact e
   ·rcases Om.1 ((h y).2 af) with e|hy
    ·exact e.symm
    ·exact absurd (tr _ _ _ (hb'.1 x hx) (ha'.1 y hy)) (ir _)
  subst hxy;congr 1;refine JZ ir tr ha'.2 hb'.2 λp=>⟨λhp=>?_,λhp=>?_⟩
  ·rcases Om.1 ((h p).1 (by simp[hp])) with e|h1
   ·subst e;exact absurd (ha'.1 p hp) (ir _)
   ·exact h1
  ·rcases Om.1 ((h p).2 (by simp[hp])) with e|h1
   ·subst e;exact absurd (hb'.1 p hp) (ir _)
   ·exact h1
theorem z7{α:Type}[Inhabited α]{lt:α->α->Bool}(ir:∀x,lt x x=false)(tr:∀x y z,lt x y=true->lt y z=true->lt x z=true){l l':List α}(tot:∀x∈l,∀y∈l,x=y\/lt x y=true\/lt y x=true)(nd:l.Nodup)
  (hp:l'.Pairwise λx y=>lt x y=true) (hm:∀x,x∈l'↔x∈l) {d':Array α} (h1:PermIn 0 l.length l.toArray d') (h2:SortedIn lt 0 l.length d'):d'=l'.toArray:=by
 obtain ⟨hs,-,hperm⟩:=h1;have hs':d'.size=l.length:=by simpa using hs
 have e1:(d'.extract 0 l.length)=d':=by rw[<-hs'];simp
 have e2:(l.toArray.extract 0 l.length)=l.toArray:=by simp
 rw[e1,e2] at hperm;have hperm:d'.toList.Perm l:=by simpa using hperm
 have nd':d'.toList.Nodup:=hperm.nodup_iff.2 nd;have pw:d'.toList.Pairwise λx y=>lt x y=true:=by
  rw[PA];intro i j hi hj hij;have hi':i<d'.size:=by simpa using hi
  have hj':j<d'.size:=by simpa using hj
  have:=h2 i j (Og _) hij aa;rw[getElem!_pos d' i hi',getElem!_pos d' j hj'] at this;have m1:d'[i]∈l:=hperm.mem_iff.1 af;have m2:d'[j]∈l:=hperm.mem_iff.1 af;rcases tot _ m1 _ m2 with e|e|e
  ·have:=(List.nodup_iff_pairwise_ne.1 nd');have:=PA.1 this i j hi hj hij;exact absurd (by simpa using e) this
  ·simpa using e
  ·rw[this] at e;cases e
 have:=JZ (r:=λx y=>lt x y=true) (λx=>by rw[ir];simp) tr pw hp λx=>by rw[hperm.mem_iff,hm]
 rw[<-this]
end
end Go.Av
end
section
set_option maxRecDepth 100000
namespace Go.Proofs.YtjnoobmaedgooaaGreat.Batch
open Go Go.Proofs Go.Lib Go.RowKit Go.Shelf Go.Sort Go.Av
def encA(p:Pr):List AV:=[.str p.k,.str p.v]
theorem FO(p:Pr)(G:aQ)(w:World):aC G w (encA p) (fM p):=by
 simp[encA,fM,aC,aB]
theorem Ii{G:aQ}{w:World}{p:Pr}{vs:List Value}(h:aC G w (encA p) vs):vs=fM p:=by
 simp only[encA,aC,aB] at h;obtain ⟨v,us,rfl,rfl,v',us',rfl,rfl,rfl⟩:=h;rfl
theorem mz:∀(l:List Pr)(G:aQ)(w:World),aC G w (l.flatMap encA) (l.flatMap fM)
 |[],G,w=>by simp[aC]
 |p::l,G,w=>by
  have:=mz l G w;simp only[Py];exact (FO p G w).append this
theorem oX:∀(l:List Pr)(G:aQ)(w:World)(vs:List Value),aC G w (l.flatMap encA) vs->vs=l.flatMap fM
 |[],G,w,vs,h=>by simpa [aC] using h
 |p::l,G,w,vs,h=>by
  simp only[Py,encA,List.cons_append,List.nil_append,aC,aB] at h;obtain ⟨v,us,rfl,rfl,v',us',rfl,rfl,h⟩:=h;rw[oX l G w us' h];rfl
theorem sr(l:List Pr):∀v∈l.flatMap fM,One v:=by
 intro v hv;obtain ⟨p,-,hp⟩:=Ql.1 hv;simp only[fM,Om,List.not_mem_nil,or_false] at hp;rcases hp with rfl|rfl<;>exact ⟨(λ_ e=>by cases e),(λ_ e=>by cases e)⟩
theorem fN(l:List Pr):(l.flatMap encA).length=l.length*2:=by
 induction l with
 |nil=>rfl
 |cons p l ih=>simp only[Py,N6,ih,encA,List.length_cons,List.length_nil];omega
theorem KE(l l':List Pr)(h0:0<l.length)(hl:l.length<4611686018427387904)(hll:l'.length=l.length)
  (tot:∀x∈l,∀y∈l,x=y\/Op.bytesLess x.k y.k=true\/Op.bytesLess y.k x.k=true) (nd:l.Nodup) (hp:l'.Pairwise λx y=>Op.bytesLess x.k y.k=true) (hm:∀x,x∈l'↔x∈l)
  {id:Nat} {h:H} (ho:h.objs id=some (.cells (l.flatMap encA))) (htk:h.toks=[]):
  bo Tryz.prog 45 [.tsl 2 id 0 l.length none,.clo (.func 46) [] []] h (.tup []) {h with objs:=upd h.objs id (some (.cells (l'.flatMap encA)))}:=by
 have eg:∀args w,(callFunc 46 args).run Tryz.prog w= .ok (.enter 46 args) w:=enters_of Tryz.func46 (by kernel_rfl) rfl;have hlt:ltOf cfP=λx y=>Op.bytesLess x.k y.k:=by funext x y;exact uk x y
 refine KD (enc:=fM) (encA:=encA) (lt:=ltOf cfP) aa (λ_=>rfl) fN mz oX sr l l' h0 hll (λd' h1 h2=>?_) (λblk cap w hH hb=>?_) ho htk
 ·refine z7 (lt:=ltOf cfP) z6.irrefl z6.trans (λx hx y hy=>?_) nd ?_ hm h1 h2
  ·rw[uk,uk];exact tot x hx y hy
  ·rw[hlt];exact hp
 ·have:=AnyQ.slices_SortFunc DF 2 Tryz.isAgg50 Tryz.sizeOf50 fM (λ_=>rfl) (λx v hv=>by simp[fM] at hv;rcases hv with rfl|rfl<;>rfl) cfP z6 46 #[] blk 0 cap l.toArray w eg (FN blk 0 l.toArray.size w) hH hb (by simpa using hl);exact this
end Go.Proofs.YtjnoobmaedgooaaGreat.Batch
end
section
set_option maxRecDepth 10000
namespace Go.Proofs.YtjnoobmaedgooaaGreat.C
open Go.Av
def Aa:AC:=(.seq (.reg [⟨some 2,none,.mov (.c (.sl 3 [] (.exact 0)))⟩,⟨some 3,none,.mov (.c (.int .i64 4))⟩] none)
 .ret)
def su:AC:=(.seq (.seq (.reg [⟨some 58,none,.mov (.t 6)⟩,⟨some 59,none,.mov (.t 0)⟩,⟨some 60,none,.len true (.t 59)⟩,⟨some 61,none,.bin .eql (.t 58) (.t 60)⟩] none)
 (.cond (.t 61) (.goto 3) .skip))
 (.seq (.reg [⟨some 62,none,.mov (.t 6)⟩,⟨some 63,none,.bin .add (.t 62) (.c (.int .i64 1))⟩,⟨some 6,none,.mov (.t 63)⟩] none)
 (.seq (.seq (.reg [⟨some 64,none,.mov (.t 0)⟩,⟨some 65,none,.mov (.t 6)⟩,⟨some 66,none,.bin .sub (.t 65) (.c (.int .i64 1))⟩,⟨some 67,none,.idx (.t 64) (.t 66)⟩,⟨some 68,none,.bin .neq (.t 67) (.c (.int .u8 0))⟩] none)
 (.cond (.t 68) (.seq (.reg [⟨some 69,none,.mov (.t 5)⟩,⟨some 70,none,.mov (.t 0)⟩,⟨some 71,none,.mov (.t 6)⟩,⟨some 72,none,.bin .sub (.t 71) (.c (.int .i64 1))⟩,⟨some 73,none,.idx (.t 70) (.t 72)⟩,⟨some 74,none,.buildSl 1 [(.t 73)]⟩,⟨some 75,none,.app false 1 1 (.t 69) (.t 74)⟩,⟨some 5,none,.mov (.t 75)⟩] none)
 (.goto 1)) .skip))
 (.seq (.seq (.reg [⟨some 76,none,.mov (.t 6)⟩,⟨some 77,none,.mov (.t 0)⟩,⟨some 78,none,.len true (.t 77)⟩,⟨some 79,none,.bin .eql (.t 76) (.t 78)⟩] none)
 (.cond (.t 79) (.goto 3) .skip))
 (.seq (.reg [⟨some 80,none,.mov (.t 6)⟩,⟨some 81,none,.bin .add (.t 80) (.c (.int .i64 1))⟩,⟨some 6,none,.mov (.t 81)⟩] none)
 (.seq (.seq (.reg [⟨some 82,none,.mov (.t 0)⟩,⟨some 83,none,.mov (.t 6)⟩,⟨some 84,none,.bin .sub (.t 83) (.c (.int .i64 1))⟩,⟨some 85,none,.idx (.t 82) (.t 84)⟩] none)
 (.block 1 (.seq (.reg [⟨some 87,none,.bin .eql (.t 85) (.c (.int .u8 255))⟩,⟨some 86,none,.mov (.t 87)⟩] none)
 (.cond (.t 86) (.seq (.reg [⟨some 88,none,.mov (.t 5)⟩,⟨some 89,none,.buildSl 1 [(.c (.int .u8 0))]⟩,⟨some 90,none,.app false 1 1 (.t 88) (.t 89)⟩,⟨some 5,none,.mov (.t 90)⟩] none)
 (.goto 1)) (.seq (.reg [⟨some 92,none,.bin .eql (.t 85) (.c (.int .u8 1))⟩,⟨some 91,none,.mov (.t 92)⟩] none)
 (.cond (.t 91) (.seq (.reg [⟨some 93,none,.mov (.t 4)⟩,⟨some 94,none,.mov (.t 5)⟩,⟨some 95,none,.conv .b2s (.t 94)⟩,⟨some 96,none,.build [.int .i64 0,.int .i64 0,.str []] [(0,1,(.c (.int .i64 1))),(2,1,(.t 95))]⟩,⟨some 97,none,.buildSl 3 [(.t 96)]⟩,⟨some 98,none,.app false 3 32 (.t 93) (.t 97)⟩,⟨some 4,none,.mov (.t 98)⟩] none)
 (.goto 0)) .skip))))))
 (.seq (.label 3)
 Aa)))))))
def vn:AC:=(.seq (.seq (.reg [⟨some 26,none,.mov (.t 0)⟩,⟨some 27,none,.len true (.t 26)⟩,⟨some 28,none,.mov (.t 6)⟩,⟨some 29,none,.bin .sub (.t 27) (.t 28)⟩,⟨some 30,none,.bin .lss (.t 29) (.c (.int .i64 8))⟩] none)
 (.cond (.t 30) (.goto 3) .skip))
 (.seq (.seq (.reg [⟨some 31,none,.mov (.t 0)⟩,⟨some 32,none,.mov (.t 6)⟩,⟨some 33,none,.bin .sub (.t 32) (.c (.int .i64 1))⟩,⟨some 34,none,.idx (.t 31) (.t 33)⟩,⟨some 35,none,.bin .eql (.t 34) (.c (.int .u8 3))⟩] none)
 (.cond (.t 35) (.reg [⟨some 36,none,.mov (.t 4)⟩,⟨some 37,none,.mov (.t 0)⟩,⟨some 38,none,.mov (.t 6)⟩,⟨some 39,none,.mov (.t 6)⟩,⟨some 40,none,.bin .add (.t 39) (.c (.int .i64 8))⟩,⟨some 41,none,.slc true 0 (.t 37) (some (.t 38)) (some (.t 40)) none⟩,⟨some 42,none,.call 199 [(.t 41),(.c (.int .u8 0))]⟩,⟨some 43,none,.build [.int .i64 0,.int .i64 0,.str []] [(0,1,(.c (.int .i64 2))),(1,1,(.t 42))]⟩,⟨some 44,none,.buildSl 3 [(.t 43)]⟩,⟨some 45,none,.app false 3 32 (.t 36) (.t 44)⟩,⟨some 4,none,.mov (.t 45)⟩] none) (.reg [⟨some 46,none,.mov (.t 4)⟩,⟨some 47,none,.mov (.t 0)⟩,⟨some 48,none,.mov (.t 6)⟩,⟨some 49,none,.mov (.t 6)⟩,⟨some 50,none,.bin .add (.t 49) (.c (.int .i64 8))⟩,⟨some 51,none,.slc true 0 (.t 47) (some (.t 48)) (some (.t 50)) none⟩,⟨some 52,none,.call 199 [(.t 51),(.c (.int .u8 255))]⟩,⟨some 53,none,.build [.int .i64 0,.int .i64 0,.str []] [(0,1,(.c (.int .i64 3))),(1,1,(.t 52))]⟩,⟨some 54,none,.buildSl 3 [(.t 53)]⟩,⟨some 55,none,.app false 3 32 (.t 46) (.t 54)⟩,⟨some 4,none,.mov (.t 55)⟩] none)))
 (.seq (.reg [⟨some 56,none,.mov (.t 6)⟩,⟨some 57,none,.bin .add (.t 56) (.c (.int .i64 8))⟩,⟨some 6,none,.mov (.t 57)⟩] none)
 (.seq (.goto 0)
 (.seq (.label 1)
 su)))))
def oc:AC:=(.seq (.seq (.reg [⟨some 10,none,.mov (.t 6)⟩,⟨some 11,none,.mov (.t 0)⟩,⟨some 12,none,.len true (.t 11)⟩,⟨some 13,none,.bin .eql (.t 10) (.t 12)⟩] none)
 (.cond (.t 13) (.seq (.reg [⟨some 14,none,.mov (.t 4)⟩,⟨some 2,none,.mov (.t 14)⟩,⟨some 3,none,.mov (.c (.int .i64 0))⟩] none)
 .ret) .skip))
 (.seq (.reg [⟨some 15,none,.mov (.t 6)⟩,⟨some 16,none,.bin .add (.t 15) (.c (.int .i64 1))⟩,⟨some 6,none,.mov (.t 16)⟩] none)
 (.seq (.seq (.reg [⟨some 17,none,.mov (.t 0)⟩,⟨some 18,none,.mov (.t 6)⟩,⟨some 19,none,.bin .sub (.t 18) (.c (.int .i64 1))⟩,⟨some 20,none,.idx (.t 17) (.t 19)⟩] none)
 (.block 0 (.seq (.reg [⟨some 22,none,.bin .eql (.t 20) (.c (.int .u8 2))⟩,⟨some 21,none,.mov (.t 22)⟩] none)
 (.cond (.t 21) (.seq (.reg [⟨some 5,none,.mov (.c (.sl 1 [] (.exact 0)))⟩] none)
 (.goto 1)) (.seq (.seq (.reg [⟨some 24,none,.bin .eql (.t 20) (.c (.int .u8 3))⟩,⟨some 23,none,.mov (.t 24)⟩] none)
 (.cond (.t 23) .skip (.reg [⟨some 25,none,.bin .eql (.t 20) (.c (.int .u8 4))⟩,⟨some 23,none,.mov (.t 25)⟩] none)))
 (.cond (.t 23) (.goto 2) .skip))))))
 (.seq (.goto 3)
 (.seq (.label 2)
 vn)))))
def oY:AC:=(.seq (.reg [⟨some 4,none,.mov (.c (.sl 3 [] (.exact 0)))⟩] none)
 (.seq (.reg [⟨some 5,none,.mov (.c (.sl 1 [] (.exact 0)))⟩] none)
 (.seq (.reg [⟨some 6,none,.mov (.c (.int .i64 0))⟩] none)
 (.seq (.seq (.reg [⟨some 7,none,.mov (.t 0)⟩,⟨some 8,none,.len true (.t 7)⟩,⟨some 9,none,.bin .gtr (.t 8) (.c (.int .i64 128))⟩] none)
 (.cond (.t 9) (.seq (.reg [⟨some 2,none,.mov (.c (.sl 3 [] (.exact 0)))⟩,⟨some 3,none,.mov (.c (.int .i64 5))⟩] none)
 .ret) .skip))
 (.seq (.label 0)
 oc)))))
theorem Ij:L9=(.seq (.reg [⟨some 2,none,.mov (.c (.sl 3 [] (.exact 0)))⟩,⟨some 3,none,.mov (.c (.int .i64 0))⟩] none)
 (.scope oY)):=rfl
theorem od:fE oY 0=some (.seq .skip oc):=rfl
theorem sv:fE oY 2=some (.seq .skip vn):=rfl
theorem oe:fE oY 1=some (.seq .skip su):=rfl
theorem Ab:fE oY 3=some (.seq .skip Aa):=rfl
end Go.Proofs.YtjnoobmaedgooaaGreat.C
end
section
set_option maxRecDepth 100000
namespace Go.Proofs.YtjnoobmaedgooaaGreat.Arch
open Go Go.Av Go.Proofs Go.Proofs.YtjnoobmaedgooaaGreat.C Go.Proofs.YtjnoobmaedgooaaGreat.Desk Go.Proofs.YtjnoobmaedgooaaGreat.Batch
theorem wrap32{n:Nat}(h:n<4294967296):IntKind.u32.wrap (n:Int)=n:=by
 simp[IntKind.wrap,IntKind.bits,IntKind.signed];omega
theorem ofInt32{n:Nat}(h:n<4294967296):(BitVec.ofInt IntKind.u32.bits (n:Int)).toNat=n:=by
 rw[BitVec.ofInt_natCast,Qz];exact O9 h
theorem BH{a b:Nat}(ha:a<4294967296)(hb:b<4294967296):nN .u32 (a:Int) (b:Int)=((a ^^^ b:Nat):Int):=by
 unfold nN;rw[BitVec.toNat_xor,ofInt32 ha,ofInt32 hb];exact wrap32 (Qy (n:=32) ha hb)
theorem M7{a b:Nat}(ha:a<4294967296)(hb:b<4294967296):oB .u32 (a:Int) (b:Int)=((a &&& b:Nat):Int):=by
 unfold oB;rw[BitVec.toNat_and,ofInt32 ha,ofInt32 hb];exact wrap32 (Nat.and_lt_two_pow (n:=32) a hb)
theorem NK{a:Nat}(ha:a<4294967296):oB .u32 (a:Int) 1=((a%2:Nat):Int):=by
 rw[show (1:Int)=((1:Nat):Int) from rfl,M7 ha al,Nat.and_one_is_mod]
def FP(c:Nat):Nat:=if c%2=1 then (c/2) ^^^ 2197175160 else c/2
def itN:Nat->Nat->Nat
 |0,c=>c
 |k+1,c=>FP (itN k c)
theorem Ik{c:Nat}(h:c<4294967296):FP c<4294967296:=by
 unfold FP;split
 ·exact Qy (n:=32) aa al
 ·omega
theorem Ac{c:Nat}(h:c<4294967296):∀k,itN k c<4294967296
 |0=>h
 |k+1=>Ik (Ac h k)
def BI(c:Nat)(b:UInt8):Nat:=itN 8 (c ^^^ b.toNat)
theorem FQ{c:Nat}(h:c<4294967296)(b:UInt8):BI c b<4294967296:=by
 refine Ac (Qy (n:=32) h ?_) 8;have:=b.toNat_lt;omega
def goN(l:List UInt8):Nat:=l.foldl BI 4294967295
theorem xw:∀(l:List UInt8)(c:Nat),c<4294967296->l.foldl BI c<4294967296
 |[],c,h=>h
 |b::l,c,h=>xw l _ (FQ h b)
theorem Ad(l:List UInt8):goN l<4294967296:=xw l _ al
theorem FR(l:List UInt8)(b:UInt8):goN (l++[b])=BI (goN l) b:=by simp[goN,List.foldl_append]
def DH(l:List UInt8):Nat:=goN l ^^^ 4294967295
theorem Il(l:List UInt8):DH l<4294967296:=Qy (n:=32) (Ad l) al
theorem NL(c:Nat):(c:Int).fdiv (2^(min (Int.toNat 1) 32))=((c/2:Nat):Int):=by
 rw[show (min (Int.toNat 1) 32)=1 from rfl,show (2:Int)^1=2 from rfl,Qu _ al];rfl
theorem NM:IntKind.u32.wrap (0 - ((0:Nat):Int))=0:=by decide
theorem NN:IntKind.u32.wrap (0 - ((1:Nat):Int))=4294967295:=by decide
theorem M8{c:Nat}(h:c<4294967296):IntKind.i64.wrap (nN .u32 (if IntKind.u32.signed=true then -1 else IntKind.u32.max) (c:Int))=((c ^^^ 4294967295:Nat):Int):=by
 rw[show (if IntKind.u32.signed=true then (-1:Int) else IntKind.u32.max)=((4294967295:Nat):Int) from rfl,BH al h,Nat.xor_comm];have:=Qy (n:=32) h (show 4294967295<2^32 by decide);exact IntWalk.i64_in _ aa
theorem gW{l:List UInt8}{j:Nat}(h:j<l.length)(d:UInt8):l.take (j+1)=l.take j++[l.getD j d]:=by
 rw[List.take_add_one,List.getD,N0 h];simp
theorem KF(b:UInt8):IntKind.u32.wrap (b.toNat:Int)=(b.toNat:Int):=wrap32 (by have:=b.toNat_lt;omega)
theorem Im(c:Nat)(h:c<4294967296):nN .u32 ((c/2:Nat):Int) (oB .u32 2197175160 (IntKind.u32.wrap (0 - ((c%2:Nat):Int))))=((FP c:Nat):Int):=by
 have h2:c/2<4294967296:=by omega
 unfold FP;rcases Nat.mod_two_eq_zero_or_one c with e|e
 ·rw[e,NM,show (oB .u32 2197175160 0)=((0:Nat):Int) by decide,BH h2 al,N7 al,Nat.xor_zero]
 ·rw[e,NN,show (oB .u32 2197175160 4294967295)=((2197175160:Nat):Int) by decide,BH h2 al,Of rfl]
theorem M9(l:List UInt8)(hl:l.length<=4611686018427387904):aI Tryz.prog 42 [.sl 1 (aD l) .any] (.int .i64 (DH l:Nat)):=by
 refine f42.aE af (by
  have:aF (aD l)=true:=Av.bC (λa=>rfl) l;simp[aF,aO,aU,this]) rfl ?_
 unfold c42 zz;have hil:(aD l).length=l.length:=by simp[aD]
 refine rf0 hil ?_;refine Wp.dB [6,7] xA6 (λj:Nat=>[(3,.int .u32 (goN (l.take j):Nat)),(8,.int .i64 (j:Nat))]) (λj=>j<=l.length) (λj=>l.length - j) 0 (Og _) ?_ ?_
 ·exact xSb
 intro j hj;by_cases hcj:j<l.length
 ·have d1:decide ((j:Int)<(l.length:Int))=true:=N3 aa;have h2:(0:Int)<=(j:Int):=PL _;have h3:(j:Int)<(l.length:Int):=by omega
  have e1:IntKind.i64.wrap ((j:Int)+1)=((j+1:Nat):Int):=by rw[IntWalk.i64_in _ aa];omega
  have hat:∀d,(aD l).getD j d=byte (l.getD j 0):=λd=>lg l j d hcj;have hsn:=gW hcj 0;generalize hx:l.getD j 0=x at hat hsn;have hlt:=Ad (l.take j);have hx8:x.toNat<4294967296:=by have:=x.toNat_lt;omega
  have hxor:=BH hlt hx8;have hc0:goN (l.take j) ^^^ x.toNat<4294967296:=Qy (n:=32) hlt hx8;have hwx:=KF x;refine rf0 (gv hil d1 h2 h3 @NZ @Oe hat @byte.eq_1 hxor hwx) ?_;refine Wp.dB [6,7,8] xA6 (λk:Nat=>[(3,.int .u32 (itN k (goN (l.take j) ^^^ x.toNat):Nat)),(16,.int .i64 (k:Nat))]) (λk=>k<=8) (λk=>8 - k) 0 (Og _) ?_ ?_
  ·exact xSb
  intro k hk;by_cases hk8:k<8
  ·have d2:decide ((k:Int)<8)=true:=N3 aa;have e2:IntKind.i64.wrap ((k:Int)+1)=((k+1:Nat):Int):=by rw[IntWalk.i64_in _ aa];omega
   have hit:=Ac hc0 k;have hb:=Im _ hit;have ha:=NK hit;have hs1:=NL (itN k (goN (l.take j) ^^^ x.toNat));refine rf0 (cj5 d2 e2 hs1 ha hb) ?_;refine ⟨k+1,aa,aa,?_⟩;exact xSu
  ·obtain rfl:k=8:=by omega
   refine rf0 e1 ?_;refine ⟨j+1,aa,aa,?_⟩;refine aL.tm (by simp only[aR,go_sem,reduceIte,Nat.reduceEqDiff,Nat.reduceAdd,bx];and_intros<;>first|exact trivial|exact av.refl _|exact av.any _|exact av.of_eq (by rw[hsn,FR];rfl)|(refine av.int ?_;omega))
 ·obtain rfl:j=l.length:=by omega
  have d1:decide ((l.length:Int)<(l.length:Int))=false:=N1 aa;refine rf0 d1 ?_;refine aG ?_;exact av.of_eq (by rw[Ot,M8 (Ad l)];rfl)
theorem KG(n:Int):(n.tmod 1048573+1048573).tmod 1048573=n%1048573/\ -1048573<n.tmod 1048573/\n.tmod 1048573<1048573:=by
 rcases Int.le_total 0 n with h|h
 ·have e:n.tmod 1048573=n%1048573:=Int.tmod_eq_emod_of_nonneg h;have h1:=Int.emod_nonneg n (show (1048573:Int)≠0 by decide);have h2:=Int.emod_lt_of_pos n (show (0:Int)<1048573 by decide);rw[e,Int.tmod_eq_emod_of_nonneg aa];omega
 ·have e:n.tmod 1048573= -((-n)%1048573):=by
   rw[<-Int.tmod_eq_emod_of_nonneg (show 0<= -n by omega),Int.neg_tmod,Int.neg_neg]
  have h1:=Int.emod_nonneg (-n) (show (1048573:Int)≠0 by decide);have h2:=Int.emod_lt_of_pos (-n) (show (0:Int)<1048573 by decide);rw[e,Int.tmod_eq_emod_of_nonneg aa];omega
theorem qX(n:Int)(h: -1152921504606846976<=n/\n<=1152921504606846976):aI Tryz.prog 198 [.int .i64 n] (.int .i64 (n%1048573)):=by
 refine f198.aE af rfl rfl ?_;unfold Mq zz;obtain ⟨e1,e2,e3⟩:=KG n;have hw:IntKind.i64.wrap (n.tmod 1048573+1048573)=n.tmod 1048573+1048573:=IntWalk.i64_in _ aa;refine rf0 (cj2 hw e1) ?_;refine aG ?_;exact av.of_eq (by rw[hw,e1])
theorem Io(a b:Nat)(ha:a<1048573)(hb:b<1048573):aI Tryz.prog 197 [.agg [.int .i64 a,.int .i64 b]] (.agg [.int .i64 ((3*a - 2*b:Int)%1048573),.int .i64 ((2*a+3*b:Int)%1048573)]):=by
 refine f197.aE af rfl rfl ?_;unfold Mp zz;have w1:IntKind.i64.wrap (3*(a:Int))=3*a:=IntWalk.i64_in _ aa;have w2:IntKind.i64.wrap (2*(b:Int))=2*b:=IntWalk.i64_in _ aa;have w3:IntKind.i64.wrap (3*(a:Int) - 2*b)=3*a - 2*b:=IntWalk.i64_in _ aa;have w4:IntKind.i64.wrap (2*(a:Int))=2*a:=IntWalk.i64_in _ aa;have w5:IntKind.i64.wrap (3*(b:Int))=3*b:=IntWalk.i64_in _ aa;have w6:IntKind.i64.wrap (2*(a:Int)+3*b)=2*a+3*b:=IntWalk.i64_in _ aa;have h1:=qX (3*a - 2*b) aa;have h2:=qX (2*a+3*b) aa;refine rn2 (gv w1 w2 w3 w4 w5 w6 @List.all_cons.{0} @List.all_nil.{0} @N2.{0} @N4.{0}) h1 h2 ?_;refine aG ?_;exact av.refl _
theorem step_eq(a b c:Nat)(ha:a<1048573)(hb:b<1048573)(hc:c<256):
  (((3*a - 2*b:Int)%1048573+c+1)%1048573=((Fl.il (a,b) c).1:Nat))/\(((2*a+3*b:Int)%1048573+256 - c)%1048573=((Fl.il (a,b) c).2:Nat)):=by
 unfold Fl.il;simp only;have hl:((Fl.iB (Fl.reS a b) (Fl.reN a b):Nat):Int)=(3*a - 2*b:Int)%1048573:=by
  unfold Fl.iB Fl.reS Fl.reN;by_cases h:(3*a:Int) - 2*b<0
  ·rw[Of (N3 h)];split<;>omega
  ·rw[N7 (by rw[N1 h];simp)];omega
 rw[<-hl];constructor<;>omega
theorem DJ(l:List UInt8)(b:UInt8):Fl.iT (l++[b])=Fl.il (Fl.iT l) b.toNat:=by simp[Fl.iT,List.foldl_append]
def tgH(t:Nat × Nat):H:=⟨upd (upd aA 0 (some (.cells [.int .i64 0,.int .i64 0]))) 1 (some (.cells [.int .i64 (t.1:Nat),.int .i64 (t.2:Nat)])),2,[],0⟩
theorem Na(l:List UInt8)(hl:l.length<=4611686018427387904):aI Tryz.prog 153 [.str l] (.agg [.int .i64 ((Fl.iT l).1:Nat),.int .i64 ((Fl.iT l).2:Nat)]):=by
 refine f153.aE af rfl rfl ?_;unfold L7 zz;refine r7 ?_;refine Wp.cI [0,2,3] xA7 (λj:Nat=>[(4,.int .i64 (j:Nat))]) (λj=>tgH (Fl.iT (l.take j))) (λj=>j<=l.length) (λj=>l.length - j) 0 (Og _) rfl ?_ ?_
 ·exact xSb
 intro j hj;simp only[tgH];by_cases hcj:j<l.length
 ·have d1:decide ((j:Int)<(l.length:Int))=true:=N3 aa;have h2:(0:Int)<=(j:Int):=PL _;have h3:(j:Int)<(l.length:Int):=by omega
  have e1:IntKind.i64.wrap ((j:Int)+1)=((j+1:Nat):Int):=by rw[IntWalk.i64_in _ aa];omega
  have hsn:=gW hcj 0;generalize hx:l.getD j 0=x at hsn;obtain ⟨ha,hb⟩:=Fl.vf (l.take j);have hst:Fl.iT (l.take (j+1))=Fl.il (Fl.iT (l.take j)) x.toNat:=by rw[hsn,DJ]
  generalize Fl.iT (l.take j)=t at ha hb hst;obtain ⟨a,b⟩:=t;simp only at ha hb;have hc:x.toNat<256:=x.toNat_lt;obtain ⟨s1,s2⟩:=step_eq a b x.toNat ha hb hc;have ht:=Io a b ha hb;have q1:=Int.emod_nonneg (3*a - 2*b:Int) (show (1048573:Int)≠0 by decide);have q2:=Int.emod_lt_of_pos (3*a - 2*b:Int) (show (0:Int)<1048573 by decide);have q3:=Int.emod_nonneg (2*a+3*b:Int) (show (1048573:Int)≠0 by decide);have q4:=Int.emod_lt_of_pos (2*a+3*b:Int) (show (0:Int)<1048573 by decide);generalize (3*a - 2*b:Int)%1048573=u at*
  generalize (2*a+3*b:Int)%1048573=v at*
  have wx:IntKind.i64.wrap (x.toNat:Int)=(x.toNat:Int):=IntWalk.i64_in _ aa;have w1:IntKind.i64.wrap (u+(x.toNat:Int))=u+x.toNat:=IntWalk.i64_in _ aa;have w2:IntKind.i64.wrap (u+(x.toNat:Int)+1)=u+x.toNat+1:=IntWalk.i64_in _ aa;have w3:IntKind.i64.wrap (v+256)=v+256:=IntWalk.i64_in _ aa;have w4:IntKind.i64.wrap (v+256 - (x.toNat:Int))=v+256 - x.toNat:=IntWalk.i64_in _ aa;have g1:=qX (u+x.toNat+1) aa;have g2:=qX (v+256 - x.toNat) aa;rw[s1] at g1;rw[s2] at g2;refine rn3 (aY d1 h2 h3 @NZ @Oe hx @byte.eq_1 wx w1 w2 w3 (cj6 w4 e1 @List.all_cons.{0} @List.all_nil.{0} @N2.{0} @N4.{0})) ht g1 g2 ?_;refine ⟨j+1,aa,aa,?_⟩;rw[hst];refine aL.of (aS ?_) (λi o h=>⟨o,?_,cy.refl _⟩) (λ_ h=>h) (NY _) (NY _)
  ·exact xSb
  ·simp only[upd,aA] at h |-;by_cases i1:i=1
   ·simpa [i1] using h
   ·simpa [i1] using h
 ·obtain rfl:j=l.length:=by omega
  have d1:decide ((l.length:Int)<(l.length:Int))=false:=N1 aa;rw[Ot];refine rn0 d1 ?_;refine aG ?_;exact av.refl _
theorem um(s:List UInt8):aI Tryz.prog 152 [.str s] (.int .i64 (bX s)):=by
 by_cases h0:(s.length:Int)<1
 ·have:s=[]:=by cases s with|nil=>rfl|cons a l=>simp at h0;omega
  subst this;refine f152.aE af rfl rfl ?_;unfold HX zz;refine dG ?_;refine aG ?_;exact av.refl _
 have d0:=N1 h0;have hne:s≠[]:=by rintro rfl;exact h0 al
 cases d1:decide (32<(s.length:Int)) with
 |true=>
  have:bX s=15:=N7 λh=>by have:=Oh d1;omega
  rw[this];refine f152.aE af rfl rfl ?_;unfold HX zz;refine rf0 (cj2 d0 d1) ?_;refine aG ?_;exact av.refl _
 |false=>
 have hl:=Ox d1;refine f152.aE af rfl rfl ?_;unfold HX zz;refine rf0 (cj2 d0 d1) ?_;refine Wp.dB [0] xA6 (λj:Nat=>[(3,.int .i64 (j:Nat))]) (λj=>j<=s.length/\(s.take j).all Desk.seen=true) (λj=>s.length - j) 0 ⟨Og _,rfl⟩ ?_ ?_
 ·exact xSb
 rintro j ⟨hj,hall⟩;by_cases hcj:j<s.length
 ·obtain ⟨g1,h2,h3,e1⟩:=ixF (j:=j) (n:=s.length) aa aa;have tk:=xj Desk.seen s j hcj;have fa:=zH Desk.seen s j hcj;have hxx:s.getD j 0=s.getD j default:=rfl;generalize hx:s.getD j default=x at tk fa hxx;cases b1:decide ((x.toNat:Int)<33) with
  |true=>
   have hv:bX s=15:=N7 λh=>by
    have:Desk.seen x=false:=by unfold Desk.seen;rw[N1 (by have:=Oh b1;omega)];rfl
    rw[fa this] at h;exact absurd h.2.2 al
   refine rf0 (cj9 g1 h2 h3 e1 @NZ @Oe hxx @byte.eq_1 b1) ?_;refine aG ?_;rw[hv];exact av.refl _
  |false=>
  cases b2:decide (126<(x.toNat:Int)) with
  |true=>
   have hv:bX s=15:=N7 λh=>by
    have:Desk.seen x=false:=by unfold Desk.seen;rw[N1 (p:=x.toNat<=126) (by have:=Oh b2;omega)];simp
    rw[fa this] at h;exact absurd h.2.2 al
   refine rf0 (gv g1 h2 h3 e1 @NZ @Oe hxx @byte.eq_1 b1 b2) ?_;refine aG ?_;rw[hv];exact av.refl _
  |false=>
   have hs:Desk.seen x=true:=by
    have:=Ox b1;have:=Ox b2;unfold Desk.seen;rw[N3 aa,N3 aa];rfl
   refine rf0 (gv g1 h2 h3 e1 @NZ @Oe hxx @byte.eq_1 b1 b2) ?_;refine ⟨j+1,⟨aa,by rw[tk,hall,hs];rfl⟩,aa,?_⟩;exact xSu
 ·have hj2:j=s.length:=by omega
  subst hj2;have g1:=ixE (s.length);have ha:s.all Desk.seen=true:=by rw[Ot] at hall;exact hall
  have hv:bX s=0:=Of ⟨hne,aa,ha⟩;rw[hv];refine rf0 g1 ?_;refine aG ?_;exact av.refl _
def eH(c:UInt8):Bool:=(decide (48<=c.toNat)&&decide (c.toNat<=57))||(decide (97<=c.toNat)&&decide (c.toNat<=122))
theorem sw(c:UInt8):aI Tryz.prog 151 [.int .u8 (c.toNat:Nat)] (.bool (eH c)):=by
 refine f151.aE af rfl rfl ?_;unfold L6 eH zz;by_cases h1:97<=c.toNat
 ·have d1:decide ((97:Int)<=(c.toNat:Int))=true:=N3 aa;by_cases h2:c.toNat<=122
  ·have d2:decide ((c.toNat:Int)<=122)=true:=N3 aa;refine rf0 (cj2 d1 d2) ?_;refine aG ?_;exact av.of_eq (by rw[N3 h1,N3 h2];simp)
  ·have d2:decide ((c.toNat:Int)<=122)=false:=N1 aa;have d3:decide ((48:Int)<=(c.toNat:Int))=true:=N3 aa;have d4:decide ((c.toNat:Int)<=57)=false:=N1 aa;refine rf0 (cj4 d1 d2 d3 d4) ?_;refine aG ?_;exact av.of_eq (by rw[N1 h2,N1 (p:=c.toNat<=57) aa];simp)
 ·have d1:decide ((97:Int)<=(c.toNat:Int))=false:=N1 aa;by_cases h2:48<=c.toNat
  ·have d3:decide ((48:Int)<=(c.toNat:Int))=true:=N3 aa;by_cases h3:c.toNat<=57
   ·have d4:decide ((c.toNat:Int)<=57)=true:=N3 aa;refine rf0 (cj3 d1 d3 d4) ?_;refine aG ?_;exact av.of_eq (by rw[N3 h2,N3 h3];simp)
   ·have d4:decide ((c.toNat:Int)<=57)=false:=N1 aa;refine rf0 (cj3 d1 d3 d4) ?_;refine aG ?_;exact av.of_eq (by rw[N1 h1,N1 h3];simp)
  ·have d3:decide ((48:Int)<=(c.toNat:Int))=false:=N1 aa;refine rf0 (cj2 d1 d3) ?_;refine aG ?_;exact av.of_eq (by rw[N1 h1,N1 h2];simp)
theorem kC(s:List UInt8)(i:Nat):n5 s i=(if (s.getD i default).toNat=45 then decide (0<i)&&decide (i+1<s.length) else eH (s.getD i default)):=by
 unfold n5 eH;rfl
theorem uo{c:UInt8}(h:c.toNat=45):eH c=false:=by unfold eH;rw[h];decide
theorem Ae{s:List UInt8}(h3:0<s.length)(hp:eH (s.getD 0 default)=false):bT s=15:=by
 refine ly s 0 h3 ?_;rw[kC];split
 ·simp
 ·exact hp
theorem DK{s:List UInt8}(h3:0<s.length)(hp:eH (s.getD (s.length - 1) default)=false):bT s=15:=by
 refine ly s (s.length - 1) aa ?_;rw[kC];split
 ·simp;omega
 ·exact hp
theorem FU{s:List UInt8}{j:Nat}(hj:j<s.length)(hp:eH (s.getD j default)=false)(hn:¬(s.getD j default).toNat=45):bT s=15:=by
 refine ly s j hj ?_;rw[kC,N7 hn,hp]
theorem Ip{s:List UInt8}(h3:3<=s.length)(h12:s.length<=12)(ha:eH (s.getD 0 default)=true)(hb:eH (s.getD (s.length - 1) default)=true)(hall:∀i,i<s.length->eH (s.getD i default)=true\/(s.getD i default).toNat=45):bT s=0:=by
 refine Of ⟨h3,h12,OH.2 λi hi=>?_⟩;have hi:=O1.1 hi;rw[kC];split
 ·rename_i hc;have n0:i≠0:=by rintro rfl;rw[uo hc] at ha;cases ha
  have nl:i≠s.length - 1:=by rintro rfl;rw[uo hc] at hb;cases hb
  rw[N3 aa,N3 aa];rfl
 ·rename_i hc;exact (hall i hi).resolve_right hc
theorem uq(s:List UInt8):aI Tryz.prog 102 [.str s] (.int .i64 (bT s)):=by
 refine f102.aE af rfl rfl ?_;unfold LL zz;by_cases h3:(s.length:Int)<3
 ·have d1:=N3 h3;refine rf0 d1 ?_;refine aG ?_;exact av.of_eq (by rw[bT,N7 aa])
 have d1:=N1 h3;by_cases h12:12<(s.length:Int)
 ·have d2:=N3 h12;refine rf0 (cj2 d1 d2) ?_;refine aG ?_;exact av.of_eq (by rw[bT,N7 aa])
 have d2:=N1 h12;have i0:(0:Int)<=0:=OL _;have i1:(0:Int)<(s.length:Int):=by omega
 have t0:(0:Int).toNat=0:=rfl;have hwl:IntKind.i64.wrap ((s.length:Int) - 1)=((s.length - 1:Nat):Int):=by rw[IntWalk.i64_in _ aa];omega
 have i3:(0:Int)<=((s.length - 1:Nat):Int):=PL _;have i4:((s.length - 1:Nat):Int)<(s.length:Int):=by omega
 have x0:s.getD 0 0=s.getD 0 default:=rfl;have xl:s.getD (s.length - 1) 0=s.getD (s.length - 1) default:=rfl;have p0:=sw (s.getD 0 default);have pl:=sw (s.getD (s.length - 1) default);have bad0:=Ae (s:=s) aa;have badl:=DK (s:=s) aa;have good:=Ip (s:=s) aa aa;generalize s.getD 0 default=a at x0 p0 bad0 good;generalize s.getD (s.length - 1) default=b at xl pl badl good;cases ha:eH a with
 |false=>
  rw[ha] at p0;refine rf1 (cj8 d1 d2 i0 i1 t0 x0 @byte.eq_1 @Oe) p0 ?_;refine aG ?_;exact av.of_eq (by rw[bad0 ha])
 |true=>
 cases hb:eH b with
 |false=>
  rw[ha] at p0;rw[hb] at pl;refine rf2 (aY d1 d2 i0 i1 i3 i4 t0 x0 xl hwl @byte.eq_1 (cj2 @NZ @Oe)) p0 pl ?_;refine aG ?_;exact av.of_eq (by rw[badl hb])
 |true=>
 rw[ha] at p0;rw[hb] at pl;refine rf2 (aY d1 d2 i0 i1 i3 i4 t0 x0 xl hwl @byte.eq_1 (cj2 @NZ @Oe)) p0 pl ?_;refine Wp.dB [0] xA6 (λj:Nat=>[(3,.int .i64 (j:Nat))]) (λj=>j<=s.length/\∀i,i<j->eH (s.getD i default)=true\/(s.getD i default).toNat=45) (λj=>s.length - j) 0 ⟨Og _,λi h=>absurd h (Nat.not_lt_zero _)⟩ ?_ ?_
 ·exact xSb
 rintro j ⟨hj,hall⟩;by_cases hcj:j<s.length
 ·obtain ⟨g1,h2,h3,e1⟩:=ixF (j:=j) (n:=s.length) aa aa;have hxx:s.getD j 0=s.getD j default:=rfl;have bad:=FU hcj;have hnext:(eH (s.getD j default)=true\/(s.getD j default).toNat=45)->∀i,i<j+1->eH (s.getD i default)=true\/(s.getD i default).toNat=45:=λh i hi=>by
   rcases Qd.1 hi with hi|rfl
   ·exact hall i hi
   ·exact h
  generalize s.getD j default=x at hxx bad hnext;have px:=sw x;cases hp:eH x with
  |true=>
   rw[hp] at px;refine rf1 (cj8 g1 h2 h3 e1 @NZ @Oe hxx @byte.eq_1) px ?_;refine ⟨j+1,⟨aa,hnext (.inl hp)⟩,aa,?_⟩;exact xSu
  |false=>
   rw[hp] at px;by_cases hc:x.toNat=45
   ·have d5:decide ((x.toNat:Int)=45)=true:=N3 aa;refine rf1 (cj9 g1 h2 h3 e1 @NZ @Oe hxx @byte.eq_1 d5) px ?_;refine ⟨j+1,⟨aa,hnext (.inr hc)⟩,aa,?_⟩;exact xSu
   ·have d5:decide ((x.toNat:Int)=45)=false:=N1 aa;refine rf1 (cj9 g1 h2 h3 e1 @NZ @Oe hxx @byte.eq_1 d5) px ?_;refine aG ?_;exact av.of_eq (by rw[bad hp hc])
 ·have hj2:j=s.length:=by omega
  subst hj2;have g1:=ixE (s.length);refine rf0 g1 ?_;refine aG ?_;exact av.of_eq (by rw[good ha hb hall])
def p6(v:Int):Bool:=decide (0<=v/\v<=2)
def stS(v:Int):List UInt8:=if p6 v=true then [UInt8.ofNat (48+v.toNat)] else []
def stE(v:Int):Int:=if p6 v=true then 0 else 2
theorem oZ(v:Int):(v=0\/v=1\/v=2)\/(p6 v=false/\(v<0\/(¬v<0/\2<v))):=by
 by_cases h:p6 v=true
 ·left;simp[p6] at h;omega
 ·right;refine ⟨by simpa using h,?_⟩;simp[p6] at h;omega
theorem BJ(v:Int):aI Tryz.prog 49 [.int .i64 v] (.tup [.str (stS v),.int .i64 (stE v)]):=by
 refine f49.aE af rfl rfl ?_;unfold c49 zz;rcases oZ v with (rfl|rfl|rfl)|⟨h,h1|⟨h1,h2⟩⟩
 ·refine dG ?_;refine aG ?_;exact av.refl _
 ·refine dG ?_;refine aG ?_;exact av.refl _
 ·refine dG ?_;refine aG ?_;exact av.refl _
 ·have d1:=N3 h1;refine rf0 d1 ?_;refine aG ?_;exact av.of_eq (by simp[stS,stE,h])
 ·have d1:=N1 h1;have d2:=N3 h2;refine rf0 (cj2 d1 d2) ?_;refine aG ?_;exact av.of_eq (by simp[stS,stE,h])
theorem FV(v:Int):aI Tryz.prog 97 [.int .i64 v] (.tup [.str (stS v),.int .i64 (stE v)]):=by
 refine f97.aE af rfl rfl ?_;unfold c97 zz;rcases oZ v with (rfl|rfl|rfl)|⟨h,h1|⟨h1,h2⟩⟩
 ·refine dG ?_;refine aG ?_;exact av.refl _
 ·refine dG ?_;refine aG ?_;exact av.refl _
 ·refine dG ?_;refine aG ?_;exact av.refl _
 ·have d1:=N3 h1;refine rf0 d1 ?_;refine aG ?_;exact av.of_eq (by simp[stS,stE,h])
 ·have d1:=N1 h1;have d2:=N3 h2;refine rf0 (cj2 d1 d2) ?_;refine aG ?_;exact av.of_eq (by simp[stS,stE,h])
def gL(n:Int):Bool:=decide (0<=n)&&decide (n<1048573)
theorem FW(a b:Int):aI Tryz.prog 155 [.agg [.int .i64 a,.int .i64 b]] (.bool (gL a&&gL b)):=by
 refine f155.aE af rfl rfl ?_;unfold L8 zz;cases d1:decide (0<=a) with
 |false=>
  refine rf0 d1 ?_;refine aG ?_;exact av.of_eq (by simp[gL,d1])
 |true=>
  cases d2:decide (a<1048573) with
  |false=>
   refine rf0 (cj2 d1 d2) ?_;refine aG ?_;exact av.of_eq (by simp[gL,d1,d2])
  |true=>
   cases d3:decide (0<=b) with
   |false=>
    refine rf0 (cj3 d1 d2 d3) ?_;refine aG ?_;exact av.of_eq (by simp[gL,d1,d2,d3])
   |true=>
    cases d4:decide (b<1048573) with
    |false=>
     refine rf0 (cj4 d1 d2 d3 d4) ?_;refine aG ?_;exact av.of_eq (by simp[gL,d1,d2,d3,d4])
    |true=>
     refine rf0 (cj4 d1 d2 d3 d4) ?_;refine aG ?_;exact av.of_eq (by simp[gL,d1,d2,d3,d4])
theorem BM{n:Int}(h:gL n=false):n<0\/(¬n<0/\1048573<=n):=by
 simp[gL] at h;omega
theorem FX{n:Int}(h:gL n=true):¬n<0/\¬1048573<=n:=by
 simp[gL] at h;omega
theorem FY(a b:Int):aI Tryz.prog 85 [.agg [.int .i64 a,.int .i64 b]] (.int .i64 (if gL a&&gL b then 0 else 2)):=by
 refine f85.aE af rfl rfl ?_;unfold c85 zz;refine dG ?_;refine Wp.cI [9] xA7 (λj:Nat=>[(10,.int .i64 (j:Nat))]) (λj=>⟨upd aA 0 (some (.cells [.int .i64 a,.int .i64 b])),1,[],0⟩) (λj=>j<=2/\(1<=j->gL a=true)/\(2<=j->gL b=true)) (λj=>2 - j) 0 ⟨aa,aa,aa⟩ rfl ?_ ?_
 ·exact xSb
 rintro j ⟨hj,ha,hb⟩;have go:∀(n:Int),gL n=false\/gL n=true:=λn=>by cases gL n<;>simp
 obtain rfl|rfl|rfl:j=0\/j=1\/j=2:=by omega
 ·rcases go a with h|h
  ·rcases BM h with h1|⟨h1,h2⟩
   ·have d1:=N3 h1;refine rf0 d1 ?_;refine aG ?_;exact av.of_eq (by simp[h])
   ·have d1:=N1 h1;have d2:=N3 h2;refine rf0 (cj2 d1 d2) ?_;refine aG ?_;exact av.of_eq (by simp[h])
  ·obtain ⟨h1,h2⟩:=FX h;have d1:=N1 h1;have d2:=N1 h2;refine rf0 (cj2 d1 d2) ?_;refine ⟨1,⟨aa,λ_=>h,aa⟩,aa,?_⟩;refine aL.of (aS ?_) (λi o h=>⟨o,h,cy.refl _⟩) (λ_ h=>h) (NY _) (NY _);exact xSb
 ·have ha:=ha aa;rcases go b with h|h
  ·rcases BM h with h1|⟨h1,h2⟩
   ·have d1:=N3 h1;refine rf0 d1 ?_;refine aG ?_;exact av.of_eq (by simp[h])
   ·have d1:=N1 h1;have d2:=N3 h2;refine rf0 (cj2 d1 d2) ?_;refine aG ?_;exact av.of_eq (by simp[h])
  ·obtain ⟨h1,h2⟩:=FX h;have d1:=N1 h1;have d2:=N1 h2;refine rf0 (cj2 d1 d2) ?_;refine ⟨2,⟨aa,λ_=>ha,λ_=>h⟩,aa,?_⟩;refine aL.of (aS ?_) (λi o h=>⟨o,h,cy.refl _⟩) (λ_ h=>h) (NY _) (NY _);exact xSb
 ·have ha:=ha aa;have hb:=hb aa;refine dG ?_;refine aG ?_;exact av.of_eq (by simp[ha,hb])
theorem vp(v:Nat)(hv:v<65536)(xs:List UInt8)(hx:xs.length<=1099511627776):lh Tryz.prog 36 (λt=>[.sl 1 (aD xs) (.own t),.int .i64 v]) (λt=> .sl 1 (aD (xs++be 2 v)) (.own t)):=by
 intro t n m;suffices h:∃r h',bo Tryz.prog 36 [.sl 1 (aD xs) (.own t),.int .i64 v] (.only aA [t] n m) r h'/\∃t' m',m<=m'/\r= .sl 1 (aD (xs++be 2 v)) (.own t')/\h'= .only aA [t'] n m' by
  obtain ⟨r,h',ha,t',m',hm,rfl,rfl⟩:=h;exact ⟨t',m',hm,ha⟩
 refine f36.eY af ?_;unfold c36 zz;have e1:IntKind.u16.wrap (v:Int)=(v:Int):=IntWalk.u16_in _ aa;refine Wp.bQ xA1 ah ?_;refine Wp.seqItems (xAe e1) ?_;refine az.dD t ae xA4 ae (vi f82 .u16 v aa 2 aa xs hx) λt' m' hm=>?_;refine az.eval xA1 ?_;refine az.nil ⟨by trivial,?_⟩;refine Wp.ret ⟨trivial,_,rfl,t',m',hm,?_,rfl⟩;simp only[go_sem,reduceIte,Nat.reduceEqDiff]
theorem qY(v:Nat)(hv:v<4294967296)(xs:List UInt8)(hx:xs.length<=1099511627776):lh Tryz.prog 37 (λt=>[.sl 1 (aD xs) (.own t),.int .i64 v]) (λt=> .sl 1 (aD (xs++be 4 v)) (.own t)):=by
 intro t n m;suffices h:∃r h',bo Tryz.prog 37 [.sl 1 (aD xs) (.own t),.int .i64 v] (.only aA [t] n m) r h'/\∃t' m',m<=m'/\r= .sl 1 (aD (xs++be 4 v)) (.own t')/\h'= .only aA [t'] n m' by
  obtain ⟨r,h',ha,t',m',hm,rfl,rfl⟩:=h;exact ⟨t',m',hm,ha⟩
 refine f37.eY af ?_;unfold c37 zz;have e1:IntKind.u32.wrap (v:Int)=(v:Int):=IntWalk.u32_in _ aa;refine Wp.bQ xA1 ah ?_;refine Wp.seqItems (xAe e1) ?_;refine az.dD t ae xA4 ae (vi f83 .u32 v aa 4 aa xs hx) λt' m' hm=>?_;refine az.eval xA1 ?_;refine az.nil ⟨by trivial,?_⟩;refine Wp.ret ⟨trivial,_,rfl,t',m',hm,?_,rfl⟩;simp only[go_sem,reduceIte,Nat.reduceEqDiff]
structure Pt where
 k:Int
 n:Int
 s:List UInt8
deriving Inhabited
def bR(p:Pt):AV:= .agg [.int .i64 p.k,.int .i64 p.n,.str p.s]
def upB(n:Nat):List UInt8:=be 8 (n+9223372036854775808)
def bA(m:UInt8)(l:List UInt8):List UInt8:=l.map (· ^^^ m)
def ptB(p:Pt):List UInt8:=if p.k=2 then 3::bA 0 (upB p.n.toNat) else if p.k=3 then 4::bA 255 (upB p.n.toNat) else 2::p.s++[0,1]
structure Pt.ok(p:Pt):Prop where
 k:p.k=1\/p.k=2\/p.k=3
 t:p.k=1->p.n=0/\(∀b∈p.s,b≠0)/\p.s.length<=128
 u:p.k≠1->p.s=[]/\0<=p.n/\p.n<9223372036854775808
theorem FZ(a b:UInt8):nN .u8 (a.toNat:Int) (b.toNat:Int)=((a ^^^ b).toNat:Int):=by
 unfold nN;change IntKind.u8.wrap (((BitVec.ofInt 8 (a.toNat:Int) ^^^ BitVec.ofInt 8 (b.toNat:Int)).toNat:Nat):Int)=_;have h1:BitVec.ofInt 8 (a.toNat:Int)=a.toBitVec:=by
  apply BitVec.eq_of_toNat_eq;simp[BitVec.toNat_ofInt]
 have h2:BitVec.ofInt 8 (b.toNat:Int)=b.toBitVec:=by
  apply BitVec.eq_of_toNat_eq;simp[BitVec.toNat_ofInt]
 rw[h1,h2];have h3:(a.toBitVec ^^^ b.toBitVec).toNat=(a ^^^ b).toNat:=rfl;rw[h3];have:=(a ^^^ b).toNat_lt;exact IntWalk.u8_in _ aa
theorem F3(n:Nat)(h:n<9223372036854775808):nN .u64 (n:Int) 9223372036854775808=((n+9223372036854775808:Nat):Int):=by
 unfold nN;change IntKind.u64.wrap (((BitVec.ofInt 64 (n:Int) ^^^ BitVec.ofInt 64 9223372036854775808).toNat:Nat):Int)=_;have h1:BitVec.ofInt 64 (n:Int)=BitVec.ofNat 64 n:=by
  apply BitVec.eq_of_toNat_eq;simp[BitVec.toNat_ofInt]
 have h2:BitVec.ofInt 64 9223372036854775808=BitVec.ofNat 64 9223372036854775808:=rfl;rw[h1,h2];have h3:(BitVec.ofNat 64 n ^^^ BitVec.ofNat 64 9223372036854775808).toNat=n+9223372036854775808:=by
  rw[BitVec.toNat_xor,Qz,Qz,O9 aa,O9 aa,Nat.xor_comm];have:=Nat.two_pow_add_eq_or_of_lt (i:=63) (show n<2^63 by omega) 1;have hx:(9223372036854775808 ^^^ n)=9223372036854775808 ||| n:=by
   apply Nat.eq_of_testBit_eq;intro i;rw[Nat.testBit_xor,Nat.testBit_or,show (9223372036854775808:Nat)=2^63 from rfl,Nat.testBit_two_pow];by_cases hi:63=i
   ·subst hi;rw[Nat.testBit_lt_two_pow aa];simp
   ·simp[hi]
  rw[hx];simp only[OO] at this;rw[<-this];omega
 rw[h3];exact IntWalk.u64_in _ aa
theorem DL(v i:Nat)(hi:i<=7)(m:UInt8):nN .u8 (IntKind.u8.wrap ((v:Int).fdiv (2^(min ((8*i:Nat):Int).toNat 64)))) (m.toNat:Int)=((UInt8.ofNat (v/256^i) ^^^ m).toNat:Int):=by
 have h:=oT v i hi;unfold byte at h;simp only[AV.int.injEq,Pz] at h;rw[h];exact FZ _ _
theorem cJ(m:UInt8)(l:List UInt8):(bA m l).length=l.length:=by simp[bA]
theorem ur(v:Nat)(hv:v<9223372036854775808)(mk:UInt8)(xs:List UInt8)(hx:xs.length<=1000):lh Tryz.prog 228 (λt=>[.sl 1 (aD xs) (.own t),.int .i64 v,.int .u8 mk.toNat]) (λt=> .sl 1 (aD (xs++bA mk (upB v))) (.own t)):=by
 intro t n m;suffices h:∃r h',bo Tryz.prog 228 [.sl 1 (aD xs) (.own t),.int .i64 v,.int .u8 mk.toNat] (.only aA [t] n m) r h'/\∃t' m',m<=m'/\r= .sl 1 (aD (xs++bA mk (upB v))) (.own t')/\h'= .only aA [t'] n m' by
  obtain ⟨r,h',ha,t',m',hm,rfl,rfl⟩:=h;exact ⟨t',m',hm,ha⟩
 refine f228.eY af ?_;unfold MF upB zz;have e0:IntKind.u64.wrap (v:Int)=(v:Int):=IntWalk.u64_in _ aa;have e1:=F3 v hv;generalize hu:v+9223372036854775808=u at*
 refine rf0 (cj2 e0 e1) ?_;refine Wp.cI [7,2] xA7 (λj:Nat × List UInt8 × Nat × Nat=>[(0,.sl 1 (aD (xs++bA mk j.2.1)) (.own j.2.2.1)),(8,.int .i64 (8*(j.1:Int) - 8))]) (λj=> .only aA [j.2.2.1] n j.2.2.2)
  (λj=>j.1<=8/\m<=j.2.2.2/\j.2.1++be j.1 u=be 8 u) (λj=>j.1) (8,[],t,m) ⟨NY _,NY _,rfl⟩ rfl ?_ ?_
 ·exact bY (cj3 @bA.eq_1 @OE.{0,0} @ON.{0})
 ·intro j hj;obtain ⟨r,dn,tk,m'⟩:=j;obtain ⟨h1,h2,h3⟩:=hj;simp only at h1 h2 h3;have hdl:dn.length+r=8:=by have:=Pb List.length h3;simp only[N6,aW] at this;exact this
  by_cases hc:r=0
  ·subst hc;have h4:dn=be 8 u:=by simpa [be] using h3
   subst h4;have d1:decide ((0:Int)<=8*((0:Nat):Int) - 8)=false:=by decide
   refine rf0 d1 ?_;refine Wp.ret ⟨trivial,_,rfl,tk,m',h2,?_,rfl⟩;simp only[go_sem,reduceIte,Nat.reduceEqDiff]
  ·obtain ⟨i,rfl⟩:∃i,r=i+1:=⟨r - 1,aa⟩;have d1:decide ((0:Int)<=8*(((i+1:Nat):Nat):Int) - 8)=true:=N3 aa;have e2:8*(((i+1:Nat):Nat):Int) - 8=((8*i:Nat):Int):=by omega
   have e3:IntKind.i64.wrap (((8*i:Nat):Int) - 8)=8*(i:Int) - 8:=by rw[IntWalk.i64_in _ aa];omega
   have e4:¬((8*i:Nat):Int)<0:=by omega
   have e5:=DL u i aa mk;have e6:(aD (xs++bA mk dn)).length+1<=140737488355328:=by rw[bI,N6,cJ];omega
   have e7:(aD (xs++bA mk dn)).length+1<4611686018427387904:=by omega
   rw[bI] at e6 e7;rw[e2] at d1;rw[e2];refine rf0 d1 ?_;refine Wp.nX (by simp only[go_sem,reduceIte,Nat.reduceEqDiff,Nat.reduceAdd,bx,e3,e4,e5,OO,Pl,IntKind.bits,e6,e7,Pz,Oe,N9,ne_eq,byte,Ow,Nat.reduceMul,Nat.reduceLeDiff];exact rfl) ah ?_;refine Wp.nX (xAe e3) ah ?_;refine ⟨(i,dn++[UInt8.ofNat (u/256^i)],m',m'+1),⟨by simp only;omega,by simp only;omega,by rw[<-h3];simp[be]⟩,by simp,?_⟩;refine aL.tm (by simp only[aR,go_sem,reduceIte,Nat.reduceEqDiff,Nat.reduceAdd,bx];and_intros<;>first|exact trivial|exact av.refl _|exact av.any _|exact av.of_eq (by simp[aD,bA,byte])|(refine av.int ?_;omega))
theorem F4(s:List UInt8)(j:Nat)(h:j<s.length):s.take (j+1)=s.take j++[s.getD j 0]:=by
 rw[List.take_add_one];simp[List.getD,N0 h]
theorem sy{x:UInt8}(h:x≠0):decide (((x.toNat:Nat):Int)=0)=false:=by
 refine N1 λe=>h ?_;have:x.toNat=0:=by omega
 exact Q4.1 (by simpa using this)
theorem KH(p:Pt)(hp:p.ok)(xs:List UInt8)(hx:xs.length<=500):Br Tryz.prog 211 (λt=>[.sl 1 (aD xs) (.own t),bR p]) (λt=> .sl 1 (aD (xs++ptB p)) (.own t)):=by
 intro t n m;suffices h:∃r h',bo Tryz.prog 211 [.sl 1 (aD xs) (.own t),bR p] (.only aA [t] n m) r h'/\∃t' n' m',n<=n'/\m<=m'/\r= .sl 1 (aD (xs++ptB p)) (.own t')/\h'= .only aA [t'] n' m' by
  obtain ⟨r,h',ha,t',n',m',hn,hm,rfl,rfl⟩:=h;exact ⟨t',n',m',hn,hm,ha⟩
 refine f211.eY (by simp[bR]) ?_;unfold My zz;have lx:=bI xs;have e1:xs.length+1<=140737488355328:=by omega
 have e2:xs.length+1<4611686018427387904:=by omega
 obtain ⟨pk,pn,ps⟩:=p;rcases hp.k with hk|hk|hk
 ·simp only at hk;subst hk;obtain ⟨hn,hz,hl⟩:=hp.t rfl;simp only at hn hz hl;subst hn;have hE:bR ⟨1,0,ps⟩= .agg [.int .i64 1,.int .i64 0,.str ps]:=rfl;have hB:ptB ⟨1,0,ps⟩=2::ps++[0,1]:=rfl;rw[hE,hB];have d1:decide ((1:Int)=2)=false:=rfl;have d2:decide ((1:Int)=3)=false:=rfl;have lp:=bI ps;refine rf0 (aY d1 d2 lx e1 e2 @OO @Pl @Pz @Oe @ne_eq.{1} @byte.eq_1 (cj7 @Ow @N2.{0} @N4.{0} @Od @Oc.{0} @OW lp)) ?_;refine Wp.le (s':=⟨tm [(0,.sl 1 (aD (xs++[2])) (.own m)),(30,.sl 1 (aD ps) .any),(31,.int .i64 ps.length),(32,.int .i64 0)],⟨aA,n+1,[m],m+2⟩⟩) (aL.of (aS ?_) (λi o h=>by cases h) (λj hj=>?_) (NY _) (NY _)) ?_
  ·simp only[aR,go_sem,reduceIte,Nat.reduceEqDiff];exact ⟨av.of_eq (by simp[aD,byte]),av.cap,av.refl _,av.refl _,trivial⟩
  ·have:j=m:=by simpa using hj
   subst this;simp
  refine Wp.cI [30,31] xA7 (λj:Nat × Nat × Nat=>[(0,.sl 1 (aD (xs++2::ps.take j.1)) (.own j.2.1)),(32,.int .i64 (j.1:Nat))]) (λj=>⟨aA,n+1,[j.2.1],j.2.2⟩)
   (λj=>j.1<=ps.length/\m<=j.2.2) (λj=>ps.length - j.1) (0,m,m+2) ⟨Og _,by simp⟩ rfl ?_ ?_
  ·exact bY @Ph.{0}
  rintro ⟨j,tk,m'⟩ ⟨hj,hm⟩;simp only at hj hm;have lq:(aD (xs++2::ps.take j)).length=xs.length+1+min j ps.length:=by rw[bI];simp;omega
  by_cases hcj:j<ps.length
  ·obtain ⟨g1,h2,h3,e1⟩:=ixF (j:=j) (n:=ps.length) aa aa;have hat:(aD ps).getD j .any=byte (ps.getD j 0):=by
    exact lg ps j .any hcj
   have hnz:ps.getD j 0≠0:=hz _ (by simp[List.getD,N0 hcj]);have d3:=sy hnz;have hsn:=F4 ps j hcj;have e3:xs.length+1+min j ps.length+1<=140737488355328:=by omega
   have e4:xs.length+1+min j ps.length+1<4611686018427387904:=by omega
   generalize ps.getD j 0=b at*
   unfold byte at hat;refine rf0 (aY g1 h2 h3 hat d3 lp lq e3 e4 @OO @Pl (gv @Pz @Oe @ne_eq.{1} @Ow @N2.{0} @N4.{0} @Od @Oc.{0} @OW @NZ)) ?_;refine ⟨(j+1,m',m'+1),⟨by simp only;omega,by simp only;omega⟩,by simp only;omega,?_⟩;refine aL.tm (by simp only[aR,go_sem,reduceIte,Nat.reduceEqDiff,Nat.reduceAdd,bx];and_intros<;>first|exact trivial|exact av.refl _|exact av.any _|exact av.of_eq (by rw[hsn];simp[aD,byte])|(refine av.int ?_;omega))
  ·have hj2:j=ps.length:=by omega
   subst hj2;have g1:=ixE (ps.length);rw[Ot] at lq;rw[Nat.min_self] at lq;have e3:xs.length+1+ps.length+2<=140737488355328:=by omega
   have e4:xs.length+1+ps.length+2<4611686018427387904:=by omega
   rw[Ot];refine rf0 (aY g1 lq e3 e4 @OO @Pl @Pz @Oe @ne_eq.{1} @Ow @N2.{0} (cj4 @N4.{0} @Od @Oc.{0} @OW)) ?_;refine Wp.ret ⟨trivial,_,rfl,m',n+1,m'+1,aa,aa,?_,?_⟩
   ·simp only[go_sem,reduceIte,Nat.reduceEqDiff];simp[aD,byte]
   ·simp[H.only]
 ·simp only at hk;subst hk;obtain ⟨hs,h0,h63⟩:=hp.u af;simp only at hs h0 h63;subst hs;obtain ⟨v,rfl⟩:∃v:Nat,pn=v:=⟨pn.toNat,aa⟩;have hE:bR ⟨2,v,[]⟩= .agg [.int .i64 2,.int .i64 v,.str []]:=rfl;have hB:ptB ⟨2,v,[]⟩=3::bA 0 (upB v):=rfl;rw[hE,hB];have d1:decide ((2:Int)=2)=true:=rfl;have hT:=ur v aa 0 (xs++[3]) aq;have hb:aD (xs++[3])=aD xs++[.int .u8 3]:=by simp[aD,byte]
  rw[hb] at hT;refine rn0 (aY d1 lx e1 e2 @OO @Pl @Pz @Oe @ne_eq.{1} @byte.eq_1 @Ow (cj5 @N2.{0} @N4.{0} @Od @Oc.{0} @OW)) ?_;refine az.dD m ae xA4 (by simp only[go_sem,Oc,Om,OW]) hT λt1 m1 hm1=>?_;refine az.eval xA1 ?_;refine az.nil ⟨by simp[bw,aV,apart,aZ],?_⟩;refine Wp.le (s':=⟨tm [(4,.sl 1 (aD (xs++[3]++bA 0 (upB v))) (.own t1))],⟨aA,n+1,[t1],m1⟩⟩) (aL.of (aS ?_) (λi o h=>by cases h) (λj hj=>?_) (NY _) (NY _)) ?_
  ·exact xSb
  ·have:j=t1:=by simpa using hj
   subst this;simp
  refine dG ?_;refine Wp.ret ⟨trivial,_,rfl,t1,n+1,m1,aa,by have:m+1<=m1:=hm1;omega,?_,?_⟩
  ·simp only[go_sem,reduceIte,Nat.reduceEqDiff];simp
  ·simp[H.only]
 ·simp only at hk;subst hk;obtain ⟨hs,h0,h63⟩:=hp.u af;simp only at hs h0 h63;subst hs;obtain ⟨v,rfl⟩:∃v:Nat,pn=v:=⟨pn.toNat,aa⟩;have hE:bR ⟨3,v,[]⟩= .agg [.int .i64 3,.int .i64 v,.str []]:=rfl;have hB:ptB ⟨3,v,[]⟩=4::bA 255 (upB v):=rfl;rw[hE,hB];have d1:decide ((3:Int)=2)=false:=rfl;have d2:decide ((3:Int)=3)=true:=rfl;have hT:=ur v aa 255 (xs++[4]) aq;have hb:aD (xs++[4])=aD xs++[.int .u8 4]:=by simp[aD,byte]
  rw[hb] at hT;refine rn0 (aY d1 d2 lx e1 e2 @OO @Pl @Pz @Oe @ne_eq.{1} @byte.eq_1 (cj6 @Ow @N2.{0} @N4.{0} @Od @Oc.{0} @OW)) ?_;refine az.dD m ae xA4 (by simp only[go_sem,Oc,Om,OW]) hT λt1 m1 hm1=>?_;refine az.eval xA1 ?_;refine az.nil ⟨by simp[bw,aV,apart,aZ],?_⟩;refine Wp.le (s':=⟨tm [(4,.sl 1 (aD (xs++[4]++bA 255 (upB v))) (.own t1))],⟨aA,n+1,[t1],m1⟩⟩) (aL.of (aS ?_) (λi o h=>by cases h) (λj hj=>?_) (NY _) (NY _)) ?_
  ·exact xSb
  ·have:j=t1:=by simpa using hj
   subst this;simp
  refine dG ?_;refine Wp.ret ⟨trivial,_,rfl,t1,n+1,m1,aa,by have:m+1<=m1:=hm1;omega,?_,?_⟩
  ·simp only[go_sem,reduceIte,Nat.reduceEqDiff];simp
  ·simp[H.only]
def cW(l:List Pt):List UInt8:=(l.map ptB).flatten
theorem BN(p:Pt):3<=(ptB p).length:=by
 unfold ptB;split
 ·simp[cJ,upB,aW]
 ·split<;>simp[cJ,upB,aW]
theorem o5:∀l:List Pt,3*l.length<=(cW l).length
 |[]=>by simp[cW]
 |p::l=>by
  have h1:=BN p;have h2:=o5 l;unfold cW at*
  simp only[Oy,List.flatten_cons,N6,List.length_cons];omega
theorem iY(l:List Pt)(j:Nat)(h:j<l.length):cW (l.take (j+1))=cW (l.take j)++ptB (l.getD j default):=by
 have e:l.getD j default=l[j]:=by simp[Ou,N0 h]
 unfold cW;rw[e,Ov h,O3,PG];congr 1;simp
theorem ni(l:List Pt)(j:Nat):(cW (l.take j)).length<=(cW l).length:=by
 have:cW l=cW (l.take j)++cW (l.drop j):=by unfold cW;rw[<-PG,<-O3,Po]
 rw[this,N6];omega
def pts(l:List Pt):List AV:=l.map bR
theorem dX(l:List Pt)(j:Nat)(d:AV)(h:j<l.length):(pts l).getD j d=bR (l.getD j default):=by simp[pts,List.getD,N0 h]
theorem cC(l:List Pt):(pts l).length=l.length:=by simp[pts]
theorem F5(p:Pt)(hp:p.ok):aI Tryz.prog 210 [bR p] (.bool true):=by
 refine f210.aE af rfl rfl ?_;unfold Mx zz;obtain ⟨pk,pn,ps⟩:=p;rcases hp.k with hk|hk|hk
 ·simp only at hk;subst hk;obtain ⟨hn,-,-⟩:=hp.t rfl;simp only at hn;subst hn;have hE:bR ⟨1,0,ps⟩= .agg [.int .i64 1,.int .i64 0,.str ps]:=rfl;rw[hE];refine rf0 @Ow ?_;refine aG ?_;exact av.refl _
 ·simp only at hk;subst hk;obtain ⟨hs,-,-⟩:=hp.u af;simp only at hs;subst hs;have hE:bR ⟨2,pn,[]⟩= .agg [.int .i64 2,.int .i64 pn,.str []]:=rfl;have d1:decide ((2:Int)=1)=false:=rfl;have d2:decide ((2:Int)=2)=true:=rfl;rw[hE];refine rf0 (cj3 d1 d2 @Ow) ?_;refine aG ?_;exact av.refl _
 ·simp only at hk;subst hk;obtain ⟨hs,-,-⟩:=hp.u af;simp only at hs;subst hs;have hE:bR ⟨3,pn,[]⟩= .agg [.int .i64 3,.int .i64 pn,.str []]:=rfl;have d1:decide ((3:Int)=1)=false:=rfl;have d2:decide ((3:Int)=2)=false:=rfl;have d3:decide ((3:Int)=3)=true:=rfl;rw[hE];refine rf0 (cj4 d1 d2 d3 @Ow) ?_;refine aG ?_;exact av.refl _
theorem DM(l:List Pt)(hok:∀p∈l,p.ok)(hl:(cW l).length<=128):aI Tryz.prog 178 [.sl 3 (pts l) .any] (.tup [.str (cW l),.int .i64 0]):=by
 have hll:=o5 l;have pu:aF (pts l)=true:=Av.bC (λa=>rfl) _;refine f178.aE af (by simp[aF,aO,aU,pu]) (by simp[aO,aF]) ?_;unfold Ml zz;have len:=cC l;refine rf0 @len ?_;refine Wp.r5 [0,9,10] (by simp only[go_sem,reduceIte,Nat.reduceEqDiff,List.map,len];exact rfl) (λj:Nat=>[(11,.int .i64 j)]) (λj=>j<=l.length) (λj=>l.length - j) 0 (Og _) ?_ ?_
 ·exact xSb
 rintro j n hn hj;by_cases hc:j<l.length
 ·obtain ⟨g1,h2,h3,e1⟩:=ixF (j:=j) (n:=l.length) aa aa;have hat:=dX l j .any hc;have hm:l.getD j default∈l:=by rw[Av.fT hc];exact O0 hc
  have c1:=F5 _ (hok _ hm);generalize l.getD j default=p at*
  obtain ⟨pk,pn,ps⟩:=p;unfold bR at hat c1;refine rf1 (cj7 g1 h2 h3 hat @len @NZ @OB) c1 ?_;refine ⟨j+1,n+1,by have:0<=n:=hn;omega,aa,aa,?_⟩;exact LF
 ·have hj2:j=l.length:=by omega
  subst hj2;have g1:=ixE (l.length);refine rf0 (cj2 g1 @len) ?_;refine Wp.le (aL.tok _ _) ?_;refine Wp.gB [0,19,20] (by simp only[go_sem,reduceIte,Nat.reduceEqDiff,List.map,len];exact rfl) (λ(j:Nat) tk=>[(6,.sl 1 (aD (cW (l.take j))) (.own tk)),(21,.int .i64 j)]) (λj=>j<=l.length) (λj=>l.length - j) 0 0 (Og _) rfl ?_ ?_
  ·simp only[aR,go_sem,reduceIte,Nat.reduceEqDiff,Nat.reduceAdd,bx,List.take_zero];and_intros<;>first|exact trivial|exact av.refl _|exact av.any _|exact av.dF rfl|(refine av.int ?_;omega)
  rintro j tk n2 m2 hn2 hj2;by_cases hc2:j<l.length
  ·obtain ⟨g1,h2,h3,e1⟩:=ixF (j:=j) (n:=l.length) aa aa;have hat:=dX l j .any hc2;have hm:l.getD j default∈l:=by rw[Av.fT hc2];exact O0 hc2
   have hok1:=hok _ hm;have ht1:=ni l j;have ht2:=ni l (j+1);rw[iY l j hc2,N6] at ht2;have hT:=KH _ hok1 (cW (l.take j)) aa;have hsn:=iY l j hc2;have lq:(aD (cW (l.take j)++ptB (l.getD j default))).length=(cW (l.take j)++ptB (l.getD j default)).length:=bI _;have d3:decide ((128:Int)<(((cW (l.take j)).length+(ptB (l.getD j default)).length:Nat):Int))=false:=N1 aa;have d2:decide ((128:Int)<(((l.getD j default).s.length:Nat):Int))=false:=by
    refine N1 ?_;rcases hok1.k with h|h
    ·have:=(hok1.t h).2.2;omega
    ·have:=(hok1.u (by rcases h with h|h<;>rw[h] <;>decide)).1;rw[this];decide
   generalize l.getD j default=p at*
   generalize cW (l.take j)=b at*
   generalize hq:ptB p=q at*
   obtain ⟨pk,pn,ps⟩:=p;simp only at d2;unfold bR at hat hT;refine rf0 (cj7 g1 h2 h3 hat @len @NZ d2) ?_;refine aw.Kq tk ae xA4 (by simp only[go_sem,Oc,Om,OW,or_true]) (by simp only[upd,aA,go_sem];intro j hj;repeat (first|rfl|rw[N7 aa])) (hT) λt1 n1 m1 hn1 hm1=>?_;refine aw.evF xAc ?_;refine rf0 (cj4 lq @N6.{0} d3 @len) ?_;have hn1':n2+1<=n1:=hn1;refine ⟨j+1,t1,n1,m1,by show n<=n1;have:n<=n2:=hn2;omega,aa,aa,?_⟩;refine aL.of (aS ?_) (λa o ho=>?_) (λa ha=>?_) (NY _) (NY _)
   ·exact bY hsn
   ·cases ho
   ·simpa using ha
  ·have hj3:j=l.length:=by omega
   subst hj3;have g1:=ixE (l.length);rw[Ot];refine rf0 (cj5 g1 @len @cz @Ol.{0,0} @OW) ?_;refine aG ?_;exact av.refl _
theorem F6(b:UInt8):b ^^^ 255=255 - b:=by
 have h:∀x:BitVec 8,x ^^^ 255#8=255#8 - x:=by decide
 apply UInt8.eq_of_toBitVec_eq;exact h b.toBitVec
theorem F7(b:UInt8):IntKind.u8.wrap (255 - (b.toNat:Int))=((255 - b).toNat:Int):=by
 have h:(255 - b:UInt8).toNat=255 - b.toNat:=by
  have:=b.toNat_lt;rw[UInt8.toNat_sub_of_le]
  ·rfl
  ·rw[UInt8.le_iff_toNat_le];show b.toNat<=255;omega
 have:=b.toNat_lt;rw[h,IntWalk.u8_in _ aa];omega
theorem NO:∀k,k<128->UInt8.ofNat k ^^^ 128=UInt8.ofNat (k+128):=by decide
theorem F8(n:Nat)(h:n<9223372036854775808):(be 8 n).set 0 ((be 8 n).getD 0 0 ^^^ 128)=upB n:=by
 unfold upB;simp only[be,List.set_cons_zero,OG,Nat.reducePow,Nat.pow_zero,Nat.div_one];rw[NO _ aa];have e:∀a b:Nat,a%256=b%256->UInt8.ofNat a=UInt8.ofNat b:=λa b h=>by
  apply Q4.1;simpa using h
 congr 1
 ·exact e _ _ aa
 congr 1
 ·exact e _ _ aa
 congr 1
 ·exact e _ _ aa
 congr 1
 ·exact e _ _ aa
 congr 1
 ·exact e _ _ aa
 congr 1
 ·exact e _ _ aa
 congr 1
 ·exact e _ _ aa
 congr 1;exact e _ _ aa
def uu(s:List UInt8)(d:Bool):List UInt8:=if d then (s.set 0 (s.getD 0 0 ^^^ 128)).map (255 - ·) else s.set 0 (s.getD 0 0 ^^^ 128)
theorem Iq(n:Nat)(h:n<9223372036854775808):uu (be 8 n) false=bA 0 (upB n):=by
 unfold uu;rw[F8 n h];simp[bA]
theorem DN(n:Nat)(h:n<9223372036854775808):uu (be 8 n) true=bA 255 (upB n):=by
 unfold uu;rw[F8 n h];simp[bA,F6]
def mix(b:List UInt8)(i:Nat):List UInt8:=(b.take i).map (255 - ·)++b.drop i
theorem og(b:List UInt8)(i:Nat):(mix b i).length=b.length:=by simp[mix];omega
theorem F9(b:List UInt8)(i:Nat)(h:i<b.length):(mix b i).getD i 0=b.getD i 0:=by
 simp only[mix,List.getD];rw[PD aq];simp[Pv (Nat.le_of_lt h)]
theorem BO(b:List UInt8)(i:Nat)(h:i<b.length):(mix b i).set i (255 - b.getD i 0)=mix b (i+1):=by
 have e:b.getD i 0=b[i]:=by simp[List.getD,N0 h]
 unfold mix;have hl:((b.take i).map λx=>255 - x).length=i:=by simp;omega
 rw[e,List.set_append_right _ _ (by rw[hl];exact NY _)];rw[hl,Nat.sub_self,PX h,List.set_cons_zero,Ov h,O3,Pn];rfl
theorem xz(s:List UInt8)(hs:s.length=8)(d:Bool):aI Tryz.prog 238 [.str s,.bool d] (.str (uu s d)):=by
 refine f238.aE af rfl rfl ?_;unfold MJ zz;have l0:(0:Int)<((s.length:Nat):Int):=by omega
 have x0:=FZ (s.getD 0 0) 128;have x1:((128:UInt8).toNat:Int)=128:=rfl;rw[x1] at x0;refine Wp.bQ xA1 ah ?_;refine Wp.seq (Wp.pT ?_);refine aw.op1 ae xA1 ?_;simp only[bq];refine aw.s2b (l:=s) ae (by simp only[go_sem,reduceIte,Nat.reduceEqDiff]) aa ?_;simp only[bq];refine aw.evF xAc ?_;refine rf0 (cj6 l0 Int.toNat_zero @OL @Oe @Qr @Nat.add_zero) ?_;refine aw.wV (l:=s) ae ar (by simp only[upd,reduceIte]) aa ?_;simp only[bq];refine aw.evF (xAd (cj7 x0 l0 Int.toNat_zero @OL @Oe @Qr @Nat.add_zero)) ?_;refine aw.sa (b:=s.getD 0 0 ^^^ 128) (l:=s) ae ar (by simp only[upd,reduceIte]) (by simp only[go_sem,reduceIte,Nat.reduceEqDiff]) aa ?_;simp only[bq];refine dG ?_;have hb:(s.set 0 (s.getD 0 0 ^^^ 128)).length=s.length:=by simp
 have ht:uu s d=if d then (s.set 0 (s.getD 0 0 ^^^ 128)).map (255 - ·) else s.set 0 (s.getD 0 0 ^^^ 128):=rfl
 rw[ht];rw[<-hb] at hs;clear ht l0 x0;generalize hB:s.set 0 (s.getD 0 0 ^^^ 128)=b at*
 refine Wp.le (s':=⟨tm [(1,.bool d),(5,.tsl 1 0 0 b.length none),(6,.int .i64 0)],⟨upd aA 0 (some (dA b)),1,[],0⟩⟩) (aL.of (aS ?_) (λa o ho=>?_) (λa ha=>ha) (NY _) (NY _)) ?_
 ·exact bY hb
 ·simp only[upd,aA] at ho |-;by_cases a0:a=0
  ·subst a0;exact ⟨o,by simpa using ho,cy.refl _⟩
  ·simp[a0] at ho
 refine dG ?_;cases d with
 |false=>
  refine Wp.cI [1,5] xA7 (λj:Unit=>[(6,.int .i64 0)]) (λj=>⟨upd aA 0 (some (dA b)),1,[],0⟩) (λ_=>True) (λ_=>0) () trivial rfl ?_ ?_
  ·exact xSb
  ·rintro - -
   have l1:decide ((0:Int)<(b.length:Int))=true:=N3 aa;refine rf0 l1 ?_;refine aw.b2s (l:=b) (id:=0) (cp:=none) ae (by simp only[go_sem,reduceIte,Nat.reduceEqDiff]) (by simp only[upd,reduceIte]) aa ?_;simp only[bq];refine aw.evF xAc ?_;refine dG ?_;refine aG ?_;exact av.refl _
 |true=>
  refine Wp.cI [1,5] xA7 (λj:Nat=>[(6,.int .i64 j)]) (λj=>⟨upd aA 0 (some (dA (mix b j))),1,[],0⟩) (λj=>j<=b.length) (λj=>b.length - j) 0 (Og _) (by simp[mix]) ?_ ?_
  ·exact xSb
  ·rintro j hj;have lm:=og b j;by_cases hc:j<b.length
   ·obtain ⟨g1,h2,h3,e1⟩:=ixF (j:=j) (n:=b.length) aa aa;have hat:=F9 b j hc;have hse:=BO b j hc;have hsu:=F7 (b.getD j 0);refine rf0 (cj7 g1 h2 h3 @Oe @NZ @OO @Od) ?_;refine aw.wV (l:=mix b j) ae ar (by simp only[upd,reduceIte]) aa ?_;simp only[bq];refine aw.evF (xAd (cj8 hat hsu h2 h3 @Oe @NZ @OO @Od)) ?_;refine aw.sa (b:=255 - b.getD j 0) (l:=mix b j) ae ar (by simp only[upd,reduceIte]) (by simp only[go_sem,reduceIte,Nat.reduceEqDiff]) aa ?_;simp only[bq];refine dG ?_;rw[hse];refine ⟨j+1,aa,aa,?_⟩;refine aL.of (aS ?_) (λa o ho=>?_) (λa ha=>ha) (NY _) (NY _)
    ·exact bY e1
    ·simp only[upd,aA] at ho |-;by_cases a0:a=0
     ·subst a0;exact ⟨o,by simpa using ho,cy.refl _⟩
     ·simp[a0] at ho
   ·have hj2:j=b.length:=by omega
    subst hj2;have g1:=ixE (b.length);refine rf0 g1 ?_;have e:mix b b.length=b.map (255 - ·):=by simp[mix]
    refine aw.b2s (l:=mix b b.length) (id:=0) (cp:=none) ae (by simp only[go_sem,reduceIte,Nat.reduceEqDiff];rw[og]) (by simp only[upd,reduceIte]) aa ?_;simp only[bq];refine aw.evF xAc ?_;refine dG ?_;refine aG ?_;rw[e];exact av.refl _
theorem DP(p:Pt)(hp:p.ok):aI Tryz.prog 236 [bR p] (.bool true):=by
 refine f236.aE af rfl rfl ?_;unfold MH zz;obtain ⟨pk,pn,ps⟩:=p;rcases hp.k with hk|hk|hk
 ·simp only at hk;subst hk;obtain ⟨hn,-,-⟩:=hp.t rfl;simp only at hn;subst hn;have hE:bR ⟨1,0,ps⟩= .agg [.int .i64 1,.int .i64 0,.str ps]:=rfl;rw[hE];refine rf0 @Ow ?_;refine aG ?_;exact av.refl _
 ·simp only at hk;subst hk;obtain ⟨hs,-,-⟩:=hp.u af;simp only at hs;subst hs;have hE:bR ⟨2,pn,[]⟩= .agg [.int .i64 2,.int .i64 pn,.str []]:=rfl;have d1:decide ((2:Int)=1)=false:=rfl;have d2:decide ((2:Int)=2)=true:=rfl;rw[hE];refine rf0 (cj3 d1 d2 @Ow) ?_;refine aG ?_;exact av.refl _
 ·simp only at hk;subst hk;obtain ⟨hs,-,-⟩:=hp.u af;simp only at hs;subst hs;have hE:bR ⟨3,pn,[]⟩= .agg [.int .i64 3,.int .i64 pn,.str []]:=rfl;have d1:decide ((3:Int)=1)=false:=rfl;have d2:decide ((3:Int)=2)=false:=rfl;have d3:decide ((3:Int)=3)=true:=rfl;rw[hE];refine rf0 (cj4 d1 d2 d3 @Ow) ?_;refine aG ?_;exact av.refl _
theorem Ir(p:Pt)(hp:p.ok):aI Tryz.prog 237 [bR p] (.int .i64 ((ptB p).length:Nat)):=by
 refine f237.aE af rfl rfl ?_;unfold MI zz;obtain ⟨pk,pn,ps⟩:=p;rcases hp.k with hk|hk|hk
 ·simp only at hk;subst hk;obtain ⟨hn,hz,hl⟩:=hp.t rfl;simp only at hn hz hl;subst hn;have hE:bR ⟨1,0,ps⟩= .agg [.int .i64 1,.int .i64 0,.str ps]:=rfl;have hB:(((ptB ⟨1,0,ps⟩).length:Nat):Int)=((ps.length+3:Nat):Int):=by simp[ptB];omega
  rw[hE,hB];have d1:decide ((1:Int)=1)=true:=rfl;have w1:IntKind.i64.wrap (3+(ps.length:Int))=((ps.length+3:Nat):Int):=by rw[IntWalk.i64_in _ aa];omega
  refine rf0 (cj2 d1 w1) ?_;refine Wp.dB [1,3] xA6 (λj:Nat=>[(4,.int .i64 (j:Nat))]) (λj=>j<=ps.length) (λj=>ps.length - j) 0 (Og _) ?_ ?_
  ·exact xSb
  rintro j hj;by_cases hc:j<ps.length
  ·obtain ⟨g1,h2,h3,e1⟩:=ixF (j:=j) (n:=ps.length) aa aa;have hnz:ps.getD j 0≠0:=hz _ (by simp[List.getD,N0 hc]);have d3:=sy hnz;refine rf0 (cj7 g1 h2 h3 @NZ @Oe @byte.eq_1 d3) ?_;refine ⟨j+1,aa,aa,?_⟩;exact xSu
  ·have hj2:j=ps.length:=by omega
   subst hj2;have g1:=ixE (ps.length);refine rf0 g1 ?_;refine aG ?_;exact av.refl _
 ·simp only at hk;subst hk;have hE:bR ⟨2,pn,ps⟩= .agg [.int .i64 2,.int .i64 pn,.str ps]:=rfl;have hB:(((ptB ⟨2,pn,ps⟩).length:Nat):Int)=9:=by simp[ptB,cJ,upB,aW]
  have d1:decide ((2:Int)=1)=false:=rfl;rw[hE,hB];refine rf0 d1 ?_;refine aG ?_;exact av.refl _
 ·simp only at hk;subst hk;have hE:bR ⟨3,pn,ps⟩= .agg [.int .i64 3,.int .i64 pn,.str ps]:=rfl;have hB:(((ptB ⟨3,pn,ps⟩).length:Nat):Int)=9:=by simp[ptB,cJ,upB,aW]
  have d1:decide ((3:Int)=1)=false:=rfl;rw[hE,hB];refine rf0 d1 ?_;refine aG ?_;exact av.refl _
theorem Is(p:Pt)(hp:p.ok):aI Tryz.prog 226 [bR p] (.str (ptB p)):=by
 refine f226.aE af rfl rfl ?_;unfold ME zz;obtain ⟨pk,pn,ps⟩:=p;rcases hp.k with hk|hk|hk
 ·simp only at hk;subst hk;obtain ⟨hn,hz,hl⟩:=hp.t rfl;simp only at hn hz hl;subst hn;have hE:bR ⟨1,0,ps⟩= .agg [.int .i64 1,.int .i64 0,.str ps]:=rfl;have hB:ptB ⟨1,0,ps⟩=2::ps++[0,1]:=rfl;rw[hE,hB];have d1:decide ((1:Int)=2)=false:=rfl;have d2:decide ((1:Int)=3)=false:=rfl;refine rf0 (cj2 d1 d2) ?_;refine Wp.dB [1] xA6 (λj:Nat=>[(3,.str (2::ps.take j)),(4,.int .i64 (j:Nat))]) (λj=>j<=ps.length) (λj=>ps.length - j) 0 (Og _) ?_ ?_
  ·exact bY @Ph.{0}
  rintro j hj;have lt:(ps.take j).length=j:=by simp;omega
  by_cases hc:j<ps.length
  ·obtain ⟨g1,h2,h3,e1⟩:=ixF (j:=j) (n:=ps.length) aa aa;have hnz:ps.getD j 0≠0:=hz _ (by simp[List.getD,N0 hc]);have d3:=sy hnz;have hsn:=F4 ps j hc;have h4:(j:Int)<=((j+1:Nat):Int):=by omega
   have h5:((j+1:Nat):Int)<=(ps.length:Int):=by omega
   have h6:(0:Int)<=((j+1:Nat):Int):=by omega
   have es:(ps.take (j+1)).drop j=[ps.getD j 0]:=by
    rw[hsn,List.drop_append_of_le_length aq];simp
   have l1:j+1+1<9223372036854775808:=by omega
   refine rf0 (aY g1 h2 h3 h4 h5 h6 e1 es @lt l1 @O8.{0,0} (cj8 @Ol.{0,0} @NZ @Oe @byte.eq_1 d3 @N2.{0} @N4.{0} @Od)) ?_;refine ⟨j+1,aa,aa,?_⟩;refine aL.tm (by simp only[aR,go_sem,reduceIte,Nat.reduceEqDiff,Nat.reduceAdd,bx];and_intros<;>first|exact trivial|exact av.refl _|exact av.any _|exact av.of_eq (by rw[hsn])|(refine av.int ?_;omega))
  ·have hj2:j=ps.length:=by omega
   subst hj2;have g1:=ixE (ps.length);rw[Ot];have l1:ps.length+1+2<9223372036854775808:=by omega
   refine rf0 (cj5 g1 l1 @N2.{0} @N4.{0} @Od) ?_;refine aG ?_;exact av.refl _
 ·simp only at hk;subst hk;obtain ⟨hs,h0,h63⟩:=hp.u af;simp only at hs h0 h63;subst hs;obtain ⟨v,rfl⟩:∃v:Nat,pn=v:=⟨pn.toNat,aa⟩;have hE:bR ⟨2,v,[]⟩= .agg [.int .i64 2,.int .i64 v,.str []]:=rfl;have hB:ptB ⟨2,v,[]⟩=3::bA 0 (upB v):=rfl;have d1:decide ((2:Int)=2)=true:=rfl;have c1:=kq v aa 8 aa;have c2:=xz (be 8 v) (aW _ _) false;rw[Iq v aa] at c2;have lm:(bA 0 (upB v)).length=8:=by simp[cJ,upB,aW]
  rw[hE,hB];refine rf2 (cj5 d1 lm @N2.{0} @N4.{0} @Od) c1 c2 ?_;refine aG ?_;exact av.refl _
 ·simp only at hk;subst hk;obtain ⟨hs,h0,h63⟩:=hp.u af;simp only at hs h0 h63;subst hs;obtain ⟨v,rfl⟩:∃v:Nat,pn=v:=⟨pn.toNat,aa⟩;have hE:bR ⟨3,v,[]⟩= .agg [.int .i64 3,.int .i64 v,.str []]:=rfl;have hB:ptB ⟨3,v,[]⟩=4::bA 255 (upB v):=rfl;have d1:decide ((3:Int)=2)=false:=rfl;have d2:decide ((3:Int)=3)=true:=rfl;have c1:=kq v aa 8 aa;have c2:=xz (be 8 v) (aW _ _) true;rw[DN v aa] at c2;have lm:(bA 255 (upB v)).length=8:=by simp[cJ,upB,aW]
  rw[hE,hB];refine rf2 (cj6 d1 d2 lm @N2.{0} @N4.{0} @Od) c1 c2 ?_;refine aG ?_;exact av.refl _
theorem DQ(l:List Pt)(hok:∀p∈l,p.ok)(hl:(cW l).length<=128):aI Tryz.prog 225 [.sl 3 (pts l) .any] (.int .i64 0):=by
 have hll:=o5 l;have pu:aF (pts l)=true:=Av.bC (λa=>rfl) _;refine f225.aE af (by simp[aF,aO,aU,pu]) rfl ?_;unfold MD zz;have len:=cC l;refine rf0 @len ?_;refine Wp.dB [0] xA6 (λj:Nat=>[(3,.int .i64 (j:Nat))]) (λj=>j<=l.length) (λj=>l.length - j) 0 (Og _) ?_ ?_
 ·exact xSb
 rintro j hj;by_cases hc:j<l.length
 ·obtain ⟨g1,h2,h3,e1⟩:=ixF (j:=j) (n:=l.length) aa aa;have hat:=dX l j .any hc;have hm:l.getD j default∈l:=by rw[Av.fT hc];exact O0 hc
  have c1:=DP _ (hok _ hm);generalize l.getD j default=p at*
  obtain ⟨pk,pn,ps⟩:=p;unfold bR at hat c1;refine rf1 (cj7 g1 h2 h3 hat @len @NZ @OB) c1 ?_;refine ⟨j+1,aa,aa,?_⟩;exact xSu
 ·have hj2:j=l.length:=by omega
  subst hj2;have g1:=ixE (l.length);refine rf0 (cj2 g1 @len) ?_;refine Wp.dB [0] xA6 (λj:Nat=>[(4,.int .i64 ((cW (l.take j)).length:Nat)),(5,.int .i64 (j:Nat))]) (λj=>j<=l.length) (λj=>l.length - j) 0 (Og _) ?_ ?_
  ·exact bY (cj5 @Ph.{0} @cW.eq_1 @OE.{0,0} @PN.{0} @N4.{0})
  rintro j hj;by_cases hc2:j<l.length
  ·obtain ⟨g1,h2,h3,e1⟩:=ixF (j:=j) (n:=l.length) aa aa;have hat:=dX l j .any hc2;have hm:l.getD j default∈l:=by rw[Av.fT hc2];exact O0 hc2
   have c1:=Ir _ (hok _ hm);have ht2:=ni l (j+1);rw[iY l j hc2,N6] at ht2;have hsn:=iY l j hc2;have w1:IntKind.i64.wrap (((cW (l.take j)).length:Int)+((ptB (l.getD j default)).length:Int))=(((cW (l.take j)).length+(ptB (l.getD j default)).length:Nat):Int):=by rw[IntWalk.i64_in _ aa];omega
   have d1:decide ((128:Int)<(((cW (l.take j)).length+(ptB (l.getD j default)).length:Nat):Int))=false:=N1 aa;generalize ptB (l.getD j default)=q at*
   generalize l.getD j default=p at*
   obtain ⟨pk,pn,ps⟩:=p;unfold bR at hat c1;refine rf1 (cj8 g1 h2 h3 hat @len @NZ w1 d1) c1 ?_;refine ⟨j+1,aa,aa,?_⟩;exact u5 (cj2 hsn @N6.{0})
  ·have hj3:j=l.length:=by omega
   subst hj3;have g1:=ixE (l.length);refine rf0 (cj2 g1 @len) ?_;refine aG ?_;exact av.refl _
theorem DR(l:List Pt)(hok:∀p∈l,p.ok)(hl:(cW l).length<=128):aI Tryz.prog 205 [.sl 3 (pts l) .any] (.tup [.str (cW l),.int .i64 0]):=by
 have hll:=o5 l;have pu:aF (pts l)=true:=Av.bC (λa=>rfl) _;refine f205.aE af (by simp[aF,aO,aU,pu]) (by simp[aO,aF]) ?_;unfold Mw zz;have len:=cC l;have c0:=DQ l hok hl;refine rf1 @len c0 ?_;refine Wp.dB [0] xA6 (λj:Nat=>[(5,.str (cW (l.take j))),(6,.int .i64 (j:Nat))]) (λj=>j<=l.length) (λj=>l.length - j) 0 (Og _) ?_ ?_
 ·exact bY (cj5 @Ph.{0} @cW.eq_1 @OE.{0,0} @PN.{0} @N4.{0})
 rintro j hj;by_cases hc2:j<l.length
 ·obtain ⟨g1,h2,h3,e1⟩:=ixF (j:=j) (n:=l.length) aa aa;have hat:=dX l j .any hc2;have hm:l.getD j default∈l:=by rw[Av.fT hc2];exact O0 hc2
  have c1:=Is _ (hok _ hm);have ht2:=ni l (j+1);rw[iY l j hc2,N6] at ht2;have hsn:=iY l j hc2;have l1:(cW (l.take j)).length+(ptB (l.getD j default)).length<9223372036854775808:=by omega
  generalize ptB (l.getD j default)=q at*
  generalize l.getD j default=p at*
  obtain ⟨pk,pn,ps⟩:=p;unfold bR at hat c1;refine rf1 (cj7 g1 h2 h3 hat @len @NZ l1) c1 ?_;refine ⟨j+1,aa,aa,?_⟩;exact u5 hsn
 ·have hj3:j=l.length:=by omega
  subst hj3;have g1:=ixE (l.length);rw[Ot];refine rf0 (cj2 g1 @len) ?_;refine aG ?_;exact av.refl _
structure Ky where
 k:Int
 b:List UInt8
 o:List UInt8
 ns:List Int
deriving Inhabited,DecidableEq
def dp(k:Ky):AV:= .agg [.int .i64 k.k,.str k.b,.str k.o,.sl 1 (ints k.ns) .any]
def eu(k:Int):Int:=if k=6 then 3 else if k=5\/k=3 then 2 else if k=4\/k=2 then 1 else if k=1 then 0 else -1
def dt(k:Int):UInt8:=[98,111,99,117,112,113].getD (k.toNat - 1) 0
def txt(s:List UInt8):Pt:=⟨1,0,s⟩
def bU(k n:Int):Pt:=⟨if k=2 then 3 else 2,n,[]⟩
def fc(k:Ky):List Pt:=txt [dt k.k]::txt k.b::((if k.o=[] then [] else [txt k.o])++k.ns.map (bU k.k))
def cS(k:Ky):List UInt8:=cW (fc k)
structure Ky.ok(x:Ky):Prop where
 k:1<=x.k/\x.k<=6
 n:eu x.k=x.ns.length
 r:∀n∈x.ns,0<=n/\n<9223372036854775808
 e:x.k=1->x.o=[]
 b:bT x.b=0
 o:x.k≠1->bX x.o=0
theorem sA(k:Int):eu k<=3:=by
 unfold eu
 repeat' split
 all_goals omega
theorem gD{s:List UInt8}(h:bT s=0):3<=s.length/\s.length<=12/\∀b∈s,45<=b.toNat/\b.toNat<=122:=by
 unfold bT at h;split at h
 ·rename_i hc;obtain ⟨h1,h2,h3⟩:=hc;refine ⟨h1,h2,λb hb=>?_⟩;obtain ⟨i,hi,rfl⟩:=P7.1 hb;have:=OH.1 h3 i (O1.2 hi);rw[kC] at this;have e:s.getD i default=s[i]:=by simp[List.getD,N0 hi]
  rw[e] at this;split at this
  ·omega
  ·unfold eH at this;simp only[OS,Ob,Oj] at this;omega
 ·simp at h
theorem eI{s:List UInt8}(h:bX s=0):1<=s.length/\s.length<=32/\∀b∈s,33<=b.toNat/\b.toNat<=126:=by
 unfold bX at h;split at h
 ·rename_i hc;obtain ⟨h1,h2,h3⟩:=hc;refine ⟨Qb.2 h1,h2,λb hb=>?_⟩;have:=OH.1 h3 b hb;unfold Desk.seen at this;simpa using this
 ·simp at h
theorem BQ{b:UInt8}{n:Nat}(h:n+1<=b.toNat):b≠0:=by
 rintro rfl;simp at h
theorem Af{s:List UInt8}(h:∀b∈s,b≠0)(hl:s.length<=128):(txt s).ok:=⟨.inl rfl,λ_=>⟨rfl,h,hl⟩,λh=>absurd rfl h⟩
theorem KI{k n:Int}(h:0<=n/\n<9223372036854775808):(bU k n).ok:=by
 refine ⟨?_,λh=>?_,λ_=>⟨rfl,h.1,h.2⟩⟩
 ·unfold bU;by_cases hk:k=2<;>simp[hk]
 ·unfold bU at h;by_cases hk:k=2<;>simp[hk] at h
theorem DS{k:Int}(h:1<=k/\k<=6):dt k≠0:=by
 obtain ⟨h1,h2⟩:=h;obtain rfl|rfl|rfl|rfl|rfl|rfl:k=1\/k=2\/k=3\/k=4\/k=5\/k=6:=by omega
 all_goals decide
theorem jl{k:Ky}(h:k.ok):∀p∈fc k,p.ok:=by
 obtain ⟨b1,b2,b3⟩:=gD h.b;intro p hp;unfold fc at hp;simp only[Om,OM,Oo] at hp;rcases hp with rfl|rfl|hp|⟨n,hn,rfl⟩
 ·exact Af (λb hb=>by simp only[Oc] at hb;rw[hb];exact DS h.k) af
 ·exact Af (λb hb=>BQ (n:=44) (b3 b hb).1) aa
 ·split at hp
  ·cases hp
  ·rename_i ho;simp only[Oc] at hp;subst hp;have hk:k.k≠1:=λhk=>ho (h.e hk);obtain ⟨o1,o2,o3⟩:=eI (h.o hk);exact Af (λb hb=>BQ (n:=32) (o3 b hb).1) aa
 ·exact KI (h.r n hn)
theorem Ga(k n:Int):(ptB (bU k n)).length=9:=by
 unfold bU ptB;by_cases hk:k=2<;>simp[hk,cJ,upB,aW]
theorem xA(k:Int):∀l:List Int,(cW (l.map (bU k))).length=9*l.length
 |[]=>rfl
 |n::l=>by
  have h1:=Ga k n;have h2:=xA k l;unfold cW at*
  simp only[Oy,List.flatten_cons,N6,List.length_cons];omega
theorem o6{k:Ky}(h:k.ok):(cS k).length<=81:=by
 obtain ⟨b1,b2,b3⟩:=gD h.b;have hn:=h.n;have h3:=sA k.k;have h4:=xA k.k k.ns;have ho:k.o.length<=32:=by
  by_cases hk:k.k=1
  ·rw[h.e hk];simp
  ·exact (eI (h.o hk)).2.1
 unfold cS fc cW at*
 simp only[Oy,List.flatten_cons,N6,O3,PG];have t1:∀s,(ptB (txt s)).length=s.length+3:=λs=>by simp[ptB,txt]
 rw[t1,t1,h4];by_cases he:k.o=[]
 ·simp[he];omega
 ·simp[he,t1];omega
theorem kinds(k:Int):k=1\/k=2\/k=3\/k=4\/k=5\/k=6\/(k≠1/\k≠2/\k≠3/\k≠4/\k≠5/\k≠6):=by omega
theorem Gb(k:Int):aI Tryz.prog 175 [.int .i64 k] (.int .i64 (eu k)):=by
 rcases kinds k with rfl|rfl|rfl|rfl|rfl|rfl|⟨h1,h2,h3,h4,h5,h6⟩
 ·refine f175.aE af rfl rfl ?_;unfold wZ zz;have d1:decide ((1:Int)=1)=true:=rfl;have d2:decide ((1:Int)=2)=false:=rfl;have d3:decide ((1:Int)=3)=false:=rfl;have d4:decide ((1:Int)=4)=false:=rfl;have d5:decide ((1:Int)=5)=false:=rfl;have d6:decide ((1:Int)=6)=false:=rfl;refine rf0 (cj6 d1 d2 d3 d4 d5 d6) ?_;refine aG ?_;exact av.of_eq rfl
 ·refine f175.aE af rfl rfl ?_;unfold wZ zz;have d1:decide ((2:Int)=1)=false:=rfl;have d2:decide ((2:Int)=2)=true:=rfl;have d3:decide ((2:Int)=3)=false:=rfl;have d4:decide ((2:Int)=4)=false:=rfl;have d5:decide ((2:Int)=5)=false:=rfl;have d6:decide ((2:Int)=6)=false:=rfl;refine rf0 (cj6 d1 d2 d3 d4 d5 d6) ?_;refine aG ?_;exact av.of_eq rfl
 ·refine f175.aE af rfl rfl ?_;unfold wZ zz;have d1:decide ((3:Int)=1)=false:=rfl;have d2:decide ((3:Int)=2)=false:=rfl;have d3:decide ((3:Int)=3)=true:=rfl;have d4:decide ((3:Int)=4)=false:=rfl;have d5:decide ((3:Int)=5)=false:=rfl;have d6:decide ((3:Int)=6)=false:=rfl;refine rf0 (cj6 d1 d2 d3 d4 d5 d6) ?_;refine aG ?_;exact av.of_eq rfl
 ·refine f175.aE af rfl rfl ?_;unfold wZ zz;have d1:decide ((4:Int)=1)=false:=rfl;have d2:decide ((4:Int)=2)=false:=rfl;have d3:decide ((4:Int)=3)=false:=rfl;have d4:decide ((4:Int)=4)=true:=rfl;have d5:decide ((4:Int)=5)=false:=rfl;have d6:decide ((4:Int)=6)=false:=rfl;refine rf0 (cj6 d1 d2 d3 d4 d5 d6) ?_;refine aG ?_;exact av.of_eq rfl
 ·refine f175.aE af rfl rfl ?_;unfold wZ zz;have d1:decide ((5:Int)=1)=false:=rfl;have d2:decide ((5:Int)=2)=false:=rfl;have d3:decide ((5:Int)=3)=false:=rfl;have d4:decide ((5:Int)=4)=false:=rfl;have d5:decide ((5:Int)=5)=true:=rfl;have d6:decide ((5:Int)=6)=false:=rfl;refine rf0 (cj6 d1 d2 d3 d4 d5 d6) ?_;refine aG ?_;exact av.of_eq rfl
 ·refine f175.aE af rfl rfl ?_;unfold wZ zz;have d1:decide ((6:Int)=1)=false:=rfl;have d2:decide ((6:Int)=2)=false:=rfl;have d3:decide ((6:Int)=3)=false:=rfl;have d4:decide ((6:Int)=4)=false:=rfl;have d5:decide ((6:Int)=5)=false:=rfl;have d6:decide ((6:Int)=6)=true:=rfl;refine rf0 (cj6 d1 d2 d3 d4 d5 d6) ?_;refine aG ?_;exact av.of_eq rfl
 have hn:eu k= -1:=by simp[eu,h1,h2,h3,h4,h5,h6]
 rw[hn];refine f175.aE af rfl rfl ?_;unfold wZ zz;have d1:=N1 h1;have d2:=N1 h2;have d3:=N1 h3;have d4:=N1 h4;have d5:=N1 h5;have d6:=N1 h6;refine rf0 (cj6 d1 d2 d3 d4 d5 d6) ?_;refine aG ?_;exact av.refl _
def mA(l:List Int):Bool:=l.all λn=>decide (0<=n)
theorem sB{l:List Int}{j:Nat}(h:j<l.length)(hn:l.getD j 0<0):mA l=false:=by
 refine List.all_eq_false.2 ⟨_,O0 h,?_⟩;have:l.getD j 0=l[j]:=by simp[List.getD,N0 h]
 rw[this] at hn;simpa using hn
theorem uv{l:List Int}(h:∀j,j<l.length->0<=l.getD j 0):mA l=true:=by
 refine OH.2 λn hn=>?_;obtain ⟨i,hi,rfl⟩:=P7.1 hn;have:=h i hi;have e:l.getD i 0=l[i]:=by simp[List.getD,N0 hi]
 rw[e] at this;simpa using this
def fO(x:Ky):Bool:=mA x.ns&&decide (((x.ns.length:Nat):Int)<=eu x.k)&&(!decide (x.k=1)||decide (x.o=[]))
theorem eJ(x:Ky):aO (dp x)=true:=by simp[dp,aO,aF,aU,tR]
theorem DT(x:Ky)(hl:x.ns.length<=1000000):aI Tryz.prog 130 [dp x] (.bool (fO x)):=by
 refine f130.aE af (by simp[aF,eJ]) rfl ?_;unfold LZ zz;obtain ⟨k,b,o,ns⟩:=x;have hE:dp ⟨k,b,o,ns⟩= .agg [.int .i64 k,.str b,.str o,.sl 1 (ints ns) .any]:=rfl;have len:=dN ns;simp only at hl;rw[hE];refine rf0 @len ?_;refine Wp.dB [1,6,7] xA6 (λj:Nat=>[(8,.int .i64 (j:Nat))]) (λj=>j<=ns.length/\∀i,i<j->0<=ns.getD i 0) (λj=>ns.length - j) 0 ⟨Og _,λi h=>absurd h (Nat.not_lt_zero _)⟩ ?_ ?_
 ·exact xSb
 rintro j ⟨hj,hall⟩;by_cases hc:j<ns.length
 ·obtain ⟨g1,h2,h3,e1⟩:=ixF (j:=j) (n:=ns.length) aa aa;have hat:=iX ns j .any hc;by_cases hn:ns.getD j 0<0
  ·have d1:=N3 hn;refine rf0 (cj7 g1 h2 h3 @len hat @NZ d1) ?_;refine aG ?_;exact av.of_eq (by simp[fO,sB hc hn])
  ·have d1:=N1 hn;refine rf0 (cj7 g1 h2 h3 @len hat @NZ d1) ?_;refine ⟨j+1,⟨aa,λi hi=>?_⟩,aa,?_⟩
   ·by_cases e:i=j
    ·subst e;omega
    ·exact hall i aa
   exact xSu
 ·have hj2:j=ns.length:=by omega
  subst hj2;have g1:=ixE (ns.length);have hok:=uv hall;have c1:=Gb k;cases d1:decide (((ns.length:Nat):Int)<=eu k) with
  |false=>
   refine rn1 (cj3 g1 @len d1) c1 ?_;refine aG ?_;exact av.of_eq (by simp[fO,d1])
  |true=>
  cases d2:decide (k=1) with
  |false=>
   refine rn1 (cj5 g1 @len d1 d2 @OK) c1 ?_;refine aG ?_;exact av.of_eq (by simp[fO,d1,d2,hok])
  |true=>
   cases d3:decide (o=[]) with
   |true=>
    refine rn1 (cj6 g1 @len d1 d2 d3 @OB) c1 ?_;refine aG ?_;exact av.of_eq (by simp[fO,d1,d2,d3,hok])
   |false=>
    refine rn1 (cj6 g1 @len d1 d2 d3 @OB) c1 ?_;refine aG ?_;exact av.of_eq (by simp[fO,d1,d2,d3,hok])
theorem Ag(s:List UInt8):aI Tryz.prog 176 [.str s] (bR (txt s)):=by
 refine f176.aE af rfl rfl ?_;unfold Mj zz;refine dG ?_;refine aG ?_;exact av.refl _
theorem uw(k n:Int):aI Tryz.prog 177 [.int .i64 k,.int .i64 n] (bR (bU k n)):=by
 refine f177.aE af rfl rfl ?_;unfold Mk zz;cases d1:decide (k=2) with
 |true=>
  have:bU k n=⟨3,n,[]⟩:=by unfold bU;rw[Of (Oh d1)]
  rw[this];refine rf0 d1 ?_;refine aG ?_;exact av.refl _
 |false=>
  have:bU k n=⟨2,n,[]⟩:=by unfold bU;rw[N7 (Ox d1)]
  rw[this];refine rf0 d1 ?_;refine aG ?_;exact av.refl _
theorem ux{k:Int}(h:1<=k/\k<=6):(List.take k.toNat [98,111,99,117,112,113]).drop (k - 1).toNat=[dt k]:=by
 obtain ⟨h1,h2⟩:=h;obtain rfl|rfl|rfl|rfl|rfl|rfl:k=1\/k=2\/k=3\/k=4\/k=5\/k=6:=by omega
 all_goals rfl
theorem fp(l:List Pt)(p:Pt):pts (l++[p])=pts l++[bR p]:=by simp[pts]
def lB(x:Ky):List Pt:=txt [dt x.k]::txt x.b::(if x.o=[] then [] else [txt x.o])
theorem sC(x:Ky):fc x=lB x++x.ns.map (bU x.k):=by simp[fc,lB]
theorem Gc(x:Ky):(lB x).length<=3:=by unfold lB;split<;>simp
theorem jJ(k:Int)(l:List Int)(j:Nat)(h:j<l.length):(l.take (j+1)).map (bU k)=(l.take j).map (bU k)++[bU k (l.getD j 0)]:=by
 have e:l.getD j 0=l[j]:=by simp[Ou,N0 h]
 rw[e,Ov h,O3];simp
theorem DU(x:Ky)(hx:x.ok):aI Tryz.prog 131 [dp x,.sl 1 [.str x.b,.str x.o] .any] (.str (cS x)):=by
 refine f131.aE af (by simp[aF,eJ,aO,aU]) rfl ?_;unfold L0 zz;have hk:=hx.k;have hl:=ux hk;obtain ⟨b1,b2,b3⟩:=gD hx.b;have henc:=DM (fc x) (jl hx) (by have:=o6 hx;unfold cS at this;omega);have hn:=hx.n;have hn3:=sA x.k;have hh:=Gc x;rw[sC] at henc;have hkb:cS x=cW (lB x++x.ns.map (bU x.k)):=by unfold cS;rw[sC]
 rw[hkb];unfold lB at*
 clear hkb b3 hx;obtain ⟨k,b,o,ns⟩:=x;simp only at*
 have hE:dp ⟨k,b,o,ns⟩= .agg [.int .i64 k,.str b,.str o,.sl 1 (ints ns) .any]:=rfl;have len:=dN ns;rw[hE];have w1:IntKind.i64.wrap (k - 1)=k - 1:=IntWalk.i64_in _ aa;have k0:(0:Int)<=k:=by omega
 have k1:(0:Int)<=k - 1:=by omega
 have k2:k - 1<=k:=by omega
 have k3:k<=((6:Nat):Int):=hk.2;have k4:((k.toNat:Nat):Int)=k:=Int.toNat_of_nonneg k0;have c1:=Ag [dt k];have c2:=Ag b;have c3:=Ag o;have db:decide (b=[])=false:=N1 (by rintro rfl;simp at b1);have i0:decide ((0:Int)<((2:Nat):Int))=true:=rfl;have i1:decide ((1:Int)<((2:Nat):Int))=true:=rfl;have i2:decide ((2:Int)<((2:Nat):Int))=false:=rfl;have u1:IntKind.i64.wrap (0+1)=1:=rfl;have u2:IntKind.i64.wrap (1+1)=2:=rfl;have t0:Int.toNat 0=0:=rfl;have t1:Int.toNat 1=1:=rfl;have x1:(0:Int)<((2:Nat):Int):=by decide
 have x2:(1:Int)<((2:Nat):Int):=by decide
 have x3:(0:Int)<=1:=by decide
 unfold bR txt at c1 c2 c3;refine rf1 (aY w1 k0 k1 k2 k3 k4 hl @O8.{0,0} @Ol.{0,0} @N2.{0} @N4.{0} (cj2 @Od @Oe)) c1 ?_;cases dq:decide (o=[]) with
 |true=>
  have ho:=Oh dq;subst ho;refine Wp.JM (WpL.next ?_);refine rf1 (aY i0 i1 i2 u1 u2 t0 t1 x1 x2 x3 @OL (aY @Oe @OG.{0} @Pg.{0} db dq @OK @OB @N2.{0} @N4.{0} @Od @OW (cj2 @Oc.{0} @Ow))) c2 ?_;refine WpL.next ?_;refine rf0 (aY i0 i1 i2 u1 u2 t0 t1 x1 x2 x3 @OL (aY @Oe @OG.{0} @Pg.{0} db dq @OK @OB @N2.{0} @N4.{0} @Od @OW (cj2 @Oc.{0} @Ow))) ?_;refine WpL.next ?_;refine rf0 (aY i0 i1 i2 u1 u2 t0 t1 x1 x2 x3 @OL (aY @Oe @OG.{0} @Pg.{0} db dq @OK @OB @N2.{0} @N4.{0} @Od @OW (cj3 @Oc.{0} @Ow @len))) ?_;obtain ⟨H,hH⟩:∃H,H=[txt [dt k],txt b]:=⟨_,rfl⟩;have hP:pts H=[.agg [.int .i64 1,.int .i64 0,.str [dt k]],.agg [.int .i64 1,.int .i64 0,.str b]]:=by rw[hH];rfl
  have hHl:H.length<=3:=by rw[hH];simp
  have hd:(txt [dt k]::txt b::(if ([]:List UInt8)=[] then [] else [txt []]))=H:=by rw[hH];simp
  rw[hd] at henc |-;refine Wp.le (s':=⟨tm [(2,.ptr 0 0),(5,.sl 3 (pts H) (.own 0)),(35,.sl 1 (ints ns) .any),(36,.int .i64 ns.length),(37,.int .i64 0)],⟨upd aA 0 (some (.cells [.int .i64 k,.str b,.str [],.sl 1 (ints ns) .any])),1,[0],1⟩⟩) (aL.of (aS ?_) (λa u hu=>⟨u,hu,cy.refl _⟩) (λa ha=>ha) (NY _) (NY _)) ?_
  ·rw[hP];exact xSb
  clear hP hd;refine Wp.mY [2,35,36] xA7 (λ(j:Nat) tk=>[(5,.sl 3 (pts (H++(ns.take j).map (bU k))) (.own tk)),(37,.int .i64 (j:Nat))]) (λj=>j<=ns.length) (λj=>ns.length - j) 0 0 (Og _) rfl ?_ ?_
  ·exact bY (cj3 @Ph.{0} @OE.{0,0} @ON.{0})
  rintro j tk m hj;have lp:(pts (H++(ns.take j).map (bU k))).length=H.length+j:=by rw[cC];simp;omega
  by_cases hc:j<ns.length
  ·obtain ⟨g1,h2,h3,e1⟩:=ixF (j:=j) (n:=ns.length) aa aa;have hat:=iX ns j .any hc;have hsn:=jJ k ns j hc;have c5:=uw k (ns.getD j 0);have e6:(H.length+j+1)*32<=140737488355328:=by omega
   have e7:H.length+j+1<4611686018427387904:=by omega
   generalize hnp:bU k (ns.getD j 0)=np at*
   have hen:bR np= .agg [.int .i64 np.k,.int .i64 np.n,.str np.s]:=rfl;rw[hen] at c5;refine rf1 (aY g1 h2 h3 @len hat @NZ lp e6 e7 @N2.{0} @N4.{0} (cj4 @Od @Oc.{0} @OW @Oe)) c5 ?_;refine ⟨j+1,m,m+1,aa,aa,?_⟩;refine aL.tm (by simp only[aR,go_sem,reduceIte,Nat.reduceEqDiff,Nat.reduceAdd,bx];and_intros<;>first|exact trivial|exact av.refl _|exact av.any _|exact av.of_eq (by rw[hsn,<-Pn,fp];rfl)|(refine av.int ?_;omega))
  ·have hj2:j=ns.length:=by omega
   subst hj2;have g1:=ixE (ns.length);rw[Ot];refine rf1 (cj2 g1 @len) henc ?_;refine aG ?_;exact av.refl _
 |false=>
  refine Wp.JM (WpL.next ?_);refine rf1 (aY i0 i1 i2 u1 u2 t0 t1 x1 x2 x3 @OL (aY @Oe @OG.{0} @Pg.{0} db dq @OK @OB @N2.{0} @N4.{0} @Od @OW (cj2 @Oc.{0} @Ow))) c2 ?_;refine WpL.next ?_;refine rf1 (aY i0 i1 i2 u1 u2 t0 t1 x1 x2 x3 @OL (aY @Oe @OG.{0} @Pg.{0} db dq @OK @OB @N2.{0} @N4.{0} @Od @OW (cj2 @Oc.{0} @Ow))) c3 ?_;refine WpL.next ?_;refine rf0 (aY i0 i1 i2 u1 u2 t0 t1 x1 x2 x3 @OL (aY @Oe @OG.{0} @Pg.{0} db dq @OK @OB @N2.{0} @N4.{0} @Od @OW (cj3 @Oc.{0} @Ow @len))) ?_;obtain ⟨H,hH⟩:∃H,H=[txt [dt k],txt b,txt o]:=⟨_,rfl⟩;have hP:pts H=[.agg [.int .i64 1,.int .i64 0,.str [dt k]],.agg [.int .i64 1,.int .i64 0,.str b],.agg [.int .i64 1,.int .i64 0,.str o]]:=by rw[hH];rfl
  have hHl:H.length<=3:=by rw[hH];simp
  have hd:(txt [dt k]::txt b::(if o=[] then [] else [txt o]))=H:=by rw[hH];simp[Ox dq]
  rw[hd] at henc |-;refine Wp.le (s':=⟨tm [(2,.ptr 0 0),(5,.sl 3 (pts H) (.own 1)),(35,.sl 1 (ints ns) .any),(36,.int .i64 ns.length),(37,.int .i64 0)],⟨upd aA 0 (some (.cells [.int .i64 k,.str b,.str o,.sl 1 (ints ns) .any])),1,[1],2⟩⟩) (aL.of (aS ?_) (λa u hu=>⟨u,hu,cy.refl _⟩) (λa ha=>ha) (NY _) (NY _)) ?_
  ·rw[hP];exact xSb
  clear hP hd;refine Wp.mY [2,35,36] xA7 (λ(j:Nat) tk=>[(5,.sl 3 (pts (H++(ns.take j).map (bU k))) (.own tk)),(37,.int .i64 (j:Nat))]) (λj=>j<=ns.length) (λj=>ns.length - j) 0 1 (Og _) rfl ?_ ?_
  ·exact bY (cj3 @Ph.{0} @OE.{0,0} @ON.{0})
  rintro j tk m hj;have lp:(pts (H++(ns.take j).map (bU k))).length=H.length+j:=by rw[cC];simp;omega
  by_cases hc:j<ns.length
  ·obtain ⟨g1,h2,h3,e1⟩:=ixF (j:=j) (n:=ns.length) aa aa;have hat:=iX ns j .any hc;have hsn:=jJ k ns j hc;have c5:=uw k (ns.getD j 0);have e6:(H.length+j+1)*32<=140737488355328:=by omega
   have e7:H.length+j+1<4611686018427387904:=by omega
   generalize hnp:bU k (ns.getD j 0)=np at*
   have hen:bR np= .agg [.int .i64 np.k,.int .i64 np.n,.str np.s]:=rfl;rw[hen] at c5;refine rf1 (aY g1 h2 h3 @len hat @NZ lp e6 e7 @N2.{0} @N4.{0} (cj4 @Od @Oc.{0} @OW @Oe)) c5 ?_;refine ⟨j+1,m,m+1,aa,aa,?_⟩;refine aL.tm (by simp only[aR,go_sem,reduceIte,Nat.reduceEqDiff,Nat.reduceAdd,bx];and_intros<;>first|exact trivial|exact av.refl _|exact av.any _|exact av.of_eq (by rw[hsn,<-Pn,fp];rfl)|(refine av.int ?_;omega))
  ·have hj2:j=ns.length:=by omega
   subst hj2;have g1:=ixE (ns.length);rw[Ot];refine rf1 (cj2 g1 @len) henc ?_;refine aG ?_;exact av.refl _
def iO(x:Ky):Bool:=mA x.ns&&decide (((x.ns.length:Nat):Int)=eu x.k)&&(!decide (x.k=1)||decide (x.o=[]))
def gx(x:Ky):Int:=if iO x=true then (if bT x.b=0 then (if x.k=1 then 0 else bX x.o) else 15) else 2
def dC(x:Ky):List UInt8:=if gx x=0 then cS x else []
def Ky.fit(x:Ky):Prop:=x.ns.length<=1000000/\∀n∈x.ns,n<9223372036854775808
theorem oh(s:List UInt8):bT s=0\/bT s=15:=by unfold bT;split<;>simp
theorem sD(s:List UInt8):bX s=0\/bX s=15:=by unfold bX;split<;>simp
theorem Gd{x:Ky}(h:iO x=true):fO x=true:=by
 unfold iO at h;unfold fO;simp only[Ob,Oj] at h |-;exact ⟨⟨h.1.1,aa⟩,h.2⟩
theorem p7{x:Ky}(hf:x.fit)(h:gx x=0):x.ok:=by
 unfold gx at h;split at h
 case isFalse=>simp at h
 rename_i ha;split at h
 case isFalse=>simp at h
 rename_i hb;unfold iO at ha;simp only[Ob,Oj,OS,QR,P4] at ha;obtain ⟨⟨a1,a2⟩,a3⟩:=ha;refine ⟨?_,a2.symm,λn hn=>⟨?_,hf.2 n hn⟩,λhk=>?_,hb,λhk=>?_⟩
 ·rcases kinds x.k with e|e|e|e|e|e|⟨h1,h2,h3,h4,h5,h6⟩;all_goals first
   |omega
   |(have hn:eu x.k= -1:=by simp[eu,h1,h2,h3,h4,h5,h6]
     omega)
 ·have:=OH.1 a1 n hn;simpa using this
 ·rcases a3 with h|h
  ·exact absurd hk h
  ·exact h
 ·rw[N7 hk] at h;exact h
theorem J0(x:Ky)(hf:x.fit):aI Tryz.prog 138 [dp x] (.tup [.str (dC x),.int .i64 (gx x)]):=by
 refine f138.aE af (by simp[aF,eJ]) rfl ?_;unfold L1 zz;have c1:=DT x hf.1;have c2:=Gb x.k;have c3:=xn x.b;have c4:=xm x.o;have len:=dN x.ns;have hE:dp x= .agg [.int .i64 x.k,.str x.b,.str x.o,.sl 1 (ints x.ns) .any]:=rfl;have hok:=λh=>DU x (p7 hf h);have hS:dC x=if gx x=0 then cS x else []:=rfl
 rw[hE] at c1 hok |-;cases ha:iO x with
 |false=>
  have hk:gx x=2:=by unfold gx;rw[ha];rfl
  rw[hS,hk,N7 al];cases hn:fO x with
  |false=>
   rw[hn] at c1;refine rn2 (cj2 @len @OK) c1 c2 ?_;refine aG ?_;exact av.refl _
  |true=>
   rw[hn] at c1;have d1:decide (((x.ns.length:Nat):Int)=eu x.k)=false:=by
    refine N1 λe=>?_;unfold iO at ha;unfold fO at hn;simp only[Ob] at hn;rw[hn.1.1,hn.2,N3 e] at ha;simp at ha
   refine rn2 (cj4 @len d1 @OB @OK) c1 c2 ?_;refine aG ?_;exact av.refl _
 |true=>
  rw[Gd ha] at c1;have d1:decide (((x.ns.length:Nat):Int)=eu x.k)=true:=by
   unfold iO at ha;simp only[Ob] at ha;exact ha.1.2
  have hk:gx x=if bT x.b=0 then (if x.k=1 then 0 else bX x.o) else 15:=by unfold gx;rw[ha];rfl
  rcases oh x.b with hb|hb
  ·rw[hb] at c3;rw[hb,Of rfl] at hk;have e0:decide ((0:Int)=0)=true:=rfl;cases d2:decide (x.k=1) with
   |true=>
    rw[Of (Oh d2)] at hk;have c5:=hok hk;rw[hS,hk,Of rfl];refine rn4 (cj5 @len d1 d2 e0 @OB) c1 c2 c3 c5 ?_;refine aG ?_;exact av.refl _
   |false=>
    rw[N7 (Ox d2)] at hk;rcases sD x.o with ho|ho
    ·rw[ho] at c4 hk;have c5:=hok hk;rw[hS,hk,Of rfl];refine rn8 (cj6 @len d1 d2 e0 @OB @OK) c1 c2 c3 c4 c5 c5 c5 c5 ?_;refine aG ?_;exact av.refl _
    ·rw[ho] at c4 hk;have e15:decide ((15:Int)=0)=false:=rfl;rw[hS,hk,N7 al];refine rn4 (cj7 @len d1 d2 e0 e15 @OB @OK) c1 c2 c3 c4 ?_;refine aG ?_;exact av.refl _
  ·rw[hb] at c3;rw[hb,N7 al] at hk;have e15:decide ((15:Int)=0)=false:=rfl;rw[hS,hk,N7 al];refine rn3 (cj5 @len d1 e15 @OB @OK) c1 c2 c3 ?_;refine aG ?_;exact av.refl _
theorem It(k:Int):aI Tryz.prog 164 [.int .i64 k] (.int .i64 (eu k)):=by
 rcases kinds k with rfl|rfl|rfl|rfl|rfl|rfl|⟨h1,h2,h3,h4,h5,h6⟩
 ·refine f164.aE af rfl rfl ?_;unfold wY zz;have d1:decide ((1:Int)<1)=false:=rfl;have d2:decide ((6:Int)<1)=false:=rfl;have w1:IntKind.i64.wrap (1 - 1)=0:=rfl;have t1:Int.toNat 0=0:=rfl;have t2:(0:Int)<=0:=by decide
  have t3:(0:Int)<((6:Nat):Int):=by decide
  refine rf0 (aY d1 d2 w1 t1 t2 t3 @N2.{0} @N4.{0} @Oe @OG.{0} @Pg.{0} @Od) ?_;refine aG ?_;exact av.of_eq rfl
 ·refine f164.aE af rfl rfl ?_;unfold wY zz;have d1:decide ((2:Int)<1)=false:=rfl;have d2:decide ((6:Int)<2)=false:=rfl;have w1:IntKind.i64.wrap (2 - 1)=1:=rfl;have t1:Int.toNat 1=1:=rfl;have t2:(0:Int)<=1:=by decide
  have t3:(1:Int)<((6:Nat):Int):=by decide
  refine rf0 (aY d1 d2 w1 t1 t2 t3 @N2.{0} @N4.{0} @Oe @OG.{0} @Pg.{0} @Od) ?_;refine aG ?_;exact av.of_eq rfl
 ·refine f164.aE af rfl rfl ?_;unfold wY zz;have d1:decide ((3:Int)<1)=false:=rfl;have d2:decide ((6:Int)<3)=false:=rfl;have w1:IntKind.i64.wrap (3 - 1)=2:=rfl;have t1:Int.toNat 2=2:=rfl;have t2:(0:Int)<=2:=by decide
  have t3:(2:Int)<((6:Nat):Int):=by decide
  refine rf0 (aY d1 d2 w1 t1 t2 t3 @N2.{0} @N4.{0} @Oe @OG.{0} @Pg.{0} @Od) ?_;refine aG ?_;exact av.of_eq rfl
 ·refine f164.aE af rfl rfl ?_;unfold wY zz;have d1:decide ((4:Int)<1)=false:=rfl;have d2:decide ((6:Int)<4)=false:=rfl;have w1:IntKind.i64.wrap (4 - 1)=3:=rfl;have t1:Int.toNat 3=3:=rfl;have t2:(0:Int)<=3:=by decide
  have t3:(3:Int)<((6:Nat):Int):=by decide
  refine rf0 (aY d1 d2 w1 t1 t2 t3 @N2.{0} @N4.{0} @Oe @OG.{0} @Pg.{0} @Od) ?_;refine aG ?_;exact av.of_eq rfl
 ·refine f164.aE af rfl rfl ?_;unfold wY zz;have d1:decide ((5:Int)<1)=false:=rfl;have d2:decide ((6:Int)<5)=false:=rfl;have w1:IntKind.i64.wrap (5 - 1)=4:=rfl;have t1:Int.toNat 4=4:=rfl;have t2:(0:Int)<=4:=by decide
  have t3:(4:Int)<((6:Nat):Int):=by decide
  refine rf0 (aY d1 d2 w1 t1 t2 t3 @N2.{0} @N4.{0} @Oe @OG.{0} @Pg.{0} @Od) ?_;refine aG ?_;exact av.of_eq rfl
 ·refine f164.aE af rfl rfl ?_;unfold wY zz;have d1:decide ((6:Int)<1)=false:=rfl;have d2:decide ((6:Int)<6)=false:=rfl;have w1:IntKind.i64.wrap (6 - 1)=5:=rfl;have t1:Int.toNat 5=5:=rfl;have t2:(0:Int)<=5:=by decide
  have t3:(5:Int)<((6:Nat):Int):=by decide
  refine rf0 (aY d1 d2 w1 t1 t2 t3 @N2.{0} @N4.{0} @Oe @OG.{0} @Pg.{0} @Od) ?_;refine aG ?_;exact av.of_eq rfl
 have hn:eu k= -1:=by simp[eu,h1,h2,h3,h4,h5,h6]
 rw[hn];refine f164.aE af rfl rfl ?_;unfold wY zz;cases d1:decide (k<1) with
 |true=>
  refine rf0 d1 ?_;refine aG ?_;exact av.refl _
 |false=>
  have d2:decide (6<k)=true:=N3 (by have:=Ox d1;omega);refine rf0 (cj2 d1 d2) ?_;refine aG ?_;exact av.refl _
theorem Ah(x:Ky)(m:Int)(hl:x.ns.length<=1000000):aI Tryz.prog 165 [dp x,.int .i64 m] (.bool (mA x.ns&&decide (((x.ns.length:Nat):Int)<=m))):=by
 refine f165.aE af (by simp[aF,eJ,aO]) rfl ?_;unfold Mg zz;obtain ⟨k,b,o,ns⟩:=x;have hE:dp ⟨k,b,o,ns⟩= .agg [.int .i64 k,.str b,.str o,.sl 1 (ints ns) .any]:=rfl;have len:=dN ns;simp only at hl;rw[hE];refine rf0 @len ?_;refine Wp.dB [1,2] xA6 (λj:Nat=>[(5,.int .i64 (j:Nat))]) (λj=>j<=ns.length/\∀i,i<j->0<=ns.getD i 0) (λj=>ns.length - j) 0 ⟨Og _,λi h=>absurd h (Nat.not_lt_zero _)⟩ ?_ ?_
 ·exact xSb
 rintro j ⟨hj,hall⟩;by_cases hc:j<ns.length
 ·obtain ⟨g1,h2,h3,e1⟩:=ixF (j:=j) (n:=ns.length) aa aa;have hat:=iX ns j .any hc;by_cases hn:ns.getD j 0<0
  ·have d1:=N3 hn;refine rf0 (cj7 g1 h2 h3 @len hat @NZ d1) ?_;refine aG ?_;exact av.of_eq (by simp[sB hc hn])
  ·have d1:=N1 hn;refine rf0 (cj7 g1 h2 h3 @len hat @NZ d1) ?_;refine ⟨j+1,⟨aa,λi hi=>?_⟩,aa,?_⟩
   ·by_cases e:i=j
    ·subst e;omega
    ·exact hall i aa
   exact xSu
 ·have hj2:j=ns.length:=by omega
  subst hj2;have g1:=ixE (ns.length);have hok:=uv hall;refine rf0 (cj2 g1 @len) ?_;refine aG ?_;exact av.of_eq (by simp[hok])
theorem Ai(l:List Pt)(hok:∀p∈l,p.ok)(hl:(cW l).length<=128):aI Tryz.prog 166 [.sl 3 (pts l) .any] (.str (cW l)):=by
 have pu:aF (pts l)=true:=Av.bC (λa=>rfl) _;refine f166.aE af (by simp[aF,aO,aU,pu]) rfl ?_;unfold Mh zz;have c1:=DR l hok hl;refine nA c1 ?_;refine aG ?_;exact av.refl _
theorem Ge(x:Ky)(hx:x.ok):aI Tryz.prog 167 [dp x] (.sl 3 (pts (fc x)) .any):=by
 have pu:aF (pts (fc x))=true:=Av.bC (λa=>rfl) _;refine f167.aE af (by simp[aF,eJ]) (by simp[aO,aU,pu]) ?_;unfold Mi zz;have hk:=hx.k;have hl:=ux hk;obtain ⟨b1,b2,b3⟩:=gD hx.b;have hn:=hx.n;have hn3:=sA x.k;rw[sC];unfold lB;clear b3 hx pu;obtain ⟨k,b,o,ns⟩:=x;simp only at*
 have hE:dp ⟨k,b,o,ns⟩= .agg [.int .i64 k,.str b,.str o,.sl 1 (ints ns) .any]:=rfl;have len:=dN ns;rw[hE];have w1:IntKind.i64.wrap (k - 1)=k - 1:=IntWalk.i64_in _ aa;have k0:(0:Int)<=k:=by omega
 have k1:(0:Int)<=k - 1:=by omega
 have k2:k - 1<=k:=by omega
 have k3:k<=((6:Nat):Int):=hk.2;have k4:((k.toNat:Nat):Int)=k:=Int.toNat_of_nonneg k0;have db:decide (b=[])=false:=N1 (by rintro rfl;simp at b1);cases dq:decide (o=[]) with
 |true=>
  have ho:=Oh dq;subst ho;refine rf0 (aY w1 k0 k1 k2 k3 k4 hl @O8.{0,0} @Ol.{0,0} @N2.{0} @N4.{0} (cj9 @Od @Oe db dq @OK @OB @OW @Oc.{0} @Ow)) ?_;obtain ⟨H,hH⟩:∃H,H=[txt [dt k],txt b]:=⟨_,rfl⟩;have hP:pts H=[.agg [.int .i64 1,.int .i64 0,.str [dt k]],.agg [.int .i64 1,.int .i64 0,.str b]]:=by rw[hH];rfl
  have hHl:H.length<=3:=by rw[hH];simp
  have hd:(txt [dt k]::txt b::(if ([]:List UInt8)=[] then [] else [txt []]))=H:=by rw[hH];simp
  rw[hd];refine Wp.le (s':=⟨tm [(1,.ptr 0 0),(3,.sl 3 (pts H) (.own 0)),(4,.int .i64 0)],⟨upd aA 0 (some (.cells [.int .i64 k,.str b,.str [],.sl 1 (ints ns) .any])),1,[0],1⟩⟩) (aL.of (aS ?_) (λa u hu=>⟨u,hu,cy.refl _⟩) (λa ha=>ha) (NY _) (NY _)) ?_
  ·rw[hP];exact xSb
  clear hP hd;refine Wp.gB [1] xA7 (λ(j:Nat) tk=>[(3,.sl 3 (pts (H++(ns.take j).map (bU k))) (.own tk)),(4,.int .i64 (j:Nat))]) (λj=>j<=ns.length) (λj=>ns.length - j) 0 0 (Og _) rfl ?_ ?_
  ·exact bY (cj3 @Ph.{0} @OE.{0,0} @ON.{0})
  rintro j tk n m hn2 hj;have hn2:1<=n:=hn2;have n0:¬(0=n):=by omega
  have n1:¬(n=0):=by omega
  have lp:(pts (H++(ns.take j).map (bU k))).length=H.length+j:=by rw[cC];simp;omega
  by_cases hc:j<ns.length
  ·obtain ⟨g1,h2,h3,e1⟩:=ixF (j:=j) (n:=ns.length) aa aa;have hat:=iX ns j .any hc;have hsn:=jJ k ns j hc;have e6:(H.length+j+1)*32<=140737488355328:=by omega
   have e7:H.length+j+1<4611686018427387904:=by omega
   cases d2:decide (k=2) with
   |true=>
    have hnp:bU k (ns.getD j 0)=⟨3,ns.getD j 0,[]⟩:=by unfold bU;rw[Of (Oh d2)]
    refine rf0 (aY g1 h2 h3 @len hat n0 n1 d2 @NZ lp e6 (cj7 e7 @N2.{0} @N4.{0} @Od @Oc.{0} @OW @Oe)) ?_;refine ⟨j+1,m,n+1,m+1,by show 1<=n+1;omega,aa,aa,?_⟩;refine aL.of (aS ?_) (λa u hu=>?_) (λa ha=>ha) (NY _) (NY _)
    ·simp only[aR,go_sem,reduceIte,Nat.reduceEqDiff,Nat.reduceAdd,bx,e1];and_intros<;>first|exact trivial|exact av.refl _|exact av.any _|exact av.of_eq (by rw[hsn,<-Pn,fp,hnp];rfl)|(refine av.int ?_;omega)
    ·refine ⟨u,?_,cy.refl _⟩;simp only[upd,aA] at hu |-;by_cases a1:a=n
     ·subst a1;simp[n1] at hu
     ·simpa [a1] using hu
   |false=>
    have hnp:bU k (ns.getD j 0)=⟨2,ns.getD j 0,[]⟩:=by unfold bU;rw[N7 (Ox d2)]
    refine rf0 (aY g1 h2 h3 @len hat n0 n1 d2 @NZ lp e6 (cj7 e7 @N2.{0} @N4.{0} @Od @Oc.{0} @OW @Oe)) ?_;refine ⟨j+1,m,n+1,m+1,by show 1<=n+1;omega,aa,aa,?_⟩;refine aL.of (aS ?_) (λa u hu=>?_) (λa ha=>ha) (NY _) (NY _)
    ·simp only[aR,go_sem,reduceIte,Nat.reduceEqDiff,Nat.reduceAdd,bx,e1];and_intros<;>first|exact trivial|exact av.refl _|exact av.any _|exact av.of_eq (by rw[hsn,<-Pn,fp,hnp];rfl)|(refine av.int ?_;omega)
    ·refine ⟨u,?_,cy.refl _⟩;simp only[upd,aA] at hu |-;by_cases a1:a=n
     ·subst a1;simp[n1] at hu
     ·simpa [a1] using hu
  ·have hj2:j=ns.length:=by omega
   subst hj2;have g1:=ixE (ns.length);rw[Ot];refine rf0 (cj4 g1 @len n0 n1) ?_;refine aG ?_;exact av.cap
 |false=>
  refine rf0 (aY w1 k0 k1 k2 k3 k4 hl @O8.{0,0} @Ol.{0,0} @N2.{0} @N4.{0} (cj9 @Od @Oe db dq @OK @OB @OW @Oc.{0} @Ow)) ?_;obtain ⟨H,hH⟩:∃H,H=[txt [dt k],txt b,txt o]:=⟨_,rfl⟩;have hP:pts H=[.agg [.int .i64 1,.int .i64 0,.str [dt k]],.agg [.int .i64 1,.int .i64 0,.str b],.agg [.int .i64 1,.int .i64 0,.str o]]:=by rw[hH];rfl
  have hHl:H.length<=3:=by rw[hH];simp
  have hd:(txt [dt k]::txt b::(if o=[] then [] else [txt o]))=H:=by rw[hH];simp[Ox dq]
  rw[hd];refine Wp.le (s':=⟨tm [(1,.ptr 0 0),(3,.sl 3 (pts H) (.own 1)),(4,.int .i64 0)],⟨upd aA 0 (some (.cells [.int .i64 k,.str b,.str o,.sl 1 (ints ns) .any])),1,[1],2⟩⟩) (aL.of (aS ?_) (λa u hu=>⟨u,hu,cy.refl _⟩) (λa ha=>ha) (NY _) (NY _)) ?_
  ·rw[hP];exact xSb
  clear hP hd;refine Wp.gB [1] xA7 (λ(j:Nat) tk=>[(3,.sl 3 (pts (H++(ns.take j).map (bU k))) (.own tk)),(4,.int .i64 (j:Nat))]) (λj=>j<=ns.length) (λj=>ns.length - j) 0 1 (Og _) rfl ?_ ?_
  ·exact bY (cj3 @Ph.{0} @OE.{0,0} @ON.{0})
  rintro j tk n m hn2 hj;have hn2:1<=n:=hn2;have n0:¬(0=n):=by omega
  have n1:¬(n=0):=by omega
  have lp:(pts (H++(ns.take j).map (bU k))).length=H.length+j:=by rw[cC];simp;omega
  by_cases hc:j<ns.length
  ·obtain ⟨g1,h2,h3,e1⟩:=ixF (j:=j) (n:=ns.length) aa aa;have hat:=iX ns j .any hc;have hsn:=jJ k ns j hc;have e6:(H.length+j+1)*32<=140737488355328:=by omega
   have e7:H.length+j+1<4611686018427387904:=by omega
   cases d2:decide (k=2) with
   |true=>
    have hnp:bU k (ns.getD j 0)=⟨3,ns.getD j 0,[]⟩:=by unfold bU;rw[Of (Oh d2)]
    refine rf0 (aY g1 h2 h3 @len hat n0 n1 d2 @NZ lp e6 (cj7 e7 @N2.{0} @N4.{0} @Od @Oc.{0} @OW @Oe)) ?_;refine ⟨j+1,m,n+1,m+1,by show 1<=n+1;omega,aa,aa,?_⟩;refine aL.of (aS ?_) (λa u hu=>?_) (λa ha=>ha) (NY _) (NY _)
    ·simp only[aR,go_sem,reduceIte,Nat.reduceEqDiff,Nat.reduceAdd,bx,e1];and_intros<;>first|exact trivial|exact av.refl _|exact av.any _|exact av.of_eq (by rw[hsn,<-Pn,fp,hnp];rfl)|(refine av.int ?_;omega)
    ·refine ⟨u,?_,cy.refl _⟩;simp only[upd,aA] at hu |-;by_cases a1:a=n
     ·subst a1;simp[n1] at hu
     ·simpa [a1] using hu
   |false=>
    have hnp:bU k (ns.getD j 0)=⟨2,ns.getD j 0,[]⟩:=by unfold bU;rw[N7 (Ox d2)]
    refine rf0 (aY g1 h2 h3 @len hat n0 n1 d2 @NZ lp e6 (cj7 e7 @N2.{0} @N4.{0} @Od @Oc.{0} @OW @Oe)) ?_;refine ⟨j+1,m,n+1,m+1,by show 1<=n+1;omega,aa,aa,?_⟩;refine aL.of (aS ?_) (λa u hu=>?_) (λa ha=>ha) (NY _) (NY _)
    ·simp only[aR,go_sem,reduceIte,Nat.reduceEqDiff,Nat.reduceAdd,bx,e1];and_intros<;>first|exact trivial|exact av.refl _|exact av.any _|exact av.of_eq (by rw[hsn,<-Pn,fp,hnp];rfl)|(refine av.int ?_;omega)
    ·refine ⟨u,?_,cy.refl _⟩;simp only[upd,aA] at hu |-;by_cases a1:a=n
     ·subst a1;simp[n1] at hu
     ·simpa [a1] using hu
  ·have hj2:j=ns.length:=by omega
   subst hj2;have g1:=ixE (ns.length);rw[Ot];refine rf0 (cj4 g1 @len n0 n1) ?_;refine aG ?_;exact av.cap
theorem Gf(x:Ky)(hf:x.fit):aI Tryz.prog 116 [dp x] (.tup [.str (dC x),.int .i64 (gx x)]):=by
 refine f116.aE af (by simp[aF,eJ]) rfl ?_;unfold LV zz;have c1:=Ah x (eu x.k) hf.1;have c2:=It x.k;have c3:=uq x.b;have c4:=um x.o;have len:=dN x.ns;have hE:dp x= .agg [.int .i64 x.k,.str x.b,.str x.o,.sl 1 (ints x.ns) .any]:=rfl;have hok:=λh=>Ge x (p7 hf h);have hok2:=λh=>Ai (fc x) (jl (p7 hf h)) (by have:=o6 (p7 hf h);unfold cS at this;omega);have hS:dC x=if gx x=0 then cS x else []:=rfl
 rw[hE] at c1 hok |-;cases ha:iO x with
 |false=>
  have hk:gx x=2:=by unfold gx;rw[ha];rfl
  rw[hS,hk,N7 al];cases d0:decide (eu x.k<0) with
  |true=>
   refine rn1 (cj2 @len d0) c2 ?_;refine aG ?_;exact av.refl _
  |false=>
  cases hn:(mA x.ns&&decide (((x.ns.length:Nat):Int)<=eu x.k)) with
  |false=>
   rw[hn] at c1;refine rn2 (cj3 @len d0 @OK) c2 c1 ?_;refine aG ?_;exact av.refl _
  |true=>
   rw[hn] at c1;cases d1:decide (((x.ns.length:Nat):Int)=eu x.k) with
   |false=>
    refine rn2 (cj5 @len d0 d1 @OB @OK) c2 c1 ?_;refine aG ?_;exact av.refl _
   |true=>
    simp only[Ob] at hn;unfold iO at ha;rw[hn.1,d1] at ha;simp only[O7,OP,QQ,Bool.not_eq_false'] at ha;obtain ⟨d2,d3⟩:=ha;refine rn2 (cj7 @len d0 d1 d2 d3 @OB @OK) c2 c1 ?_;refine aG ?_;exact av.refl _
 |true=>
  have ha':=ha;unfold iO at ha';simp only[Ob,OS,QR] at ha';obtain ⟨⟨a1,d1⟩,a3⟩:=ha';have a4:=Oh d1;have d0:decide (eu x.k<0)=false:=N1 aa;rw[a1,N3 (show ((x.ns.length:Nat):Int)<=eu x.k by omega)] at c1;have hk:gx x=if bT x.b=0 then (if x.k=1 then 0 else bX x.o) else 15:=by unfold gx;rw[ha];rfl
  have e0:decide ((0:Int)=0)=true:=rfl;have e15:decide ((15:Int)=0)=false:=rfl;cases d2:decide (x.k=1) with
  |true=>
   have d3:decide (x.o=[])=true:=by
    rcases a3 with h|h
    ·rw[d2] at h;cases h
    ·exact h
   rw[Of (Oh d2)] at hk;rcases oh x.b with hb|hb
   ·rw[hb] at c3;rw[hb,Of rfl] at hk;have c5:=hok hk;have c6:=hok2 hk;rw[hS,hk,Of rfl];refine rn8 (cj8 @len d0 d1 d2 d3 e0 @OB @O7) c2 c1 c3 c5 c6 c6 c6 c6 ?_;refine aG ?_;exact av.refl _
   ·rw[hb] at c3;rw[hb,N7 al] at hk;rw[hS,hk,N7 al];refine rn3 (cj9 @len d0 d1 d2 d3 e15 @OB @OK @O7) c2 c1 c3 ?_;refine aG ?_;exact av.refl _
  |false=>
   rw[N7 (Ox d2)] at hk;rcases oh x.b with hb|hb
   ·rw[hb] at c3;rw[hb,Of rfl] at hk;rcases sD x.o with ho|ho
    ·rw[ho] at c4 hk;have c5:=hok hk;have c6:=hok2 hk;rw[hS,hk,Of rfl];refine rn8 (cj8 @len d0 d1 d2 e0 @OB @OK @O7) c2 c1 c3 c4 c5 c6 c6 c6 ?_;refine aG ?_;exact av.refl _
    ·rw[ho] at c4 hk;rw[hS,hk,N7 al];refine rn4 (cj9 @len d0 d1 d2 e0 e15 @OB @OK @O7) c2 c1 c3 c4 ?_;refine aG ?_;exact av.refl _
   ·rw[hb] at c3;rw[hb,N7 al] at hk;rw[hS,hk,N7 al];refine rn3 (cj8 @len d0 d1 d2 e15 @OB @OK @O7) c2 c1 c3 ?_;refine aG ?_;exact av.refl _
def fq(sz re im:Int)(g u:Bool):AV:= .agg [.int .i64 sz,.int .i64 re,.int .i64 im,.bool g,.bool u]
def cX(sz re im:Int)(g:Bool):Bool:=decide (0<=sz)&&decide (sz<=2560)&&(gL re&&gL im)&&(!g||(decide (sz=0)&&(decide (re=0)&&decide (im=0))))
theorem lC(sz re im:Int)(g u:Bool):aI Tryz.prog 108 [fq sz re im g u] (.bool (cX sz re im g)):=by
 refine f108.aE af rfl rfl ?_;unfold LO fq zz;have ht:=FW re im;cases d1:decide (0<=sz) with
 |false=>
  refine rf0 d1 ?_;refine aG ?_;exact av.of_eq (by simp[cX,d1])
 |true=>
 cases d2:decide (sz<=2560) with
 |false=>
  refine rf0 (cj2 d1 d2) ?_;refine aG ?_;exact av.of_eq (by simp[cX,d1,d2])
 |true=>
 cases d3:(gL re&&gL im) with
 |false=>
  rw[d3] at ht;refine rf1 (cj2 d1 d2) ht ?_;refine aG ?_;exact av.of_eq (by simp only[cX,d1,d2,d3];simp)
 |true=>
 rw[d3] at ht;cases g with
 |false=>
  refine rf1 (cj2 d1 d2) ht ?_;refine aG ?_;exact av.of_eq (by simp only[cX,d1,d2,d3];simp)
 |true=>
 cases d4:decide (sz=0) with
 |false=>
  refine rf1 (cj3 d1 d2 d4) ht ?_;refine aG ?_;exact av.of_eq (by simp only[cX,d1,d2,d3,d4];simp)
 |true=>
  refine rf1 (cj3 d1 d2 d4) ht ?_;refine aG ?_;exact av.of_eq (by simp only[cX,d1,d2,d3,d4];simp)
def flN(g u:Bool):Nat:=(if g then 1 else 0)+(if u then 2 else 0)
def eP(s r i:Nat)(g u:Bool):List UInt8:=be 1 (flN g u)++be 2 s++be 4 r++be 4 i
theorem gE(s r i:Nat)(g u:Bool):(eP s r i g u).length=11:=by simp[eP,aW]
theorem BR(s r i:Nat)(hs:s<65536)(hr:r<4294967296)(hi:i<4294967296)(g u:Bool):aI Tryz.prog 109 [fq s r i g u] (.str (eP s r i g u)):=by
 refine f109.aE af rfl rfl ?_;unfold LP fq zz;have c1:=kq (flN g u) (by cases g<;>cases u<;>decide) 1 aa;have c2:=kq s aa 2 aa;have c3:=kq r aa 4 aa;have c4:=kq i aa 4 aa;have l1:=aW 1 (flN g u);have l2:=aW 2 s;have l3:=aW 4 r;have l4:=aW 4 i;unfold eP;generalize be 2 s=b2 at*
 generalize be 4 r=b3 at*
 generalize be 4 i=b4 at*
 have w1:b2.length<100:=by omega
 cases g with
 |false=>
  cases u with
  |false=>
   change aI _ _ [.int .i64 0,_] _ at c1;simp only[flN,Oa,N5,Nat.add_zero] at*
   generalize be 1 0=b1 at*
   refine rn4 (cj5 l1 l2 l3 l4 @N6.{0}) c1 c2 c3 c4 ?_;refine aG ?_;exact av.refl _
  |true=>
   change aI _ _ [.int .i64 2,_] _ at c1;simp only[flN,Oa,N5,N9,Od] at*
   generalize be 1 2=b1 at*
   refine rn4 (cj5 l1 l2 l3 l4 @N6.{0}) c1 c2 c3 c4 ?_;refine aG ?_;exact av.refl _
 |true=>
  cases u with
  |false=>
   change aI _ _ [.int .i64 1,_] _ at c1;simp only[flN,Oa,N5,N9,Nat.add_zero] at*
   generalize be 1 1=b1 at*
   refine rn4 (cj5 l1 l2 l3 l4 @N6.{0}) c1 c2 c3 c4 ?_;refine aG ?_;exact av.refl _
  |true=>
   change aI _ _ [.int .i64 3,_] _ at c1;simp only[flN,N9,Nat.reduceAdd] at*
   generalize be 1 3=b1 at*
   refine rn4 (cj5 l1 l2 l3 l4 @N6.{0}) c1 c2 c3 c4 ?_;refine aG ?_;exact av.refl _
def cZ(sz re im:Int)(g u:Bool):List UInt8:=if cX sz re im g=true then eP sz.toNat re.toNat im.toNat g u else []
def nL(sz re im:Int)(g:Bool):Int:=if cX sz re im g=true then 0 else 2
theorem kD{sz re im:Int}{g:Bool}(h:cX sz re im g=true):∃s r i:Nat,sz=s/\re=r/\im=i/\s<=2560/\r<1048573/\i<1048573:=by
 simp[cX,gL] at h;exact ⟨sz.toNat,re.toNat,im.toNat,aa,aa,aa,aa,aa,aa⟩
theorem Gg(sz re im:Int)(g u:Bool):aI Tryz.prog 89 [fq sz re im g u] (.tup [.str (cZ sz re im g u),.int .i64 (nL sz re im g)]):=by
 refine f89.aE af rfl rfl ?_;unfold c89 zz;have h1:=lC sz re im g u;unfold cZ nL;cases hr:cX sz re im g with
 |false=>
  rw[hr] at h1;unfold fq at*
  refine nA h1 ?_;refine aG ?_;exact av.refl _
 |true=>
  rw[hr] at h1;obtain ⟨s,r,i,rfl,rfl,rfl,hs,hr',hi⟩:=kD hr;have h2:=BR s r i aa aa aa g u;unfold fq at*
  simp only[Int.toNat_natCast];generalize eP s r i g u=b at*
  refine NG h1 h2 ?_;refine aG ?_;exact av.refl _
theorem qZ(sz re im:Int)(g u:Bool):aI Tryz.prog 40 [fq sz re im g u] (.tup [.str (cZ sz re im g u),.int .i64 (nL sz re im g)]):=by
 have h1:=FY re im;cases hr:cX sz re im g with
 |false=>
  unfold cZ nL;simp only[hr,Oa,N5];refine f40.aE af rfl rfl ?_;unfold c40 fq zz;cases d1:decide (sz<0) with
  |true=>
   refine rf0 d1 ?_;refine aG ?_;exact av.refl _
  |false=>
  cases d2:decide (2560<sz) with
  |true=>
   refine rf0 (cj2 d1 d2) ?_;refine aG ?_;exact av.refl _
  |false=>
  have o1:=Ox d1;have o2:=Ox d2;have p1:decide (0<=sz)=true:=N3 aa;have p2:decide (sz<=2560)=true:=N3 aa;simp only[cX,p1,p2,OP] at hr;cases d3:(gL re&&gL im) with
  |false=>
   rw[d3] at h1;simp only[Oa,N5] at h1;refine rf1 (cj2 d1 d2) h1 ?_;refine aG ?_;exact av.refl _
  |true=>
  rw[d3] at h1 hr;simp only[N9,OP] at h1 hr;cases g with
  |false=>cases hr
  |true=>
  simp only[OB,Qt] at hr;cases d4:decide (0<sz) with
  |true=>
   refine rf1 (cj3 d1 d2 d4) h1 ?_;refine aG ?_;exact av.refl _
  |false=>
   have o4:=Ox d4;have p4:decide (sz=0)=true:=N3 aa;rw[p4,OP] at hr;refine rf1 (cj4 d1 d2 d4 hr) h1 ?_;refine aG ?_;exact av.refl _
 |true=>
  unfold cZ nL;simp only[hr,N9];obtain ⟨s,r,i,rfl,rfl,rfl,hs,hr',hi⟩:=kD hr;simp only[Int.toNat_natCast];have d1:decide ((s:Int)<0)=false:=N1 aa;have d2:decide (2560<(s:Int))=false:=N1 aa;have d3:(gL r&&gL i)=true:=by simp only[cX,Ob] at hr;simpa using hr.1.2
  rw[d3] at h1;simp only[N9] at h1;have c1:=zS (flN g u) (by cases g<;>cases u<;>decide) [] af;have c2:=vp s aa ([]++be 1 (flN g u)) (by simp[aW]);have c3:=qY r aa ([]++be 1 (flN g u)++be 2 s) (by simp[aW]);have c4:=qY i aa ([]++be 1 (flN g u)++be 2 s++be 4 r) (by simp[aW]);have lb:=gE s r i g u;refine f40.aE af rfl rfl ?_;unfold c40 fq zz;refine Wp.le (aL.tok _ _) ?_;have o1:orI .i64 0 1=1:=rfl;have o2:orI .i64 0 2=2:=rfl;have o3:orI .i64 1 2=3:=rfl;cases g with
  |false=>
   cases u with
   |false=>
    refine rf1 (cj2 d1 d2) h1 ?_;refine r7 ?_;refine az.dD 0 ae (by simp only[go_sem,reduceIte,Nat.reduceEqDiff,List.map];exact ay.cons (av.dF rfl) (ay.refl _)) ae c1 λt1 m1 _=>?_;refine az.eval xA1 ?_;refine az.dD t1 ae xA4 ae c2 λt2 m2 _=>?_;refine az.eval xA1 ?_;refine az.nil ⟨by simp[bw,aV,apart,aZ],?_⟩;refine r7 ?_;refine az.dD t2 ae xA4 ae c3 λt3 m3 _=>?_;refine az.eval xA1 ?_;refine az.dD t3 ae xA4 ae c4 λt4 m4 _=>?_;refine az.evR (xAd (cj2 @cz @OW)) ?_;refine az.nil ⟨by simp[bw,aV,apart,aZ],?_⟩;refine aG ?_;exact av.refl _
   |true=>
    refine rf1 (cj5 d1 d2 o1 o2 o3) h1 ?_;refine r7 ?_;refine az.dD 0 ae (by simp only[go_sem,reduceIte,Nat.reduceEqDiff,List.map];exact ay.cons (av.dF rfl) (ay.refl _)) ae c1 λt1 m1 _=>?_;refine az.eval xA1 ?_;refine az.dD t1 ae xA4 ae c2 λt2 m2 _=>?_;refine az.eval xA1 ?_;refine az.nil ⟨by simp[bw,aV,apart,aZ],?_⟩;refine r7 ?_;refine az.dD t2 ae xA4 ae c3 λt3 m3 _=>?_;refine az.eval xA1 ?_;refine az.dD t3 ae xA4 ae c4 λt4 m4 _=>?_;refine az.evR (xAd (cj2 @cz @OW)) ?_;refine az.nil ⟨by simp[bw,aV,apart,aZ],?_⟩;refine aG ?_;exact av.refl _
  |true=>
   have e3:s=0/\r=0/\i=0:=by simp[cX] at hr;omega
   obtain ⟨rfl,rfl,rfl⟩:=e3;cases u with
   |false=>
    refine rf1 (cj5 d1 d2 o1 o2 o3) h1 ?_;refine r7 ?_;refine az.dD 0 ae (by simp only[go_sem,reduceIte,Nat.reduceEqDiff,List.map];exact ay.cons (av.dF rfl) (ay.refl _)) ae c1 λt1 m1 _=>?_;refine az.eval xA1 ?_;refine az.dD t1 ae xA4 ae c2 λt2 m2 _=>?_;refine az.eval xA1 ?_;refine az.nil ⟨by simp[bw,aV,apart,aZ],?_⟩;refine r7 ?_;refine az.dD t2 ae xA4 ae c3 λt3 m3 _=>?_;refine az.eval xA1 ?_;refine az.dD t3 ae xA4 ae c4 λt4 m4 _=>?_;refine az.evR (xAd (cj2 @cz @OW)) ?_;refine az.nil ⟨by simp[bw,aV,apart,aZ],?_⟩;refine aG ?_;exact av.refl _
   |true=>
    refine rf1 (cj5 d1 d2 o1 o2 o3) h1 ?_;refine r7 ?_;refine az.dD 0 ae (by simp only[go_sem,reduceIte,Nat.reduceEqDiff,List.map];exact ay.cons (av.dF rfl) (ay.refl _)) ae c1 λt1 m1 _=>?_;refine az.eval xA1 ?_;refine az.dD t1 ae xA4 ae c2 λt2 m2 _=>?_;refine az.eval xA1 ?_;refine az.nil ⟨by simp[bw,aV,apart,aZ],?_⟩;refine r7 ?_;refine az.dD t2 ae xA4 ae c3 λt3 m3 _=>?_;refine az.eval xA1 ?_;refine az.dD t3 ae xA4 ae c4 λt4 m4 _=>?_;refine az.evR (xAd (cj2 @cz @OW)) ?_;refine az.nil ⟨by simp[bw,aV,apart,aZ],?_⟩;refine aG ?_;exact av.refl _
structure Vs where
 o:List UInt8
 id:Int
 sz:Int
 re:Int
 im:Int
 g:Bool
 u:Bool
 b:List UInt8
def cU(v:Vs):AV:= .agg [.str v.o,.int .i64 v.id,.int .i64 v.sz,.int .i64 v.re,.int .i64 v.im,.bool v.g,.bool v.u,.str v.b]
theorem Aj(v:Vs):aO (cU v)=true:=rfl
def Vs.rh(v:Vs):Bool:=cX v.sz v.re v.im v.g
def Vs.tag(v:Vs):Bool:=decide ((((Fl.iT v.b).1:Nat):Int)=v.re)&&decide ((((Fl.iT v.b).2:Nat):Int)=v.im)
def Vs.fit(v:Vs):Bool:=v.rh&&decide ((v.b.length:Int)=v.sz)&&(v.g||v.tag)
theorem DV(v:Vs):aI Tryz.prog 101 [cU v] (.bool v.fit):=by
 refine f101.aE af rfl rfl ?_;unfold LK zz;have h1:=qZ v.sz v.re v.im v.g v.u;obtain ⟨o,id,sz,re,im,g,u,b⟩:=v;unfold Vs.fit Vs.rh Vs.tag cU;simp only at h1 |-;unfold cZ nL fq at h1;cases hr:cX sz re im g with
 |false=>
  rw[hr] at h1;simp only[Oa,N5] at h1;refine nA h1 ?_;refine aG ?_;exact av.refl _
 |true=>
 rw[hr] at h1;simp only[N9] at h1;generalize eP sz.toNat re.toNat im.toNat g u=hb at h1;cases d1:decide ((b.length:Int)=sz) with
 |false=>
  refine rf1 d1 h1 ?_;refine aG ?_;exact av.refl _
 |true=>
 cases g with
 |true=>
  refine rf1 d1 h1 ?_;refine r7 ?_;refine aG ?_;exact av.refl _
 |false=>
  have hl:b.length<=2560:=by
   have:=Oh d1;obtain ⟨s,r,i,rfl,rfl,rfl,hs,hr',hi⟩:=kD hr;omega
  have h2:=Fl.NJ b aa;refine rf1 d1 h1 ?_;refine Dp h2 ?_;refine aG ?_;exact av.of_eq af
def Vs.okV(v:Vs):Bool:=decide (bX v.o=0)&&decide (0<=v.id)&&decide (v.id<=1152921504606846976)&&v.fit
def Vs.next(a v:Vs):Bool:=Op.bytesLess a.o v.o||(decide (a.o=v.o)&&decide (v.id<a.id))
theorem vq{s:List UInt8}(h:bX s=0):s.length<=32:=by
 unfold bX at h;split at h
 ·rename_i h';exact h'.2.1
 ·cases h
set_option maxHeartbeats 4000000 in
theorem Ak(v a:Vs)(f:Bool)(hla:f=true\/Ls a.o):aI Tryz.prog 103 [cU v,cU a,.bool f] (.bool (v.okV&&(f||a.next v))):=by
 refine f103.aE af rfl rfl ?_;unfold LM zz;have h0:=um v.o;have h1:=lC v.sz v.re v.im v.g v.u;obtain ⟨ao,aid,asz,are,aim,ag,au,ab⟩:=a;obtain ⟨o,id,sz,re,im,g,u,b⟩:=v;unfold Vs.okV Vs.next Vs.fit Vs.rh Vs.tag cU;simp only at h0 h1 hla |-;unfold fq at h1;cases d0:decide (bX o=0) with
 |false=>
  generalize bX o=z at*
  refine rn1 d0 h0 ?_;refine aG ?_;exact av.refl _
 |true=>
 have hz:=Oh d0;rw[hz] at h0;have hlo:Ls o:=by have:=vq hz;unfold Ls;omega
 cases d1:decide (0<=id) with
 |false=>
  have e1:decide (id<0)=true:=N3 (by have:=Ox d1;omega);refine rn1 e1 h0 ?_;refine aG ?_;exact av.refl _
 |true=>
 have e1:decide (id<0)=false:=N1 (by have:=Oh d1;omega);cases d2:decide (id<=1152921504606846976) with
 |false=>
  have e2:decide (1152921504606846976<id)=true:=N3 (by have:=Ox d2;omega);refine rn1 (cj2 e1 e2) h0 ?_;refine aG ?_;exact av.refl _
 |true=>
 have e2:decide (1152921504606846976<id)=false:=N1 (by have:=Oh d2;omega);cases hr:cX sz re im g with
 |false=>
  rw[hr] at h1;refine rn2 (cj2 e1 e2) h0 h1 ?_;refine aG ?_;exact av.refl _
 |true=>
 rw[hr] at h1;cases d3:decide ((b.length:Int)=sz) with
 |false=>
  refine rn2 (cj3 e1 e2 d3) h0 h1 ?_;refine aG ?_;exact av.refl _
 |true=>
 have hl:b.length<=2560:=by
  have:=Oh d3;obtain ⟨s,r,i,rfl,rfl,rfl,hs,hr',hi⟩:=kD hr;omega
 have h2:=Na b aa;have key:∀(S:St)(h:H),True:=λ_ _=>trivial;cases g with
 |true=>
  cases f with
  |true=>
   refine rn2 (cj3 e1 e2 d3) h0 h1 ?_;refine aG ?_;exact av.refl _
  |false=>
   have h3:=fB ao o (hla.resolve_left af) hlo;cases h4:Op.bytesLess ao o with
   |true=>
    rw[h4] at h3;refine rn3 (cj3 e1 e2 d3) h0 h1 h3 ?_;refine aG ?_;exact av.refl _
   |false=>
    rw[h4] at h3;cases h5:decide (ao=o) with
    |false=>
     refine rn3 (cj4 e1 e2 d3 h5) h0 h1 h3 ?_;refine aG ?_;exact av.refl _
    |true=>
     refine rn3 (cj4 e1 e2 d3 h5) h0 h1 h3 ?_;refine aG ?_;exact av.of_eq af
 |false=>
 cases h6:(decide ((((Fl.iT b).1:Nat):Int)=re)&&decide ((((Fl.iT b).2:Nat):Int)=im)) with
 |false=>
  refine rn3 (cj4 e1 e2 d3 h6) h0 h1 h2 ?_;refine aG ?_;exact av.refl _
 |true=>
  cases f with
  |true=>
   refine rn3 (cj4 e1 e2 d3 h6) h0 h1 h2 ?_;refine aG ?_;exact av.refl _
  |false=>
   have h3:=fB ao o (hla.resolve_left af) hlo;cases h4:Op.bytesLess ao o with
   |true=>
    rw[h4] at h3;refine rn4 (cj4 e1 e2 d3 h6) h0 h1 h2 h3 ?_;refine aG ?_;exact av.refl _
   |false=>
    rw[h4] at h3;cases h5:decide (ao=o) with
    |false=>
     refine rn4 (cj5 e1 e2 d3 h5 h6) h0 h1 h2 h3 ?_;refine aG ?_;exact av.refl _
    |true=>
     refine rn4 (cj5 e1 e2 d3 h5 h6) h0 h1 h2 h3 ?_;refine aG ?_;exact av.of_eq af
instance:Inhabited Vs:=⟨⟨[],0,0,0,0,false,false,[]⟩⟩
def vss(l:List Vs):List AV:=l.map cU
theorem eK(l:List Vs):(vss l).length=l.length:=O2 _
theorem iC(l:List Vs)(j:Nat)(d:AV)(h:j<l.length):(vss l).getD j d=cU (l.getD j default):=by
 simp[vss,Ou,N0 h]
theorem o7(l:List Vs):aF (vss l)=true:=Av.bC (λa=>rfl) l
def same(l:List Vs)(j:Nat):Bool:=decide (0<j)&&decide ((l.getD (j - 1) default).o=(l.getD j default).o)
def gr(l:List Vs):Nat->Nat
 |0=>0
 |j+1=>(if same l j=true then gr l j else 0)+(if (l.getD j default).u=true then 1 else 0)
def jx(l:List Vs)(j:Nat):Bool:=(l.getD j default).okV&&(decide (j=0)||(l.getD (j - 1) default).next (l.getD j default))&&decide (gr l (j+1)<=1)
def cQ(l:List Vs):Bool:=(List.range l.length).all (jx l)
theorem fZ{l:List Vs}{j:Nat}(hj:j<l.length)(h:jx l j=false):cQ l=false:=by
 cases e:cQ l with
 |false=>rfl
 |true=>
  unfold cQ at e;rw[OH] at e;rw[e j (O1.2 hj)] at h;cases h
theorem xB{l:List Vs}(h:∀i,i<l.length->jx l i=true):cQ l=true:=by
 unfold cQ;rw[OH];intro i hi;exact h i (O1.1 hi)
theorem bZ(a:List UInt8):Op.bytesLess a a=false:=by
 induction a with
 |nil=>rfl
 |cons x a ih=>simp[Op.bytesLess,ih]
set_option maxHeartbeats 8000000 in
theorem Gh(l:List Vs)(hl:l.length<=1000000):aI Tryz.prog 51 [.sl 8 (vss l) .any] (.bool (cQ l)):=by
 refine f51.aE af (by simp[aF,aO,aU,o7]) rfl ?_;unfold c51 zz;have len:=eK l;refine rn0 @len ?_;refine Wp.r5 [0,7,8] (by simp only[go_sem,reduceIte,Nat.reduceEqDiff,List.map,len];exact rfl) (λj:Nat=>[(3,.int .i64 (gr l j:Nat)),(9,.int .i64 j)]) (λj=>j<=l.length/\∀i,i<j->jx l i=true) (λj=>l.length - j) 0 ⟨Og _,λi h=>by omega⟩ ?_ ?_
 ·exact bY @gr.eq_1
 rintro j n hn ⟨hj,hok⟩;by_cases hc:j<l.length
 ·have h2:(0:Int)<=(j:Int):=by omega
  have q1:decide ((j:Int)<(l.length:Int))=true:=N3 aa;have h3:(j:Int)<(l.length:Int):=by omega
  have e1:IntKind.i64.wrap ((j:Int)+1)=((j+1:Nat):Int):=by rw[IntWalk.i64_in _ aa];omega
  have gj:=λd=>iC l j d hc;have gp:=λd (h:0<j)=>iC l (j - 1) d aa;have hob:=xm (l.getD j default).o;have hm:=DV (l.getD j default);generalize hv:l.getD j default=v at*
  cases b0:decide (bX v.o=0) with
  |false=>
   have hb:cQ l=false:=fZ hc (by simp only[jx,hv,Vs.okV,b0,O6]);generalize bX v.o=z at*
   refine rn1 (cj9 @q1 h2 h3 e1 @NZ gj @cU.eq_1 @len b0) hob ?_;refine aG ?_;rw[hb];exact av.refl _
  |true=>
  have hz:=Oh b0;rw[hz] at hob;cases b1:decide (0<=v.id) with
  |false=>
   have hb:cQ l=false:=fZ hc (by simp only[jx,hv,Vs.okV,b1,O6,PS]);have d1:decide (v.id<0)=true:=N3 (by have:=Ox b1;omega);refine rn1 (cj9 @q1 h2 h3 e1 @NZ gj @cU.eq_1 @len d1) hob ?_;refine aG ?_;rw[hb];exact av.refl _
  |true=>
  have d1:decide (v.id<0)=false:=N1 (by have:=Oh b1;omega);cases b2:decide (v.id<=1152921504606846976) with
  |false=>
   have hb:cQ l=false:=fZ hc (by simp only[jx,hv,Vs.okV,b2,O6,PS]);have d2:decide (1152921504606846976<v.id)=true:=N3 (by have:=Ox b2;omega);refine rn1 (gv @q1 h2 h3 e1 @NZ gj @cU.eq_1 @len d1 d2) hob ?_;refine aG ?_;rw[hb];exact av.refl _
  |true=>
  have d2:decide (1152921504606846976<v.id)=false:=N1 (by have:=Oh b2;omega);cases b3:v.fit with
  |false=>
   have hb:cQ l=false:=fZ hc (by simp only[jx,hv,Vs.okV,b3,O6,PS]);rw[b3] at hm;unfold cU at hm;refine rn2 (gv @q1 h2 h3 e1 @NZ gj @cU.eq_1 @len d1 d2) hob hm ?_;refine aG ?_;rw[hb];exact av.refl _
  |true=>
  rw[b3] at hm;unfold cU at hm;have hov:v.okV=true:=by simp only[Vs.okV,b0,b1,b2,b3,O7]
  have next:∀(k:Nat),jx l j=true->∀i,i<j+1->jx l i=true:=λ_ h i hi=>by
   rcases Qd.1 hi with h'|rfl
   ·exact hok i h'
   ·exact h
  have w1:IntKind.i64.wrap (0+1)=1:=rfl;by_cases hj0:j=0
  ·subst hj0;have n1:gr l 1=if v.u=true then 1 else 0:=by simp only[gr,same,hv,Nat.lt_irrefl,decide_false,O6,Oa,N5,Od]
   have g0:decide ((0:Int)<((0:Nat):Int))=false:=rfl;have ho:jx l 0=true:=by
    simp only[jx,hv,hov,n1,Ow,Bool.true_or,OP,Od];split<;>rfl
   cases hu:v.u with
   |true=>
    rw[hu,Of rfl] at n1;rw[hu] at hm;refine rn2 (aY @q1 h2 h3 e1 @NZ gj @cU.eq_1 @len d1 d2 hu (cj2 w1 g0)) hob hm ?_;refine ⟨1,n+1,Og _,⟨aa,next 0 ho⟩,aa,?_⟩;rw[n1];refine aL.tmN aa (λj p hp=>by simp[aA] at hp) (by simp only[aR,go_sem,reduceIte,Nat.reduceEqDiff,Nat.reduceAdd];and_intros<;>first|exact trivial|exact av.refl _|exact av.any _|(refine av.int ?_;omega))
   |false=>
    rw[hu,N7 af] at n1;rw[hu] at hm;refine rn2 (aY @q1 h2 h3 e1 @NZ gj @cU.eq_1 @len d1 d2 hu (cj2 w1 g0)) hob hm ?_;refine ⟨1,n+1,Og _,⟨aa,next 0 ho⟩,aa,?_⟩;rw[n1];refine aL.tmN aa (λj p hp=>by simp[aA] at hp) (by simp only[aR,go_sem,reduceIte,Nat.reduceEqDiff,Nat.reduceAdd];and_intros<;>first|exact trivial|exact av.refl _|exact av.any _|(refine av.int ?_;omega))
  have hj1:0<j:=by omega
  have g0:decide ((0:Int)<(j:Int))=true:=N3 aa;have ew:IntKind.i64.wrap ((j:Int) - 1)=((j - 1:Nat):Int):=by rw[IntWalk.i64_in _ aa];omega
  have h6:(0:Int)<=((j - 1:Nat):Int):=PL _;have h7:((j - 1:Nat):Int)<(l.length:Int):=by omega
  have gp:=λd=>gp d hj1;have hq:gr l j<=1:=by
   have:=hok (j - 1) aa;simp only[jx,Ob,Oj] at this;have e:j - 1+1=j:=by omega
   rw[e] at this;exact this.2
  generalize hp:l.getD (j - 1) default=p at*
  have nj:gr l (j+1)=(if same l j=true then gr l j else 0)+(if v.u=true then 1 else 0):=by simp only[gr,hv]
  have hs:same l j=decide (p.o=v.o):=by simp only[same,hv,hp,N3 hj1,OP]
  have ho:jx l j=(p.next v&&decide (gr l (j+1)<=1)):=by simp only[jx,hv,hp,hov,N1 hj0,Qt,OP]
  rw[hs] at nj;generalize gr l j=q at*
  cases c1:decide (p.o=v.o) with
  |true=>
   have hpo:=Oh c1;rw[c1,Of rfl] at nj;cases c2:decide (p.id<=v.id) with
   |true=>
    have hb:cQ l=false:=fZ hc (by
     rw[ho];have:decide (v.id<p.id)=false:=N1 (by have:=Oh c2;omega);simp only[Vs.next,hpo,bZ,this,PS,Bool.or_self,O6])
    refine rn2 (aY @q1 h2 h3 e1 @NZ gj @cU.eq_1 @len d1 d2 g0 (cj6 ew h6 h7 gp c1 c2)) hob hm ?_;refine aG ?_;rw[hb];exact av.refl _
   |false=>
    have nx:p.next v=true:=by
     have:decide (v.id<p.id)=true:=N3 (by have:=Ox c2;omega);simp only[Vs.next,c1,this,O7,Bool.or_true]
    cases hu:v.u with
    |true=>
     rw[hu,Of rfl] at nj;rw[hu] at hm;have e5:IntKind.i64.wrap ((q:Int)+1)=((q+1:Nat):Int):=by rw[IntWalk.i64_in _ aa];omega
     cases c3:decide ((1:Int)<((q+1:Nat):Int)) with
     |true=>
      have hb:cQ l=false:=fZ hc (by
       rw[ho,nj,N1 (by have:=Oh c3;omega),PS])
      refine rn2 (aY @q1 h2 h3 e1 @NZ gj @cU.eq_1 @len d1 d2 g0 (cj9 ew h6 h7 gp c1 c2 hu e5 c3)) hob hm ?_;refine aG ?_;rw[hb];exact av.refl _
     |false=>
      refine rn2 (aY @q1 h2 h3 e1 @NZ gj @cU.eq_1 @len d1 d2 g0 (cj9 ew h6 h7 gp c1 c2 hu e5 c3)) hob hm ?_;refine ⟨j+1,n+1,Og _,⟨aa,next 0 (by rw[ho,nx,nj,N3 (by have:=Ox c3;omega)];rfl)⟩,aa,?_⟩;rw[nj];refine aL.tmN aa (λj p hp=>by simp[aA] at hp) (by simp only[aR,go_sem,reduceIte,Nat.reduceEqDiff,Nat.reduceAdd];and_intros<;>first|exact trivial|exact av.refl _|exact av.any _|(refine av.int ?_;omega))
    |false=>
     rw[hu,N7 af] at nj;rw[hu] at hm;have c3:decide ((1:Int)<(q:Int))=false:=N1 aa;refine rn2 (aY @q1 h2 h3 e1 @NZ gj @cU.eq_1 @len d1 d2 g0 (cj8 ew h6 h7 gp c1 c2 hu c3)) hob hm ?_;refine ⟨j+1,n+1,Og _,⟨aa,next 0 (by rw[ho,nx,nj,N3 aa];rfl)⟩,aa,?_⟩;rw[nj];refine aL.tmN aa (λj p hp=>by simp[aA] at hp) (by simp only[aR,go_sem,reduceIte,Nat.reduceEqDiff,Nat.reduceAdd];and_intros<;>first|exact trivial|exact av.refl _|exact av.any _|(refine av.int ?_;omega))
  |false=>
   have hpo:=Ox c1;rw[c1,N7 af] at nj;cases c2:Op.bytesLess p.o v.o with
   |false=>
    have hb:cQ l=false:=fZ hc (by
     rw[ho];simp only[Vs.next,c2,c1,O6,Bool.or_self])
    refine rn2 (aY @q1 h2 h3 e1 @NZ gj @cU.eq_1 @len d1 d2 g0 (cj6 ew h6 h7 gp c1 c2)) hob hm ?_;refine aG ?_;rw[hb];exact av.refl _
   |true=>
    have nx:p.next v=true:=by simp only[Vs.next,c2,Bool.true_or]
    cases hu:v.u with
    |true=>
     rw[hu,Of rfl] at nj;rw[hu] at hm;refine rn2 (aY @q1 h2 h3 e1 @NZ gj @cU.eq_1 @len d1 d2 g0 (cj8 ew h6 h7 gp c1 c2 hu w1)) hob hm ?_;refine ⟨j+1,n+1,Og _,⟨aa,next 0 (by rw[ho,nx,nj];rfl)⟩,aa,?_⟩;rw[nj];refine aL.tmN aa (λj p hp=>by simp[aA] at hp) (by simp only[aR,go_sem,reduceIte,Nat.reduceEqDiff,Nat.reduceAdd];and_intros<;>first|exact trivial|exact av.refl _|exact av.any _|(refine av.int ?_;omega))
    |false=>
     rw[hu,N7 af] at nj;rw[hu] at hm;refine rn2 (aY @q1 h2 h3 e1 @NZ gj @cU.eq_1 @len d1 d2 g0 (cj7 ew h6 h7 gp c1 c2 hu)) hob hm ?_;refine ⟨j+1,n+1,Og _,⟨aa,next 0 (by rw[ho,nx,nj];rfl)⟩,aa,?_⟩;rw[nj];refine aL.tmN aa (λj p hp=>by simp[aA] at hp) (by simp only[aR,go_sem,reduceIte,Nat.reduceEqDiff,Nat.reduceAdd];and_intros<;>first|exact trivial|exact av.refl _|exact av.any _|(refine av.int ?_;omega))
 ·have hj2:j=l.length:=by omega
  subst hj2;have q1:decide ((l.length:Int)<(l.length:Int))=false:=N1 aa;refine rn0 @q1 ?_;refine aG ?_;rw[xB hok];exact av.refl _
structure Bk where
 n:List UInt8
 st:Int
 l:List Vs
def ff(b:Bk):AV:= .agg [.str b.n,.int .i64 b.st,.sl 8 (vss b.l) .any]
theorem gd(b:Bk):aO (ff b)=true:=by simp[ff,aO,aF,aU,o7]
def gO(l:List Vs):Nat->List UInt8
 |0=>[]
 |j+1=>if (l.getD j default).u=true then (l.getD j default).o else gO l j
def okR(l:List Vs)(j:Nat):Bool:=(l.getD j default).okV&&(decide (j=0)||(l.getD (j - 1) default).next (l.getD j default))&& !((l.getD j default).u&&decide ((l.getD j default).o=gO l j))
def iq(l:List Vs):Bool:=(List.range l.length).all (okR l)
theorem qH{l:List Vs}{j:Nat}(hj:j<l.length)(h:okR l j=false):iq l=false:=by
 cases e:iq l with
 |false=>rfl
 |true=>
  unfold iq at e;rw[OH] at e;rw[e j (O1.2 hj)] at h;cases h
theorem vr{l:List Vs}(h:∀i,i<l.length->okR l i=true):iq l=true:=by
 unfold iq;rw[OH];intro i hi;exact h i (O1.1 hi)
def bkR(b:Bk):Bool:=decide (bT b.n=0)&&p6 b.st&&iq b.l
set_option maxHeartbeats 8000000 in
theorem DW(b:Bk)(hl:b.l.length<=1000000):aI Tryz.prog 52 [ff b] (.bool (bkR b)):=by
 refine f52.aE af (by simp[aF,gd]) rfl ?_;unfold c52 zz;have h0:=uq b.n;obtain ⟨nm,st,l⟩:=b;unfold ff bkR;simp only at h0 hl |-;have len:=eK l;cases b0:decide (bT nm=0) with
 |false=>
  generalize bT nm=z at*
  refine rn1 b0 h0 ?_;refine aG ?_;exact av.refl _
 |true=>
 have hz:=Oh b0;rw[hz] at h0;rcases oZ st with hst|⟨h,h1|⟨h1,h2⟩⟩
 ·have hso:p6 st=true:=by rcases hst with rfl|rfl|rfl<;>rfl
  have s1:decide (st<0)=false:=N1 aa;have s2:decide (2<st)=false:=N1 aa;rw[hso];refine rn1 (cj2 s1 s2) h0 ?_;refine Wp.r5 [1] (by simp only[go_sem,reduceIte,Nat.reduceEqDiff,List.map,len];exact rfl) (λj:Nat=>[(3,.str (gO l j)),(4,.int .i64 j)]) (λj=>j<=l.length/\∀i,i<j->okR l i=true) (λj=>l.length - j) 0 ⟨Og _,λi h=>by omega⟩ ?_ ?_
  ·exact bY @gO.eq_1
  rintro j n hn ⟨hj,hok⟩;have hn':1<=n:=hn;have n0:¬(0=n):=by omega
  have n1:¬(n=0):=by omega
  by_cases hc:j<l.length
  ·have h2:(0:Int)<=(j:Int):=by omega
   have q1:decide ((j:Int)<(l.length:Int))=true:=N3 aa;have h3:(j:Int)<(l.length:Int):=by omega
   have e1:IntKind.i64.wrap ((j:Int)+1)=((j+1:Nat):Int):=by rw[IntWalk.i64_in _ aa];omega
   have gj:=λd=>iC l j d hc;have ga:=λd=>iC l (j - 1) d aa;have ew:(if (0:Int)<IntKind.i64.wrap ((j:Int) - 1) then IntKind.i64.wrap ((j:Int) - 1) else 0)=((j - 1:Nat):Int):=by rw[IntWalk.i64_in _ aa];split<;>omega
   have h6:(0:Int)<=((j - 1:Nat):Int):=PL _;have h7:((j - 1:Nat):Int)<(l.length:Int):=by omega
   have hla:decide ((j:Int)=0)=true\/Ls (l.getD (j - 1) default).o:=by
    by_cases hj0:j=0
    ·left;subst hj0;rfl
    ·right;have:=hok (j - 1) aa;simp only[okR,Vs.okV,Ob,Oj] at this;have:=vq this.1.1.1.1.1;unfold Ls;omega
   have hv:=Ak (l.getD j default) (l.getD (j - 1) default) (decide ((j:Int)=0)) hla;have dj:decide ((j:Int)=0)=decide (j=0):=by
    by_cases hj0:j=0
    ·subst hj0;rfl
    ·rw[N1 hj0,N1 aa]
   have ok1:okR l j=((l.getD j default).okV&&(decide ((j:Int)=0)||(l.getD (j - 1) default).next (l.getD j default))&& !((l.getD j default).u&&decide ((l.getD j default).o=gO l j))):=by rw[dj];rfl
   have nx:gO l (j+1)=if (l.getD j default).u=true then (l.getD j default).o else gO l j:=rfl
   have next:okR l j=true->∀i,i<j+1->okR l i=true:=λh i hi=>by
    rcases Qd.1 hi with h'|rfl
    ·exact hok i h'
    ·exact h
   generalize hfz:decide ((j:Int)=0)=fz at*
   generalize l.getD j default=v at*
   generalize l.getD (j - 1) default=p at*
   cases c1:(v.okV&&(fz||p.next v)) with
   |false=>
    have hb:iq l=false:=qH hc (by rw[ok1,c1];rfl);rw[c1] at hv;unfold cU at hv gj ga;refine rn1 (aY @q1 h2 h3 e1 n0 n1 @NZ gj ga @len ew (cj3 h6 h7 hfz)) hv ?_;refine aG ?_;rw[hb];exact av.refl _
   |true=>
    rw[c1] at hv ok1;cases hu:v.u with
    |false=>
     rw[hu] at ok1;rw[hu,N7 af] at nx;unfold cU at hv gj ga;rw[hu] at hv;generalize gO l j=q at*
     refine rn1 (aY @q1 h2 h3 e1 n0 n1 @NZ gj ga @len ew (cj4 h6 h7 hfz hu)) hv ?_;refine ⟨j+1,n+1,by show 1<=n+1;omega,⟨aa,next (by rw[ok1];rfl)⟩,aa,?_⟩;rw[nx];refine aL.tmN aa (OLe.at (by simp[upd,aA,n0,n1])) (by simp only[aR,go_sem,reduceIte,Nat.reduceEqDiff,Nat.reduceAdd,bx,n0,n1];and_intros<;>first|exact trivial|exact av.refl _|exact av.any _|(refine av.int ?_;omega))
    |true=>
     rw[hu] at ok1;rw[hu,Of rfl] at nx;unfold cU at hv gj ga;rw[hu] at hv;generalize gO l j=q at*
     cases c2:decide (v.o=q) with
     |true=>
      have hb:iq l=false:=qH hc (by rw[ok1,c2];rfl);refine rn1 (aY @q1 h2 h3 e1 n0 n1 @NZ gj ga @len ew (cj5 h6 h7 hfz hu c2)) hv ?_;refine aG ?_;rw[hb];exact av.refl _
     |false=>
      rw[c2] at ok1;refine rn1 (aY @q1 h2 h3 e1 n0 n1 @NZ gj ga @len ew (cj5 h6 h7 hfz hu c2)) hv ?_;refine ⟨j+1,n+1,by show 1<=n+1;omega,⟨aa,next (by rw[ok1];rfl)⟩,aa,?_⟩;rw[nx];refine aL.tmN aa (OLe.at (by simp[upd,aA,n0,n1])) (by simp only[aR,go_sem,reduceIte,Nat.reduceEqDiff,Nat.reduceAdd,bx,n0,n1];and_intros<;>first|exact trivial|exact av.refl _|exact av.any _|(refine av.int ?_;omega))
  ·have hj2:j=l.length:=by omega
   subst hj2;have q1:decide ((l.length:Int)<(l.length:Int))=false:=N1 aa;refine rn0 (cj2 @q1 @len) ?_;refine aG ?_;rw[vr hok];exact av.refl _
 ·have d1:=N3 h1;rw[h];refine rn1 d1 h0 ?_;refine aG ?_;exact av.refl _
 ·have d1:=N1 h1;have d2:=N3 h2;rw[h];refine rn1 (cj2 d1 d2) h0 ?_;refine aG ?_;exact av.refl _
theorem KJ{s:List UInt8}(h:bX s=0):s≠[]:=by
 unfold bX at h;split at h
 ·rename_i h';exact h'.1
 ·cases h
theorem jK{a b:List UInt8}(h:Op.bytesLess a b=true):a≠b:=by
 rintro rfl;rw[bZ] at h;cases h
structure Inv(l:List Vs)(k:Nat):Prop where
 one:gr l k<=1
 iff:0<k->(gr l k=1↔gO l k=(l.getD (k - 1) default).o)
 txt:gO l k=[]\/∃i,i<k/\gO l k=(l.getD i default).o
 ord:∀i,i<k->(l.getD i default).o=(l.getD (k - 1) default).o\/Op.bytesLess (l.getD i default).o (l.getD (k - 1) default).o=true
theorem vv{l:List Vs}{k:Nat}(I:Inv l k):jx l k=okR l k/\(jx l k=true->Inv l (k+1)):=by
 have hsame:same l k=(decide (0<k)&&decide ((l.getD (k - 1) default).o=(l.getD k default).o)):=rfl;have hn:gr l (k+1)=(if same l k=true then gr l k else 0)+(if (l.getD k default).u=true then 1 else 0):=rfl;have ht:gO l (k+1)=if (l.getD k default).u=true then (l.getD k default).o else gO l k:=rfl
 have ha:jx l k=((l.getD k default).okV&&(decide (k=0)||(l.getD (k - 1) default).next (l.getD k default))&&decide (gr l (k+1)<=1)):=rfl;have hr:okR l k=((l.getD k default).okV&&(decide (k=0)||(l.getD (k - 1) default).next (l.getD k default))&& !((l.getD k default).u&&decide ((l.getD k default).o=gO l k))):=rfl;have e1:k+1 - 1=k:=by omega
 obtain ⟨I1,I2,I3,I4⟩:=I;cases c:((l.getD k default).okV&&(decide (k=0)||(l.getD (k - 1) default).next (l.getD k default))) with
 |false=>rw[ha,hr,c];exact ⟨rfl,λh=>by cases h⟩
 |true=>
 rw[c,OP] at ha hr;simp only[Ob,OS,Oj] at c;have hne:(l.getD k default).o≠[]:=by
  have:=c.1;simp only[Vs.okV,Ob,Oj] at this;exact KJ this.1.1.1
 have hord:∀i,i<k->(l.getD i default).o=(l.getD k default).o\/Op.bytesLess (l.getD i default).o (l.getD k default).o=true:=by
  intro i hi;have nx:=c.2.resolve_left aa;simp only[Vs.next,OS,Ob,Oj] at nx;rcases I4 i hi with h|h<;>rcases nx with h'|⟨h',-⟩
  ·right;rw[h];exact h'
  ·left;rw[h];exact h'
  ·right;exact dH h h'
  ·right;rw[<-h'];exact h
 have hfar:same l k=false->gO l k≠(l.getD k default).o:=by
  intro hs;rcases I3 with h|⟨i,hi,h⟩
  ·rw[h];exact λe=>hne e.symm
  ·rw[h];have nx:=c.2.resolve_left aa;simp only[Vs.next,OS,Ob,Oj] at nx;rw[hsame,N3 (by omega:0<k),OP] at hs;have hs:=Ox hs;have nx:=nx.resolve_right λx=>hs x.1;rcases I4 i hi with h'|h'
   ·rw[h'];exact jK nx
   ·exact jK (dH h' nx)
 have hsm:same l k=true->0<k/\(l.getD (k - 1) default).o=(l.getD k default).o:=by
  intro hs;rw[hsame,Ob] at hs;exact ⟨Oh hs.1,Oh hs.2⟩
 have key:((l.getD k default).u=true->same l k=true->(gr l k=1↔gO l k=(l.getD k default).o)):=by
  intro _ hs;obtain ⟨g1,g2⟩:=hsm hs;rw[<-g2];exact I2 g1
 refine ⟨?_,λhok=>⟨?_,λ_=>?_,?_,?_⟩⟩
 ·rw[ha,hr,hn];cases hu:(l.getD k default).u with
  |false=>
   cases hs:same l k with
   |false=>simp
   |true=>simp[I1]
  |true=>
   cases hs:same l k with
   |false=>
    have:=hfar hs;simp only[Oa,N5,N9,OP,N1 (λe=>this (Eq.symm e))];rfl
   |true=>
    have kk:=key hu hs;simp only[N9,OP];by_cases h1:gr l k=1
    ·rw[h1,N3 (kk.1 h1).symm];rfl
    ·have h0:gr l k=0:=by omega
     have d:decide ((l.getD k default).o=gO l k)=false:=N1 λe=>h1 (kk.2 e.symm);rw[h0,d];rfl
 ·rw[ha] at hok;exact Oh hok
 ·rw[e1,hn,ht];rw[ha,hn] at hok;have hok:=Oh hok;cases hu:(l.getD k default).u with
  |true=>
   rw[hu] at hok;simp only[N9] at hok |-;constructor
   ·exact λ_=>trivial
   ·intro _;omega
  |false=>
   simp only[Oa,N5,Nat.add_zero];cases hs:same l k with
   |false=>
    simp only[Oa,N5];constructor
    ·intro h;cases h
    ·intro h;exact absurd h (hfar hs)
   |true=>
    obtain ⟨g1,g2⟩:=hsm hs;simp only[N9];rw[<-g2];exact I2 g1
 ·rw[ht];cases hu:(l.getD k default).u with
  |true=>right;exact ⟨k,aa,by simp⟩
  |false=>
   simp only[Oa,N5];rcases I3 with h|⟨i,hi,h⟩
   ·exact .inl h
   ·exact .inr ⟨i,aa,h⟩
 ·intro i hi;rw[e1];rcases Qd.1 hi with h|rfl
  ·exact hord i h
  ·exact .inl rfl
theorem inv_zero(l:List Vs):Inv l 0:=⟨Og _,λh=>by omega,.inl rfl,λi h=>by omega⟩
theorem Gi(l:List Vs):∀k,((∀i,i<k->jx l i=true)↔(∀i,i<k->okR l i=true))/\((∀i,i<k->jx l i=true)->Inv l k)
 |0=>⟨⟨λ_ i h=>by omega,λ_ i h=>by omega⟩,λ_=>inv_zero l⟩
 |k+1=>by
  obtain ⟨ih1,ih2⟩:=Gi l k;have up:∀(f:Nat->Bool),(∀i,i<k+1->f i=true)↔((∀i,i<k->f i=true)/\f k=true):=λf=>⟨λh=>⟨λi hi=>h i aa,h k aa⟩,λh i hi=>by
   rcases Qd.1 hi with h'|rfl
   ·exact h.1 i h'
   ·exact h.2⟩
  rw[up,up];refine ⟨⟨λh=>⟨ih1.1 h.1,?_⟩,λh=>⟨ih1.2 h.1,?_⟩⟩,λh=>?_⟩
  ·rw[<-(vv (ih2 h.1)).1];exact h.2
  ·rw[(vv (ih2 (ih1.2 h.1))).1];exact h.2
  ·exact (vv (ih2 h.1)).2 h.2
theorem DX(l:List Vs):iq l=cQ l:=by
 have h:=(Gi l l.length).1;rw[QL];unfold iq cQ;simp only[OH,O1];exact h.symm
end Go.Proofs.YtjnoobmaedgooaaGreat.Arch
end
