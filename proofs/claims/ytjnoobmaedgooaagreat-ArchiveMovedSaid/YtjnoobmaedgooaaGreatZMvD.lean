/- Parts of a proof: a layer of abstract values over the model, the functions' walks, plain laws. -/
import Derived.Test.YtjnoobmaedgooaaGreatZMvC
set_option linter.unusedSimpArgs false
set_option linter.unusedVariables false
section
namespace Go.Av
open Go.Sort Go.Proofs
section
variable{α:Type}[Inhabited α]
theorem iK{α:Type}{enc:α->List Value}{k:Nat}(hk:∀x,(enc x).length=k):∀l:List α,(l.flatMap enc).length=l.length*k
 |[]=>by simp
 |x::l=>by simp[iK hk l,hk,Kr];omega
theorem tV{enc:α->List Value}{k:Nat}(k0:0<k)(hk:∀x,(enc x).length=k):∀(l:List α)(t:Nat),t<l.length*k->(l.flatMap enc)[t]! =(enc (l.toArray[t/k]!))[t%k]!
 |[],t,h=>by simp at h
 |x::l,t,h=>by
  have ih:=tV k0 hk l;by_cases c:t<k
  ·have e1:t/k=0:=Nat.div_eq_of_lt c;have e2:t%k=t:=J9 c;rw[e1,e2,Kw];have:t<(enc x).length:=by rw[hk];exact c
   simp[List.getElem!_eq_getElem?_getD,JQ this]
  ·have hc:k<=t:=by omega
   have e1:t/k=(t - k)/k+1:=by
    rw[Nat.div_eq t k,JC ⟨k0,hc⟩]
   have e2:t%k=(t - k)%k:=Nat.mod_eq_sub_mod hc;have hb:t - k<l.length*k:=by simp[Kr] at h;omega
   have:=ih (t - k) hb;rw[e1,e2,Kw];have e3:(enc x).length<=t:=by rw[hk];exact hc
   simp only[List.getElem!_eq_getElem?_getD] at this |-;rw[KO e3,hk,this];have e4:∀i,(x::l).toArray[i+1]! =l.toArray[i]! :=λi=>by simp[getElem!_def]
   rw[e4]
theorem xM{enc:α->List Value}{k:Nat}(k0:0<k)(hk:∀x,(enc x).length=k)(l:List α):flatK enc k l.toArray=(l.flatMap enc).toArray:=by
 refine ext_get! (by simp[iK hk]) λt ht=>?_;have ht':t<l.length*k:=by simpa using ht
 rw[get_flatK _ _ _ t (by simpa using ht')];have:=tV k0 hk l t ht';simpa using this.symm
theorem si{enc:α->List Value}{k:Nat}(k0:0<k)(hk:∀x,(enc x).length=k){w:World}{blk n:Nat}{l l':List α}{os:Array Go.Obj}{rest:List Value}{T:TypeId}{fr:Nat × Nat}(hb:blk<w.heap.size)(hl:l'.length=l.length)
  (hg:w.heap[blk]? =some (.cells (l.flatMap enc++rest).toArray T fr)):
  (sortWorldK enc k w blk 0 n l'.toArray os).heap[blk]? =some (.cells (l'.flatMap enc++rest).toArray T fr)/\(∀b,b<w.heap.size->b≠blk->(sortWorldK enc k w blk 0 n l'.toArray os).heap[b]? =w.heap[b]?)/\w.heap.size<=(sortWorldK enc k w blk 0 n l'.toArray os).heap.size:=by
 have hf:=xM k0 hk l';have e:∀b,b<w.heap.size->(sortWorldK enc k w blk 0 n l'.toArray os).heap[b]? =(w.heap.modify blk (onCells (putCells id 0 (flatK enc k l'.toArray))))[b]? :=λb hb=>by
  simp only[sortWorldK,grow,putRowK,putRow,mapBlock,ahead];rw[Array.getElem?_append_left (by simpa [ahead] using hb)];rfl
 refine ⟨?_,λb hb hne=>?_,by simp[sortWorldK,grow,putRowK,putRow,mapBlock,ahead]⟩
 ·rw[e blk hb,KV,JC rfl,hg,Option.map_some,onCells,hf];congr 2;apply Array.ext_getElem?;intro j;have l1:=iK hk l';have l2:=iK hk l;simp only[putCells,Array.getElem?_mapIdx,List.getElem?_toArray,List.size_toArray,JJ,KP,JG,Nat.sub_zero,id];by_cases c:j<l'.length*k
  ·have a1:j<(l'.flatMap enc).length:=by omega
   have a2:j<(l.flatMap enc).length:=by rw[l2,<-hl];exact c
   rw[JQ a1,JQ a2,Jm a1,Jm a2,Option.map_some,JC a1];simp only[List.getElem!_toArray,List.getElem!_eq_getElem?_getD,Jm a1,Option.getD_some]
  ·have a1:(l'.flatMap enc).length<=j:=by omega
   have a2:(l.flatMap enc).length<=j:=by rw[l2,<-hl];omega
   rw[KO a1,KO a2,l1,l2,hl];cases rest[j - l.length*k]? with
   |none=>rfl
   |some v=>rw[Option.map_some,Jr aa]
 ·rw[e b hb,KV,Jr (λh=>hne h.symm)]
theorem Gv{P:Program}{f g:Nat}{enc:α->List Value}{encA:α->List AV}{k:Nat}(k0:0<k)(hk:∀x,(enc x).length=k)(hkA:∀l:List α,(l.flatMap encA).length=l.length*k)
  (hE:∀(l:List α) G w,ay G w (l.flatMap encA) (l.flatMap enc)) (hD:∀(l:List α) G w vs,ay G w (l.flatMap encA) vs->vs=l.flatMap enc) (h1:∀l:List α,∀v∈l.flatMap enc,One v)
  {lt:α->α->Bool} (l l':List α) (hln:0<l.length) (hll:l'.length=l.length)
  (hu:∀d':Array α,PermIn 0 l.length l.toArray d'->SortedIn lt 0 l.length d'->d'=l'.toArray)
  (hcon:∀(blk cap:Nat)(w:World),HoldsK enc k w blk 0 l.toArray->blk<w.heap.size->Calls P f #[.slice (some ⟨blk,0,none⟩) l.length cap,.func (.func g) #[] #[]] w λe w'=>e= .returned (.tuple #[])/\∃d' n os,PermIn 0 l.length l.toArray d'/\SortedIn lt 0 l.length d'/\w'=sortWorldK enc k w blk 0 n d' os)
  {id:Nat} {h:H} (ho:h.objs id=some (.cells (l.flatMap encA))) (htk:h.toks=[]):
  aS P f [.tsl k id 0 l.length none,.clo (.func g) [] []] h (.tup []) {h with objs:=upd h.objs id (some (.cells (l'.flatMap encA)))}:=by
 intro G w vs hv R F;simp only[ay,au] at hv;obtain ⟨v1,_,rfl,⟨hd1,hv1⟩,v2,_,rfl,⟨va,vb,rfl,rfl,rfl⟩,rfl⟩:=hv;obtain ⟨C,c,T,fr,rfl,⟨hnC,hc63⟩,-,hg,hroom⟩|⟨hz,-⟩:=hv1;rotate_left
 ·omega
 obtain ⟨-,hown,hB,us,rest,T',fr',hg',hvs,hfr,-⟩:=R.obj id _ ho;have hus:=hD l G w us hvs;subst hus;have hH:HoldsK enc k w (G.ι id) 0 l.toArray:=by
  intro j hj;rw[xM k0 hk] at hj |-;have hj':j<(l.flatMap enc).length:=by simpa using hj
  constructor
  ·unfold World.cell?;simp only[hg',JG];simp[JQ hj',getElem!_def,hj',Jm hj']
  ·unfold World.frozen?;simp only[hg'];have:=hfr;simp;omega
 refine (hcon (G.ι id) C w hH hB).mono λe w' ⟨he,d',n,os,hp,hs,hw⟩=>?_;have hdd:=hu d' hp hs;subst hdd;subst he hw;obtain ⟨w1,w2,w3⟩:=si k0 hk (n:=n) (os:=os) hB hll hg';obtain ⟨T1,R1⟩:=D6 R ho htk w3 (by rfl) (by rfl) w2 (by rw[hg',w1];exact ⟨_,_,rfl,by simp[iK hk,hll],λ_ _ h=>h⟩) (by rw[hkA,iK hk]) (hE l') (h1 l') w1 hfr;exact ⟨_,G,rfl,T1,R1,by simp[au,ay]⟩
theorem FP{α:Type}{r:α->α->Prop}(ir:∀x,¬r x x)(tr:∀x y z,r x y->r y z->r x z):∀{a b:List α},a.Pairwise r->b.Pairwise r->(∀x,x∈a↔x∈b)->a=b
 |[],[],_,_,_=>rfl
 |[],y::b,_,_,h=>by have:=(h y).2 af;simp at this
 |x::a,[],_,_,h=>by have:=(h x).1 af;simp at this
 |x::a,y::b,ha,hb,h=>by
  have ha':=JP.1 ha;have hb':=JP.1 hb;have hxy:x=y:=by
   rcases JB.1 ((h x).1 af) with e|hx
   ·exact e
   ·rcases JB.1 ((h y).2 af) with e|hy
    ·exact e.symm
    ·exact absurd (tr _ _ _ (hb'.1 x hx) (ha'.1 y hy)) (ir _)
  subst hxy;congr 1;refine FP ir tr ha'.2 hb'.2 λp=>⟨λhp=>?_,λhp=>?_⟩
  ·rcases JB.1 ((h p).1 (by simp[hp])) with e|h1
   ·subst e;exact absurd (ha'.1 p hp) (ir _)
   ·exact h1
  ·rcases JB.1 ((h p).2 (by simp[hp])) with e|h1
   ·subst e;exact absurd (hb'.1 p hp) (ir _)
   ·exact h1
theorem vX{α:Type}[Inhabited α]{lt:α->α->Bool}(ir:∀x,lt x x=false)(tr:∀x y z,lt x y=true->lt y z=true->lt x z=true){l l':List α}(tot:∀x∈l,∀y∈l,x=y\/lt x y=true\/lt y x=true)(nd:l.Nodup)
  (hp:l'.Pairwise λx y=>lt x y=true) (hm:∀x,x∈l'↔x∈l) {d':Array α} (h1:PermIn 0 l.length l.toArray d') (h2:SortedIn lt 0 l.length d'):d'=l'.toArray:=by
 obtain ⟨hs,-,hperm⟩:=h1;have hs':d'.size=l.length:=by simpa using hs
 have e1:(d'.extract 0 l.length)=d':=by rw[<-hs'];simp
 have e2:(l.toArray.extract 0 l.length)=l.toArray:=by simp
 rw[e1,e2] at hperm;have hperm:d'.toList.Perm l:=by simpa using hperm
 have nd':d'.toList.Nodup:=hperm.nodup_iff.2 nd;have pw:d'.toList.Pairwise λx y=>lt x y=true:=by
  rw[Ks];intro i j hi hj hij;have hi':i<d'.size:=by simpa using hi
  have hj':j<d'.size:=by simpa using hj
  have:=h2 i j (JJ _) hij aa;rw[getElem!_pos d' i hi',getElem!_pos d' j hj'] at this;have m1:d'[i]∈l:=hperm.mem_iff.1 af;have m2:d'[j]∈l:=hperm.mem_iff.1 af;rcases tot _ m1 _ m2 with e|e|e
  ·have:=(List.nodup_iff_pairwise_ne.1 nd');have:=Ks.1 this i j hi hj hij;exact absurd (by simpa using e) this
  ·simpa using e
  ·rw[this] at e;cases e
 have:=FP (r:=λx y=>lt x y=true) (λx=>by rw[ir];simp) tr pw hp λx=>by rw[hperm.mem_iff,hm]
 rw[<-this]
end
end Go.Av
end
section
set_option maxRecDepth 100000
namespace Go.Proofs.YtjnoobmaedgooaaGreat.Batch
open Go Go.Proofs Go.Lib Go.RowKit Go.Shelf Go.Sort Go.Av
def encA(p:Pr):List AV:=[.str p.k,.str p.v]
theorem Ca(p:Pr)(G:aE)(w:World):ay G w (encA p) (ez p):=by
 simp[encA,ez,ay,au]
theorem El{G:aE}{w:World}{p:Pr}{vs:List Value}(h:ay G w (encA p) vs):vs=ez p:=by
 simp only[encA,ay,au] at h;obtain ⟨v,us,rfl,rfl,v',us',rfl,rfl,rfl⟩:=h;rfl
theorem jY:∀(l:List Pr)(G:aE)(w:World),ay G w (l.flatMap encA) (l.flatMap ez)
 |[],G,w=>by simp[ay]
 |p::l,G,w=>by
  have:=jY l G w;simp only[Kw];exact (Ca p G w).append this
theorem mv:∀(l:List Pr)(G:aE)(w:World)(vs:List Value),ay G w (l.flatMap encA) vs->vs=l.flatMap ez
 |[],G,w,vs,h=>by simpa [ay] using h
 |p::l,G,w,vs,h=>by
  simp only[Kw,encA,List.cons_append,List.nil_append,ay,au] at h;obtain ⟨v,us,rfl,rfl,v',us',rfl,rfl,h⟩:=h;rw[mv l G w us' h];rfl
theorem pK(l:List Pr):∀v∈l.flatMap ez,One v:=by
 intro v hv;obtain ⟨p,-,hp⟩:=Lk.1 hv;simp only[ez,JB,List.not_mem_nil,or_false] at hp;rcases hp with rfl|rfl<;>exact ⟨(λ_ e=>by cases e),(λ_ e=>by cases e)⟩
theorem eC(l:List Pr):(l.flatMap encA).length=l.length*2:=by
 induction l with
 |nil=>rfl
 |cons p l ih=>simp only[Kw,Ju,ih,encA,List.length_cons,List.length_nil];omega
theorem Gw(l l':List Pr)(h0:0<l.length)(hl:l.length<4611686018427387904)(hll:l'.length=l.length)
  (tot:∀x∈l,∀y∈l,x=y\/Op.bytesLess x.k y.k=true\/Op.bytesLess y.k x.k=true) (nd:l.Nodup) (hp:l'.Pairwise λx y=>Op.bytesLess x.k y.k=true) (hm:∀x,x∈l'↔x∈l)
  {id:Nat} {h:H} (ho:h.objs id=some (.cells (l.flatMap encA))) (htk:h.toks=[]):
  aS Tryz.prog 45 [.tsl 2 id 0 l.length none,.clo (.func 46) [] []] h (.tup []) {h with objs:=upd h.objs id (some (.cells (l'.flatMap encA)))}:=by
 have eg:∀args w,(callFunc 46 args).run Tryz.prog w= .ok (.enter 46 args) w:=enters_of Tryz.func46 (by kernel_rfl) rfl;have hlt:ltOf cfP=λx y=>Op.bytesLess x.k y.k:=by funext x y;exact qZ x y
 refine Gv (enc:=ez) (encA:=encA) (lt:=ltOf cfP) aa (λ_=>rfl) eC jY mv pK l l' h0 hll (λd' h1 h2=>?_) (λblk cap w hH hb=>?_) ho htk
 ·refine vX (lt:=ltOf cfP) vW.irrefl vW.trans (λx hx y hy=>?_) nd ?_ hm h1 h2
  ·rw[qZ,qZ];exact tot x hx y hy
  ·rw[hlt];exact hp
 ·have:=AnyQ.slices_SortFunc zW 2 Tryz.isAgg50 Tryz.sizeOf50 ez (λ_=>rfl) (λx v hv=>by simp[ez] at hv;rcases hv with rfl|rfl<;>rfl) cfP vW 46 #[] blk 0 cap l.toArray w eg (B9 blk 0 l.toArray.size w) hH hb (by simpa using hl);exact this
end Go.Proofs.YtjnoobmaedgooaaGreat.Batch
end
section
set_option maxRecDepth 10000
namespace Go.Proofs.YtjnoobmaedgooaaGreat.C
open Go.Av
def vY:AC:=(.seq (.reg [⟨some 2,none,.mov (.c (.sl 3 [] (.exact 0)))⟩,⟨some 3,none,.mov (.c (.int .i64 4))⟩] none)
 .ret)
def pL:AC:=(.seq (.seq (.reg [⟨some 58,none,.mov (.t 6)⟩,⟨some 59,none,.mov (.t 0)⟩,⟨some 60,none,.len true (.t 59)⟩,⟨some 61,none,.bin .eql (.t 58) (.t 60)⟩] none)
 (.cond (.t 61) (.goto 3) .skip))
 (.seq (.reg [⟨some 62,none,.mov (.t 6)⟩,⟨some 63,none,.bin .add (.t 62) (.c (.int .i64 1))⟩,⟨some 6,none,.mov (.t 63)⟩] none)
 (.seq (.seq (.reg [⟨some 64,none,.mov (.t 0)⟩,⟨some 65,none,.mov (.t 6)⟩,⟨some 66,none,.bin .sub (.t 65) (.c (.int .i64 1))⟩,⟨some 67,none,.idx (.t 64) (.t 66)⟩,⟨some 68,none,.bin .neq (.t 67) (.c (.int .u8 0))⟩] none)
 (.cond (.t 68) (.seq (.reg [⟨some 69,none,.mov (.t 5)⟩,⟨some 70,none,.mov (.t 0)⟩,⟨some 71,none,.mov (.t 6)⟩,⟨some 72,none,.bin .sub (.t 71) (.c (.int .i64 1))⟩,⟨some 73,none,.idx (.t 70) (.t 72)⟩,⟨some 74,none,.buildSl 1 [(.t 73)]⟩,⟨some 75,none,.app false 1 1 (.t 69) (.t 74)⟩,⟨some 5,none,.mov (.t 75)⟩] none)
 (.goto 1)) .skip))
 (.seq (.seq (.reg [⟨some 76,none,.mov (.t 6)⟩,⟨some 77,none,.mov (.t 0)⟩,⟨some 78,none,.len true (.t 77)⟩,⟨some 79,none,.bin .eql (.t 76) (.t 78)⟩] none)
 (.cond (.t 79) (.goto 3) .skip))
 (.seq (.reg [⟨some 80,none,.mov (.t 6)⟩,⟨some 81,none,.bin .add (.t 80) (.c (.int .i64 1))⟩,⟨some 6,none,.mov (.t 81)⟩] none)
 (.seq (.seq (.reg [⟨some 82,none,.mov (.t 0)⟩,⟨some 83,none,.mov (.t 6)⟩,⟨some 84,none,.bin .sub (.t 83) (.c (.int .i64 1))⟩,⟨some 85,none,.idx (.t 82) (.t 84)⟩] none)
 (.block 1 (.seq (.reg [⟨some 87,none,.bin .eql (.t 85) (.c (.int .u8 255))⟩,⟨some 86,none,.mov (.t 87)⟩] none)
 (.cond (.t 86) (.seq (.reg [⟨some 88,none,.mov (.t 5)⟩,⟨some 89,none,.buildSl 1 [(.c (.int .u8 0))]⟩,⟨some 90,none,.app false 1 1 (.t 88) (.t 89)⟩,⟨some 5,none,.mov (.t 90)⟩] none)
 (.goto 1)) (.seq (.reg [⟨some 92,none,.bin .eql (.t 85) (.c (.int .u8 1))⟩,⟨some 91,none,.mov (.t 92)⟩] none)
 (.cond (.t 91) (.seq (.reg [⟨some 93,none,.mov (.t 4)⟩,⟨some 94,none,.mov (.t 5)⟩,⟨some 95,none,.conv .b2s (.t 94)⟩,⟨some 96,none,.build [.int .i64 0,.int .i64 0,.str []] [(0,1,(.c (.int .i64 1))),(2,1,(.t 95))]⟩,⟨some 97,none,.buildSl 3 [(.t 96)]⟩,⟨some 98,none,.app false 3 32 (.t 93) (.t 97)⟩,⟨some 4,none,.mov (.t 98)⟩] none)
 (.goto 0)) .skip))))))
 (.seq (.label 3)
 vY)))))))
def sj:AC:=(.seq (.seq (.reg [⟨some 26,none,.mov (.t 0)⟩,⟨some 27,none,.len true (.t 26)⟩,⟨some 28,none,.mov (.t 6)⟩,⟨some 29,none,.bin .sub (.t 27) (.t 28)⟩,⟨some 30,none,.bin .lss (.t 29) (.c (.int .i64 8))⟩] none)
 (.cond (.t 30) (.goto 3) .skip))
 (.seq (.seq (.reg [⟨some 31,none,.mov (.t 0)⟩,⟨some 32,none,.mov (.t 6)⟩,⟨some 33,none,.bin .sub (.t 32) (.c (.int .i64 1))⟩,⟨some 34,none,.idx (.t 31) (.t 33)⟩,⟨some 35,none,.bin .eql (.t 34) (.c (.int .u8 3))⟩] none)
 (.cond (.t 35) (.reg [⟨some 36,none,.mov (.t 4)⟩,⟨some 37,none,.mov (.t 0)⟩,⟨some 38,none,.mov (.t 6)⟩,⟨some 39,none,.mov (.t 6)⟩,⟨some 40,none,.bin .add (.t 39) (.c (.int .i64 8))⟩,⟨some 41,none,.slc true 0 (.t 37) (some (.t 38)) (some (.t 40)) none⟩,⟨some 42,none,.call 199 [(.t 41),(.c (.int .u8 0))]⟩,⟨some 43,none,.build [.int .i64 0,.int .i64 0,.str []] [(0,1,(.c (.int .i64 2))),(1,1,(.t 42))]⟩,⟨some 44,none,.buildSl 3 [(.t 43)]⟩,⟨some 45,none,.app false 3 32 (.t 36) (.t 44)⟩,⟨some 4,none,.mov (.t 45)⟩] none) (.reg [⟨some 46,none,.mov (.t 4)⟩,⟨some 47,none,.mov (.t 0)⟩,⟨some 48,none,.mov (.t 6)⟩,⟨some 49,none,.mov (.t 6)⟩,⟨some 50,none,.bin .add (.t 49) (.c (.int .i64 8))⟩,⟨some 51,none,.slc true 0 (.t 47) (some (.t 48)) (some (.t 50)) none⟩,⟨some 52,none,.call 199 [(.t 51),(.c (.int .u8 255))]⟩,⟨some 53,none,.build [.int .i64 0,.int .i64 0,.str []] [(0,1,(.c (.int .i64 3))),(1,1,(.t 52))]⟩,⟨some 54,none,.buildSl 3 [(.t 53)]⟩,⟨some 55,none,.app false 3 32 (.t 46) (.t 54)⟩,⟨some 4,none,.mov (.t 55)⟩] none)))
 (.seq (.reg [⟨some 56,none,.mov (.t 6)⟩,⟨some 57,none,.bin .add (.t 56) (.c (.int .i64 8))⟩,⟨some 6,none,.mov (.t 57)⟩] none)
 (.seq (.goto 0)
 (.seq (.label 1)
 pL)))))
def lM:AC:=(.seq (.seq (.reg [⟨some 10,none,.mov (.t 6)⟩,⟨some 11,none,.mov (.t 0)⟩,⟨some 12,none,.len true (.t 11)⟩,⟨some 13,none,.bin .eql (.t 10) (.t 12)⟩] none)
 (.cond (.t 13) (.seq (.reg [⟨some 14,none,.mov (.t 4)⟩,⟨some 2,none,.mov (.t 14)⟩,⟨some 3,none,.mov (.c (.int .i64 0))⟩] none)
 .ret) .skip))
 (.seq (.reg [⟨some 15,none,.mov (.t 6)⟩,⟨some 16,none,.bin .add (.t 15) (.c (.int .i64 1))⟩,⟨some 6,none,.mov (.t 16)⟩] none)
 (.seq (.seq (.reg [⟨some 17,none,.mov (.t 0)⟩,⟨some 18,none,.mov (.t 6)⟩,⟨some 19,none,.bin .sub (.t 18) (.c (.int .i64 1))⟩,⟨some 20,none,.idx (.t 17) (.t 19)⟩] none)
 (.block 0 (.seq (.reg [⟨some 22,none,.bin .eql (.t 20) (.c (.int .u8 2))⟩,⟨some 21,none,.mov (.t 22)⟩] none)
 (.cond (.t 21) (.seq (.reg [⟨some 5,none,.mov (.c (.sl 1 [] (.exact 0)))⟩] none)
 (.goto 1)) (.seq (.seq (.reg [⟨some 24,none,.bin .eql (.t 20) (.c (.int .u8 3))⟩,⟨some 23,none,.mov (.t 24)⟩] none)
 (.cond (.t 23) .skip (.reg [⟨some 25,none,.bin .eql (.t 20) (.c (.int .u8 4))⟩,⟨some 23,none,.mov (.t 25)⟩] none)))
 (.cond (.t 23) (.goto 2) .skip))))))
 (.seq (.goto 3)
 (.seq (.label 2)
 sj)))))
def mw:AC:=(.seq (.reg [⟨some 4,none,.mov (.c (.sl 3 [] (.exact 0)))⟩] none)
 (.seq (.reg [⟨some 5,none,.mov (.c (.sl 1 [] (.exact 0)))⟩] none)
 (.seq (.reg [⟨some 6,none,.mov (.c (.int .i64 0))⟩] none)
 (.seq (.seq (.reg [⟨some 7,none,.mov (.t 0)⟩,⟨some 8,none,.len true (.t 7)⟩,⟨some 9,none,.bin .gtr (.t 8) (.c (.int .i64 128))⟩] none)
 (.cond (.t 9) (.seq (.reg [⟨some 2,none,.mov (.c (.sl 3 [] (.exact 0)))⟩,⟨some 3,none,.mov (.c (.int .i64 5))⟩] none)
 .ret) .skip))
 (.seq (.label 0)
 lM)))))
theorem Em:HC=(.seq (.reg [⟨some 2,none,.mov (.c (.sl 3 [] (.exact 0)))⟩,⟨some 3,none,.mov (.c (.int .i64 0))⟩] none)
 (.scope mw)):=rfl
theorem lN:dY mw 0=some (.seq .skip lM):=rfl
theorem pM:dY mw 2=some (.seq .skip sj):=rfl
theorem lR:dY mw 1=some (.seq .skip pL):=rfl
theorem vZ:dY mw 3=some (.seq .skip vY):=rfl
end Go.Proofs.YtjnoobmaedgooaaGreat.C
end
section
set_option maxRecDepth 100000
namespace Go.Proofs.YtjnoobmaedgooaaGreat.Arch
open Go Go.Av Go.Proofs Go.Proofs.YtjnoobmaedgooaaGreat.C Go.Proofs.YtjnoobmaedgooaaGreat.Desk Go.Proofs.YtjnoobmaedgooaaGreat.Batch
theorem wrap32{n:Nat}(h:n<4294967296):IntKind.u32.wrap (n:Int)=n:=by
 simp[IntKind.wrap,IntKind.bits,IntKind.signed];omega
theorem ofInt32{n:Nat}(h:n<4294967296):(BitVec.ofInt IntKind.u32.bits (n:Int)).toNat=n:=by
 rw[BitVec.ofInt_natCast,Lw];exact J9 h
theorem xN{a b:Nat}(ha:a<4294967296)(hb:b<4294967296):lz .u32 (a:Int) (b:Int)=((a ^^^ b:Nat):Int):=by
 unfold lz;rw[BitVec.toNat_xor,ofInt32 ha,ofInt32 hb];exact wrap32 (Lv (n:=32) ha hb)
theorem Iv{a b:Nat}(ha:a<4294967296)(hb:b<4294967296):lW .u32 (a:Int) (b:Int)=((a &&& b:Nat):Int):=by
 unfold lW;rw[BitVec.toNat_and,ofInt32 ha,ofInt32 hb];exact wrap32 (Nat.and_lt_two_pow (n:=32) a hb)
theorem I7{a:Nat}(ha:a<4294967296):lW .u32 (a:Int) 1=((a%2:Nat):Int):=by
 rw[show (1:Int)=((1:Nat):Int) from rfl,Iv ha ah,Nat.and_one_is_mod]
def Cb(c:Nat):Nat:=if c%2=1 then (c/2) ^^^ 2197175160 else c/2
def itN:Nat->Nat->Nat
 |0,c=>c
 |k+1,c=>Cb (itN k c)
theorem En{c:Nat}(h:c<4294967296):Cb c<4294967296:=by
 unfold Cb;split
 ·exact Lv (n:=32) aa ah
 ·omega
theorem v7{c:Nat}(h:c<4294967296):∀k,itN k c<4294967296
 |0=>h
 |k+1=>En (v7 h k)
def xO(c:Nat)(b:UInt8):Nat:=itN 8 (c ^^^ b.toNat)
theorem Cc{c:Nat}(h:c<4294967296)(b:UInt8):xO c b<4294967296:=by
 refine v7 (Lv (n:=32) h ?_) 8;have:=b.toNat_lt;omega
def goN(l:List UInt8):Nat:=l.foldl xO 4294967295
theorem tW:∀(l:List UInt8)(c:Nat),c<4294967296->l.foldl xO c<4294967296
 |[],c,h=>h
 |b::l,c,h=>tW l _ (Cc h b)
theorem v8(l:List UInt8):goN l<4294967296:=tW l _ ah
theorem Cd(l:List UInt8)(b:UInt8):goN (l++[b])=xO (goN l) b:=by simp[goN,List.foldl_append]
def zZ(l:List UInt8):Nat:=goN l ^^^ 4294967295
theorem Eo(l:List UInt8):zZ l<4294967296:=Lv (n:=32) (v8 l) ah
theorem I8(c:Nat):(c:Int).fdiv (2^(min (Int.toNat 1) 32))=((c/2:Nat):Int):=by
 rw[show (min (Int.toNat 1) 32)=1 from rfl,show (2:Int)^1=2 from rfl,Ls _ ah];rfl
theorem I9:IntKind.u32.wrap (0 - ((0:Nat):Int))=0:=by decide
theorem Ja:IntKind.u32.wrap (0 - ((1:Nat):Int))=4294967295:=by decide
theorem Iw{c:Nat}(h:c<4294967296):IntKind.i64.wrap (lz .u32 (if IntKind.u32.signed=true then -1 else IntKind.u32.max) (c:Int))=((c ^^^ 4294967295:Nat):Int):=by
 rw[show (if IntKind.u32.signed=true then (-1:Int) else IntKind.u32.max)=((4294967295:Nat):Int) from rfl,xN ah h,Nat.xor_comm];have:=Lv (n:=32) h (show 4294967295<2^32 by decide);exact IntWalk.i64_in _ aa
theorem iF{l:List UInt8}{j:Nat}(h:j<l.length)(d:UInt8):l.take (j+1)=l.take j++[l.getD j d]:=by
 rw[List.take_add_one,List.getD,Jm h];simp
theorem Gx(b:UInt8):IntKind.u32.wrap (b.toNat:Int)=(b.toNat:Int):=wrap32 (by have:=b.toNat_lt;omega)
theorem Ep(c:Nat)(h:c<4294967296):lz .u32 ((c/2:Nat):Int) (lW .u32 2197175160 (IntKind.u32.wrap (0 - ((c%2:Nat):Int))))=((Cb c:Nat):Int):=by
 have h2:c/2<4294967296:=by omega
 unfold Cb;rcases Nat.mod_two_eq_zero_or_one c with e|e
 ·rw[e,I9,show (lW .u32 2197175160 0)=((0:Nat):Int) by decide,xN h2 ah,Jr ah,Nat.xor_zero]
 ·rw[e,Ja,show (lW .u32 2197175160 4294967295)=((2197175160:Nat):Int) by decide,xN h2 ah,JC rfl]
theorem Ix(l:List UInt8)(hl:l.length<=4611686018427387904):aH Tryz.prog 42 [.sl 1 (az l) .any] (.int .i64 (zZ l:Nat)):=by
 refine f42.aG af (by
  have:aD (az l)=true:=Av.bA (λa=>rfl) l;simp[aD,aP,bw,this]) rfl ?_
 unfold c42 zz;have hil:(az l).length=l.length:=by simp[az]
 refine rf0 hil ?_;refine Wp.gQ [6,7] xA6 (λj:Nat=>[(3,.int .u32 (goN (l.take j):Nat)),(8,.int .i64 (j:Nat))]) (λj=>j<=l.length) (λj=>l.length - j) 0 (JJ _) ?_ ?_
 ·exact xSb
 intro j hj;by_cases hcj:j<l.length
 ·have d1:decide ((j:Int)<(l.length:Int))=true:=Jt aa;have h2:(0:Int)<=(j:Int):=Lx _;have h3:(j:Int)<(l.length:Int):=by omega
  have e1:IntKind.i64.wrap ((j:Int)+1)=((j+1:Nat):Int):=by rw[IntWalk.i64_in _ aa];omega
  have hat:∀d,(az l).getD j d=byte (l.getD j 0):=λd=>jh l j d hcj;have hsn:=iF hcj 0;generalize hx:l.getD j 0=x at hat hsn;have hlt:=v8 (l.take j);have hx8:x.toNat<4294967296:=by have:=x.toNat_lt;omega
  have hxor:=xN hlt hx8;have hc0:goN (l.take j) ^^^ x.toNat<4294967296:=Lv (n:=32) hlt hx8;have hwx:=Gx x;refine rf0 (jD hil d1 h2 h3 @Jq @JI hat @byte.eq_1 hxor hwx) ?_;refine Wp.gQ [6,7,8] xA6 (λk:Nat=>[(3,.int .u32 (itN k (goN (l.take j) ^^^ x.toNat):Nat)),(16,.int .i64 (k:Nat))]) (λk=>k<=8) (λk=>8 - k) 0 (JJ _) ?_ ?_
  ·exact xSb
  intro k hk;by_cases hk8:k<8
  ·have d2:decide ((k:Int)<8)=true:=Jt aa;have e2:IntKind.i64.wrap ((k:Int)+1)=((k+1:Nat):Int):=by rw[IntWalk.i64_in _ aa];omega
   have hit:=v7 hc0 k;have hb:=Ep _ hit;have ha:=I7 hit;have hs1:=I8 (itN k (goN (l.take j) ^^^ x.toNat));refine rf0 (cj5 d2 e2 hs1 ha hb) ?_;refine ⟨k+1,aa,aa,?_⟩;exact xSu
  ·obtain rfl:k=8:=by omega
   refine rf0 e1 ?_;refine ⟨j+1,aa,aa,?_⟩;refine aJ.tm (by simp only[aN,go_sem,reduceIte,Nat.reduceEqDiff,Nat.reduceAdd,bx];and_intros<;>first|exact trivial|exact ar.refl _|exact ar.any _|exact ar.of_eq (by rw[hsn,Cd];rfl)|(refine ar.int ?_;omega))
 ·obtain rfl:j=l.length:=by omega
  have d1:decide ((l.length:Int)<(l.length:Int))=false:=Jn aa;refine rf0 d1 ?_;refine aK ?_;exact ar.of_eq (by rw[J1,Iw (v8 l)];rfl)
def we(c:UInt8):Bool:=(decide (48<=c.toNat)&&decide (c.toNat<=57))||(decide (97<=c.toNat)&&decide (c.toNat<=122))
theorem z6(s:List UInt8)(i:Nat):lL s i=(if (s.getD i default).toNat=45 then decide (0<i)&&decide (i+1<s.length) else we (s.getD i default)):=by
 unfold lL we;rfl
def pN(v:Int):Bool:=decide (0<=v/\v<=2)
def stS(v:Int):List UInt8:=if pN v=true then [UInt8.ofNat (48+v.toNat)] else []
def stE(v:Int):Int:=if pN v=true then 0 else 2
theorem tX(v:Int):(v=0\/v=1\/v=2)\/(pN v=false/\(v<0\/(¬v<0/\2<v))):=by
 by_cases h:pN v=true
 ·left;simp[pN] at h;omega
 ·right;refine ⟨by simpa using h,?_⟩;simp[pN] at h;omega
theorem xP(v:Int):aH Tryz.prog 49 [.int .i64 v] (.tup [.str (stS v),.int .i64 (stE v)]):=by
 refine f49.aG af rfl rfl ?_;unfold c49 zz;rcases tX v with (rfl|rfl|rfl)|⟨h,h1|⟨h1,h2⟩⟩
 ·refine fC ?_;refine aK ?_;exact ar.refl _
 ·refine fC ?_;refine aK ?_;exact ar.refl _
 ·refine fC ?_;refine aK ?_;exact ar.refl _
 ·have d1:=Jt h1;refine rf0 d1 ?_;refine aK ?_;exact ar.of_eq (by simp[stS,stE,h])
 ·have d1:=Jn h1;have d2:=Jt h2;refine rf0 (cj2 d1 d2) ?_;refine aK ?_;exact ar.of_eq (by simp[stS,stE,h])
def jn(n:Int):Bool:=decide (0<=n)&&decide (n<1048573)
theorem xQ{n:Int}(h:jn n=false):n<0\/(¬n<0/\1048573<=n):=by
 simp[jn] at h;omega
theorem Ce{n:Int}(h:jn n=true):¬n<0/\¬1048573<=n:=by
 simp[jn] at h;omega
theorem Cf(a b:Int):aH Tryz.prog 85 [.agg [.int .i64 a,.int .i64 b]] (.int .i64 (if jn a&&jn b then 0 else 2)):=by
 refine f85.aG af rfl rfl ?_;unfold c85 zz;refine fC ?_;refine Wp.eX [9] xA7 (λj:Nat=>[(10,.int .i64 (j:Nat))]) (λj=>⟨upd av 0 (some (.cells [.int .i64 a,.int .i64 b])),1,[],0⟩) (λj=>j<=2/\(1<=j->jn a=true)/\(2<=j->jn b=true)) (λj=>2 - j) 0 ⟨aa,aa,aa⟩ rfl ?_ ?_
 ·exact xSb
 rintro j ⟨hj,ha,hb⟩;have go:∀(n:Int),jn n=false\/jn n=true:=λn=>by cases jn n<;>simp
 obtain rfl|rfl|rfl:j=0\/j=1\/j=2:=by omega
 ·rcases go a with h|h
  ·rcases xQ h with h1|⟨h1,h2⟩
   ·have d1:=Jt h1;refine rf0 d1 ?_;refine aK ?_;exact ar.of_eq (by simp[h])
   ·have d1:=Jn h1;have d2:=Jt h2;refine rf0 (cj2 d1 d2) ?_;refine aK ?_;exact ar.of_eq (by simp[h])
  ·obtain ⟨h1,h2⟩:=Ce h;have d1:=Jn h1;have d2:=Jn h2;refine rf0 (cj2 d1 d2) ?_;refine ⟨1,⟨aa,λ_=>h,aa⟩,aa,?_⟩;refine aJ.of (bc ?_) (λi o h=>⟨o,h,dP.refl _⟩) (λ_ h=>h) (Jl _) (Jl _);exact xSb
 ·have ha:=ha aa;rcases go b with h|h
  ·rcases xQ h with h1|⟨h1,h2⟩
   ·have d1:=Jt h1;refine rf0 d1 ?_;refine aK ?_;exact ar.of_eq (by simp[h])
   ·have d1:=Jn h1;have d2:=Jt h2;refine rf0 (cj2 d1 d2) ?_;refine aK ?_;exact ar.of_eq (by simp[h])
  ·obtain ⟨h1,h2⟩:=Ce h;have d1:=Jn h1;have d2:=Jn h2;refine rf0 (cj2 d1 d2) ?_;refine ⟨2,⟨aa,λ_=>ha,λ_=>h⟩,aa,?_⟩;refine aJ.of (bc ?_) (λi o h=>⟨o,h,dP.refl _⟩) (λ_ h=>h) (Jl _) (Jl _);exact xSb
 ·have ha:=ha aa;have hb:=hb aa;refine fC ?_;refine aK ?_;exact ar.of_eq (by simp[ha,hb])
theorem sk(v:Nat)(hv:v<65536)(xs:List UInt8)(hx:xs.length<=1099511627776):ji Tryz.prog 36 (λt=>[.sl 1 (az xs) (.own t),.int .i64 v]) (λt=> .sl 1 (az (xs++be 2 v)) (.own t)):=by
 intro t n m;suffices h:∃r h',aS Tryz.prog 36 [.sl 1 (az xs) (.own t),.int .i64 v] (.only av [t] n m) r h'/\∃t' m',m<=m'/\r= .sl 1 (az (xs++be 2 v)) (.own t')/\h'= .only av [t'] n m' by
  obtain ⟨r,h',ha,t',m',hm,rfl,rfl⟩:=h;exact ⟨t',m',hm,ha⟩
 refine f36.dF af ?_;unfold c36 zz;have e1:IntKind.u16.wrap (v:Int)=(v:Int):=IntWalk.u16_in _ aa;refine Wp.cE xA1 ag ?_;refine Wp.seqItems (xAe e1) ?_;refine aq.cH t ae xA4 ae (sa f82 .u16 v aa 2 aa xs hx) λt' m' hm=>?_;refine aq.eval xA1 ?_;refine aq.nil ⟨by trivial,?_⟩;refine Wp.ret ⟨trivial,_,rfl,t',m',hm,?_,rfl⟩;simp only[go_sem,reduceIte,Nat.reduceEqDiff]
theorem ow(v:Nat)(hv:v<4294967296)(xs:List UInt8)(hx:xs.length<=1099511627776):ji Tryz.prog 37 (λt=>[.sl 1 (az xs) (.own t),.int .i64 v]) (λt=> .sl 1 (az (xs++be 4 v)) (.own t)):=by
 intro t n m;suffices h:∃r h',aS Tryz.prog 37 [.sl 1 (az xs) (.own t),.int .i64 v] (.only av [t] n m) r h'/\∃t' m',m<=m'/\r= .sl 1 (az (xs++be 4 v)) (.own t')/\h'= .only av [t'] n m' by
  obtain ⟨r,h',ha,t',m',hm,rfl,rfl⟩:=h;exact ⟨t',m',hm,ha⟩
 refine f37.dF af ?_;unfold c37 zz;have e1:IntKind.u32.wrap (v:Int)=(v:Int):=IntWalk.u32_in _ aa;refine Wp.cE xA1 ag ?_;refine Wp.seqItems (xAe e1) ?_;refine aq.cH t ae xA4 ae (sa f83 .u32 v aa 4 aa xs hx) λt' m' hm=>?_;refine aq.eval xA1 ?_;refine aq.nil ⟨by trivial,?_⟩;refine Wp.ret ⟨trivial,_,rfl,t',m',hm,?_,rfl⟩;simp only[go_sem,reduceIte,Nat.reduceEqDiff]
structure Pt where
 k:Int
 n:Int
 s:List UInt8
deriving Inhabited
def dL(p:Pt):AV:= .agg [.int .i64 p.k,.int .i64 p.n,.str p.s]
def upB(n:Nat):List UInt8:=be 8 (n+9223372036854775808)
def br(m:UInt8)(l:List UInt8):List UInt8:=l.map (· ^^^ m)
def ptB(p:Pt):List UInt8:=if p.k=2 then 3::br 0 (upB p.n.toNat) else if p.k=3 then 4::br 255 (upB p.n.toNat) else 2::p.s++[0,1]
structure Pt.ok(p:Pt):Prop where
 k:p.k=1\/p.k=2\/p.k=3
 t:p.k=1->p.n=0/\(∀b∈p.s,b≠0)/\p.s.length<=128
 u:p.k≠1->p.s=[]/\0<=p.n/\p.n<9223372036854775808
theorem Iy(a b:UInt8):lz .u8 (a.toNat:Int) (b.toNat:Int)=((a ^^^ b).toNat:Int):=by
 unfold lz;change IntKind.u8.wrap (((BitVec.ofInt 8 (a.toNat:Int) ^^^ BitVec.ofInt 8 (b.toNat:Int)).toNat:Nat):Int)=_;have h1:BitVec.ofInt 8 (a.toNat:Int)=a.toBitVec:=by
  apply BitVec.eq_of_toNat_eq;simp[BitVec.toNat_ofInt]
 have h2:BitVec.ofInt 8 (b.toNat:Int)=b.toBitVec:=by
  apply BitVec.eq_of_toNat_eq;simp[BitVec.toNat_ofInt]
 rw[h1,h2];have h3:(a.toBitVec ^^^ b.toBitVec).toNat=(a ^^^ b).toNat:=rfl;rw[h3];have:=(a ^^^ b).toNat_lt;exact IntWalk.u8_in _ aa
theorem Cg(n:Nat)(h:n<9223372036854775808):lz .u64 (n:Int) 9223372036854775808=((n+9223372036854775808:Nat):Int):=by
 unfold lz;change IntKind.u64.wrap (((BitVec.ofInt 64 (n:Int) ^^^ BitVec.ofInt 64 9223372036854775808).toNat:Nat):Int)=_;have h1:BitVec.ofInt 64 (n:Int)=BitVec.ofNat 64 n:=by
  apply BitVec.eq_of_toNat_eq;simp[BitVec.toNat_ofInt]
 have h2:BitVec.ofInt 64 9223372036854775808=BitVec.ofNat 64 9223372036854775808:=rfl;rw[h1,h2];have h3:(BitVec.ofNat 64 n ^^^ BitVec.ofNat 64 9223372036854775808).toNat=n+9223372036854775808:=by
  rw[BitVec.toNat_xor,Lw,Lw,J9 aa,J9 aa,Nat.xor_comm];have:=Nat.two_pow_add_eq_or_of_lt (i:=63) (show n<2^63 by omega) 1;have hx:(9223372036854775808 ^^^ n)=9223372036854775808 ||| n:=by
   apply Nat.eq_of_testBit_eq;intro i;rw[Nat.testBit_xor,Nat.testBit_or,show (9223372036854775808:Nat)=2^63 from rfl,Nat.testBit_two_pow];by_cases hi:63=i
   ·subst hi;rw[Nat.testBit_lt_two_pow aa];simp
   ·simp[hi]
  rw[hx];simp only[KA] at this;rw[<-this];omega
 rw[h3];exact IntWalk.u64_in _ aa
theorem z7(v i:Nat)(hi:i<=7)(m:UInt8):lz .u8 (IntKind.u8.wrap ((v:Int).fdiv (2^(min ((8*i:Nat):Int).toNat 64)))) (m.toNat:Int)=((UInt8.ofNat (v/256^i) ^^^ m).toNat:Int):=by
 have h:=py v i hi;unfold byte at h;simp only[AV.int.injEq,KP] at h;rw[h];exact Iy _ _
theorem cZ(m:UInt8)(l:List UInt8):(br m l).length=l.length:=by simp[br]
theorem q0(v:Nat)(hv:v<9223372036854775808)(mk:UInt8)(xs:List UInt8)(hx:xs.length<=1000):ji Tryz.prog 228 (λt=>[.sl 1 (az xs) (.own t),.int .i64 v,.int .u8 mk.toNat]) (λt=> .sl 1 (az (xs++br mk (upB v))) (.own t)):=by
 intro t n m;suffices h:∃r h',aS Tryz.prog 228 [.sl 1 (az xs) (.own t),.int .i64 v,.int .u8 mk.toNat] (.only av [t] n m) r h'/\∃t' m',m<=m'/\r= .sl 1 (az (xs++br mk (upB v))) (.own t')/\h'= .only av [t'] n m' by
  obtain ⟨r,h',ha,t',m',hm,rfl,rfl⟩:=h;exact ⟨t',m',hm,ha⟩
 refine f228.dF af ?_;unfold H4 upB zz;have e0:IntKind.u64.wrap (v:Int)=(v:Int):=IntWalk.u64_in _ aa;have e1:=Cg v hv;generalize hu:v+9223372036854775808=u at*
 refine rf0 (cj2 e0 e1) ?_;refine Wp.eX [7,2] xA7 (λj:Nat × List UInt8 × Nat × Nat=>[(0,.sl 1 (az (xs++br mk j.2.1)) (.own j.2.2.1)),(8,.int .i64 (8*(j.1:Int) - 8))]) (λj=> .only av [j.2.2.1] n j.2.2.2)
  (λj=>j.1<=8/\m<=j.2.2.2/\j.2.1++be j.1 u=be 8 u) (λj=>j.1) (8,[],t,m) ⟨Jl _,Jl _,rfl⟩ rfl ?_ ?_
 ·exact dU (cj3 @br.eq_1 @J4.{0,0} @JY.{0})
 ·intro j hj;obtain ⟨r,dn,tk,m'⟩:=j;obtain ⟨h1,h2,h3⟩:=hj;simp only at h1 h2 h3;have hdl:dn.length+r=8:=by have:=Kd List.length h3;simp only[Ju,aW] at this;exact this
  by_cases hc:r=0
  ·subst hc;have h4:dn=be 8 u:=by simpa [be] using h3
   subst h4;have d1:decide ((0:Int)<=8*((0:Nat):Int) - 8)=false:=by decide
   refine rf0 d1 ?_;refine Wp.ret ⟨trivial,_,rfl,tk,m',h2,?_,rfl⟩;simp only[go_sem,reduceIte,Nat.reduceEqDiff]
  ·obtain ⟨i,rfl⟩:∃i,r=i+1:=⟨r - 1,aa⟩;have d1:decide ((0:Int)<=8*(((i+1:Nat):Nat):Int) - 8)=true:=Jt aa;have e2:8*(((i+1:Nat):Nat):Int) - 8=((8*i:Nat):Int):=by omega
   have e3:IntKind.i64.wrap (((8*i:Nat):Int) - 8)=8*(i:Int) - 8:=by rw[IntWalk.i64_in _ aa];omega
   have e4:¬((8*i:Nat):Int)<0:=by omega
   have e5:=z7 u i aa mk;have e6:(az (xs++br mk dn)).length+1<=140737488355328:=by rw[bj,Ju,cZ];omega
   have e7:(az (xs++br mk dn)).length+1<4611686018427387904:=by omega
   rw[bj] at e6 e7;rw[e2] at d1;rw[e2];refine rf0 d1 ?_;refine Wp.tg (by simp only[go_sem,reduceIte,Nat.reduceEqDiff,Nat.reduceAdd,bx,e3,e4,e5,KA,KK,IntKind.bits,e6,e7,KP,JI,Jw,ne_eq,byte,JO,Nat.reduceMul,Nat.reduceLeDiff];exact rfl) ag ?_;refine Wp.tg (xAe e3) ag ?_;refine ⟨(i,dn++[UInt8.ofNat (u/256^i)],m',m'+1),⟨by simp only;omega,by simp only;omega,by rw[<-h3];simp[be]⟩,by simp,?_⟩;refine aJ.tm (by simp only[aN,go_sem,reduceIte,Nat.reduceEqDiff,Nat.reduceAdd,bx];and_intros<;>first|exact trivial|exact ar.refl _|exact ar.any _|exact ar.of_eq (by simp[az,br,byte])|(refine ar.int ?_;omega))
theorem Gy(s:List UInt8)(j:Nat)(h:j<s.length):s.take (j+1)=s.take j++[s.getD j 0]:=by
 rw[List.take_add_one];simp[List.getD,Jm h]
theorem Ci{x:UInt8}(h:x≠0):decide (((x.toNat:Nat):Int)=0)=false:=by
 refine Jn λe=>h ?_;have:x.toNat=0:=by omega
 exact UInt8.toNat_inj.1 (by simpa using this)
theorem Gz(p:Pt)(hp:p.ok)(xs:List UInt8)(hx:xs.length<=500):xz Tryz.prog 211 (λt=>[.sl 1 (az xs) (.own t),dL p]) (λt=> .sl 1 (az (xs++ptB p)) (.own t)):=by
 intro t n m;suffices h:∃r h',aS Tryz.prog 211 [.sl 1 (az xs) (.own t),dL p] (.only av [t] n m) r h'/\∃t' n' m',n<=n'/\m<=m'/\r= .sl 1 (az (xs++ptB p)) (.own t')/\h'= .only av [t'] n' m' by
  obtain ⟨r,h',ha,t',n',m',hn,hm,rfl,rfl⟩:=h;exact ⟨t',n',m',hn,hm,ha⟩
 refine f211.dF (by simp[dL]) ?_;unfold HX zz;have lx:=bj xs;have e1:xs.length+1<=140737488355328:=by omega
 have e2:xs.length+1<4611686018427387904:=by omega
 obtain ⟨pk,pn,ps⟩:=p;rcases hp.k with hk|hk|hk
 ·simp only at hk;subst hk;obtain ⟨hn,hz,hl⟩:=hp.t rfl;simp only at hn hz hl;subst hn;have hE:dL ⟨1,0,ps⟩= .agg [.int .i64 1,.int .i64 0,.str ps]:=rfl;have hB:ptB ⟨1,0,ps⟩=2::ps++[0,1]:=rfl;rw[hE,hB];have d1:decide ((1:Int)=2)=false:=rfl;have d2:decide ((1:Int)=3)=false:=rfl;have lp:=bj ps;refine rf0 (bF d1 d2 lx e1 e2 @KA @KK @KP @JI @ne_eq.{1} @byte.eq_1 (cj7 @JO @Jp.{0} @Jx.{0} @JG @Jz.{0} @Kx lp)) ?_;refine Wp.le (s':=⟨tm [(0,.sl 1 (az (xs++[2])) (.own m)),(30,.sl 1 (az ps) .any),(31,.int .i64 ps.length),(32,.int .i64 0)],⟨av,n+1,[m],m+2⟩⟩) (aJ.of (bc ?_) (λi o h=>by cases h) (λj hj=>?_) (Jl _) (Jl _)) ?_
  ·simp only[aN,go_sem,reduceIte,Nat.reduceEqDiff];exact ⟨ar.of_eq (by simp[az,byte]),ar.cap,ar.refl _,ar.refl _,trivial⟩
  ·have:j=m:=by simpa using hj
   subst this;simp
  refine Wp.eX [30,31] xA7 (λj:Nat × Nat × Nat=>[(0,.sl 1 (az (xs++2::ps.take j.1)) (.own j.2.1)),(32,.int .i64 (j.1:Nat))]) (λj=>⟨av,n+1,[j.2.1],j.2.2⟩)
   (λj=>j.1<=ps.length/\m<=j.2.2) (λj=>ps.length - j.1) (0,m,m+2) ⟨JJ _,by simp⟩ rfl ?_ ?_
  ·exact dU @KX.{0}
  rintro ⟨j,tk,m'⟩ ⟨hj,hm⟩;simp only at hj hm;have lq:(az (xs++2::ps.take j)).length=xs.length+1+min j ps.length:=by rw[bj];simp;omega
  by_cases hcj:j<ps.length
  ·obtain ⟨g1,h2,h3,e1⟩:=ixF (j:=j) (n:=ps.length) aa aa;have hat:(az ps).getD j .any=byte (ps.getD j 0):=by
    exact jh ps j .any hcj
   have hnz:ps.getD j 0≠0:=hz _ (by simp[List.getD,Jm hcj]);have d3:=Ci hnz;have hsn:=Gy ps j hcj;have e3:xs.length+1+min j ps.length+1<=140737488355328:=by omega
   have e4:xs.length+1+min j ps.length+1<4611686018427387904:=by omega
   generalize ps.getD j 0=b at*
   unfold byte at hat;refine rf0 (bF g1 h2 h3 hat d3 lp lq e3 e4 @KA @KK (jD @KP @JI @ne_eq.{1} @JO @Jp.{0} @Jx.{0} @JG @Jz.{0} @Kx @Jq)) ?_;refine ⟨(j+1,m',m'+1),⟨by simp only;omega,by simp only;omega⟩,by simp only;omega,?_⟩;refine aJ.tm (by simp only[aN,go_sem,reduceIte,Nat.reduceEqDiff,Nat.reduceAdd,bx];and_intros<;>first|exact trivial|exact ar.refl _|exact ar.any _|exact ar.of_eq (by rw[hsn];simp[az,byte])|(refine ar.int ?_;omega))
  ·have hj2:j=ps.length:=by omega
   subst hj2;have g1:=ixE (ps.length);rw[J1] at lq;rw[Nat.min_self] at lq;have e3:xs.length+1+ps.length+2<=140737488355328:=by omega
   have e4:xs.length+1+ps.length+2<4611686018427387904:=by omega
   rw[J1];refine rf0 (bF g1 lq e3 e4 @KA @KK @KP @JI @ne_eq.{1} @JO @Jp.{0} (cj4 @Jx.{0} @JG @Jz.{0} @Kx)) ?_;refine Wp.ret ⟨trivial,_,rfl,m',n+1,m'+1,aa,aa,?_,?_⟩
   ·simp only[go_sem,reduceIte,Nat.reduceEqDiff];simp[az,byte]
   ·simp[H.only]
 ·simp only at hk;subst hk;obtain ⟨hs,h0,h63⟩:=hp.u af;simp only at hs h0 h63;subst hs;obtain ⟨v,rfl⟩:∃v:Nat,pn=v:=⟨pn.toNat,aa⟩;have hE:dL ⟨2,v,[]⟩= .agg [.int .i64 2,.int .i64 v,.str []]:=rfl;have hB:ptB ⟨2,v,[]⟩=3::br 0 (upB v):=rfl;rw[hE,hB];have d1:decide ((2:Int)=2)=true:=rfl;have hT:=q0 v aa 0 (xs++[3]) ak;have hb:az (xs++[3])=az xs++[.int .u8 3]:=by simp[az,byte]
  rw[hb] at hT;refine rn0 (bF d1 lx e1 e2 @KA @KK @KP @JI @ne_eq.{1} @byte.eq_1 @JO (cj5 @Jp.{0} @Jx.{0} @JG @Jz.{0} @Kx)) ?_;refine aq.cH m ae xA4 (by simp only[go_sem,Jz,JB,Kx]) hT λt1 m1 hm1=>?_;refine aq.eval xA1 ?_;refine aq.nil ⟨by simp[aZ,aR,apart,aO],?_⟩;refine Wp.le (s':=⟨tm [(4,.sl 1 (az (xs++[3]++br 0 (upB v))) (.own t1))],⟨av,n+1,[t1],m1⟩⟩) (aJ.of (bc ?_) (λi o h=>by cases h) (λj hj=>?_) (Jl _) (Jl _)) ?_
  ·exact xSb
  ·have:j=t1:=by simpa using hj
   subst this;simp
  refine fC ?_;refine Wp.ret ⟨trivial,_,rfl,t1,n+1,m1,aa,by have:m+1<=m1:=hm1;omega,?_,?_⟩
  ·simp only[go_sem,reduceIte,Nat.reduceEqDiff];simp
  ·simp[H.only]
 ·simp only at hk;subst hk;obtain ⟨hs,h0,h63⟩:=hp.u af;simp only at hs h0 h63;subst hs;obtain ⟨v,rfl⟩:∃v:Nat,pn=v:=⟨pn.toNat,aa⟩;have hE:dL ⟨3,v,[]⟩= .agg [.int .i64 3,.int .i64 v,.str []]:=rfl;have hB:ptB ⟨3,v,[]⟩=4::br 255 (upB v):=rfl;rw[hE,hB];have d1:decide ((3:Int)=2)=false:=rfl;have d2:decide ((3:Int)=3)=true:=rfl;have hT:=q0 v aa 255 (xs++[4]) ak;have hb:az (xs++[4])=az xs++[.int .u8 4]:=by simp[az,byte]
  rw[hb] at hT;refine rn0 (bF d1 d2 lx e1 e2 @KA @KK @KP @JI @ne_eq.{1} @byte.eq_1 (cj6 @JO @Jp.{0} @Jx.{0} @JG @Jz.{0} @Kx)) ?_;refine aq.cH m ae xA4 (by simp only[go_sem,Jz,JB,Kx]) hT λt1 m1 hm1=>?_;refine aq.eval xA1 ?_;refine aq.nil ⟨by simp[aZ,aR,apart,aO],?_⟩;refine Wp.le (s':=⟨tm [(4,.sl 1 (az (xs++[4]++br 255 (upB v))) (.own t1))],⟨av,n+1,[t1],m1⟩⟩) (aJ.of (bc ?_) (λi o h=>by cases h) (λj hj=>?_) (Jl _) (Jl _)) ?_
  ·exact xSb
  ·have:j=t1:=by simpa using hj
   subst this;simp
  refine fC ?_;refine Wp.ret ⟨trivial,_,rfl,t1,n+1,m1,aa,by have:m+1<=m1:=hm1;omega,?_,?_⟩
  ·simp only[go_sem,reduceIte,Nat.reduceEqDiff];simp
  ·simp[H.only]
def cS(l:List Pt):List UInt8:=(l.map ptB).flatten
theorem xR(p:Pt):3<=(ptB p).length:=by
 unfold ptB;split
 ·simp[cZ,upB,aW]
 ·split<;>simp[cZ,upB,aW]
theorem tY:∀l:List Pt,3*l.length<=(cS l).length
 |[]=>by simp[cS]
 |p::l=>by
  have h1:=xR p;have h2:=tY l;unfold cS at*
  simp only[JM,List.flatten_cons,Ju,List.length_cons];omega
theorem q9(l:List Pt)(j:Nat)(h:j<l.length):cS (l.take (j+1))=cS (l.take j)++ptB (l.getD j default):=by
 have e:l.getD j default=l[j]:=by simp[JN,Jm h]
 unfold cS;rw[e,JV h,KC,KW];congr 1;simp
theorem rf(l:List Pt)(j:Nat):(cS (l.take j)).length<=(cS l).length:=by
 have:cS l=cS (l.take j)++cS (l.drop j):=by unfold cS;rw[<-KW,<-KC,Kj]
 rw[this,Ju];omega
def pts(l:List Pt):List AV:=l.map dL
theorem iL(l:List Pt)(j:Nat)(d:AV)(h:j<l.length):(pts l).getD j d=dL (l.getD j default):=by simp[pts,List.getD,Jm h]
theorem dM(l:List Pt):(pts l).length=l.length:=by simp[pts]
theorem Cj(p:Pt)(hp:p.ok):aH Tryz.prog 210 [dL p] (.bool true):=by
 refine f210.aG af rfl rfl ?_;unfold HW zz;obtain ⟨pk,pn,ps⟩:=p;rcases hp.k with hk|hk|hk
 ·simp only at hk;subst hk;obtain ⟨hn,-,-⟩:=hp.t rfl;simp only at hn;subst hn;have hE:dL ⟨1,0,ps⟩= .agg [.int .i64 1,.int .i64 0,.str ps]:=rfl;rw[hE];refine rf0 @JO ?_;refine aK ?_;exact ar.refl _
 ·simp only at hk;subst hk;obtain ⟨hs,-,-⟩:=hp.u af;simp only at hs;subst hs;have hE:dL ⟨2,pn,[]⟩= .agg [.int .i64 2,.int .i64 pn,.str []]:=rfl;have d1:decide ((2:Int)=1)=false:=rfl;have d2:decide ((2:Int)=2)=true:=rfl;rw[hE];refine rf0 (cj3 d1 d2 @JO) ?_;refine aK ?_;exact ar.refl _
 ·simp only at hk;subst hk;obtain ⟨hs,-,-⟩:=hp.u af;simp only at hs;subst hs;have hE:dL ⟨3,pn,[]⟩= .agg [.int .i64 3,.int .i64 pn,.str []]:=rfl;have d1:decide ((3:Int)=1)=false:=rfl;have d2:decide ((3:Int)=2)=false:=rfl;have d3:decide ((3:Int)=3)=true:=rfl;rw[hE];refine rf0 (cj4 d1 d2 d3 @JO) ?_;refine aK ?_;exact ar.refl _
theorem z8(l:List Pt)(hok:∀p∈l,p.ok)(hl:(cS l).length<=128):aH Tryz.prog 178 [.sl 3 (pts l) .any] (.tup [.str (cS l),.int .i64 0]):=by
 have hll:=tY l;have pu:aD (pts l)=true:=Av.bA (λa=>rfl) _;refine f178.aG af (by simp[aD,aP,bw,pu]) (by simp[aP,aD]) ?_;unfold HL zz;have len:=dM l;refine rf0 @len ?_;refine Wp.tv [0,9,10] (by simp only[go_sem,reduceIte,Nat.reduceEqDiff,List.map,len];exact rfl) (λj:Nat=>[(11,.int .i64 j)]) (λj=>j<=l.length) (λj=>l.length - j) 0 (JJ _) ?_ ?_
 ·exact xSb
 rintro j n hn hj;by_cases hc:j<l.length
 ·obtain ⟨g1,h2,h3,e1⟩:=ixF (j:=j) (n:=l.length) aa aa;have hat:=iL l j .any hc;have hm:l.getD j default∈l:=by rw[Av.gS hc];exact KG hc
  have c1:=Cj _ (hok _ hm);generalize l.getD j default=p at*
  obtain ⟨pk,pn,ps⟩:=p;unfold dL at hat c1;refine rf1 (cj7 g1 h2 h3 hat @len @Jq @Kb) c1 ?_;refine ⟨j+1,n+1,by have:0<=n:=hn;omega,aa,aa,?_⟩;exact Hl
 ·have hj2:j=l.length:=by omega
  subst hj2;have g1:=ixE (l.length);refine rf0 (cj2 g1 @len) ?_;refine Wp.le (aJ.tok _ _) ?_;refine Wp.iE [0,19,20] (by simp only[go_sem,reduceIte,Nat.reduceEqDiff,List.map,len];exact rfl) (λ(j:Nat) tk=>[(6,.sl 1 (az (cS (l.take j))) (.own tk)),(21,.int .i64 j)]) (λj=>j<=l.length) (λj=>l.length - j) 0 0 (JJ _) rfl ?_ ?_
  ·simp only[aN,go_sem,reduceIte,Nat.reduceEqDiff,Nat.reduceAdd,bx,List.take_zero];and_intros<;>first|exact trivial|exact ar.refl _|exact ar.any _|exact ar.eL rfl|(refine ar.int ?_;omega)
  rintro j tk n2 m2 hn2 hj2;by_cases hc2:j<l.length
  ·obtain ⟨g1,h2,h3,e1⟩:=ixF (j:=j) (n:=l.length) aa aa;have hat:=iL l j .any hc2;have hm:l.getD j default∈l:=by rw[Av.gS hc2];exact KG hc2
   have hok1:=hok _ hm;have ht1:=rf l j;have ht2:=rf l (j+1);rw[q9 l j hc2,Ju] at ht2;have hT:=Gz _ hok1 (cS (l.take j)) aa;have hsn:=q9 l j hc2;have lq:(az (cS (l.take j)++ptB (l.getD j default))).length=(cS (l.take j)++ptB (l.getD j default)).length:=bj _;have d3:decide ((128:Int)<(((cS (l.take j)).length+(ptB (l.getD j default)).length:Nat):Int))=false:=Jn aa;have d2:decide ((128:Int)<(((l.getD j default).s.length:Nat):Int))=false:=by
    refine Jn ?_;rcases hok1.k with h|h
    ·have:=(hok1.t h).2.2;omega
    ·have:=(hok1.u (by rcases h with h|h<;>rw[h] <;>decide)).1;rw[this];decide
   generalize l.getD j default=p at*
   generalize cS (l.take j)=b at*
   generalize hq:ptB p=q at*
   obtain ⟨pk,pn,ps⟩:=p;simp only at d2;unfold dL at hat hT;refine rf0 (cj7 g1 h2 h3 hat @len @Jq d2) ?_;refine an.Gh tk ae xA4 (by simp only[go_sem,Jz,JB,Kx,or_true]) (by simp only[upd,av,go_sem];intro j hj;repeat (first|rfl|rw[Jr aa])) (hT) λt1 n1 m1 hn1 hm1=>?_;refine an.evF xAc ?_;refine rf0 (cj4 lq @Ju.{0} d3 @len) ?_;have hn1':n2+1<=n1:=hn1;refine ⟨j+1,t1,n1,m1,by show n<=n1;have:n<=n2:=hn2;omega,aa,aa,?_⟩;refine aJ.of (bc ?_) (λa o ho=>?_) (λa ha=>?_) (Jl _) (Jl _)
   ·exact dU hsn
   ·cases ho
   ·simpa using ha
  ·have hj3:j=l.length:=by omega
   subst hj3;have g1:=ixE (l.length);rw[J1];refine rf0 (cj5 g1 @len @cR @JK.{0,0} @Kx) ?_;refine aK ?_;exact ar.refl _
theorem Jb:∀k,k<128->UInt8.ofNat k ^^^ 128=UInt8.ofNat (k+128):=by decide
theorem Iz(n:Nat)(h:n<9223372036854775808):(be 8 n).set 0 ((be 8 n).getD 0 0 ^^^ 128)=upB n:=by
 unfold upB;simp only[be,List.set_cons_zero,J6,Nat.reducePow,Nat.pow_zero,Nat.div_one];rw[Jb _ aa];have e:∀a b:Nat,a%256=b%256->UInt8.ofNat a=UInt8.ofNat b:=λa b h=>by
  apply UInt8.toNat_inj.1;simpa using h
 congr 1
 ·exact e _ _ aa
 congr 1
 ·exact e _ _ aa
 congr 1
 ·exact e _ _ aa
 congr 1
 ·exact e _ _ aa
 congr 1
 ·exact e _ _ aa
 congr 1
 ·exact e _ _ aa
 congr 1
 ·exact e _ _ aa
 congr 1;exact e _ _ aa
structure Ky where
 k:Int
 b:List UInt8
 o:List UInt8
 ns:List Int
deriving Inhabited,DecidableEq
def eY(k:Ky):AV:= .agg [.int .i64 k.k,.str k.b,.str k.o,.sl 1 (ints k.ns) .any]
def fT(k:Int):Int:=if k=6 then 3 else if k=5\/k=3 then 2 else if k=4\/k=2 then 1 else if k=1 then 0 else -1
def dt(k:Int):UInt8:=[98,111,99,117,112,113].getD (k.toNat - 1) 0
def txt(s:List UInt8):Pt:=⟨1,0,s⟩
def cf(k n:Int):Pt:=⟨if k=2 then 3 else 2,n,[]⟩
def eM(k:Ky):List Pt:=txt [dt k.k]::txt k.b::((if k.o=[] then [] else [txt k.o])++k.ns.map (cf k.k))
def cw(k:Ky):List UInt8:=cS (eM k)
structure Ky.ok(x:Ky):Prop where
 k:1<=x.k/\x.k<=6
 n:fT x.k=x.ns.length
 r:∀n∈x.ns,0<=n/\n<9223372036854775808
 e:x.k=1->x.o=[]
 b:cG x.b=0
 o:x.k≠1->cF x.o=0
theorem tZ(k:Int):fT k<=3:=by
 unfold fT
 repeat' split
 all_goals omega
theorem fY{s:List UInt8}(h:cG s=0):3<=s.length/\s.length<=12/\∀b∈s,45<=b.toNat/\b.toNat<=122:=by
 unfold cG at h;split at h
 ·rename_i hc;obtain ⟨h1,h2,h3⟩:=hc;refine ⟨h1,h2,λb hb=>?_⟩;obtain ⟨i,hi,rfl⟩:=Lf.1 hb;have:=JS.1 h3 i (Kg.2 hi);rw[z6] at this;have e:s.getD i default=s[i]:=by simp[List.getD,Jm hi]
  rw[e] at this;split at this
  ·omega
  ·unfold we at this;simp only[J7,Jv,JE] at this;omega
 ·simp at h
theorem du{s:List UInt8}(h:cF s=0):1<=s.length/\s.length<=32/\∀b∈s,33<=b.toNat/\b.toNat<=126:=by
 unfold cF at h;split at h
 ·rename_i hc;obtain ⟨h1,h2,h3⟩:=hc;refine ⟨Lh.2 h1,h2,λb hb=>?_⟩;have:=JS.1 h3 b hb;unfold Desk.seen at this;simpa using this
 ·simp at h
theorem xS{b:UInt8}{n:Nat}(h:n+1<=b.toNat):b≠0:=by
 rintro rfl;simp at h
theorem wg{s:List UInt8}(h:∀b∈s,b≠0)(hl:s.length<=128):(txt s).ok:=⟨.inl rfl,λ_=>⟨rfl,h,hl⟩,λh=>absurd rfl h⟩
theorem GA{k n:Int}(h:0<=n/\n<9223372036854775808):(cf k n).ok:=by
 refine ⟨?_,λh=>?_,λ_=>⟨rfl,h.1,h.2⟩⟩
 ·unfold cf;by_cases hk:k=2<;>simp[hk]
 ·unfold cf at h;by_cases hk:k=2<;>simp[hk] at h
theorem Aa{k:Int}(h:1<=k/\k<=6):dt k≠0:=by
 obtain ⟨h1,h2⟩:=h;obtain rfl|rfl|rfl|rfl|rfl|rfl:k=1\/k=2\/k=3\/k=4\/k=5\/k=6:=by omega
 all_goals decide
theorem jo{k:Ky}(h:k.ok):∀p∈eM k,p.ok:=by
 obtain ⟨b1,b2,b3⟩:=fY h.b;intro p hp;unfold eM at hp;simp only[JB,JW,JF] at hp;rcases hp with rfl|rfl|hp|⟨n,hn,rfl⟩
 ·exact wg (λb hb=>by simp only[Jz] at hb;rw[hb];exact Aa h.k) af
 ·exact wg (λb hb=>xS (n:=44) (b3 b hb).1) aa
 ·split at hp
  ·cases hp
  ·rename_i ho;simp only[Jz] at hp;subst hp;have hk:k.k≠1:=λhk=>ho (h.e hk);obtain ⟨o1,o2,o3⟩:=du (h.o hk);exact wg (λb hb=>xS (n:=32) (o3 b hb).1) aa
 ·exact GA (h.r n hn)
theorem Ck(k n:Int):(ptB (cf k n)).length=9:=by
 unfold cf ptB;by_cases hk:k=2<;>simp[hk,cZ,upB,aW]
theorem ua(k:Int):∀l:List Int,(cS (l.map (cf k))).length=9*l.length
 |[]=>rfl
 |n::l=>by
  have h1:=Ck k n;have h2:=ua k l;unfold cS at*
  simp only[JM,List.flatten_cons,Ju,List.length_cons];omega
theorem sn{k:Ky}(h:k.ok):(cw k).length<=81:=by
 obtain ⟨b1,b2,b3⟩:=fY h.b;have hn:=h.n;have h3:=tZ k.k;have h4:=ua k.k k.ns;have ho:k.o.length<=32:=by
  by_cases hk:k.k=1
  ·rw[h.e hk];simp
  ·exact (du (h.o hk)).2.1
 unfold cw eM cS at*
 simp only[JM,List.flatten_cons,Ju,KC,KW];have t1:∀s,(ptB (txt s)).length=s.length+3:=λs=>by simp[ptB,txt]
 rw[t1,t1,h4];by_cases he:k.o=[]
 ·simp[he];omega
 ·simp[he,t1];omega
theorem kinds(k:Int):k=1\/k=2\/k=3\/k=4\/k=5\/k=6\/(k≠1/\k≠2/\k≠3/\k≠4/\k≠5/\k≠6):=by omega
theorem Cl(k:Int):aH Tryz.prog 175 [.int .i64 k] (.int .i64 (fT k)):=by
 rcases kinds k with rfl|rfl|rfl|rfl|rfl|rfl|⟨h1,h2,h3,h4,h5,h6⟩
 ·refine f175.aG af rfl rfl ?_;unfold tC zz;have d1:decide ((1:Int)=1)=true:=rfl;have d2:decide ((1:Int)=2)=false:=rfl;have d3:decide ((1:Int)=3)=false:=rfl;have d4:decide ((1:Int)=4)=false:=rfl;have d5:decide ((1:Int)=5)=false:=rfl;have d6:decide ((1:Int)=6)=false:=rfl;refine rf0 (cj6 d1 d2 d3 d4 d5 d6) ?_;refine aK ?_;exact ar.of_eq rfl
 ·refine f175.aG af rfl rfl ?_;unfold tC zz;have d1:decide ((2:Int)=1)=false:=rfl;have d2:decide ((2:Int)=2)=true:=rfl;have d3:decide ((2:Int)=3)=false:=rfl;have d4:decide ((2:Int)=4)=false:=rfl;have d5:decide ((2:Int)=5)=false:=rfl;have d6:decide ((2:Int)=6)=false:=rfl;refine rf0 (cj6 d1 d2 d3 d4 d5 d6) ?_;refine aK ?_;exact ar.of_eq rfl
 ·refine f175.aG af rfl rfl ?_;unfold tC zz;have d1:decide ((3:Int)=1)=false:=rfl;have d2:decide ((3:Int)=2)=false:=rfl;have d3:decide ((3:Int)=3)=true:=rfl;have d4:decide ((3:Int)=4)=false:=rfl;have d5:decide ((3:Int)=5)=false:=rfl;have d6:decide ((3:Int)=6)=false:=rfl;refine rf0 (cj6 d1 d2 d3 d4 d5 d6) ?_;refine aK ?_;exact ar.of_eq rfl
 ·refine f175.aG af rfl rfl ?_;unfold tC zz;have d1:decide ((4:Int)=1)=false:=rfl;have d2:decide ((4:Int)=2)=false:=rfl;have d3:decide ((4:Int)=3)=false:=rfl;have d4:decide ((4:Int)=4)=true:=rfl;have d5:decide ((4:Int)=5)=false:=rfl;have d6:decide ((4:Int)=6)=false:=rfl;refine rf0 (cj6 d1 d2 d3 d4 d5 d6) ?_;refine aK ?_;exact ar.of_eq rfl
 ·refine f175.aG af rfl rfl ?_;unfold tC zz;have d1:decide ((5:Int)=1)=false:=rfl;have d2:decide ((5:Int)=2)=false:=rfl;have d3:decide ((5:Int)=3)=false:=rfl;have d4:decide ((5:Int)=4)=false:=rfl;have d5:decide ((5:Int)=5)=true:=rfl;have d6:decide ((5:Int)=6)=false:=rfl;refine rf0 (cj6 d1 d2 d3 d4 d5 d6) ?_;refine aK ?_;exact ar.of_eq rfl
 ·refine f175.aG af rfl rfl ?_;unfold tC zz;have d1:decide ((6:Int)=1)=false:=rfl;have d2:decide ((6:Int)=2)=false:=rfl;have d3:decide ((6:Int)=3)=false:=rfl;have d4:decide ((6:Int)=4)=false:=rfl;have d5:decide ((6:Int)=5)=false:=rfl;have d6:decide ((6:Int)=6)=true:=rfl;refine rf0 (cj6 d1 d2 d3 d4 d5 d6) ?_;refine aK ?_;exact ar.of_eq rfl
 have hn:fT k= -1:=by simp[fT,h1,h2,h3,h4,h5,h6]
 rw[hn];refine f175.aG af rfl rfl ?_;unfold tC zz;have d1:=Jn h1;have d2:=Jn h2;have d3:=Jn h3;have d4:=Jn h4;have d5:=Jn h5;have d6:=Jn h6;refine rf0 (cj6 d1 d2 d3 d4 d5 d6) ?_;refine aK ?_;exact ar.refl _
def mZ(l:List Int):Bool:=l.all λn=>decide (0<=n)
theorem wh{l:List Int}{j:Nat}(h:j<l.length)(hn:l.getD j 0<0):mZ l=false:=by
 refine List.all_eq_false.2 ⟨_,KG h,?_⟩;have:l.getD j 0=l[j]:=by simp[List.getD,Jm h]
 rw[this] at hn;simpa using hn
theorem Ab{l:List Int}(h:∀j,j<l.length->0<=l.getD j 0):mZ l=true:=by
 refine JS.2 λn hn=>?_;obtain ⟨i,hi,rfl⟩:=Lf.1 hn;have:=h i hi;have e:l.getD i 0=l[i]:=by simp[List.getD,Jm hi]
 rw[e] at this;simpa using this
def eE(x:Ky):Bool:=mZ x.ns&&decide (((x.ns.length:Nat):Int)<=fT x.k)&&(!decide (x.k=1)||decide (x.o=[]))
theorem gB(x:Ky):aP (eY x)=true:=by simp[eY,aP,aD,bw,zp]
theorem Ac(x:Ky)(hl:x.ns.length<=1000000):aH Tryz.prog 130 [eY x] (.bool (eE x)):=by
 refine f130.aG af (by simp[aD,gB]) rfl ?_;unfold Hv zz;obtain ⟨k,b,o,ns⟩:=x;have hE:eY ⟨k,b,o,ns⟩= .agg [.int .i64 k,.str b,.str o,.sl 1 (ints ns) .any]:=rfl;have len:=fM ns;simp only at hl;rw[hE];refine rf0 @len ?_;refine Wp.gQ [1,6,7] xA6 (λj:Nat=>[(8,.int .i64 (j:Nat))]) (λj=>j<=ns.length/\∀i,i<j->0<=ns.getD i 0) (λj=>ns.length - j) 0 ⟨JJ _,λi h=>absurd h (Nat.not_lt_zero _)⟩ ?_ ?_
 ·exact xSb
 rintro j ⟨hj,hall⟩;by_cases hc:j<ns.length
 ·obtain ⟨g1,h2,h3,e1⟩:=ixF (j:=j) (n:=ns.length) aa aa;have hat:=mP ns j .any hc;by_cases hn:ns.getD j 0<0
  ·have d1:=Jt hn;refine rf0 (cj7 g1 h2 h3 @len hat @Jq d1) ?_;refine aK ?_;exact ar.of_eq (by simp[eE,wh hc hn])
  ·have d1:=Jn hn;refine rf0 (cj7 g1 h2 h3 @len hat @Jq d1) ?_;refine ⟨j+1,⟨aa,λi hi=>?_⟩,aa,?_⟩
   ·by_cases e:i=j
    ·subst e;omega
    ·exact hall i aa
   exact xSu
 ·have hj2:j=ns.length:=by omega
  subst hj2;have g1:=ixE (ns.length);have hok:=Ab hall;have c1:=Cl k;cases d1:decide (((ns.length:Nat):Int)<=fT k) with
  |false=>
   refine rn1 (cj3 g1 @len d1) c1 ?_;refine aK ?_;exact ar.of_eq (by simp[eE,d1])
  |true=>
  cases d2:decide (k=1) with
  |false=>
   refine rn1 (cj5 g1 @len d1 d2 @Kf) c1 ?_;refine aK ?_;exact ar.of_eq (by simp[eE,d1,d2,hok])
  |true=>
   cases d3:decide (o=[]) with
   |true=>
    refine rn1 (cj6 g1 @len d1 d2 d3 @Kb) c1 ?_;refine aK ?_;exact ar.of_eq (by simp[eE,d1,d2,d3,hok])
   |false=>
    refine rn1 (cj6 g1 @len d1 d2 d3 @Kb) c1 ?_;refine aK ?_;exact ar.of_eq (by simp[eE,d1,d2,d3,hok])
theorem wj(s:List UInt8):aH Tryz.prog 176 [.str s] (dL (txt s)):=by
 refine f176.aG af rfl rfl ?_;unfold HJ zz;refine fC ?_;refine aK ?_;exact ar.refl _
theorem rl(k n:Int):aH Tryz.prog 177 [.int .i64 k,.int .i64 n] (dL (cf k n)):=by
 refine f177.aG af rfl rfl ?_;unfold HK zz;cases d1:decide (k=2) with
 |true=>
  have:cf k n=⟨3,n,[]⟩:=by unfold cf;rw[JC (JL d1)]
  rw[this];refine rf0 d1 ?_;refine aK ?_;exact ar.refl _
 |false=>
  have:cf k n=⟨2,n,[]⟩:=by unfold cf;rw[Jr (JZ d1)]
  rw[this];refine rf0 d1 ?_;refine aK ?_;exact ar.refl _
theorem Ad{k:Int}(h:1<=k/\k<=6):(List.take k.toNat [98,111,99,117,112,113]).drop (k - 1).toNat=[dt k]:=by
 obtain ⟨h1,h2⟩:=h;obtain rfl|rfl|rfl|rfl|rfl|rfl:k=1\/k=2\/k=3\/k=4\/k=5\/k=6:=by omega
 all_goals rfl
theorem jZ(l:List Pt)(p:Pt):pts (l++[p])=pts l++[dL p]:=by simp[pts]
def kO(x:Ky):List Pt:=txt [dt x.k]::txt x.b::(if x.o=[] then [] else [txt x.o])
theorem ub(x:Ky):eM x=kO x++x.ns.map (cf x.k):=by simp[eM,kO]
theorem Cm(x:Ky):(kO x).length<=3:=by unfold kO;split<;>simp
theorem nP(k:Int)(l:List Int)(j:Nat)(h:j<l.length):(l.take (j+1)).map (cf k)=(l.take j).map (cf k)++[cf k (l.getD j 0)]:=by
 have e:l.getD j 0=l[j]:=by simp[JN,Jm h]
 rw[e,JV h,KC];simp
theorem Ae(x:Ky)(hx:x.ok):aH Tryz.prog 131 [eY x,.sl 1 [.str x.b,.str x.o] .any] (.str (cw x)):=by
 refine f131.aG af (by simp[aD,gB,aP,bw]) rfl ?_;unfold Hw zz;have hk:=hx.k;have hl:=Ad hk;obtain ⟨b1,b2,b3⟩:=fY hx.b;have henc:=z8 (eM x) (jo hx) (by have:=sn hx;unfold cw at this;omega);have hn:=hx.n;have hn3:=tZ x.k;have hh:=Cm x;rw[ub] at henc;have hkb:cw x=cS (kO x++x.ns.map (cf x.k)):=by unfold cw;rw[ub]
 rw[hkb];unfold kO at*
 clear hkb b3 hx;obtain ⟨k,b,o,ns⟩:=x;simp only at*
 have hE:eY ⟨k,b,o,ns⟩= .agg [.int .i64 k,.str b,.str o,.sl 1 (ints ns) .any]:=rfl;have len:=fM ns;rw[hE];have w1:IntKind.i64.wrap (k - 1)=k - 1:=IntWalk.i64_in _ aa;have k0:(0:Int)<=k:=by omega
 have k1:(0:Int)<=k - 1:=by omega
 have k2:k - 1<=k:=by omega
 have k3:k<=((6:Nat):Int):=hk.2;have k4:((k.toNat:Nat):Int)=k:=Int.toNat_of_nonneg k0;have c1:=wj [dt k];have c2:=wj b;have c3:=wj o;have db:decide (b=[])=false:=Jn (by rintro rfl;simp at b1);have i0:decide ((0:Int)<((2:Nat):Int))=true:=rfl;have i1:decide ((1:Int)<((2:Nat):Int))=true:=rfl;have i2:decide ((2:Int)<((2:Nat):Int))=false:=rfl;have u1:IntKind.i64.wrap (0+1)=1:=rfl;have u2:IntKind.i64.wrap (1+1)=2:=rfl;have t0:Int.toNat 0=0:=rfl;have t1:Int.toNat 1=1:=rfl;have x1:(0:Int)<((2:Nat):Int):=by decide
 have x2:(1:Int)<((2:Nat):Int):=by decide
 have x3:(0:Int)<=1:=by decide
 unfold dL txt at c1 c2 c3;refine rf1 (bF w1 k0 k1 k2 k3 k4 hl @Option.bind_some.{0,0} @JK.{0,0} @Jp.{0} @Jx.{0} (cj2 @JG @JI)) c1 ?_;cases dq:decide (o=[]) with
 |true=>
  have ho:=JL dq;subst ho;refine Wp.FG (WpL.next ?_);refine rf1 (bF i0 i1 i2 u1 u2 t0 t1 x1 x2 x3 @KY (bF @JI @J6.{0} @KS.{0} db dq @Kf @Kb @Jp.{0} @Jx.{0} @JG @Kx (cj2 @Jz.{0} @JO))) c2 ?_;refine WpL.next ?_;refine rf0 (bF i0 i1 i2 u1 u2 t0 t1 x1 x2 x3 @KY (bF @JI @J6.{0} @KS.{0} db dq @Kf @Kb @Jp.{0} @Jx.{0} @JG @Kx (cj2 @Jz.{0} @JO))) ?_;refine WpL.next ?_;refine rf0 (bF i0 i1 i2 u1 u2 t0 t1 x1 x2 x3 @KY (bF @JI @J6.{0} @KS.{0} db dq @Kf @Kb @Jp.{0} @Jx.{0} @JG @Kx (cj3 @Jz.{0} @JO @len))) ?_;obtain ⟨H,hH⟩:∃H,H=[txt [dt k],txt b]:=⟨_,rfl⟩;have hP:pts H=[.agg [.int .i64 1,.int .i64 0,.str [dt k]],.agg [.int .i64 1,.int .i64 0,.str b]]:=by rw[hH];rfl
  have hHl:H.length<=3:=by rw[hH];simp
  have hd:(txt [dt k]::txt b::(if ([]:List UInt8)=[] then [] else [txt []]))=H:=by rw[hH];simp
  rw[hd] at henc |-;refine Wp.le (s':=⟨tm [(2,.ptr 0 0),(5,.sl 3 (pts H) (.own 0)),(35,.sl 1 (ints ns) .any),(36,.int .i64 ns.length),(37,.int .i64 0)],⟨upd av 0 (some (.cells [.int .i64 k,.str b,.str [],.sl 1 (ints ns) .any])),1,[0],1⟩⟩) (aJ.of (bc ?_) (λa u hu=>⟨u,hu,dP.refl _⟩) (λa ha=>ha) (Jl _) (Jl _)) ?_
  ·rw[hP];exact xSb
  clear hP hd;refine Wp.rT [2,35,36] xA7 (λ(j:Nat) tk=>[(5,.sl 3 (pts (H++(ns.take j).map (cf k))) (.own tk)),(37,.int .i64 (j:Nat))]) (λj=>j<=ns.length) (λj=>ns.length - j) 0 0 (JJ _) rfl ?_ ?_
  ·exact dU (cj3 @KX.{0} @J4.{0,0} @JY.{0})
  rintro j tk m hj;have lp:(pts (H++(ns.take j).map (cf k))).length=H.length+j:=by rw[dM];simp;omega
  by_cases hc:j<ns.length
  ·obtain ⟨g1,h2,h3,e1⟩:=ixF (j:=j) (n:=ns.length) aa aa;have hat:=mP ns j .any hc;have hsn:=nP k ns j hc;have c5:=rl k (ns.getD j 0);have e6:(H.length+j+1)*32<=140737488355328:=by omega
   have e7:H.length+j+1<4611686018427387904:=by omega
   generalize hnp:cf k (ns.getD j 0)=np at*
   have hen:dL np= .agg [.int .i64 np.k,.int .i64 np.n,.str np.s]:=rfl;rw[hen] at c5;refine rf1 (bF g1 h2 h3 @len hat @Jq lp e6 e7 @Jp.{0} @Jx.{0} (cj4 @JG @Jz.{0} @Kx @JI)) c5 ?_;refine ⟨j+1,m,m+1,aa,aa,?_⟩;refine aJ.tm (by simp only[aN,go_sem,reduceIte,Nat.reduceEqDiff,Nat.reduceAdd,bx];and_intros<;>first|exact trivial|exact ar.refl _|exact ar.any _|exact ar.of_eq (by rw[hsn,<-K7,jZ];rfl)|(refine ar.int ?_;omega))
  ·have hj2:j=ns.length:=by omega
   subst hj2;have g1:=ixE (ns.length);rw[J1];refine rf1 (cj2 g1 @len) henc ?_;refine aK ?_;exact ar.refl _
 |false=>
  refine Wp.FG (WpL.next ?_);refine rf1 (bF i0 i1 i2 u1 u2 t0 t1 x1 x2 x3 @KY (bF @JI @J6.{0} @KS.{0} db dq @Kf @Kb @Jp.{0} @Jx.{0} @JG @Kx (cj2 @Jz.{0} @JO))) c2 ?_;refine WpL.next ?_;refine rf1 (bF i0 i1 i2 u1 u2 t0 t1 x1 x2 x3 @KY (bF @JI @J6.{0} @KS.{0} db dq @Kf @Kb @Jp.{0} @Jx.{0} @JG @Kx (cj2 @Jz.{0} @JO))) c3 ?_;refine WpL.next ?_;refine rf0 (bF i0 i1 i2 u1 u2 t0 t1 x1 x2 x3 @KY (bF @JI @J6.{0} @KS.{0} db dq @Kf @Kb @Jp.{0} @Jx.{0} @JG @Kx (cj3 @Jz.{0} @JO @len))) ?_;obtain ⟨H,hH⟩:∃H,H=[txt [dt k],txt b,txt o]:=⟨_,rfl⟩;have hP:pts H=[.agg [.int .i64 1,.int .i64 0,.str [dt k]],.agg [.int .i64 1,.int .i64 0,.str b],.agg [.int .i64 1,.int .i64 0,.str o]]:=by rw[hH];rfl
  have hHl:H.length<=3:=by rw[hH];simp
  have hd:(txt [dt k]::txt b::(if o=[] then [] else [txt o]))=H:=by rw[hH];simp[JZ dq]
  rw[hd] at henc |-;refine Wp.le (s':=⟨tm [(2,.ptr 0 0),(5,.sl 3 (pts H) (.own 1)),(35,.sl 1 (ints ns) .any),(36,.int .i64 ns.length),(37,.int .i64 0)],⟨upd av 0 (some (.cells [.int .i64 k,.str b,.str o,.sl 1 (ints ns) .any])),1,[1],2⟩⟩) (aJ.of (bc ?_) (λa u hu=>⟨u,hu,dP.refl _⟩) (λa ha=>ha) (Jl _) (Jl _)) ?_
  ·rw[hP];exact xSb
  clear hP hd;refine Wp.rT [2,35,36] xA7 (λ(j:Nat) tk=>[(5,.sl 3 (pts (H++(ns.take j).map (cf k))) (.own tk)),(37,.int .i64 (j:Nat))]) (λj=>j<=ns.length) (λj=>ns.length - j) 0 1 (JJ _) rfl ?_ ?_
  ·exact dU (cj3 @KX.{0} @J4.{0,0} @JY.{0})
  rintro j tk m hj;have lp:(pts (H++(ns.take j).map (cf k))).length=H.length+j:=by rw[dM];simp;omega
  by_cases hc:j<ns.length
  ·obtain ⟨g1,h2,h3,e1⟩:=ixF (j:=j) (n:=ns.length) aa aa;have hat:=mP ns j .any hc;have hsn:=nP k ns j hc;have c5:=rl k (ns.getD j 0);have e6:(H.length+j+1)*32<=140737488355328:=by omega
   have e7:H.length+j+1<4611686018427387904:=by omega
   generalize hnp:cf k (ns.getD j 0)=np at*
   have hen:dL np= .agg [.int .i64 np.k,.int .i64 np.n,.str np.s]:=rfl;rw[hen] at c5;refine rf1 (bF g1 h2 h3 @len hat @Jq lp e6 e7 @Jp.{0} @Jx.{0} (cj4 @JG @Jz.{0} @Kx @JI)) c5 ?_;refine ⟨j+1,m,m+1,aa,aa,?_⟩;refine aJ.tm (by simp only[aN,go_sem,reduceIte,Nat.reduceEqDiff,Nat.reduceAdd,bx];and_intros<;>first|exact trivial|exact ar.refl _|exact ar.any _|exact ar.of_eq (by rw[hsn,<-K7,jZ];rfl)|(refine ar.int ?_;omega))
  ·have hj2:j=ns.length:=by omega
   subst hj2;have g1:=ixE (ns.length);rw[J1];refine rf1 (cj2 g1 @len) henc ?_;refine aK ?_;exact ar.refl _
def iM(x:Ky):Bool:=mZ x.ns&&decide (((x.ns.length:Nat):Int)=fT x.k)&&(!decide (x.k=1)||decide (x.o=[]))
def iN(x:Ky):Int:=if iM x=true then (if cG x.b=0 then (if x.k=1 then 0 else cF x.o) else 15) else 2
def fD(x:Ky):List UInt8:=if iN x=0 then cw x else []
def Ky.fit(x:Ky):Prop:=x.ns.length<=1000000/\∀n∈x.ns,n<9223372036854775808
theorem wk(s:List UInt8):cG s=0\/cG s=15:=by unfold cG;split<;>simp
theorem wm(s:List UInt8):cF s=0\/cF s=15:=by unfold cF;split<;>simp
theorem Cn{x:Ky}(h:iM x=true):eE x=true:=by
 unfold iM at h;unfold eE;simp only[Jv,JE] at h |-;exact ⟨⟨h.1.1,aa⟩,h.2⟩
theorem Co{x:Ky}(hf:x.fit)(h:iN x=0):x.ok:=by
 unfold iN at h;split at h
 case isFalse=>simp at h
 rename_i ha;split at h
 case isFalse=>simp at h
 rename_i hb;unfold iM at ha;simp only[Jv,JE,J7,Bool.not_eq_true',Lq] at ha;obtain ⟨⟨a1,a2⟩,a3⟩:=ha;refine ⟨?_,a2.symm,λn hn=>⟨?_,hf.2 n hn⟩,λhk=>?_,hb,λhk=>?_⟩
 ·rcases kinds x.k with e|e|e|e|e|e|⟨h1,h2,h3,h4,h5,h6⟩;all_goals first
   |omega
   |(have hn:fT x.k= -1:=by simp[fT,h1,h2,h3,h4,h5,h6]
     omega)
 ·have:=JS.1 a1 n hn;simpa using this
 ·rcases a3 with h|h
  ·exact absurd hk h
  ·exact h
 ·rw[Jr hk] at h;exact h
theorem FQ(x:Ky)(hf:x.fit):aH Tryz.prog 138 [eY x] (.tup [.str (fD x),.int .i64 (iN x)]):=by
 refine f138.aG af (by simp[aD,gB]) rfl ?_;unfold Hy zz;have c1:=Ac x hf.1;have c2:=Cl x.k;have c3:=tK x.b;have c4:=tJ x.o;have len:=fM x.ns;have hE:eY x= .agg [.int .i64 x.k,.str x.b,.str x.o,.sl 1 (ints x.ns) .any]:=rfl;have hok:=λh=>Ae x (Co hf h);have hS:fD x=if iN x=0 then cw x else []:=rfl
 rw[hE] at c1 hok |-;cases ha:iM x with
 |false=>
  have hk:iN x=2:=by unfold iN;rw[ha];rfl
  rw[hS,hk,Jr ah];cases hn:eE x with
  |false=>
   rw[hn] at c1;refine rn2 (cj2 @len @Kf) c1 c2 ?_;refine aK ?_;exact ar.refl _
  |true=>
   rw[hn] at c1;have d1:decide (((x.ns.length:Nat):Int)=fT x.k)=false:=by
    refine Jn λe=>?_;unfold iM at ha;unfold eE at hn;simp only[Jv] at hn;rw[hn.1.1,hn.2,Jt e] at ha;simp at ha
   refine rn2 (cj4 @len d1 @Kb @Kf) c1 c2 ?_;refine aK ?_;exact ar.refl _
 |true=>
  rw[Cn ha] at c1;have d1:decide (((x.ns.length:Nat):Int)=fT x.k)=true:=by
   unfold iM at ha;simp only[Jv] at ha;exact ha.1.2
  have hk:iN x=if cG x.b=0 then (if x.k=1 then 0 else cF x.o) else 15:=by unfold iN;rw[ha];rfl
  rcases wk x.b with hb|hb
  ·rw[hb] at c3;rw[hb,JC rfl] at hk;have e0:decide ((0:Int)=0)=true:=rfl;cases d2:decide (x.k=1) with
   |true=>
    rw[JC (JL d2)] at hk;have c5:=hok hk;rw[hS,hk,JC rfl];refine rn4 (cj5 @len d1 d2 e0 @Kb) c1 c2 c3 c5 ?_;refine aK ?_;exact ar.refl _
   |false=>
    rw[Jr (JZ d2)] at hk;rcases wm x.o with ho|ho
    ·rw[ho] at c4 hk;have c5:=hok hk;rw[hS,hk,JC rfl];refine rn8 (cj6 @len d1 d2 e0 @Kb @Kf) c1 c2 c3 c4 c5 c5 c5 c5 ?_;refine aK ?_;exact ar.refl _
    ·rw[ho] at c4 hk;have e15:decide ((15:Int)=0)=false:=rfl;rw[hS,hk,Jr ah];refine rn4 (cj7 @len d1 d2 e0 e15 @Kb @Kf) c1 c2 c3 c4 ?_;refine aK ?_;exact ar.refl _
  ·rw[hb] at c3;rw[hb,Jr ah] at hk;have e15:decide ((15:Int)=0)=false:=rfl;rw[hS,hk,Jr ah];refine rn3 (cj5 @len d1 e15 @Kb @Kf) c1 c2 c3 ?_;refine aK ?_;exact ar.refl _
def lj(sz re im:Int)(g u:Bool):AV:= .agg [.int .i64 sz,.int .i64 re,.int .i64 im,.bool g,.bool u]
def eN(sz re im:Int)(g:Bool):Bool:=decide (0<=sz)&&decide (sz<=2560)&&(jn re&&jn im)&&(!g||(decide (sz=0)&&(decide (re=0)&&decide (im=0))))
def flN(g u:Bool):Nat:=(if g then 1 else 0)+(if u then 2 else 0)
def eZ(s r i:Nat)(g u:Bool):List UInt8:=be 1 (flN g u)++be 2 s++be 4 r++be 4 i
theorem fj(s r i:Nat)(g u:Bool):(eZ s r i g u).length=11:=by simp[eZ,aW]
def cP(sz re im:Int)(g u:Bool):List UInt8:=if eN sz re im g=true then eZ sz.toNat re.toNat im.toNat g u else []
def nQ(sz re im:Int)(g:Bool):Int:=if eN sz re im g=true then 0 else 2
theorem na{sz re im:Int}{g:Bool}(h:eN sz re im g=true):∃s r i:Nat,sz=s/\re=r/\im=i/\s<=2560/\r<1048573/\i<1048573:=by
 simp[eN,jn] at h;exact ⟨sz.toNat,re.toNat,im.toNat,aa,aa,aa,aa,aa,aa⟩
theorem ox(sz re im:Int)(g u:Bool):aH Tryz.prog 40 [lj sz re im g u] (.tup [.str (cP sz re im g u),.int .i64 (nQ sz re im g)]):=by
 have h1:=Cf re im;cases hr:eN sz re im g with
 |false=>
  unfold cP nQ;simp only[hr,Jy,Js];refine f40.aG af rfl rfl ?_;unfold c40 lj zz;cases d1:decide (sz<0) with
  |true=>
   refine rf0 d1 ?_;refine aK ?_;exact ar.refl _
  |false=>
  cases d2:decide (2560<sz) with
  |true=>
   refine rf0 (cj2 d1 d2) ?_;refine aK ?_;exact ar.refl _
  |false=>
  have o1:=JZ d1;have o2:=JZ d2;have p1:decide (0<=sz)=true:=Jt aa;have p2:decide (sz<=2560)=true:=Jt aa;simp only[eN,p1,p2,Ko] at hr;cases d3:(jn re&&jn im) with
  |false=>
   rw[d3] at h1;simp only[Jy,Js] at h1;refine rf1 (cj2 d1 d2) h1 ?_;refine aK ?_;exact ar.refl _
  |true=>
  rw[d3] at h1 hr;simp only[Jw,Ko] at h1 hr;cases g with
  |false=>cases hr
  |true=>
  simp only[Kb,LJ] at hr;cases d4:decide (0<sz) with
  |true=>
   refine rf1 (cj3 d1 d2 d4) h1 ?_;refine aK ?_;exact ar.refl _
  |false=>
   have o4:=JZ d4;have p4:decide (sz=0)=true:=Jt aa;rw[p4,Ko] at hr;refine rf1 (cj4 d1 d2 d4 hr) h1 ?_;refine aK ?_;exact ar.refl _
 |true=>
  unfold cP nQ;simp only[hr,Jw];obtain ⟨s,r,i,rfl,rfl,rfl,hs,hr',hi⟩:=na hr;simp only[Int.toNat_natCast];have d1:decide ((s:Int)<0)=false:=Jn aa;have d2:decide (2560<(s:Int))=false:=Jn aa;have d3:(jn r&&jn i)=true:=by simp only[eN,Jv] at hr;simpa using hr.1.2
  rw[d3] at h1;simp only[Jw] at h1;have c1:=vR (flN g u) (by cases g<;>cases u<;>decide) [] af;have c2:=sk s aa ([]++be 1 (flN g u)) (by simp[aW]);have c3:=ow r aa ([]++be 1 (flN g u)++be 2 s) (by simp[aW]);have c4:=ow i aa ([]++be 1 (flN g u)++be 2 s++be 4 r) (by simp[aW]);have lb:=fj s r i g u;refine f40.aG af rfl rfl ?_;unfold c40 lj zz;refine Wp.le (aJ.tok _ _) ?_;have o1:orI .i64 0 1=1:=rfl;have o2:orI .i64 0 2=2:=rfl;have o3:orI .i64 1 2=3:=rfl;cases g with
  |false=>
   cases u with
   |false=>
    refine rf1 (cj2 d1 d2) h1 ?_;refine qj ?_;refine aq.cH 0 ae (by simp only[go_sem,reduceIte,Nat.reduceEqDiff,List.map];exact aw.cons (ar.eL rfl) (aw.refl _)) ae c1 λt1 m1 _=>?_;refine aq.eval xA1 ?_;refine aq.cH t1 ae xA4 ae c2 λt2 m2 _=>?_;refine aq.eval xA1 ?_;refine aq.nil ⟨by simp[aZ,aR,apart,aO],?_⟩;refine qj ?_;refine aq.cH t2 ae xA4 ae c3 λt3 m3 _=>?_;refine aq.eval xA1 ?_;refine aq.cH t3 ae xA4 ae c4 λt4 m4 _=>?_;refine aq.evR (xAd (cj2 @cR @Kx)) ?_;refine aq.nil ⟨by simp[aZ,aR,apart,aO],?_⟩;refine aK ?_;exact ar.refl _
   |true=>
    refine rf1 (cj5 d1 d2 o1 o2 o3) h1 ?_;refine qj ?_;refine aq.cH 0 ae (by simp only[go_sem,reduceIte,Nat.reduceEqDiff,List.map];exact aw.cons (ar.eL rfl) (aw.refl _)) ae c1 λt1 m1 _=>?_;refine aq.eval xA1 ?_;refine aq.cH t1 ae xA4 ae c2 λt2 m2 _=>?_;refine aq.eval xA1 ?_;refine aq.nil ⟨by simp[aZ,aR,apart,aO],?_⟩;refine qj ?_;refine aq.cH t2 ae xA4 ae c3 λt3 m3 _=>?_;refine aq.eval xA1 ?_;refine aq.cH t3 ae xA4 ae c4 λt4 m4 _=>?_;refine aq.evR (xAd (cj2 @cR @Kx)) ?_;refine aq.nil ⟨by simp[aZ,aR,apart,aO],?_⟩;refine aK ?_;exact ar.refl _
  |true=>
   have e3:s=0/\r=0/\i=0:=by simp[eN] at hr;omega
   obtain ⟨rfl,rfl,rfl⟩:=e3;cases u with
   |false=>
    refine rf1 (cj5 d1 d2 o1 o2 o3) h1 ?_;refine qj ?_;refine aq.cH 0 ae (by simp only[go_sem,reduceIte,Nat.reduceEqDiff,List.map];exact aw.cons (ar.eL rfl) (aw.refl _)) ae c1 λt1 m1 _=>?_;refine aq.eval xA1 ?_;refine aq.cH t1 ae xA4 ae c2 λt2 m2 _=>?_;refine aq.eval xA1 ?_;refine aq.nil ⟨by simp[aZ,aR,apart,aO],?_⟩;refine qj ?_;refine aq.cH t2 ae xA4 ae c3 λt3 m3 _=>?_;refine aq.eval xA1 ?_;refine aq.cH t3 ae xA4 ae c4 λt4 m4 _=>?_;refine aq.evR (xAd (cj2 @cR @Kx)) ?_;refine aq.nil ⟨by simp[aZ,aR,apart,aO],?_⟩;refine aK ?_;exact ar.refl _
   |true=>
    refine rf1 (cj5 d1 d2 o1 o2 o3) h1 ?_;refine qj ?_;refine aq.cH 0 ae (by simp only[go_sem,reduceIte,Nat.reduceEqDiff,List.map];exact aw.cons (ar.eL rfl) (aw.refl _)) ae c1 λt1 m1 _=>?_;refine aq.eval xA1 ?_;refine aq.cH t1 ae xA4 ae c2 λt2 m2 _=>?_;refine aq.eval xA1 ?_;refine aq.nil ⟨by simp[aZ,aR,apart,aO],?_⟩;refine qj ?_;refine aq.cH t2 ae xA4 ae c3 λt3 m3 _=>?_;refine aq.eval xA1 ?_;refine aq.cH t3 ae xA4 ae c4 λt4 m4 _=>?_;refine aq.evR (xAd (cj2 @cR @Kx)) ?_;refine aq.nil ⟨by simp[aZ,aR,apart,aO],?_⟩;refine aK ?_;exact ar.refl _
structure Vs where
 o:List UInt8
 id:Int
 sz:Int
 re:Int
 im:Int
 g:Bool
 u:Bool
 b:List UInt8
def dG(v:Vs):AV:= .agg [.str v.o,.int .i64 v.id,.int .i64 v.sz,.int .i64 v.re,.int .i64 v.im,.bool v.g,.bool v.u,.str v.b]
def Vs.rh(v:Vs):Bool:=eN v.sz v.re v.im v.g
def Vs.tag(v:Vs):Bool:=decide ((((Fl.mV v.b).1:Nat):Int)=v.re)&&decide ((((Fl.mV v.b).2:Nat):Int)=v.im)
def Vs.fit(v:Vs):Bool:=v.rh&&decide ((v.b.length:Int)=v.sz)&&(v.g||v.tag)
theorem Af(v:Vs):aH Tryz.prog 101 [dG v] (.bool v.fit):=by
 refine f101.aG af rfl rfl ?_;unfold Hq zz;have h1:=ox v.sz v.re v.im v.g v.u;obtain ⟨o,id,sz,re,im,g,u,b⟩:=v;unfold Vs.fit Vs.rh Vs.tag dG;simp only at h1 |-;unfold cP nQ lj at h1;cases hr:eN sz re im g with
 |false=>
  rw[hr] at h1;simp only[Jy,Js] at h1;refine rZ h1 ?_;refine aK ?_;exact ar.refl _
 |true=>
 rw[hr] at h1;simp only[Jw] at h1;generalize eZ sz.toNat re.toNat im.toNat g u=hb at h1;cases d1:decide ((b.length:Int)=sz) with
 |false=>
  refine rf1 d1 h1 ?_;refine aK ?_;exact ar.refl _
 |true=>
 cases g with
 |true=>
  refine rf1 d1 h1 ?_;refine qj ?_;refine aK ?_;exact ar.refl _
 |false=>
  have hl:b.length<=2560:=by
   have:=JL d1;obtain ⟨s,r,i,rfl,rfl,rfl,hs,hr',hi⟩:=na hr;omega
  have h2:=Fl.I6 b aa;refine rf1 d1 h1 ?_;refine D5 h2 ?_;refine aK ?_;exact ar.of_eq af
def Vs.okV(v:Vs):Bool:=decide (cF v.o=0)&&decide (0<=v.id)&&decide (v.id<=1152921504606846976)&&v.fit
def Vs.next(a v:Vs):Bool:=Op.bytesLess a.o v.o||(decide (a.o=v.o)&&decide (v.id<a.id))
theorem Er{s:List UInt8}(h:cF s=0):s.length<=32:=by
 unfold cF at h;split at h
 ·rename_i h';exact h'.2.1
 ·cases h
instance:Inhabited Vs:=⟨⟨[],0,0,0,0,false,false,[]⟩⟩
def vss(l:List Vs):List AV:=l.map dG
theorem fE(l:List Vs):(vss l).length=l.length:=KL _
theorem j0(l:List Vs)(j:Nat)(d:AV)(h:j<l.length):(vss l).getD j d=dG (l.getD j default):=by
 simp[vss,JN,Jm h]
theorem my(l:List Vs):aD (vss l)=true:=Av.bA (λa=>rfl) l
def same(l:List Vs)(j:Nat):Bool:=decide (0<j)&&decide ((l.getD (j - 1) default).o=(l.getD j default).o)
def gU(l:List Vs):Nat->Nat
 |0=>0
 |j+1=>(if same l j=true then gU l j else 0)+(if (l.getD j default).u=true then 1 else 0)
def ka(l:List Vs)(j:Nat):Bool:=(l.getD j default).okV&&(decide (j=0)||(l.getD (j - 1) default).next (l.getD j default))&&decide (gU l (j+1)<=1)
def ct(l:List Vs):Bool:=(List.range l.length).all (ka l)
theorem eP{l:List Vs}{j:Nat}(hj:j<l.length)(h:ka l j=false):ct l=false:=by
 cases e:ct l with
 |false=>rfl
 |true=>
  unfold ct at e;rw[JS] at e;rw[e j (Kg.2 hj)] at h;cases h
theorem uc{l:List Vs}(h:∀i,i<l.length->ka l i=true):ct l=true:=by
 unfold ct;rw[JS];intro i hi;exact h i (Kg.1 hi)
theorem bC(a:List UInt8):Op.bytesLess a a=false:=by
 induction a with
 |nil=>rfl
 |cons x a ih=>simp[Op.bytesLess,ih]
set_option maxHeartbeats 8000000 in
theorem Cp(l:List Vs)(hl:l.length<=1000000):aH Tryz.prog 51 [.sl 8 (vss l) .any] (.bool (ct l)):=by
 refine f51.aG af (by simp[aD,aP,bw,my]) rfl ?_;unfold c51 zz;have len:=fE l;refine rn0 @len ?_;refine Wp.tv [0,7,8] (by simp only[go_sem,reduceIte,Nat.reduceEqDiff,List.map,len];exact rfl) (λj:Nat=>[(3,.int .i64 (gU l j:Nat)),(9,.int .i64 j)]) (λj=>j<=l.length/\∀i,i<j->ka l i=true) (λj=>l.length - j) 0 ⟨JJ _,λi h=>by omega⟩ ?_ ?_
 ·exact dU @gU.eq_1
 rintro j n hn ⟨hj,hok⟩;by_cases hc:j<l.length
 ·have h2:(0:Int)<=(j:Int):=by omega
  have q1:decide ((j:Int)<(l.length:Int))=true:=Jt aa;have h3:(j:Int)<(l.length:Int):=by omega
  have e1:IntKind.i64.wrap ((j:Int)+1)=((j+1:Nat):Int):=by rw[IntWalk.i64_in _ aa];omega
  have gj:=λd=>j0 l j d hc;have gp:=λd (h:0<j)=>j0 l (j - 1) d aa;have hob:=tJ (l.getD j default).o;have hm:=Af (l.getD j default);generalize hv:l.getD j default=v at*
  cases b0:decide (cF v.o=0) with
  |false=>
   have hb:ct l=false:=eP hc (by simp only[ka,hv,Vs.okV,b0,Kp]);generalize cF v.o=z at*
   refine rn1 (cj9 @q1 h2 h3 e1 @Jq gj @dG.eq_1 @len b0) hob ?_;refine aK ?_;rw[hb];exact ar.refl _
  |true=>
  have hz:=JL b0;rw[hz] at hob;cases b1:decide (0<=v.id) with
  |false=>
   have hb:ct l=false:=eP hc (by simp only[ka,hv,Vs.okV,b1,Kp,KU]);have d1:decide (v.id<0)=true:=Jt (by have:=JZ b1;omega);refine rn1 (cj9 @q1 h2 h3 e1 @Jq gj @dG.eq_1 @len d1) hob ?_;refine aK ?_;rw[hb];exact ar.refl _
  |true=>
  have d1:decide (v.id<0)=false:=Jn (by have:=JL b1;omega);cases b2:decide (v.id<=1152921504606846976) with
  |false=>
   have hb:ct l=false:=eP hc (by simp only[ka,hv,Vs.okV,b2,Kp,KU]);have d2:decide (1152921504606846976<v.id)=true:=Jt (by have:=JZ b2;omega);refine rn1 (jD @q1 h2 h3 e1 @Jq gj @dG.eq_1 @len d1 d2) hob ?_;refine aK ?_;rw[hb];exact ar.refl _
  |true=>
  have d2:decide (1152921504606846976<v.id)=false:=Jn (by have:=JL b2;omega);cases b3:v.fit with
  |false=>
   have hb:ct l=false:=eP hc (by simp only[ka,hv,Vs.okV,b3,Kp,KU]);rw[b3] at hm;unfold dG at hm;refine rn2 (jD @q1 h2 h3 e1 @Jq gj @dG.eq_1 @len d1 d2) hob hm ?_;refine aK ?_;rw[hb];exact ar.refl _
  |true=>
  rw[b3] at hm;unfold dG at hm;have hov:v.okV=true:=by simp only[Vs.okV,b0,b1,b2,b3,K3]
  have next:∀(k:Nat),ka l j=true->∀i,i<j+1->ka l i=true:=λ_ h i hi=>by
   rcases Nat.lt_succ_iff_lt_or_eq.1 hi with h'|rfl
   ·exact hok i h'
   ·exact h
  have w1:IntKind.i64.wrap (0+1)=1:=rfl;by_cases hj0:j=0
  ·subst hj0;have n1:gU l 1=if v.u=true then 1 else 0:=by simp only[gU,same,hv,Nat.lt_irrefl,decide_false,Kp,Jy,Js,JG]
   have g0:decide ((0:Int)<((0:Nat):Int))=false:=rfl;have ho:ka l 0=true:=by
    simp only[ka,hv,hov,n1,JO,Bool.true_or,Ko,JG];split<;>rfl
   cases hu:v.u with
   |true=>
    rw[hu,JC rfl] at n1;rw[hu] at hm;refine rn2 (bF @q1 h2 h3 e1 @Jq gj @dG.eq_1 @len d1 d2 hu (cj2 w1 g0)) hob hm ?_;refine ⟨1,n+1,JJ _,⟨aa,next 0 ho⟩,aa,?_⟩;rw[n1];refine aJ.tmN aa (λj p hp=>by simp[av] at hp) (by simp only[aN,go_sem,reduceIte,Nat.reduceEqDiff,Nat.reduceAdd];and_intros<;>first|exact trivial|exact ar.refl _|exact ar.any _|(refine ar.int ?_;omega))
   |false=>
    rw[hu,Jr af] at n1;rw[hu] at hm;refine rn2 (bF @q1 h2 h3 e1 @Jq gj @dG.eq_1 @len d1 d2 hu (cj2 w1 g0)) hob hm ?_;refine ⟨1,n+1,JJ _,⟨aa,next 0 ho⟩,aa,?_⟩;rw[n1];refine aJ.tmN aa (λj p hp=>by simp[av] at hp) (by simp only[aN,go_sem,reduceIte,Nat.reduceEqDiff,Nat.reduceAdd];and_intros<;>first|exact trivial|exact ar.refl _|exact ar.any _|(refine ar.int ?_;omega))
  have hj1:0<j:=by omega
  have g0:decide ((0:Int)<(j:Int))=true:=Jt aa;have ew:IntKind.i64.wrap ((j:Int) - 1)=((j - 1:Nat):Int):=by rw[IntWalk.i64_in _ aa];omega
  have h6:(0:Int)<=((j - 1:Nat):Int):=Lx _;have h7:((j - 1:Nat):Int)<(l.length:Int):=by omega
  have gp:=λd=>gp d hj1;have hq:gU l j<=1:=by
   have:=hok (j - 1) aa;simp only[ka,Jv,JE] at this;have e:j - 1+1=j:=by omega
   rw[e] at this;exact this.2
  generalize hp:l.getD (j - 1) default=p at*
  have nj:gU l (j+1)=(if same l j=true then gU l j else 0)+(if v.u=true then 1 else 0):=by simp only[gU,hv]
  have hs:same l j=decide (p.o=v.o):=by simp only[same,hv,hp,Jt hj1,Ko]
  have ho:ka l j=(p.next v&&decide (gU l (j+1)<=1)):=by simp only[ka,hv,hp,hov,Jn hj0,LJ,Ko]
  rw[hs] at nj;generalize gU l j=q at*
  cases c1:decide (p.o=v.o) with
  |true=>
   have hpo:=JL c1;rw[c1,JC rfl] at nj;cases c2:decide (p.id<=v.id) with
   |true=>
    have hb:ct l=false:=eP hc (by
     rw[ho];have:decide (v.id<p.id)=false:=Jn (by have:=JL c2;omega);simp only[Vs.next,hpo,bC,this,KU,Bool.or_self,Kp])
    refine rn2 (bF @q1 h2 h3 e1 @Jq gj @dG.eq_1 @len d1 d2 g0 (cj6 ew h6 h7 gp c1 c2)) hob hm ?_;refine aK ?_;rw[hb];exact ar.refl _
   |false=>
    have nx:p.next v=true:=by
     have:decide (v.id<p.id)=true:=Jt (by have:=JZ c2;omega);simp only[Vs.next,c1,this,K3,Bool.or_true]
    cases hu:v.u with
    |true=>
     rw[hu,JC rfl] at nj;rw[hu] at hm;have e5:IntKind.i64.wrap ((q:Int)+1)=((q+1:Nat):Int):=by rw[IntWalk.i64_in _ aa];omega
     cases c3:decide ((1:Int)<((q+1:Nat):Int)) with
     |true=>
      have hb:ct l=false:=eP hc (by
       rw[ho,nj,Jn (by have:=JL c3;omega),KU])
      refine rn2 (bF @q1 h2 h3 e1 @Jq gj @dG.eq_1 @len d1 d2 g0 (cj9 ew h6 h7 gp c1 c2 hu e5 c3)) hob hm ?_;refine aK ?_;rw[hb];exact ar.refl _
     |false=>
      refine rn2 (bF @q1 h2 h3 e1 @Jq gj @dG.eq_1 @len d1 d2 g0 (cj9 ew h6 h7 gp c1 c2 hu e5 c3)) hob hm ?_;refine ⟨j+1,n+1,JJ _,⟨aa,next 0 (by rw[ho,nx,nj,Jt (by have:=JZ c3;omega)];rfl)⟩,aa,?_⟩;rw[nj];refine aJ.tmN aa (λj p hp=>by simp[av] at hp) (by simp only[aN,go_sem,reduceIte,Nat.reduceEqDiff,Nat.reduceAdd];and_intros<;>first|exact trivial|exact ar.refl _|exact ar.any _|(refine ar.int ?_;omega))
    |false=>
     rw[hu,Jr af] at nj;rw[hu] at hm;have c3:decide ((1:Int)<(q:Int))=false:=Jn aa;refine rn2 (bF @q1 h2 h3 e1 @Jq gj @dG.eq_1 @len d1 d2 g0 (cj8 ew h6 h7 gp c1 c2 hu c3)) hob hm ?_;refine ⟨j+1,n+1,JJ _,⟨aa,next 0 (by rw[ho,nx,nj,Jt aa];rfl)⟩,aa,?_⟩;rw[nj];refine aJ.tmN aa (λj p hp=>by simp[av] at hp) (by simp only[aN,go_sem,reduceIte,Nat.reduceEqDiff,Nat.reduceAdd];and_intros<;>first|exact trivial|exact ar.refl _|exact ar.any _|(refine ar.int ?_;omega))
  |false=>
   have hpo:=JZ c1;rw[c1,Jr af] at nj;cases c2:Op.bytesLess p.o v.o with
   |false=>
    have hb:ct l=false:=eP hc (by
     rw[ho];simp only[Vs.next,c2,c1,Kp,Bool.or_self])
    refine rn2 (bF @q1 h2 h3 e1 @Jq gj @dG.eq_1 @len d1 d2 g0 (cj6 ew h6 h7 gp c1 c2)) hob hm ?_;refine aK ?_;rw[hb];exact ar.refl _
   |true=>
    have nx:p.next v=true:=by simp only[Vs.next,c2,Bool.true_or]
    cases hu:v.u with
    |true=>
     rw[hu,JC rfl] at nj;rw[hu] at hm;refine rn2 (bF @q1 h2 h3 e1 @Jq gj @dG.eq_1 @len d1 d2 g0 (cj8 ew h6 h7 gp c1 c2 hu w1)) hob hm ?_;refine ⟨j+1,n+1,JJ _,⟨aa,next 0 (by rw[ho,nx,nj];rfl)⟩,aa,?_⟩;rw[nj];refine aJ.tmN aa (λj p hp=>by simp[av] at hp) (by simp only[aN,go_sem,reduceIte,Nat.reduceEqDiff,Nat.reduceAdd];and_intros<;>first|exact trivial|exact ar.refl _|exact ar.any _|(refine ar.int ?_;omega))
    |false=>
     rw[hu,Jr af] at nj;rw[hu] at hm;refine rn2 (bF @q1 h2 h3 e1 @Jq gj @dG.eq_1 @len d1 d2 g0 (cj7 ew h6 h7 gp c1 c2 hu)) hob hm ?_;refine ⟨j+1,n+1,JJ _,⟨aa,next 0 (by rw[ho,nx,nj];rfl)⟩,aa,?_⟩;rw[nj];refine aJ.tmN aa (λj p hp=>by simp[av] at hp) (by simp only[aN,go_sem,reduceIte,Nat.reduceEqDiff,Nat.reduceAdd];and_intros<;>first|exact trivial|exact ar.refl _|exact ar.any _|(refine ar.int ?_;omega))
 ·have hj2:j=l.length:=by omega
  subst hj2;have q1:decide ((l.length:Int)<(l.length:Int))=false:=Jn aa;refine rn0 @q1 ?_;refine aK ?_;rw[uc hok];exact ar.refl _
structure Bk where
 n:List UInt8
 st:Int
 l:List Vs
def iO(b:Bk):AV:= .agg [.str b.n,.int .i64 b.st,.sl 8 (vss b.l) .any]
theorem jq(b:Bk):aP (iO b)=true:=by simp[iO,aP,aD,bw,my]
def xU(l:List Vs):Nat->List UInt8
 |0=>[]
 |j+1=>if (l.getD j default).u=true then (l.getD j default).o else xU l j
theorem oy{a b:List UInt8}(h:Op.bytesLess a b=true):a≠b:=by
 rintro rfl;rw[bC] at h;cases h
structure Inv(l:List Vs)(k:Nat):Prop where
 one:gU l k<=1
 iff:0<k->(gU l k=1↔xU l k=(l.getD (k - 1) default).o)
 txt:xU l k=[]\/∃i,i<k/\xU l k=(l.getD i default).o
 ord:∀i,i<k->(l.getD i default).o=(l.getD (k - 1) default).o\/Op.bytesLess (l.getD i default).o (l.getD (k - 1) default).o=true
instance:Inhabited Bk:=⟨⟨[],0,[]⟩⟩
def bks(m:List Bk):List AV:=m.map iO
def bD(m:List Bk):AV:= .agg [.sl 3 (bks m) .any]
theorem gC(l:List Bk):(bks l).length=l.length:=KL _
theorem iP(l:List Bk)(j:Nat)(d:AV)(h:j<l.length):(bks l).getD j d=iO (l.getD j default):=by
 simp[bks,JN,Jm h]
theorem Cq(l:List Bk):aD (bks l)=true:=Av.bA (λa=>jq a) l
theorem cJ(m:List Bk):aP (bD m)=true:=by simp[bD,aP,aD,bw,Cq]
def Few(m:List Bk):Prop:=∀b∈m,b.l.length<=1000000
theorem Few.at{m:List Bk}(h:Few m)(j:Nat):(m.getD j default).l.length<=1000000:=by
 by_cases hj:j<m.length
 ·rw[JN,Jm hj];exact h _ (KG hj)
 ·rw[JN,Kv aa];exact JJ _
def jE(b:Bk):Bool:=decide (cG b.n=0)&&pN b.st&&ct b.l
def so(m:List Bk)(j:Nat):Bool:=jE (m.getD j default)&&(decide (j=0)||Op.bytesLess (m.getD (j - 1) default).n (m.getD j default).n)
def imB(m:List Bk):Bool:=decide (m.length<=65535)&&(List.range m.length).all (so m)
def imE(m:List Bk):Int:=if imB m=true then 0 else 4
theorem pO{m:List Bk}{j:Nat}(hj:j<m.length)(h:so m j=false):imE m=4:=by
 unfold imE;rw[Jr];unfold imB;simp only[Jv,JS,Kg,not_and];intro _ hh;rw[hh j hj] at h;cases h
theorem Es{m:List Bk}(hl:m.length<=65535)(h:∀i,i<m.length->so m i=true):imE m=0:=by
 unfold imE imB;rw[JC];simp only[Jv,JS,Kg,JE];exact ⟨hl,h⟩
theorem Cr{s:List UInt8}(h:cG s=0):s.length<=12:=by
 unfold cG at h;split at h
 ·rename_i h';exact h'.2.1
 ·cases h
set_option maxHeartbeats 8000000 in
theorem oz(m:List Bk)(hf:Few m):aH Tryz.prog 15 [bD m] (.int .i64 (imE m)):=by
 refine f15.aG af (by simp[aD,cJ]) rfl ?_;unfold c15 bD zz;have len:=gC m;cases d0:decide ((65535:Int)<(m.length:Int)) with
 |true=>
  have hb:imE m=4:=by
   unfold imE imB;rw[Jn (by have:=JL d0;omega)];rfl
  rw[hb];refine rn0 (cj2 @len d0) ?_;refine aK ?_;exact ar.refl _
 |false=>
 have hl:=JZ d0;refine rn0 (cj2 @len d0) ?_;refine Wp.tv [1,12,13] (by simp only[go_sem,reduceIte,Nat.reduceEqDiff,List.map,len];exact rfl) (λj:Nat=>[(14,.int .i64 j)]) (λj=>j<=m.length/\∀i,i<j->so m i=true) (λj=>m.length - j) 0 ⟨JJ _,λi h=>by omega⟩ ?_ ?_
 ·exact xSb
 rintro j n hn ⟨hj,hok⟩;have hn':1<=n:=hn;have n0:¬(0=n):=by omega
 have n1:¬(n=0):=by omega
 by_cases hc:j<m.length
 ·have h2:(0:Int)<=(j:Int):=by omega
  have q1:decide ((j:Int)<(m.length:Int))=true:=Jt aa;have h3:(j:Int)<(m.length:Int):=by omega
  have e1:IntKind.i64.wrap ((j:Int)+1)=((j+1:Nat):Int):=by rw[IntWalk.i64_in _ aa];omega
  have gj:=λd=>iP m j d hc;have ga:=λd=>iP m (j - 1) d aa;have hst:=Cp (m.getD j default).l (hf.at j);have hbu:=tK (m.getD j default).n;have hsa:=xP (m.getD j default).st;have ok1:so m j=(jE (m.getD j default)&&(decide (j=0)||Op.bytesLess (m.getD (j - 1) default).n (m.getD j default).n)):=rfl;have next:so m j=true->∀i,i<j+1->so m i=true:=λh i hi=>by
   rcases Nat.lt_succ_iff_lt_or_eq.1 hi with h'|rfl
   ·exact hok i h'
   ·exact h
  generalize m.getD j default=v at*
  generalize m.getD (j - 1) default=p at*
  unfold jE at ok1;unfold iO at gj ga;unfold stE at hsa;generalize stS v.st=ss at*
  cases c1:pN v.st with
  |false=>
   have hb:imE m=4:=pO hc (by rw[ok1,c1];simp);rw[c1,Jr af] at hsa;obtain ⟨z,hz,dz⟩:∃z:Int,z=2/\decide (z=0)=false:=⟨2,rfl,rfl⟩;rw[<-hz] at hsa;rw[hb];clear hz;refine rn1 (nU @q1 h2 h3 e1 n0 n1 @Jq gj ga @len dz) hsa ?_;refine aK ?_;exact ar.refl _
  |true=>
  rw[c1,JC rfl] at hsa;cases c2:decide (cG v.n=0) with
  |false=>
   have hb:imE m=4:=pO hc (by rw[ok1,c2];simp);generalize cG v.n=z at*
   rw[hb];refine rn2 (nU @q1 h2 h3 e1 n0 n1 @Jq gj ga @len c2) hsa hbu ?_;refine aK ?_;exact ar.refl _
  |true=>
  have hz:=JL c2;rw[hz] at hbu;rw[c1,c2] at ok1;simp only[Ko] at ok1;by_cases hj0:j=0
  ·have g0:decide ((0:Int)<(j:Int))=false:=Jn aa;rw[Jt hj0,Bool.true_or,Bool.and_true] at ok1;cases c3:ct v.l with
   |false=>
    have hb:imE m=4:=pO hc (by rw[ok1,c3]);rw[c3] at hst;rw[hb];refine rn3 (nU @q1 h2 h3 e1 n0 n1 @Jq gj ga @len g0) hsa hbu hst ?_;refine aK ?_;exact ar.refl _
   |true=>
    rw[c3] at hst;refine rn3 (nU @q1 h2 h3 e1 n0 n1 @Jq gj ga @len g0) hsa hbu hst ?_;refine ⟨j+1,n+1,by show 1<=n+1;omega,⟨aa,next (by rw[ok1,c3])⟩,aa,?_⟩;refine aJ.tmN aa (OLe.at (by simp[upd,av,n0,n1])) (by simp only[aN,go_sem,reduceIte,Nat.reduceEqDiff,Nat.reduceAdd,bx,n0,n1];and_intros<;>first|exact trivial|exact ar.refl _|exact ar.any _|(refine ar.int ?_;omega))
  ·have g0:decide ((0:Int)<(j:Int))=true:=Jt aa;have ew:IntKind.i64.wrap ((j:Int) - 1)=((j - 1:Nat):Int):=by rw[IntWalk.i64_in _ aa];omega
   have h6:(0:Int)<=((j - 1:Nat):Int):=Lx _;have h7:((j - 1:Nat):Int)<(m.length:Int):=by omega
   rw[Jn hj0,LJ] at ok1;cases c4:Op.bytesLess p.n v.n with
   |false=>
    have hb:imE m=4:=pO hc (by rw[ok1,c4,KU]);rw[hb];refine rn2 (bF @q1 h2 h3 e1 n0 n1 @Jq gj ga @len g0 (cj4 ew h6 h7 c4)) hsa hbu ?_;refine aK ?_;exact ar.refl _
   |true=>
    rw[c4,Bool.and_true] at ok1;cases c3:ct v.l with
    |false=>
     have hb:imE m=4:=pO hc (by rw[ok1,c3]);rw[c3] at hst;rw[hb];refine rn3 (bF @q1 h2 h3 e1 n0 n1 @Jq gj ga @len g0 (cj4 ew h6 h7 c4)) hsa hbu hst ?_;refine aK ?_;exact ar.refl _
    |true=>
     rw[c3] at hst;refine rn3 (bF @q1 h2 h3 e1 n0 n1 @Jq gj ga @len g0 (cj4 ew h6 h7 c4)) hsa hbu hst ?_;refine ⟨j+1,n+1,by show 1<=n+1;omega,⟨aa,next (by rw[ok1,c3])⟩,aa,?_⟩;refine aJ.tmN aa (OLe.at (by simp[upd,av,n0,n1])) (by simp only[aN,go_sem,reduceIte,Nat.reduceEqDiff,Nat.reduceAdd,bx,n0,n1];and_intros<;>first|exact trivial|exact ar.refl _|exact ar.any _|(refine ar.int ?_;omega))
 ·have hj2:j=m.length:=by omega
  subst hj2;have q1:decide ((m.length:Int)<(m.length:Int))=false:=Jn aa;rw[Es aa hok];refine rn0 (cj2 @q1 @len) ?_;refine aK ?_;exact ar.refl _
theorem xV(s:List UInt8)(hs:s.length<256)(xs:List UInt8)(hx:xs.length<=1099511627775):ji Tryz.prog 39 (λt=>[.sl 1 (az xs) (.own t),.str s]) (λt=> .sl 1 (az (xs++be 1 s.length++s)) (.own t)):=by
 intro t n m;suffices h:∃r h',aS Tryz.prog 39 [.sl 1 (az xs) (.own t),.str s] (.only av [t] n m) r h'/\∃t' m',m<=m'/\r= .sl 1 (az (xs++be 1 s.length++s)) (.own t')/\h'= .only av [t'] n m' by
  obtain ⟨r,h',ha,t',m',hm,rfl,rfl⟩:=h;exact ⟨t',m',hm,ha⟩
 refine f39.dF af ?_;unfold c39 zz;refine Wp.cE xA1 ag ?_;refine Wp.seqItems xA1 ?_;refine aq.cH t ae xA4 ae (vR s.length aa xs aa) λt1 m1 h1=>?_;have e1:(xs++be 1 s.length).length+s.length<=140737488355328:=by rw[Ju,aW];omega
 have e2:(xs++be 1 s.length).length+s.length<4611686018427387904:=by omega
 refine aq.eval (by simp only[go_sem,reduceIte,Nat.reduceEqDiff,Nat.reduceAdd,bx,KA,e1,e2,KP,JI,Jw,JO,Kx];exact rfl) ?_;refine aq.nil ⟨by trivial,?_⟩;rw[<-jl];refine Wp.ret ⟨trivial,_,rfl,m1,m1+1,by have:m<=m1:=h1;omega,?_,rfl⟩;simp only[go_sem,reduceIte,Nat.reduceEqDiff]
def shB(s:List UInt8):List UInt8:=be 1 s.length++s
theorem jr(s:List UInt8):(shB s).length=s.length+1:=by simp[shB,aW];omega
def rp(v:Vs):List UInt8:=shB v.o++be 8 v.id.toNat++eZ v.sz.toNat v.re.toNat v.im.toNat v.g v.u++be 2 v.b.length++v.b
def fF(l:List Vs):List UInt8:=(l.map rp).flatten
def cW(b:Bk):List UInt8:=shB b.n++be 1 b.st.toNat++be 4 b.l.length++fF b.l
def pP(m:List Bk):List UInt8:=[65,82,67,72]++be 2 m.length++(m.map cW).flatten
def ud(m:List Bk):List UInt8:=if imB m=true then pP m++be 4 (zZ (pP m)) else []
theorem ru(l:List Vs)(j:Nat)(h:j<l.length):fF (l.take (j+1))=fF (l.take j)++rp (l.getD j default):=by
 have e:l.getD j default=l[j]:=by simp[JN,Jm h]
 unfold fF;rw[e,JV h,KC,KW];congr 1;simp
theorem sq{v:Vs}(h:v.okV=true):(rp v).length<=2700/\v.o.length<=32/\v.b.length<=2560:=by
 simp only[Vs.okV,Vs.fit,Jv,JE] at h;have h1:=Er h.1.1.1;obtain ⟨s,r,i,e1,-,-,hs,-,-⟩:=na h.2.1.1;have h2:=h.2.1.2;have h3:v.b.length<=2560:=by omega
 refine ⟨?_,h1,h3⟩;simp only[rp,Ju,jr,aW,fj];omega
theorem kP{l:List Vs}(h:ct l=true)(i:Nat)(hi:i<l.length):(l.getD i default).okV=true:=by
 unfold ct at h;rw[JS] at h;have:=h i (Kg.2 hi);simp only[ka,Jv] at this;exact this.1.1
theorem pQ{l:List Vs}(h:ct l=true):∀j,j<=l.length->(fF (l.take j)).length<=2700*j
 |0,_=>by simp[fF]
 |j+1,hj=>by
  rw[ru l j aa,Ju];have:=pQ h j aa;have:=(sq (kP h j aa)).1;omega
theorem pR(m:List Bk)(j:Nat)(h:j<m.length):((m.take (j+1)).map cW).flatten=((m.take j).map cW).flatten++cW (m.getD j default):=by
 have e:m.getD j default=m[j]:=by simp[JN,Jm h]
 rw[e,JV h,KC,KW];congr 1;simp
theorem ry{b:Bk}(h:jE b=true)(hl:b.l.length<=1000000):(cW b).length<=2700000100/\b.n.length<=12/\(∃k:Nat,b.st=k/\k<=2)/\ct b.l=true:=by
 simp only[jE,Jv,JE] at h;have h1:=Cr h.1.1;have h2:∃k:Nat,b.st=k/\k<=2:=by
  have:=h.1.2;simp[pN] at this;exact ⟨b.st.toNat,aa,aa⟩
 have h3:=pQ h.2 b.l.length (Jl _);rw[J1] at h3;refine ⟨?_,h1,h2,h.2⟩;simp only[cW,Ju,jr,aW];omega
theorem xW{m:List Bk}(h:imB m=true):m.length<=65535/\∀i,i<m.length->jE (m.getD i default)=true:=by
 unfold imB at h;simp only[Jv,JE,JS,Kg] at h;refine ⟨h.1,λi hi=>?_⟩;have:=h.2 i hi;simp only[so,Jv] at this;exact this.1
theorem rA{m:List Bk}(h:imB m=true)(hf:Few m):∀j,j<=m.length->((m.take j).map cW).flatten.length<=2700000100*j
 |0,_=>by simp
 |j+1,hj=>by
  rw[pR m j aa,Ju];have:=rA h hf j aa;have:=(ry ((xW h).2 j aa) (hf.at j)).1;omega
def nb:AC:=match c11 with| .seq _ (.seq _ r)=>r|_=> .skip
theorem Et(m:List Bk)(j:Nat):((m.take j).map cW).flatten.length<=((m.map cW).flatten).length:=by
 have h:(m.map cW).flatten=((m.take j).map cW).flatten++((m.drop j).map cW).flatten:=by
  rw[<-KW,<-KC,Kj]
 rw[h,Ju];omega
set_option maxHeartbeats 8000000 in
theorem Cs(m:List Bk)(hf:Few m)(hs:imB m=true->((m.map cW).flatten).length<=300000000000):aH Tryz.prog 11 [bD m] (.tup [.sl 1 (az (ud m)) .any,.int .i64 (imE m)]):=by
 have hpu:aD (az (ud m))=true:=Av.bA (λa=>rfl) _;refine f11.aG af (by simp[aD,cJ]) (by simp[aP,aD,bw,hpu]) ?_;unfold c11 zz;have h1:=oz m hf;have len:=gC m;unfold imE ud at*
 cases hm:imB m with
 |false=>
  rw[hm] at h1;simp only[Jy,Js] at h1 |-;unfold bD at*
  refine rZ h1 ?_;refine aK ?_;exact ar.tup (aw.cons ar.cap (aw.refl _))
 |true=>
  rw[hm] at h1;simp only[Jw] at h1 |-;unfold bD at*
  obtain ⟨hl,hok⟩:=xW hm;refine Wp.le (aJ.tok _ _) ?_;change Wp _ _ (.seq _ (.seq _ nb)) _ _;obtain ⟨T,hT⟩:∃T,T=nb:=⟨_,rfl⟩;rw[<-hT];refine rZ h1 ?_;subst hT;unfold nb c11 zz;dsimp only;refine Wp.seq (Wp.reg ?_);refine aq.opV rfl (by simp only[kV,go_sem,List.all_cons,List.all_nil,List.length_cons,List.length_nil,cellsOf,shaped];exact rfl) rfl ?_;refine aq.opV rfl (by simp only[kV,go_sem,bH,List.map,Kw,List.flatMap_nil,cellsOf,List.length_cons,List.length_nil,JY,List.cons_append,List.nil_append,reduceIte,Nat.reduceEqDiff,Nat.reduceAdd,upd,JI,Nat.zero_lt_succ];exact rfl) rfl ?_;have c2:=sk m.length aa [65,82,67,72] af;refine aq.eval (by simp only[go_sem,reduceIte,Nat.reduceEqDiff,Nat.reduceAdd,bx,len,bH];exact rfl) ?_;refine aq.cH 0 ae (by simp only[go_sem,reduceIte,Nat.reduceEqDiff,List.map,len];exact aw.cons (ar.eL rfl) (aw.refl _)) ae c2 λt1 m1 _=>?_;refine aq.eval xA1 ?_;refine aq.nil ⟨by trivial,?_⟩;simp only[aC.andThen];have l1:=aW 2 m.length;refine Wp.le (s':=⟨tm [(1,.ptr 0 0),(5,.sl 1 (az ([65,82,67,72]++be 2 m.length)) (.own t1))],⟨upd av 0 (some (.cells [.sl 3 (bks m) .any])),2,[t1],m1⟩⟩) (aJ.of (bc ?_) (λi o h=>⟨o,?_,dP.refl _⟩) (λ_ h=>?_) (Jl _) (Jl _)) ?_
  ·exact xSb
  ·simp only[upd,av] at h |-;by_cases i0:i=0
   ·subst i0;simpa using h
   ·rw[Jr i0] at h;cases h
  ·simpa using h
  refine rf0 @len ?_;generalize hb2:be 2 m.length=b2 at*
  refine Wp.iE [1,24,25] (by simp only[go_sem,reduceIte,Nat.reduceEqDiff,List.map,len];exact rfl) (λ(j:Nat) tk=>[(5,.sl 1 (az ([65,82,67,72]++b2++((m.take j).map cW).flatten)) (.own tk)),(26,.int .i64 j)]) (λj=>j<=m.length) (λj=>m.length - j) 0 t1 (JJ _) rfl ?_ ?_
  ·exact dU (cj4 @KX.{0} @J4.{0,0} @List.flatten_nil.{0} @JY.{0})
  rintro j tk n mm hn hj;have hn':2<=n:=hn;have n0:¬(0=n):=by omega
  have n1:¬(n=0):=by omega
  have hlen:((m.take j).map cW).flatten.length<=300000000000:=JT (Et m j) (hs hm);by_cases hc:j<m.length
  ·have h2:(0:Int)<=(j:Int):=by omega
   have q1:decide ((j:Int)<(m.length:Int))=true:=Jt aa;have h3:(j:Int)<(m.length:Int):=by omega
   have e1:IntKind.i64.wrap ((j:Int)+1)=((j+1:Nat):Int):=by rw[IntWalk.i64_in _ aa];omega
   have gj:=λd=>iP m j d hc;have hsn:=pR m j hc;have hlb:=hf.at j;obtain ⟨g1,g2,⟨st,g3,g4⟩,g5⟩:=ry (hok j hc) hlb;generalize m.getD j default=v at*
   obtain ⟨nm,st',l⟩:=v;simp only at g2 g3 g5 hlb;subst g3;unfold iO at gj;have len2:=fE l;have l3:=jr nm;have l4:=aW 1 st;have l5:=aW 4 l.length;have hbk:cW ⟨nm,(st:Int),l⟩=shB nm++be 1 st++be 4 l.length++fF l:=by simp[cW]
   rw[hbk] at hsn g1;generalize hP:[65,82,67,72]++b2++((m.take j).map cW).flatten=P;have lP:P.length<=400000000000:=by rw[<-hP];simp only[Ju,l1,List.length_cons,List.length_nil];omega
   have hP2:[65,82,67,72]++b2++((m.take (j+1)).map cW).flatten=P++shB nm++be 1 st++be 4 l.length++fF l:=by rw[hsn,<-hP];simp only[K7]
   have c2:=xV nm aa P aa;rw[show P++be 1 nm.length++nm=P++shB nm by simp[shB]] at c2;have c3:=vR st aa (P++shB nm) (by simp only[Ju,l3];omega);have c4:=ow l.length aa (P++shB nm++be 1 st) (by simp only[Ju,l3,l4];omega);generalize shB nm=b3 at*
   generalize be 1 st=b4 at*
   generalize be 4 l.length=b5 at*
   refine rn0 (jD @q1 h2 h3 e1 n0 n1 @Jq gj @len len2) ?_;refine aq.cH tk ae xA4 ae c2 λta ma _=>?_;refine aq.eval (by simp only[go_sem,reduceIte,Nat.reduceEqDiff,Nat.reduceAdd,bx,n0,n1];exact rfl) ?_;refine aq.cH ta ae xA4 ae c3 λtb mb _=>?_;refine aq.eval (by simp only[go_sem,reduceIte,Nat.reduceEqDiff,Nat.reduceAdd,bx,n0,n1,len2];exact rfl) ?_;refine aq.cH tb ae (by simp only[go_sem,reduceIte,Nat.reduceEqDiff,List.map,len2];exact aw.refl _) ae c4 λtc mc _=>?_;refine aq.eval (by simp only[go_sem,reduceIte,Nat.reduceEqDiff,Nat.reduceAdd,bx,n0,n1];exact rfl) ?_;refine aq.nil ⟨by simp[aZ,aR,apart,aO],?_⟩;refine rn0 (cj3 n0 n1 len2) ?_;have lV:=λi (hi:i<=l.length)=>pQ g5 i hi;refine Wp.iE [1,24,25,26,42,43] xA7 (λ(i:Nat) tk=>[(5,.sl 1 (az (P++b3++b4++b5++fF (l.take i))) (.own tk)),(44,.int .i64 i)]) (λi=>i<=l.length) (λi=>l.length - i) 0 tc (JJ _) (by simp[jR]) ?_ ?_
   ·exact dU (cj5 @fF.eq_1 @KX.{0} @J4.{0,0} @List.flatten_nil.{0} @JY.{0})
   rintro i tk2 k mk hk hi;have hk':n+1<=k:=hk;have m0:¬(0=k):=by omega
   have m1':¬(k=0):=by omega
   have m2:¬(n=k):=by omega
   have m3:¬(k=n):=by omega
   have lQ:(P++b3++b4++b5++fF (l.take i)).length<=500000000000:=by
    have:=lV i hi;simp only[Ju,l3,l4,l5];omega
   have hvs:=λh=>ru l i h;generalize hQ:P++b3++b4++b5++fF (l.take i)=Q at*
   by_cases hci:i<l.length
   ·have i2:(0:Int)<=(i:Int):=by omega
    have i1:decide ((i:Int)<(l.length:Int))=true:=Jt aa;have i3:(i:Int)<(l.length:Int):=by omega
    have i4:IntKind.i64.wrap ((i:Int)+1)=((i+1:Nat):Int):=by rw[IntWalk.i64_in _ aa];omega
    have gi:=λd=>j0 l i d hci;have hov:=kP g5 i hci;have hvs:=hvs hci;obtain ⟨w1,w2,w3⟩:=sq hov;have hrr:=hov;simp only[Vs.okV,Vs.fit,Vs.rh,Jv,JE] at hrr;obtain ⟨⟨⟨-,y1⟩,y2⟩,⟨y3,-⟩,-⟩:=hrr;generalize l.getD i default=v at*
    obtain ⟨vo,vid,vsz,vre,vim,vg,vu,vb⟩:=v;simp only at w2 w3 y1 y2 y3;obtain ⟨id,rfl⟩:∃id:Nat,vid=id:=⟨vid.toNat,aa⟩;have c5:=ox vsz vre vim vg vu;unfold cP nQ lj at c5;rw[y3] at c5;simp only[Jw] at c5;have v1:=jr vo;have v2:=aW 8 id;have v3:=fj vsz.toNat vre.toNat vim.toNat vg vu;have v4:=aW 2 vb.length;have hvb:rp ⟨vo,(id:Int),vsz,vre,vim,vg,vu,vb⟩=shB vo++be 8 id++eZ vsz.toNat vre.toNat vim.toNat vg vu++be 2 vb.length++vb:=by simp[rp]
    rw[hvb] at hvs;have hQ2:P++b3++b4++b5++fF (l.take (i+1))=Q++shB vo++be 8 id++eZ vsz.toNat vre.toNat vim.toNat vg vu++be 2 vb.length++vb:=by rw[hvs,<-hQ];simp only[K7]
    have c6:=xV vo aa Q aa;rw[show Q++be 1 vo.length++vo=Q++shB vo by simp[shB]] at c6;have c7:=Eh id aa (Q++shB vo) (by simp only[Ju,v1];omega);have c8:=sk vb.length aa (Q++shB vo++be 8 id++eZ vsz.toNat vre.toNat vim.toNat vg vu) (by simp only[Ju,v1,v2,v3];omega);generalize shB vo=d1 at*
    generalize be 8 id=d2 at*
    generalize eZ vsz.toNat vre.toNat vim.toNat vg vu=d3 at*
    generalize be 2 vb.length=d4 at*
    have x1:(Q++d1++d2).length+d3.length<=140737488355328:=by simp only[Ju,v1,v2,v3];omega
    have x2:(Q++d1++d2).length+d3.length<4611686018427387904:=by omega
    have x3:(Q++d1++d2++d3++d4).length+vb.length<=140737488355328:=by simp only[Ju,v1,v2,v3,v4];omega
    have x4:(Q++d1++d2++d3++d4).length+vb.length<4611686018427387904:=by omega
    unfold dG at gi;refine rn1 (bF i1 i2 i3 i4 n0 n1 m0 m1' m2 m3 @Jq (cj2 gi len2)) c5 ?_;refine aq.cH tk2 ae xA4 ae c6 λta' ma' _=>?_;refine aq.eval (by simp only[go_sem,reduceIte,Nat.reduceEqDiff,Nat.reduceAdd,bx,n0,n1,m0,m1',m2,m3];exact rfl) ?_;refine aq.cH ta' ae xA4 ae c7 λtb' mb' _=>?_;refine aq.eval (by simp only[go_sem,reduceIte,Nat.reduceEqDiff,Nat.reduceAdd,bx,n0,n1,m0,m1',m2,m3,KA,x1,x2,KP,JI,Jw,JO,Kx];exact rfl) ?_;refine aq.nil ⟨by simp[aZ,aR,apart,aO],?_⟩;refine rn0 (cj6 n0 n1 m0 m1' m2 m3) ?_;rw[<-jl];refine aq.cH mb' ae xA4 (by simp[jR]) c8 λtc' mc' _=>?_;refine aq.eval (by simp only[go_sem,reduceIte,Nat.reduceEqDiff,Nat.reduceAdd,bx,n0,n1,m0,m1',m2,m3,KA,x3,x4,KP,JI,Jw,JO,Kx];exact rfl) ?_;refine aq.nil ⟨by simp[aZ,aR,apart,aO],?_⟩;refine rn0 i4 ?_;rw[<-jl];refine ⟨i+1,mc',k+1,mc'+1,by show n+1<=k+1;omega,aa,aa,?_⟩;rw[hQ2];refine aJ.of (bc (by simp only[aN,go_sem,reduceIte,Nat.reduceEqDiff,Nat.reduceAdd];and_intros<;>first|exact trivial|exact ar.refl _|exact ar.any _|(refine ar.int ?_;omega))) (λa o ho=>by
     refine ⟨o,?_,dP.refl _⟩;simp only[upd,av] at ho |-;by_cases a1:a=k
     ·subst a1;simp[m1',m3] at ho
     ·simpa [a1] using ho) (λ_ h=>h) (Jl _) (Jl _)
   ·have hi2:i=l.length:=by omega
    subst hi2;have i1:decide ((l.length:Int)<(l.length:Int))=false:=Jn aa;rw[J1] at hQ;refine rn0 (cj9 i1 e1 n0 n1 m0 m1' m2 m3 len2) ?_;refine ⟨j+1,tk2,k,mk,by show 2<=k;omega,aa,aa,?_⟩;rw[hP2,hQ];refine aJ.tmN aa (OLe.at (by simp[upd,av,n0,n1])) (by simp only[aN,go_sem,reduceIte,Nat.reduceEqDiff,Nat.reduceAdd,bx,n0,n1];and_intros<;>first|exact trivial|exact ar.refl _|exact ar.any _|(refine ar.int ?_;omega))
  ·have hj2:j=m.length:=by omega
   subst hj2;have q1:decide ((m.length:Int)<(m.length:Int))=false:=Jn aa;rw[J1] at hlen |-;have e:pP m=[65,82,67,72]++b2++(m.map cW).flatten:=by unfold pP;rw[hb2]
   have hln:(pP m).length<=1000000000000:=by rw[e];simp only[Ju,l1,List.length_cons,List.length_nil];omega
   rw[<-e];have c3:=Ix (pP m) aa;have c4:=ow (zZ (pP m)) (Eo _) (pP m) aa;generalize be 4 (zZ (pP m))=b4 at*
   generalize zZ (pP m)=sm at*
   generalize pP m=ib at*
   refine rn1 (cj2 @q1 @len) c3 ?_;refine aq.cH tk ae xA4 ae c4 λt4 m4 _=>?_;refine aq.eval xA1 ?_;refine aq.nil ⟨by trivial,?_⟩;refine aK ?_;exact ar.tup (aw.cons ar.cap (aw.refl _))
theorem Eu(m:List Bk)(hf:Few m)(h100:m.length<=100):aH Tryz.prog 11 [bD m] (.tup [.sl 1 (az (ud m)) .any,.int .i64 (imE m)]):=
 Cs m hf λhm=>by
  have:=rA hm hf m.length (Jl _);rw[J1] at this;omega
def chunk(s:List UInt8)(k:Nat):List UInt8:=(s.take (min s.length (160*k+160))).drop (160*k)
def chunks(s:List UInt8)(n:Nat):List (List UInt8):=(List.range n).map (chunk s)
def eQ(s:List UInt8):Nat:=(s.length+159)/160
def lk(l:List (List UInt8)):List AV:=l.map AV.str
theorem mz(l:List (List UInt8)):(lk l).length=l.length:=KL _
theorem wo(l:List (List UInt8)):aD (lk l)=true:=Av.bA (λa=>rfl) l
theorem lu(s:List UInt8)(n:Nat):(chunks s n).length=n:=by simp[chunks]
theorem ue(s:List UInt8)(n:Nat):lk (chunks s (n+1))=lk (chunks s n)++[.str (chunk s n)]:=by simp[chunks,lk,List.range_succ]
theorem wq(s:List UInt8)(k:Nat):chunk s k=(s.drop (160*k)).take (min (s.length - 160*k) 160):=by
 unfold chunk;rw[List.drop_take];congr 1;omega
theorem Ag(s:List UInt8)(k:Nat):(s.drop (160*k)).drop (min (s.length - 160*k) 160)=s.drop (160*(k+1)):=by
 rw[KT];by_cases h:160*(k+1)<=s.length
 ·congr 1;omega
 ·rw[KE aa,KE aa]
theorem IA(s:List UInt8)(hs:s.length<=2560):aH Tryz.prog 93 [.str s] (.tup [.sl 1 (lk (chunks s (eQ s))) .any,.int .i64 0]):=by
 refine f93.aG af rfl (by simp[aP,aD,bw,wo]) ?_;unfold c93 zz;have d0:decide ((2560:Int)<(s.length:Int))=false:=Jn aa;have a1:IntKind.i64.wrap ((s.length:Int)+160)=((s.length+160:Nat):Int):=by rw[IntWalk.i64_in _ aa];omega
 have a2:IntKind.i64.wrap (((s.length+160:Nat):Int) - 1)=((s.length+159:Nat):Int):=by rw[IntWalk.i64_in _ aa];omega
 have a3:IntKind.i64.wrap (((s.length+159:Nat):Int).tdiv 160)=(eQ s:Int):=by
  rw[show ((s.length+159:Nat):Int).tdiv 160=(((s.length+159)/160:Nat):Int) by rw[Int.tdiv_eq_ediv_of_nonneg (Lx _)];omega];rw[IntWalk.i64_in _ aa];rfl
 refine Wp.le (aJ.tok _ _) ?_;refine rf0 (cj4 d0 a1 a2 a3) ?_;refine Wp.iE [13] xA7 (λ(k:Nat) tk=>[(0,.str (s.drop (160*k))),(4,.sl 1 (lk (chunks s k)) (.own tk)),(14,.int .i64 k)]) (λk=>k<=eQ s) (λk=>eQ s - k) 0 0 (JJ _) rfl ?_ ?_
 ·simp only[aN,go_sem,reduceIte,Nat.reduceEqDiff,Nat.reduceAdd,bx,Kz,Nat.mul_zero];and_intros<;>first|exact trivial|exact ar.refl _|exact ar.any _|exact ar.eL rfl|(refine ar.int ?_;omega)
 rintro k tk n m hn hk;by_cases hc:k<eQ s
 ·have q1:decide ((k:Int)<(eQ s:Int))=true:=Jt aa;have hc':160*k<s.length:=by unfold eQ at hc;omega
  have hb:(s.drop (160*k)).length=s.length - 160*k:=JR;have em:(if ((s.drop (160*k)).length:Int)<160 then ((s.drop (160*k)).length:Int) else 160)=((min (s.length - 160*k) 160:Nat):Int):=by rw[hb];split<;>omega
  have h5:(0:Int)<=((min (s.length - 160*k) 160:Nat):Int):=Lx _;have h6:((min (s.length - 160*k) 160:Nat):Int)<=((s.drop (160*k)).length:Int):=by rw[hb];omega
  have r1:=wq s k;have r2:=Ag s k;have e1:IntKind.i64.wrap ((k:Int)+1)=((k+1:Nat):Int):=by rw[IntWalk.i64_in _ aa];omega
  have ls:=mz (chunks s k);rw[lu] at ls;have e6:(k+1)*16<=140737488355328:=by unfold eQ at hk;omega
  have e7:k+1<4611686018427387904:=by omega
  generalize s.drop (160*k)=b at*
  generalize min (s.length - 160*k) 160=q at*
  refine rn0 (cj4 @q1 em h5 h6) ?_;refine Wp.tg (xAd (bF h5 h6 @Jq @Option.bind_some.{0,0} @JK.{0,0} @ls e6 e7 @KP @JI @KA (cj9 @Jp.{0} @Jx.{0} @JG @ne_eq.{1} @JO @KK @Kx @Jz.{0} @JB.{0}))) ag ?_;simp only[aC.inBlock,aC.andThen];refine rn0 (cj8 h5 h6 @Jq @Option.bind_some.{0,0} @JK.{0,0} @JI e1 @J1.{0}) ?_;refine ⟨k+1,m,n,m+1,JJ _,aa,aa,?_⟩;rw[ue,r1,<-r2];exact xSu
 ·have hk2:k=eQ s:=by omega
  have q1:decide ((k:Int)<(eQ s:Int))=false:=Jn aa;rw[<-hk2] at q1 |-;refine rn0 @q1 ?_;refine aK ?_;exact ar.tup (aw.cons ar.cap (aw.refl _))
def kyB(b:Bk):Ky:=⟨1,b.n,[],[]⟩
def kyV(n:List UInt8)(v:Vs):Ky:=⟨2,n,v.o,[v.id]⟩
def kyC(n:List UInt8)(v:Vs)(k:Nat):Ky:=⟨3,n,v.o,[v.id,k]⟩
def kb(v:Vs):List UInt8:=cP v.sz v.re v.im v.g v.u
def wu(b:Bk):Ch:=⟨fD (kyB b),stS b.st,false⟩
def chV(n:List UInt8)(v:Vs):Ch:=⟨fD (kyV n v),kb v,false⟩
def chC(n:List UInt8)(v:Vs)(k:Nat):Ch:=⟨fD (kyC n v k),chunk v.b k,false⟩
def fm(n:List UInt8)(v:Vs):List Ch:=chV n v::(List.range (eQ v.b)).map (chC n v)
def cK(b:Bk):List (List Ch):=[wu b]::b.l.map (fm b.n)
def Vs.room(v:Vs):Prop:=v.id<9223372036854775808/\v.b.length<=2560
theorem Ev(b:Bk):(kyB b).fit:=⟨by simp[kyB],by simp[kyB]⟩
theorem Ew(n:List UInt8){v:Vs}(h:v.room):(kyV n v).fit:=⟨by simp[kyV],by simp[kyV];exact h.1⟩
theorem Ex(n:List UInt8){v:Vs}(h:v.room)(k:Nat)(hk:k<=1000000):(kyC n v k).fit:=⟨by simp[kyC],by simp[kyC];exact ⟨h.1,aa⟩⟩
theorem pS(x:Ky)(hf:x.fit)(v:List UInt8):aH Tryz.prog 92 [eY x,.str v] (.agg [.str (fD x),.str v,.bool false]):=by
 refine f92.aG af (by simp[aD,gB,aP]) rfl ?_;unfold c92 zz;have c1:=FQ x hf;have hE:eY x= .agg [.int .i64 x.k,.str x.b,.str x.o,.sl 1 (ints x.ns) .any]:=rfl;rw[hE] at c1 |-;refine rZ c1 ?_;refine aK ?_;exact ar.refl _
theorem Ct(b:Bk):aH Tryz.prog 44 [iO b] (.clo (.func 91) [] [.ref [.str b.n,.int .i64 b.st,.sl 8 (vss b.l) .any]]):=by
 refine f44.D1 af (by simp[aD,jq]) (by simp[aP,aD,bw,my]) ?_;unfold c44 zz;have hE:iO b= .agg [.str b.n,.int .i64 b.st,.sl 8 (vss b.l) .any]:=rfl;rw[hE];refine qj ?_;refine Wp.ret ⟨trivial,_,rfl,?_⟩;simp[unT,rW,upd,go_sem];exact ar.refl _
theorem pT{v:Vs}(h:v.okV=true):v.room:=by
 have h2:=sq h;refine ⟨?_,h2.2.2⟩;simp only[Vs.okV,Jv,JE] at h;omega
theorem Ey{b:Bk}(h:jE b=true)(j:Nat)(hj:j<b.l.length):(b.l.getD j default).room:=by
 unfold jE at h;simp only[Jv] at h;exact pT (kP h.2 j hj)
theorem sr{s:List UInt8}(h:s.length<=2560):eQ s<=16:=by unfold eQ;omega
def kd(n:List UInt8)(v:Vs)(k:Nat):List Ch:=chV n v::(List.range k).map (chC n v)
theorem wv(n:List UInt8)(v:Vs)(k:Nat):chs (kd n v (k+1))=chs (kd n v k)++[.agg [.str (fD (kyC n v k)),.str (chunk v.b k),.bool false]]:=by
 simp[kd,chs,List.range_succ,pz,chC]
theorem Ah(n:List UInt8)(v:Vs)(k:Nat):(chs (kd n v k)).length=k+1:=by simp[kd,chs]
theorem wx(l:List (List UInt8))(j:Nat)(d:AV)(h:j<l.length):(lk l).getD j d= .str (l.getD j default):=by
 simp[lk,JN,Jm h]
theorem Ai(s:List UInt8)(n j:Nat)(h:j<n):(chunks s n).getD j default=chunk s j:=by
 simp[chunks,JN,h]
theorem Cu{k n:Nat}(h:k<n)(hn:n<=1000000):decide ((k:Int)<(n:Int))=true/\(0:Int)<=(k:Int)/\(k:Int)<(n:Int)/\IntKind.i64.wrap ((k:Int)+1)=((k+1:Nat):Int)/\(k+1+1)*40<=140737488355328/\k+1+1<4611686018427387904:=by
 refine ⟨Jt aa,aa,aa,?_,aa,aa⟩;rw[IntWalk.i64_in _ aa];omega
theorem gf{k n:Nat}(h:k<n)(hn:n<=10000000):decide ((k:Int)<(n:Int))=true/\(0:Int)<=(k:Int)/\(k:Int)<(n:Int)/\IntKind.i64.wrap ((k:Int)+1)=((k+1:Nat):Int):=by
 refine ⟨Jt aa,aa,aa,?_⟩;rw[IntWalk.i64_in _ aa];omega
theorem kf(n:Nat):decide ((n:Int)<(n:Int))=false:=Jn aa
theorem OLe.bX(f:Nat->Option Av.Obj):OLe f f:=λj o h=>⟨o,h,dP.refl o⟩
theorem GB{h:Nat->Option Av.Obj}{n:Nat}{A B:Av.Obj}:OLe (upd (upd h n (some A)) n (some B)) (upd h n (some B)):=λa u hu=>by
 refine ⟨u,?_,dP.refl _⟩;simp only[upd] at hu |-;by_cases a1:a=n
 ·subst a1;simpa using hu
 ·simpa [a1] using hu
def eh(c:Ch):Pr:=⟨c.k,c.v⟩
def gV(b:Bk):List Pr:=(cK b).flatten.map eh
def aI(m:List Bk):List Pr:=(m.map gV).flatten
theorem Cv(a:List Pr)(p:Pr):aF (a++[p])=iJ (aF a) p.k p.v:=by simp[aF]
theorem pU{α β:Type}[Inhabited α](f:α->β)(l:List α)(j:Nat)(h:j<l.length):(l.take (j+1)).map f=(l.take j).map f++[f (l.getD j default)]:=by
 have e:l.getD j default=l[j]:=by simp[JN,Jm h]
 rw[e,JV h,KC];simp
theorem wy(m:List Bk)(j:Nat)(h:j<m.length):aI (m.take (j+1))=aI (m.take j)++gV (m.getD j default):=by
 unfold aI;rw[pU gV m j h];simp
theorem Aj(l:List (List Ch))(j:Nat)(h:j<l.length):((l.take (j+1)).flatten.map eh)=(l.take j).flatten.map eh++(l.getD j []).map eh:=by
 have e:l.getD j []=l[j]:=by simp[JN,Jm h]
 rw[e,JV h,KW,KC];simp only[List.flatten_cons,List.flatten_nil,JY]
theorem Cw(m:List Bk)(j:Nat):(aI (m.take j)).length<=(aI m).length:=by
 have h:aI m=aI (m.take j)++aI (m.drop j):=by unfold aI;rw[<-KW,<-KC,Kj]
 rw[h,Ju];omega
theorem Ez(l:List (List Ch))(j:Nat):((l.take j).flatten.map eh).length<=(l.flatten.map eh).length:=by
 have h:l.flatten.map eh=(l.take j).flatten.map eh++(l.drop j).flatten.map eh:=by rw[<-KC,<-KW,Kj]
 rw[h,Ju];omega
theorem EA(l:List Pr):(aF l).length<=l.length:=(dV l).2.2
theorem uf:∀(s s' x y:List UInt8),(∀b∈s,b≠0)->(∀b∈s',b≠0)->s++[0,1]++x=s'++[0,1]++y->s=s'/\x=y
 |[],[],x,y,_,_,h=>by simpa using h
 |[],b::s',x,y,_,h2,h=>by
  simp only[List.nil_append,List.cons_append,Kc] at h;exact absurd h.1.symm (h2 b af)
 |a::s,[],x,y,h1,_,h=>by
  simp only[List.nil_append,List.cons_append,Kc] at h;exact absurd h.1 (h1 a af)
 |a::s,b::s',x,y,h1,h2,h=>by
  simp only[List.cons_append,Kc] at h;obtain ⟨rfl,h⟩:=h;obtain ⟨rfl,rfl⟩:=uf s s' x y (λb hb=>h1 b (by simp[hb])) (λb hb=>h2 b (by simp[hb])) h;exact ⟨rfl,rfl⟩
theorem EB{a b m:UInt8}(h:a ^^^ m=b ^^^ m):a=b:=by
 have:=Kd (· ^^^ m) h;simpa [UInt8.xor_assoc] using this
theorem Cy{m:UInt8}{a b:List UInt8}(h:br m a=br m b):a=b:=by
 unfold br at h;exact (List.map_inj_right λx y=>EB).1 h
theorem Cz:∀(b x y:Nat),x<256^b->y<256^b->be b x=be b y->x=y
 |0,x,y,hx,hy,_=>by simp at hx hy;omega
 |b+1,x,y,hx,hy,h=>by
  simp only[be,Kc] at h;obtain ⟨h1,h2⟩:=h;have hp:0<256^b:=Nat.pow_pos ah;have e1:x/256^b<256:=Nat.div_lt_of_lt_mul (by rw[<-Nat.pow_succ];exact hx);have e2:y/256^b<256:=Nat.div_lt_of_lt_mul (by rw[<-Nat.pow_succ];exact hy);have h1:x/256^b=y/256^b:=by
   have:=Kd UInt8.toNat h1;simp only[UInt8.toNat_ofNat'] at this;rw[J9 e1,J9 e2] at this;exact this
  have hb:∀z,be b z=be b (z%256^b):=be_mod b;rw[hb x,hb y] at h2;have h3:=Cz b _ _ (LP _ hp) (LP _ hp) h2;rw[<-Nat.div_add_mod x (256^b),<-Nat.div_add_mod y (256^b),h1,h3]
where
 be_mod:∀(b z:Nat),be b z=be b (z%256^b):=by
  intro b z;have key:∀c,c<=b->be c z=be c (z%256^b):=by
   intro c;induction c with
   |zero=>intro _;rfl
   |succ c ih=>
    intro hc;simp only[be];rw[ih aa];congr 1;apply UInt8.toNat_inj.1;simp only[UInt8.toNat_ofNat'];have e:256^b=256^c*256^(b - c):=by rw[<-Lm];congr 1;omega
    have e2:(256:Nat)^(b - c)=256*256^(b - c - 1):=by rw[<-Nat.pow_succ'];congr 1;omega
    rw[e,Nat.mod_mul_right_div_self,e2,Nat.mod_mul_right_mod]
  exact key b (Jl _)
theorem GC{a b:Nat}(ha:a<9223372036854775808)(hb:b<9223372036854775808)(h:upB a=upB b):a=b:=by
 have e:(256:Nat)^8=18446744073709551616:=by decide
 have:=Cz 8 (a+9223372036854775808) (b+9223372036854775808) (by rw[e];omega) (by rw[e];omega) h;omega
theorem GD{p q:Pt}(hp:p.ok)(hq:q.ok){x y:List UInt8}(h:ptB p++x=ptB q++y):p=q/\x=y:=by
 obtain ⟨pk,pn,ps⟩:=p;obtain ⟨qk,qn,qs⟩:=q;have P1:=hp.t;have P2:=hp.u;have Q1:=hq.t;have Q2:=hq.u;simp only at P1 P2 Q1 Q2;have h1:=hp.k;have h2:=hq.k;simp only at h1 h2;have num:∀(m:UInt8)(x y:List UInt8),(0<=pn/\pn<9223372036854775808)->(0<=qn/\qn<9223372036854775808)->br m (upB pn.toNat)++x=br m (upB qn.toNat)++y->pn=qn/\x=y:=by
  intro m x y a b h;obtain ⟨e1,e2⟩:=List.append_inj h (by simp[cZ,upB,aW]);have:=GC aa aa (Cy e1);exact ⟨aa,e2⟩
 rcases h1 with rfl|rfl|rfl<;>rcases h2 with rfl|rfl|rfl
 ·simp[ptB] at h;obtain ⟨a1,a2,-⟩:=P1 rfl;obtain ⟨b1,b2,-⟩:=Q1 rfl;obtain ⟨rfl,rfl⟩:=uf ps qs x y a2 b2 (by simpa using h);rw[a1,b1];simp
 ·simp[ptB] at h
 ·simp[ptB] at h
 ·simp[ptB] at h
 ·simp[ptB] at h;obtain ⟨a1,a2,a3⟩:=P2 ah;obtain ⟨b1,b2,b3⟩:=Q2 ah;obtain ⟨rfl,rfl⟩:=num 0 x y ⟨a2,a3⟩ ⟨b2,b3⟩ h;rw[a1,b1];simp
 ·simp[ptB] at h
 ·simp[ptB] at h
 ·simp[ptB] at h
 ·simp[ptB] at h;obtain ⟨a1,a2,a3⟩:=P2 ah;obtain ⟨b1,b2,b3⟩:=Q2 ah;obtain ⟨rfl,rfl⟩:=num 255 x y ⟨a2,a3⟩ ⟨b2,b3⟩ h;rw[a1,b1];simp
theorem wz(p:Pt):ptB p≠[]:=λh=>by have:=xR p;rw[h] at this;simp at this
theorem xX:∀{l l':List Pt},(∀p∈l,p.ok)->(∀p∈l',p.ok)->cS l=cS l'->l=l'
 |[],[],_,_,_=>rfl
 |[],q::l',_,_,h=>by
  simp only[cS,JM,J4,List.flatten_cons,List.flatten_nil] at h;exact absurd (List.append_eq_nil_iff.1 h.symm).1 (wz q)
 |p::l,[],_,_,h=>by
  simp only[cS,JM,J4,List.flatten_cons,List.flatten_nil] at h;exact absurd (List.append_eq_nil_iff.1 h).1 (wz p)
 |p::l,q::l',h1,h2,h=>by
  simp only[cS,JM,List.flatten_cons] at h;obtain ⟨rfl,h3⟩:=GD (h1 p af) (h2 q af) h;rw[xX (λp hp=>h1 p (by simp[hp])) (λp hp=>h2 p (by simp[hp])) h3]
theorem wA{a b:Int}(ha:1<=a/\a<=6)(hb:1<=b/\b<=6)(h:dt a=dt b):a=b:=by
 obtain ⟨a1,a2⟩:=ha;obtain ⟨b1,b2⟩:=hb;have A:a=1\/a=2\/a=3\/a=4\/a=5\/a=6:=by omega
 have B:b=1\/b=2\/b=3\/b=4\/b=5\/b=6:=by omega
 rcases A with rfl|rfl|rfl|rfl|rfl|rfl<;>rcases B with rfl|rfl|rfl|rfl|rfl|rfl<;>first|rfl|(revert h;decide)
theorem ug{k:Int}:∀{a b:List Int},a.map (cf k)=b.map (cf k)->a=b:=λ{a b} h=>
 (List.map_inj_right λx y h=>by simp only[cf,Pt.mk.injEq,KP,K8] at h;exact h).1 h
theorem key_inj{x y:Ky}(hx:x.ok)(hy:y.ok)(h:cw x=cw y):x=y:=by
 have h1:=xX (jo hx) (jo hy) h;obtain ⟨k,b,o,ns⟩:=x;obtain ⟨k',b',o',ns'⟩:=y;unfold eM at h1;simp only[Kc] at h1;obtain ⟨e1,e2,e3⟩:=h1;have ek:k=k':=wA hx.k hy.k (by simpa [txt] using e1);have eb:b=b':=by simpa [txt] using e2
 subst ek eb;have hxe:=hx.e;have hye:=hy.e;have hxo:=hx.o;have hyo:=hy.o;simp only at hxe hye hxo hyo;by_cases hk:k=1
 ·rw[hxe hk,hye hk] at e3 |-;simp only[Jw,List.nil_append] at e3;rw[ug e3]
 ·have n1:o≠[]:=λe=>by have:=(du (hxo hk)).1;rw[e] at this;simp at this
  have n2:o'≠[]:=λe=>by have:=(du (hyo hk)).1;rw[e] at this;simp at this
  simp only[n1,n2,Js,List.cons_append,List.nil_append,Kc] at e3;obtain ⟨e4,e5⟩:=e3;have eo:o=o':=by simpa [txt] using e4
  rw[eo,ug e5]
theorem xY{α:Type}{P:List α->Prop}(h0:P [])(h1:∀a x,P a->P (a++[x]))(l:List α):P l:=by
 have h:∀m:List α,P m.reverse:=λm=>by
  induction m with
  |nil=>exact h0
  |cons x m ih=>rw[List.reverse_cons];exact h1 _ x ih
 have:=h l.reverse
 rwa [List.reverse_reverse] at this
theorem CA{α:Type}[Inhabited α]{r:α->α->Prop}(tr:∀x y z,r x y->r y z->r x z){l:List α}(h:∀i,i+1<l.length->r (l.getD i default) (l.getD (i+1) default)):l.Pairwise r:=by
 have key:∀d i,i+d+1<l.length->r (l.getD i default) (l.getD (i+d+1) default):=by
  intro d;induction d with
  |zero=>intro i hi;exact h i hi
  |succ d ih=>intro i hi;exact tr _ _ _ (ih i aa) (h (i+d+1) aa)
 rw[Ks];intro i j hi hj hij;have:=key (j - i - 1) i aa;rw[show i+(j - i - 1)+1=j by omega,Av.gS hi,Av.gS hj] at this;exact this
theorem CB{l:List Pr}(h:l.Pairwise λx y=>x.k≠y.k):∀x∈l,∀y∈l,x.k=y.k->x=y:=by
 intro x hx y hy e;obtain ⟨i,hi,rfl⟩:=Lf.1 hx;obtain ⟨j,hj,rfl⟩:=Lf.1 hy;have hp:=Ks.1 h;rcases Nat.lt_trichotomy i j with h1|h1|h1
 ·exact absurd e (hp i j hi hj h1)
 ·subst h1;rfl
 ·exact absurd e.symm (hp j i hj hi h1)
theorem wB{l:List Pr}(h:l.Pairwise λx y=>x.k≠y.k):l.Nodup:=h.imp λh e=>h (by rw[e])
theorem nc{k v:Bs}:∀{l:List Pr}{b:Bool},(∀x∈l,x.k≠k)->(dZ k v b l).length=l.length+(if b then 0 else 1)/\∀x,x∈dZ k v b l↔(b=false/\x=⟨k,v⟩)\/x∈l
 |[],b,_=>by cases b<;>simp[dZ]
 |p::l,b,h=>by
  have h1:=nc (k:=k) (v:=v) (l:=l) (b:=true) λx hx=>h x (by simp[hx]);have h2:=nc (k:=k) (v:=v) (l:=l) (b:=false) λx hx=>h x (by simp[hx]);have hp:=h p af;simp only[Jw,Js,Jy,Nat.add_zero,Bool.true_eq_false,false_and,false_or,KP] at h1 h2;rw[dZ];cases b<;>cases Op.bytesLess p.k k<;>simp[hp,h1.1,h2.1,h1.2,h2.2];all_goals (try intro x;try constructor)<;>(try (intro h;rcases h with h|h|h<;>simp[h]))
theorem pW{l:List Pr}(h:l.Pairwise λx y=>x.k≠y.k)(hs:∀p∈l,shut p.k p.v=false):(aF l).length=l.length/\∀x,x∈aF l↔x∈l:=by
 revert h hs;refine xY (P:=λl=>(l.Pairwise λx y=>x.k≠y.k)->(∀p∈l,shut p.k p.v=false)->(aF l).length=l.length/\∀x,x∈aF l↔x∈l) (λ_ _=>by simp[aF]) (λa p ih h hs=>?_) l;have hp:=Lp.1 h;obtain ⟨i1,i2⟩:=ih hp.1 λq hq=>hs q (by simp[hq]);have hsp:=hs p af;rw[Cv,iJ,Jr (by rw[hsp];simp)];have:=nc (k:=p.k) (v:=p.v) (l:=aF a) (b:=false) λx hx=>hp.2.2 x ((i2 x).1 hx) p af;refine ⟨by rw[this.1,i1];simp,λx=>?_⟩;rw[this.2,i2];simp only[KP,JW,Jz];exact or_comm
theorem gW(l:List Pr):(aF l).Pairwise λx y=>Op.bytesLess x.k y.k=true:=(dV l).1
theorem kh{a b c:List UInt8}(h1:Op.bytesLess a b=true)(h2:Op.bytesLess b c=true):Op.bytesLess a c=true:=Batch.dm h1 h2
def su(n:List UInt8)(v:Vs):List Ky:=kyV n v::(List.range (eQ v.b)).map (kyC n v)
def sv(b:Bk):List Ky:=kyB b::(b.l.map (su b.n)).flatten
def wC(m:List Bk):List Ky:=(m.map sv).flatten
theorem uh(n:List UInt8)(v:Vs):(fm n v).map (λc=>c.k)=(su n v).map fD:=by
 simp[fm,su,chV,Function.comp_def,chC]
theorem wD(b:Bk):(gV b).map (λp=>p.k)=(sv b).map fD:=by
 unfold gV cK sv;simp only[List.flatten_cons,KC,JM,J4,List.map_map,List.singleton_append,List.map_flatten,Function.comp_def];congr 1;congr 1;refine KD λv _=>?_;exact uh b.n v
theorem pX(m:List Bk):(aI m).map (λp=>p.k)=(wC m).map fD:=by
 unfold aI wC;simp only[List.map_flatten,List.map_map,Function.comp_def];congr 1;exact KD λb _=>wD b
theorem nR{m:List Bk}(h:imB m=true){b:Bk}(hb:b∈m):jE b=true:=by
 obtain ⟨i,hi,rfl⟩:=Lf.1 hb;have:=(xW h).2 i hi
 rwa [show m.getD i default=m[i] by simp[JN,Jm hi]] at this
theorem CC{b:Bk}(h:jE b=true){v:Vs}(hv:v∈b.l):v.okV=true:=by
 obtain ⟨i,hi,rfl⟩:=Lf.1 hv;unfold jE at h;simp only[Jv] at h;have:=kP h.2 i hi
 rwa [show b.l.getD i default=b.l[i] by simp[JN,Jm hi]] at this
theorem GF{v:Vs}(h:v.okV=true):cF v.o=0/\0<=v.id/\v.id<=1152921504606846976:=by
 simp only[Vs.okV,Jv,JE] at h;exact ⟨h.1.1.1,h.1.1.2,h.1.2⟩
theorem kj{m:List Bk}(h:imB m=true):∀x∈wC m,x.ok:=by
 intro x hx;unfold wC at hx;obtain ⟨l,hl,hx⟩:=Ke.1 hx;obtain ⟨b,hb,rfl⟩:=JF.1 hl;have hob:=nR h hb;have hbn:cG b.n=0:=by
  unfold jE at hob;simp only[Jv,JE] at hob;exact hob.1.1
 unfold sv at hx;rcases JB.1 hx with rfl|hx
 ·exact ⟨by simp[kyB],rfl,by simp[kyB],λ_=>rfl,hbn,λh=>absurd rfl h⟩
 ·obtain ⟨l,hl,hx⟩:=Ke.1 hx;obtain ⟨v,hv,rfl⟩:=JF.1 hl;have hov:=CC hob hv;obtain ⟨h1,h2,h3⟩:=GF hov;unfold su at hx;rcases JB.1 hx with rfl|hx
  ·exact ⟨by simp[kyV],rfl,by simp[kyV];omega,λh=>absurd h (by simp[kyV]),hbn,λ_=>h1⟩
  ·obtain ⟨k,hk,rfl⟩:=JF.1 hx;have:=Kg.1 hk;have h16:=sr (pT hov).2;exact ⟨by simp[kyC],rfl,by simp[kyC];omega,λh=>absurd h (by simp[kyC]),hbn,λ_=>h1⟩
theorem iQ{m:List Bk}(h:imB m=true):m.Pairwise λa b=>Op.bytesLess a.n b.n=true:=by
 refine CA (r:=λa b:Bk=>Op.bytesLess a.n b.n=true) (λx y z h1 h2=>kh h1 h2) λi hi=>?_;unfold imB at h;simp only[Jv,JS,Kg] at h;have:=h.2 (i+1) hi;unfold so at this;simp only[Jv,J7,JE,Nat.add_sub_cancel] at this;rcases this.2 with h|h
 ·omega
 ·exact h
theorem wE{a b c:Vs}(h1:a.next b=true)(h2:b.next c=true):a.next c=true:=by
 unfold Vs.next at*
 simp only[J7,Jv,JE] at*
 rcases h1 with h1|⟨h1,h3⟩ <;>rcases h2 with h2|⟨h2,h4⟩
 ·exact .inl (kh h1 h2)
 ·rw[<-h2];exact .inl h1
 ·rw[h1];exact .inl h2
 ·exact .inr ⟨h1.trans h2,aa⟩
theorem oA{b:Bk}(h:jE b=true):b.l.Pairwise λu v=>u.next v=true:=by
 refine CA (r:=λu v:Vs=>u.next v=true) (λx y z h1 h2=>wE h1 h2) λi hi=>?_;unfold jE at h;simp only[Jv] at h;have h:=h.2;unfold ct at h;simp only[JS,Kg] at h;have:=h (i+1) hi;unfold ka at this;simp only[Jv,J7,JE,Nat.add_sub_cancel] at this;rcases this.1.2 with h|h
 ·omega
 ·exact h
theorem next_ne{u v:Vs}(h:u.next v=true):u.o≠v.o\/u.id≠v.id:=by
 unfold Vs.next at h;simp only[J7,Jv,JE] at h;rcases h with h|⟨h1,h2⟩
 ·exact .inl (oy h)
 ·exact .inr aa
theorem oB{n:List UInt8}{v:Vs}{x:Ky}(h:x∈su n v):x.b=n/\x.o=v.o/\x.ns.head? =some v.id/\x.k≠1:=by
 unfold su at h;rcases JB.1 h with rfl|h
 ·exact ⟨rfl,rfl,rfl,by simp[kyV]⟩
 ·obtain ⟨k,hk,rfl⟩:=JF.1 h;exact ⟨rfl,rfl,rfl,by simp[kyC]⟩
theorem xZ{b:Bk}{x:Ky}(h:x∈sv b):x.b=b.n:=by
 unfold sv at h;rcases JB.1 h with rfl|h
 ·rfl
 ·obtain ⟨l,hl,hx⟩:=Ke.1 h;obtain ⟨v,hv,rfl⟩:=JF.1 hl;exact (oB hx).1
theorem wF(n:List UInt8)(v:Vs):(su n v).Pairwise (· ≠ ·):=by
 unfold su;refine JP.2 ⟨λx hx=>?_,?_⟩
 ·obtain ⟨k,hk,rfl⟩:=JF.1 hx;simp[kyV,kyC]
 ·refine KN.2 (List.Pairwise.imp (λ{a b} h e=>h ?_) (List.nodup_range:(List.range (eQ v.b)).Nodup));have e2:((a:Int))=(b:Int):=by simpa [kyC] using e
  omega
theorem wG{b:Bk}(h:jE b=true):(sv b).Pairwise (· ≠ ·):=by
 unfold sv;refine JP.2 ⟨λx hx e=>?_,?_⟩
 ·obtain ⟨l,hl,hx⟩:=Ke.1 hx;obtain ⟨v,hv,rfl⟩:=JF.1 hl;have:=(oB hx).2.2.2;rw[<-e] at this;exact this rfl
 ·refine List.pairwise_flatten.2 ⟨λl hl=>?_,?_⟩
  ·obtain ⟨v,hv,rfl⟩:=JF.1 hl;exact wF _ _
  ·refine KN.2 (List.Pairwise.imp (λ{u v} hn x hx y hy e=>?_) (oA h));subst e;obtain ⟨-,a2,a3,-⟩:=oB hx;obtain ⟨-,b2,b3,-⟩:=oB hy;rcases next_ne hn with h|h
   ·exact h (a2.symm.trans b2)
   ·exact h (LV (a3.symm.trans b3))
theorem wH{m:List Bk}(h:imB m=true):(wC m).Pairwise (· ≠ ·):=by
 unfold wC;refine List.pairwise_flatten.2 ⟨λl hl=>?_,?_⟩
 ·obtain ⟨b,hb,rfl⟩:=JF.1 hl;exact wG (nR h hb)
 ·refine KN.2 (List.Pairwise.imp (λ{a b} hn x hx y hy e=>?_) (iQ h));subst e;exact oy hn ((xZ hx).symm.trans (xZ hy))
theorem fZ{x:Ky}(h:x.ok):fD x=cw x:=by
 unfold fD;have:iN x=0:=by
  unfold iN;have h1:iM x=true:=by
   unfold iM mZ;simp only[Jv,JS,JE,J7,Bool.not_eq_true',Lq];refine ⟨⟨λn hn=>(h.r n hn).1,h.n.symm⟩,?_⟩;by_cases hk:x.k=1
   ·exact .inr (h.e hk)
   ·exact .inl hk
  rw[h1,JC rfl,JC h.b];split
  ·rfl
  ·exact h.o ‹_›
 rw[JC this]
theorem fo{m:List Bk}(h:imB m=true):(aI m).Pairwise λx y=>x.k≠y.k:=by
 have h1:((wC m).map fD).Pairwise (· ≠ ·):=by
  refine KN.2 ?_;refine LH (λ{a b} ha hb hn e=>hn ?_) (wH h);rw[fZ (kj h a ha),fZ (kj h b hb)] at e;exact key_inj (kj h a ha) (kj h b hb) e
 rw[<-pX] at h1;exact KN.1 h1
theorem Ak(s:List UInt8)(k:Nat):(chunk s k).length<=160:=by
 unfold chunk;rw[JR,JU];omega
theorem Al(v:Vs):(kb v).length<=11:=by
 unfold kb cP;split
 ·rw[fj];exact Jl _
 ·simp
theorem EC(v:Int):(stS v).length<=1:=by unfold stS;split<;>simp
theorem pY{m:List Bk}(h:imB m=true):∀p∈aI m,shut p.k p.v=false:=by
 intro p hp;have hk:p.k.length<=81:=by
  have:p.k∈(aI m).map (λp=>p.k):=JF.2 ⟨p,hp,rfl⟩;rw[pX] at this;obtain ⟨x,hx,e⟩:=JF.1 this;have ho:=kj h x hx;rw[<-e,fZ ho];exact sn ho
 have hv:p.v.length<=160:=by
  unfold aI at hp;obtain ⟨l,hl,hp⟩:=Ke.1 hp;obtain ⟨b,hb,rfl⟩:=JF.1 hl;unfold gV at hp;obtain ⟨c,hc,rfl⟩:=JF.1 hp;obtain ⟨r,hr,hc⟩:=Ke.1 hc;unfold cK at hr;rcases JB.1 hr with rfl|hr
  ·simp only[Jz] at hc;subst hc;have:=EC b.st;show (stS b.st).length<=160;omega
  ·obtain ⟨v,hv,rfl⟩:=JF.1 hr;unfold fm at hc;rcases JB.1 hc with rfl|hc
   ·have:=Al v;show (kb v).length<=160;omega
   ·obtain ⟨k,hk,rfl⟩:=JF.1 hc;exact Ak _ _
 simp only[shut,Bool.or_eq_false_iff,Lq];omega
theorem CD{l:List Pr}(h:l.Pairwise λx y=>x.k≠y.k):∀x∈l,∀y∈l,x=y\/Op.bytesLess x.k y.k=true\/Op.bytesLess y.k x.k=true:=λx hx y hy=>by
 rcases Batch.dK x.k y.k with h1|h1|h1
 ·exact .inr (.inl h1)
 ·exact .inl (CB h x hx y hy h1)
 ·exact .inr (.inr h1)
def rdT:List UInt8->Option (List UInt8 × Nat)
 |[]=>none
 |[_]=>none
 |a::b::r=>if a≠0 then (rdT (b::r)).map λx=>(a::x.1,x.2+1) else if b=255 then (rdT r).map λx=>(0::x.1,x.2+2) else if b=1 then some ([],2) else none
def wI(l:List UInt8):List UInt8:=l.set 0 (l.getD 0 0 ^^^ 128)
def rdN(m:UInt8)(b:List UInt8):Int:=i64 (wI (br m b))
def rdP:List UInt8->Option (Pt × Nat)
 |[]=>none
 |a::r=>if a=2 then (rdT r).map λx=>(⟨1,0,x.1⟩,x.2+1) else if a=3 then (if r.length<8 then none else some (⟨2,rdN 0 (r.take 8),[]⟩,9)) else if a=4 then (if r.length<8 then none else some (⟨3,rdN 255 (r.take 8),[]⟩,9)) else none
theorem sw:∀{s t n},rdT s=some (t,n)->2<=n/\n<=s.length
 |[],_,_,h=>by simp[rdT] at h
 |[_],_,_,h=>by simp[rdT] at h
 |a::b::r,t,n,h=>by
  simp only[rdT] at h;split at h
  ·obtain ⟨⟨t',n'⟩,h1,h2⟩:=Jo.1 h;have:=sw h1;simp only[JD] at h2;simp only[List.length_cons] at*
   omega
  ·split at h
   ·obtain ⟨⟨t',n'⟩,h1,h2⟩:=Jo.1 h;have:=sw h1;simp only[JD] at h2;simp only[List.length_cons] at*
    omega
   ·split at h
    ·simp only[JA,JD] at h;simp only[List.length_cons];omega
    ·cases h
theorem sx{s:List UInt8}{p:Pt}{n:Nat}(h:rdP s=some (p,n)):1<=n/\n<=s.length:=by
 cases s with
 |nil=>simp[rdP] at h
 |cons a r=>
  simp only[rdP] at h;split at h
  ·obtain ⟨⟨t',n'⟩,h1,h2⟩:=Jo.1 h;have:=sw h1;simp only[JD] at h2;simp only[List.length_cons];omega
  ·split at h
   ·split at h
    ·cases h
    ·simp only[JA,JD] at h;simp only[List.length_cons];omega
   ·split at h
    ·split at h
     ·cases h
     ·simp only[JA,JD] at h;simp only[List.length_cons];omega
    ·cases h
def nW:Nat->List UInt8->Option (List Pt)
 |0,s=>if s=[] then some [] else none
 |k+1,s=>if s=[] then some [] else match rdP s with
  |none=>none
  |some (p,n)=>(nW k (s.drop n)).map (p:: ·)
theorem rB:∀{k j:Nat}{s:List UInt8},s.length<=k->s.length<=j->nW k s=nW j s
 |0,0,_,_,_=>rfl
 |0,j+1,s,h,_=>by
  have:s=[]:=List.eq_nil_of_length_eq_zero aa;subst this;simp[nW]
 |k+1,0,s,_,h=>by
  have:s=[]:=List.eq_nil_of_length_eq_zero aa;subst this;simp[nW]
 |k+1,j+1,s,h1,h2=>by
  simp only[nW];split
  ·rfl
  ·cases hp:rdP s with
   |none=>rfl
   |some x=>
    obtain ⟨p,n⟩:=x;have:=sx hp;simp only;rw[rB (k:=k) (j:=j) (by rw[JR];omega) (by rw[JR];omega)]
def qm(s:List UInt8):Option (List Pt):=nW s.length s
theorem CE:qm []=some []:=rfl
theorem kQ{s:List UInt8}(h:s≠[]):qm s=match rdP s with|none=>none|some (p,n)=>(qm (s.drop n)).map (p:: ·):=by
 unfold qm;obtain ⟨k,hk⟩:∃k,s.length=k+1:=⟨s.length - 1,by have:=Lh.2 h;omega⟩;rw[hk];simp only[nW,Jr h];cases hp:rdP s with
 |none=>rfl
 |some x=>
  obtain ⟨p,n⟩:=x;have:=sx hp;simp only;rw[rB (k:=k) (j:=(s.drop n).length) (by rw[JR];omega) (Jl _)]
def kX(s:List UInt8):List Pt:=if 128<s.length then [] else (qm s).getD []
def nX(s:List UInt8):Int:=if 128<s.length then 5 else if (qm s).isSome then 0 else 4
theorem km(c:UInt8)(l:List UInt8):val (c::l)=c.toNat*256^l.length+val l:=by
 have key:∀(l:List UInt8)(a:Nat),l.foldl (λn c=>n*256+c.toNat) a=a*256^l.length+val l:=by
  intro l;induction l with
  |nil=>intro a;simp[Batch.val]
  |cons c l ih=>
   intro a;rw[List.foldl_cons,ih,List.length_cons];have:val (c::l)=c.toNat*256^l.length+val l:=by
    show (c::l).foldl _ 0=_;rw[List.foldl_cons,ih];simp
   rw[this,Kr,Nat.pow_succ,Nat.mul_assoc,Nat.mul_comm 256,KI]
 have:=key l c.toNat;show (c::l).foldl _ 0=_;rw[List.foldl_cons];simpa using this
theorem GG(a:UInt8):(a ^^^ 128).toNat=if a.toNat<128 then a.toNat+128 else a.toNat - 128:=by
 have h:∀x:BitVec 8,(x ^^^ 128#8).toNat=if x.toNat<128 then x.toNat+128 else x.toNat - 128:=by decide
 exact h a.toBitVec
theorem Jc(n:Nat)(h:n<18446744073709551616):lz .u64 (n:Int) 9223372036854775808=((if n<9223372036854775808 then n+9223372036854775808 else n - 9223372036854775808:Nat):Int):=by
 split
 ·exact Cg n ‹_›
 ·have e:=Cg (n - 9223372036854775808) aa;have e1:n - 9223372036854775808+9223372036854775808=n:=by omega
  rw[e1] at e;rw[<-e];unfold lz;change IntKind.u64.wrap (((BitVec.ofInt 64 (IntKind.u64.wrap (((BitVec.ofInt 64 ((n - 9223372036854775808:Nat):Int) ^^^ BitVec.ofInt 64 9223372036854775808).toNat:Nat):Int)) ^^^ BitVec.ofInt 64 9223372036854775808).toNat:Nat):Int)=_;generalize hb:BitVec.ofInt 64 ((n - 9223372036854775808:Nat):Int)=b;have hw:IntKind.u64.wrap (((b ^^^ BitVec.ofInt 64 9223372036854775808).toNat:Nat):Int)=(((b ^^^ BitVec.ofInt 64 9223372036854775808).toNat:Nat):Int):=IntWalk.u64_in _ (by have:=(b ^^^ BitVec.ofInt 64 9223372036854775808).isLt;omega);rw[hw,BitVec.ofInt_natCast,BitVec.ofNat_toNat,BitVec.setWidth_eq,BitVec.xor_assoc,BitVec.xor_self,BitVec.xor_zero,<-hb];rw[BitVec.ofInt_natCast,Lw,J9 aa];exact IntWalk.u64_in _ aa
theorem ED{l:List UInt8}(h:l.length=8):lz .u64 (val l:Int) 9223372036854775808=(val (wI l):Int):=by
 cases l with
 |nil=>simp at h
 |cons a r=>
  simp only[List.length_cons] at h;have hr:r.length=7:=by omega
  have h1:=km a r;have h2:=pJ r;rw[hr] at h1 h2;have e:(256:Nat)^7=72057594037927936:=by decide
  rw[e] at h1 h2;have ha:=a.toNat_lt;have h3:val (wI (a::r))=(a ^^^ 128).toNat*72057594037927936+val r:=by
   have:wI (a::r)=(a ^^^ 128)::r:=rfl;rw[this,km,hr,e]
  rw[h3,GG,h1,Jc _ aa];congr 1;split<;>split<;>omega
theorem ui(v c:Nat)(hv:v<72057594037927936)(hc:c<256):orI .u64 ((v*256:Nat):Int) (c:Int)=((v*256+c:Nat):Int):=by
 unfold orI;change IntKind.u64.wrap (((BitVec.ofInt 64 ((v*256:Nat):Int) ||| BitVec.ofInt 64 (c:Int)).toNat:Nat):Int)=_;rw[Ej v c hv hc];exact IntWalk.u64_in _ aa
theorem CG(b:List UInt8)(hb:b.length=8)(m:UInt8):aH Tryz.prog 199 [.str b,.int .u8 m.toNat] (.int .i64 (rdN m b)):=by
 refine f199.aG af rfl rfl ?_;unfold HP zz;have lb:=bj b;have lm:=cZ m b;have vt:=ED (l:=br m b) (by rw[lm,hb]);have hv:∀j,j<=8->val ((br m b).take j)<256^j:=λj hj=>by
  have:=pJ ((br m b).take j)
  rwa [JU,lm,hb,KB hj] at this
 have hstep:∀j,j<8->val ((br m b).take (j+1))=val ((br m b).take j)*256+(b.getD j 0 ^^^ m).toNat:=λj hj=>by
  rw[tT _ _ (by rw[lm,hb];exact hj)];congr 2;simp[br,List.getD,Jm (show j<b.length by omega)]
 refine rf0 lb ?_;refine Wp.le (s':=⟨tm [(1,.int .u8 m.toNat),(5,.int .u64 0),(9,.sl 1 (az b) .any),(10,.int .i64 8),(11,.int .i64 0)],H0 0 1⟩) (aJ.of (bc ?_) (λa o ho=>by cases ho) (λa ha=>by cases ha) (Jl _) (Jl _)) ?_
 ·have h8:((b.length:Nat):Int)=8:=by omega
  simp only[aN,go_sem,reduceIte,Nat.reduceEqDiff,Nat.reduceAdd,bx,h8];and_intros<;>first|exact trivial|exact ar.refl _|exact ar.any _|exact ar.cap|(refine ar.int ?_;omega)
 refine Wp.gQ [1,9,10] xA6 (λj:Nat=>[(5,.int .u64 (val ((br m b).take j))),(11,.int .i64 (j:Nat))]) (λj=>j<=8) (λj=>8 - j) 0 (JJ _) ?_ ?_
 ·exact dU @KX.{0}
 rintro j hj;by_cases hc:j<8
 ·have g1:decide ((j:Int)<8)=true:=Jt aa;have g2:(0:Int)<=(j:Int):=by omega
  have g3:(j:Int)<(b.length:Int):=by omega
  have hat:(az b).getD j .any=byte (b.getD j 0):=by
   exact jh b j .any aa
  unfold byte at hat;have hvj:=hv j aa;have hpw:(256:Nat)^j<=256^7:=Ln aa aa;have e7:(256:Nat)^7=72057594037927936:=by decide
  rw[e7] at hpw;have hs:=hstep j hc;have x0:=Iy (b.getD j 0) m;have hc2:=(b.getD j 0 ^^^ m).toNat_lt;generalize val ((br m b).take j)=v at*
  have e1:IntKind.u64.wrap ((v:Int)*2^(min (Int.toNat 8) 64))=((v*256:Nat):Int):=by
   rw[show min (Int.toNat 8) 64=8 from rfl,IntWalk.u64_in _ aa];omega
  have e2:¬(8:Int)<0:=by omega
  have o1:=ui v _ aa hc2;generalize (b.getD j 0 ^^^ m).toNat=c at*
  have e3:IntKind.u64.wrap (c:Int)=(c:Int):=IntWalk.u64_in _ aa;have e5:IntKind.i64.wrap ((j:Int)+1)=((j+1:Nat):Int):=by rw[IntWalk.i64_in _ aa];omega
  refine rf0 (bF g1 g2 g3 lb hat x0 xy e1 e2 e3 o1 (cj2 @Jq @JI)) ?_;refine ⟨j+1,aa,aa,?_⟩;rw[hs];exact Gg e5
 ·have hj8:j=8:=by omega
  subst hj8;have ht:(br m b).take 8=br m b:=Kq (by rw[lm,hb];exact Jl _);have g1:decide (((8:Nat):Int)<8)=false:=rfl;rw[ht];refine rf0 (cj2 g1 vt) ?_;refine aK ?_;exact ar.refl _
theorem kR(c:UInt8)(k:Nat)(hk:k<256):decide (((c.toNat:Nat):Int)=(k:Int))=decide (c=UInt8.ofNat k):=by
 rw[decide_eq_decide];constructor
 ·intro h;apply UInt8.toNat_inj.1;rw[UInt8.toNat_ofNat',J9 hk];omega
 ·rintro rfl;rw[UInt8.toNat_ofNat',J9 hk]
theorem ya(a:UInt8)(l:List UInt8)(h:a≠0):rdT (a::l)=(rdT l).map λx=>(a::x.1,x.2+1):=by
 cases l with
 |nil=>rfl
 |cons b r=>simp[rdT,h]
theorem cr(s:List UInt8)(j:Nat)(h:j<s.length):s.drop j=s.getD j 0::s.drop (j+1):=by
 rw[List.drop_eq_getElem_cons h];congr 1;simp[List.getD,Jm h]
theorem CH(l:List Pt):aD (pts l)=true:=Av.bA (λa=>rfl) l
def stO(s:List UInt8)(out:List Pt)(i:Nat):Option (List Pt):=(qm (s.drop i)).map (out++ ·)
def txO(s:List UInt8)(out:List Pt)(t:List UInt8)(i:Nat):Option (List Pt):=(rdT (s.drop i)).bind λx=>stO s (out++[⟨1,0,t++x.1⟩]) (i+x.2)
theorem EE(s:List UInt8)(out:List Pt):stO s out s.length=some out:=by
 unfold stO;rw[KE (Jl _),CE];simp
theorem EF(s:List UInt8)(out:List Pt)(t:List UInt8):txO s out t s.length=none:=by
 unfold txO;rw[KE (Jl _)];rfl
theorem GH{s:List UInt8}(out:List Pt)(t:List UInt8){i:Nat}(h:i<s.length)(hz:s.getD i 0≠0):txO s out t i=txO s out (t++[s.getD i 0]) (i+1):=by
 unfold txO;rw[cr s i h,ya _ _ hz];cases rdT (s.drop (i+1)) with
 |none=>rfl
 |some x=>
  have e:i+(x.2+1)=i+1+x.2:=by omega
  simp[e]
theorem EG{s:List UInt8}(out:List Pt)(t:List UInt8){i:Nat}(h:i+1=s.length)(hz:s.getD i 0=0):txO s out t i=none:=by
 unfold txO;rw[cr s i aa,KE aa];rfl
theorem EH{s:List UInt8}(out:List Pt)(t:List UInt8){i:Nat}(h:i+1<s.length)(hz:s.getD i 0=0):txO s out t i=if s.getD (i+1) 0=255 then txO s out (t++[0]) (i+1+1) else if s.getD (i+1) 0=1 then stO s (out++[⟨1,0,t⟩]) (i+1+1) else none:=by
 unfold txO;rw[cr s i aa,cr s (i+1) h,hz];generalize s.getD (i+1) 0=y;have e:rdT ((0:UInt8)::y::s.drop (i+1+1))=if y=255 then (rdT (s.drop (i+1+1))).map λx=>(0::x.1,x.2+2) else if y=1 then some ([],2) else none:=by simp[rdT]
 rw[e];split
 ·cases rdT (s.drop (i+1+1)) with
  |none=>rfl
  |some x=>
   have e:i+(x.2+2)=i+1+1+x.2:=by omega
   simp[e]
 ·split
  ·simp
  ·rfl
theorem CI{s:List UInt8}(out:List Pt){i:Nat}(h:i<s.length)(h2:s.getD i 0=2):stO s out i=txO s out [] (i+1):=by
 unfold txO stO;rw[kQ (by rw[cr s i h];simp),cr s i h,h2];have e:rdP ((2:UInt8)::s.drop (i+1))=(rdT (s.drop (i+1))).map λx=>(⟨1,0,x.1⟩,x.2+1):=by simp[rdP]
 rw[e];cases rdT (s.drop (i+1)) with
 |none=>rfl
 |some x=>
  simp only[Option.map_some,Option.bind_some,Ka,KT,Option.map_map,List.nil_append];congr 1;funext l;simp
theorem EI{s:List UInt8}(out:List Pt){i:Nat}(h:i<s.length)(d:Bool)(h2:s.getD i 0=if d then 4 else 3):stO s out i=if s.length - (i+1)<8 then none else stO s (out++[⟨if d then 3 else 2,rdN (if d then 255 else 0) ((s.drop (i+1)).take 8),[]⟩]) (i+1+8):=by
 unfold stO;rw[kQ (by rw[cr s i h];simp),cr s i h,h2];have hl:(s.drop (i+1)).length=s.length - (i+1):=JR;have e:rdP ((if d then (4:UInt8) else 3)::s.drop (i+1))=if s.length - (i+1)<8 then none else some (⟨if d then 3 else 2,rdN (if d then 255 else 0) ((s.drop (i+1)).take 8),[]⟩,9):=by
  rw[<-hl];cases d<;>simp[rdP]
 rw[e];by_cases h8:s.length - (i+1)<8
 ·rw[JC h8,JC h8];rfl
 ·rw[Jr h8,Jr h8];simp only[Ka,KT,Option.map_map];congr 1;funext l;simp
theorem EJ{s:List UInt8}(out:List Pt){i:Nat}(h:i<s.length)(h2:s.getD i 0≠2)(h3:s.getD i 0≠3)(h4:s.getD i 0≠4):stO s out i=none:=by
 unfold stO;rw[kQ (by rw[cr s i h];simp),cr s i h];have e:rdP (s.getD i 0::s.drop (i+1))=none:=by
  generalize s.getD i 0=y at*
  simp[rdP,h2,h3,h4]
 rw[e];rfl
end Go.Proofs.YtjnoobmaedgooaaGreat.Arch
end
section
set_option maxRecDepth 100000
namespace Go.Proofs.YtjnoobmaedgooaaGreat.Arch
open Go Go.Av Go.Proofs Go.Proofs.YtjnoobmaedgooaaGreat.C Go.Proofs.YtjnoobmaedgooaaGreat.Desk Go.Proofs.YtjnoobmaedgooaaGreat.Batch
def Jd(O:Option (List Pt)):AV:= .tup [.sl 3 (pts (O.getD [])) .any,.int .i64 (if O.isSome then 0 else 4)]
def QDe(O:Option (List Pt)):aC->St->Prop:=λe s'=>gx e/\∃q,fS [.tmp 2,.tmp 3] s'.t s'.h=some q/\ar q (Jd O)
abbrev QDs(O:Option (List Pt)):aC->St->Prop:=aC.within Tryz.prog 99 mw (QDe O)
theorem dW{N:Nat}{c rest:AC}{l:Nat}{s:St}{Q:aC->St->Prop}(h:dY c l=some (.seq .skip rest))(hw:Wp Tryz.prog N rest s (aC.within Tryz.prog N c Q)):aC.within Tryz.prog N c Q (.goto l) s:=by
 simp only[aC.within,h];exact WpS.step (Wp.seq (Wp.skip hw))
theorem sy{t:Tm}{h:H}:QDs none (.goto 3) ⟨t,h⟩:=by
 refine dW vZ ?_;unfold vY;refine fC ?_;refine Wp.ret (show QDe none .ret _ from ⟨trivial,_,rfl,?_⟩);exact ar.tup (aw.cons ar.cap (aw.cons (ar.refl _) aw.nil))
theorem wJ{t:Tm}{f:Nat->Option Av.Obj}{n m a:Nat}{K:List Nat}{l:List (Nat × AV)}(ha:a∈K)(h:aN t l):aJ ⟨t,⟨f,n,K,m⟩⟩ ⟨tm l,⟨av,n,[a],m⟩⟩:=
 aJ.of (bc h) (λa o ho=>by cases ho) (λx hx=>(Jz.1 hx)▸ha) (Jl _) (Jl _)
set_option maxHeartbeats 4000000 in
theorem CJ(s:List UInt8)(hs:s.length<=128)(i:Nat)(out:List Pt)(a n m:Nat)(d:Bool)(hi:i<s.length)(ho:out.length<=i)(ha:a<m)(h2:s.getD i 0=if d then 4 else 3)
  (ih:∀out' a' m',i+1+8<=s.length->out'.length<=i+1+8->a'<m'->Wp Tryz.prog 99 lM ⟨tm [(0,.str s),(4,.sl 3 (pts out') (.own a')),(6,.int .i64 (i+1+8:Nat))],⟨av,n,[a'],m'⟩⟩ (QDs (stO s out' (i+1+8)))):
  Wp Tryz.prog 99 sj ⟨tm [(0,.str s),(4,.sl 3 (pts out) (.own a)),(6,.int .i64 (i+1:Nat))],⟨av,n,[a],m⟩⟩ (QDs (stO s out i)):=by
 rw[EI out hi d h2];unfold sj;have w0:IntKind.i64.wrap (((s.length:Nat):Int) - ((i+1:Nat):Int))=((s.length - (i+1):Nat):Int):=by rw[IntWalk.i64_in _ aa];omega
 by_cases h8:s.length - (i+1)<8
 ·have d1:decide (((s.length - (i+1):Nat):Int)<8)=true:=Jt aa;rw[JC h8];refine rf0 (cj2 w0 d1) ?_;exact Wp.goto (show QDs none (.goto 3) _ from sy)
 ·have d1:decide (((s.length - (i+1):Nat):Int)<8)=false:=Jn aa;rw[Jr h8];have w2:IntKind.i64.wrap (((i+1:Nat):Int) - 1)=(i:Int):=by rw[IntWalk.i64_in _ aa];omega
  have w3:IntKind.i64.wrap (((i+1:Nat):Int)+8)=((i+1+8:Nat):Int):=by rw[IntWalk.i64_in _ aa];omega
  have x1:(0:Int)<=(i:Int):=by omega
  have x2:(i:Int)<(s.length:Int):=by omega
  have x3:(0:Int)<=((i+1:Nat):Int):=by omega
  have x4:((i+1:Nat):Int)<=((i+1+8:Nat):Int):=by omega
  have x5:((i+1+8:Nat):Int)<=(s.length:Int):=by omega
  have x6:(0:Int)<=((i+1+8:Nat):Int):=by omega
  have hcut:(s.take (i+1+8)).drop (i+1)=(s.drop (i+1)).take 8:=by
   rw[List.drop_take];congr 1;omega
  have q3:=kR (s.getD i 0) 3 ah;have hbyte:((3:Nat):Int)=3:=rfl;rw[hbyte] at q3;have hb:((s.drop (i+1)).take 8).length=8:=by simp;omega
  have lp:=dM out;have e6:(out.length+1)*32<=140737488355328:=by omega
  have e7:out.length+1<4611686018427387904:=by omega
  generalize hbb:(s.drop (i+1)).take 8=b at*
  cases d with
  |false=>
   have c1:=CG b hb 0;rw[show decide (s.getD i 0=UInt8.ofNat 3)=true from by rw[h2];rfl] at q3;have z:((0:UInt8).toNat:Int)=0:=rfl;rw[z] at c1;refine rf1 (bF w0 d1 w2 w3 x1 x2 x3 x4 x5 x6 @byte.eq_1 (bF q3 hcut lp e6 e7 @Jq @Jp.{0} @Jx.{0} @JG @Jz.{0} @Kx @JI)) c1 ?_;have W:=ih (out++[⟨2,rdN 0 b,[]⟩]) m (m+1) aa (by simp only[Ju,List.length_cons,List.length_nil];omega) aa;refine Wp.goto ?_;refine dW (Q:=QDe _) lN ?_;refine Wp.le (wJ (a:=m) List.mem_cons_self ?_) W;simp only[aN,go_sem,reduceIte,Nat.reduceEqDiff,Nat.reduceAdd,bx];and_intros<;>first|exact trivial|exact ar.refl _|exact ar.any _|exact ar.of_eq (by rw[jZ];rfl)|(refine ar.int ?_;omega)
  |true=>
   have c1:=CG b hb 255;rw[show decide (s.getD i 0=UInt8.ofNat 3)=false from by rw[h2];rfl] at q3;have z:((255:UInt8).toNat:Int)=255:=rfl;rw[z] at c1;refine rf1 (bF w0 d1 w2 w3 x1 x2 x3 x4 x5 x6 @byte.eq_1 (bF q3 hcut lp e6 e7 @Jq @Jp.{0} @Jx.{0} @JG @Jz.{0} @Kx @JI)) c1 ?_;have W:=ih (out++[⟨3,rdN 255 b,[]⟩]) m (m+1) aa (by simp only[Ju,List.length_cons,List.length_nil];omega) aa;refine Wp.goto ?_;refine dW (Q:=QDe _) lN ?_;refine Wp.le (wJ (a:=m) List.mem_cons_self ?_) W;simp only[aN,go_sem,reduceIte,Nat.reduceEqDiff,Nat.reduceAdd,bx];and_intros<;>first|exact trivial|exact ar.refl _|exact ar.any _|exact ar.of_eq (by rw[jZ];rfl)|(refine ar.int ?_;omega)
set_option maxHeartbeats 4000000 in
theorem EL(s:List UInt8)(hs:s.length<=128):∀(k:Nat),
  (∀(i:Nat)(out:List Pt)(a n m:Nat),s.length - i<=k->i<=s.length->out.length<=i->a<m->
   Wp Tryz.prog 99 lM ⟨tm [(0,.str s),(4,.sl 3 (pts out) (.own a)),(6,.int .i64 i)],⟨av,n,[a],m⟩⟩ (QDs (stO s out i)))
  /\(∀(i:Nat)(out:List Pt)(t:List UInt8)(a b n m:Nat),s.length - i<=k->i<=s.length->out.length+1<=i->t.length<=i->a<m->b<m->a≠b->
   Wp Tryz.prog 99 pL ⟨tm [(0,.str s),(4,.sl 3 (pts out) (.own a)),(5,.sl 1 (az t) (.own b)),(6,.int .i64 i)],⟨av,n,[b,a],m⟩⟩ (QDs (txO s out t i))):=by
 intro k;induction k with
 |zero=>
  constructor
  ·intro i out a n m hk hi ho ha;have hi2:i=s.length:=by omega
   subst hi2;rw[EE];unfold lM;have d1:decide (((s.length:Nat):Int)=((s.length:Nat):Int))=true:=Jt rfl;refine rf0 d1 ?_;refine Wp.ret (show QDe (some out) .ret _ from ⟨trivial,_,rfl,?_⟩);exact ar.tup (aw.cons ar.cap (aw.cons (ar.refl _) aw.nil))
  ·intro i out t a b n m hk hi ho ht ha hb hab;have hi2:i=s.length:=by omega
   subst hi2;rw[EF];unfold pL;have d1:decide (((s.length:Nat):Int)=((s.length:Nat):Int))=true:=Jt rfl;refine rf0 d1 ?_;exact Wp.goto (show QDs none (.goto 3) _ from sy)
 |succ k ih=>
  obtain ⟨ih0,ih1⟩:=ih;constructor
  ·intro i out a n m hk hi ho ha;by_cases hc:i<s.length
   ·have d1:decide (((i:Nat):Int)=((s.length:Nat):Int))=false:=Jn aa;have w1:IntKind.i64.wrap ((i:Int)+1)=((i+1:Nat):Int):=by rw[IntWalk.i64_in _ aa];omega
    have w2:IntKind.i64.wrap (((i+1:Nat):Int) - 1)=(i:Int):=by rw[IntWalk.i64_in _ aa];omega
    have x1:(0:Int)<=(i:Int):=by omega
    have x2:(i:Int)<(s.length:Int):=by omega
    have q3:=kR (s.getD i 0) 3 ah;have q4:=kR (s.getD i 0) 4 ah;have q2:=kR (s.getD i 0) 2 ah;have hbyte:((3:Nat):Int)=3:=rfl;have hbyte4:((4:Nat):Int)=4:=rfl;have hbyte2:((2:Nat):Int)=2:=rfl;rw[hbyte] at q3;rw[hbyte4] at q4;rw[hbyte2] at q2;unfold lM;by_cases b2:s.getD i 0=2
    ·rw[CI out hc b2];rw[show decide (s.getD i 0=UInt8.ofNat 2)=true from Jt b2] at q2;refine rf0 (cj9 d1 w1 w2 x1 x2 @JI @byte.eq_1 @q2 @Jq) ?_;refine Wp.le (aJ.tok _ _) ?_;have W:=ih1 (i+1) out [] a m n (m+1) aa aa aa af aa aa aa;refine Wp.goto ?_;refine dW (Q:=QDe _) lR ?_;refine Wp.le (aJ.of (bc ?_) (OLe.bX _) (λa ha=>ha) (Jl _) (Jl _)) W;simp only[aN,go_sem,reduceIte,Nat.reduceEqDiff,Nat.reduceAdd,bx,az,J4];and_intros<;>first|exact trivial|exact ar.refl _|exact ar.any _|exact ar.eL rfl|(refine ar.int ?_;omega)
    ·rw[show decide (s.getD i 0=UInt8.ofNat 2)=false from Jn b2] at q2;by_cases b3:s.getD i 0=3
     ·rw[show decide (s.getD i 0=UInt8.ofNat 3)=true from Jt b3] at q3;refine rf0 (jD d1 w1 w2 x1 x2 @JI @byte.eq_1 @q2 q3 @Jq) ?_;have W:=CJ s hs i out a n m false hc ho ha (by simpa using b3) (λout' a' m' h1 h2 h3=>ih0 (i+1+8) out' a' n m' aa h1 h2 h3);refine Wp.goto ?_;refine dW (Q:=QDe _) pM ?_;refine Wp.le (aJ.of (bc ?_) (OLe.bX _) (λa ha=>ha) (Jl _) (Jl _)) W;exact xSb
     ·rw[show decide (s.getD i 0=UInt8.ofNat 3)=false from Jn b3] at q3;by_cases b4:s.getD i 0=4
      ·rw[show decide (s.getD i 0=UInt8.ofNat 4)=true from Jt b4] at q4;refine rf0 (nU d1 w1 w2 x1 x2 @JI @byte.eq_1 @q2 q3 @q4 @Jq) ?_;have W:=CJ s hs i out a n m true hc ho ha (by simpa using b4) (λout' a' m' h1 h2 h3=>ih0 (i+1+8) out' a' n m' aa h1 h2 h3);refine Wp.goto ?_;refine dW (Q:=QDe _) pM ?_;refine Wp.le (aJ.of (bc ?_) (OLe.bX _) (λa ha=>ha) (Jl _) (Jl _)) W;exact xSb
      ·rw[show decide (s.getD i 0=UInt8.ofNat 4)=false from Jn b4] at q4;rw[EJ out hc b2 b3 b4];refine rf0 (nU d1 w1 w2 x1 x2 @JI @byte.eq_1 @q2 q3 @q4 @Jq) ?_;exact Wp.goto (show QDs none (.goto 3) _ from sy)
   ·exact ih0 i out a n m aa hi ho ha
  ·intro i out t a b n m hk hi ho ht ha hb hab;have lp:=dM out;have lb:=bj t;have e6:(out.length+1)*32<=140737488355328:=by omega
   have e7:out.length+1<4611686018427387904:=by omega
   have e3:t.length+1<=140737488355328:=by omega
   have e4:t.length+1<4611686018427387904:=by omega
   by_cases hc:i<s.length
   ·have d1:decide (((i:Nat):Int)=((s.length:Nat):Int))=false:=Jn aa;have w1:IntKind.i64.wrap ((i:Int)+1)=((i+1:Nat):Int):=by rw[IntWalk.i64_in _ aa];omega
    have w2:IntKind.i64.wrap (((i+1:Nat):Int) - 1)=(i:Int):=by rw[IntWalk.i64_in _ aa];omega
    have x1:(0:Int)<=(i:Int):=by omega
    have x2:(i:Int)<(s.length:Int):=by omega
    unfold pL;by_cases hz:s.getD i 0=0
    ·have z0:((0:UInt8).toNat:Int)=0:=rfl;have zd:decide ((0:Int)=0)=true:=rfl;by_cases hn:i+1<s.length
     ·have y1:decide (((i+1:Nat):Int)=(s.length:Int))=false:=Jn aa;have y2:(0:Int)<=((i+1:Nat):Int):=by omega
      have y3:((i+1:Nat):Int)<(s.length:Int):=by omega
      have v1:IntKind.i64.wrap (((i+1:Nat):Int)+1)=((i+1+1:Nat):Int):=by rw[IntWalk.i64_in _ aa];omega
      have v2:IntKind.i64.wrap (((i+1+1:Nat):Int) - 1)=((i+1:Nat):Int):=by rw[IntWalk.i64_in _ aa];omega
      have p1:=kR (s.getD (i+1) 0) 1 ah;have p255:=kR (s.getD (i+1) 0) 255 ah;have n1:((1:Nat):Int)=1:=rfl;have n255:((255:Nat):Int)=255:=rfl;rw[n1] at p1;rw[n255] at p255;rw[EH out t hn hz];by_cases b2:s.getD (i+1) 0=255
      ·rw[show decide (s.getD (i+1) 0=UInt8.ofNat 255)=true from Jt b2] at p255;rw[JC b2];refine rf0 (bF d1 w1 w2 x1 x2 @JI @byte.eq_1 hz z0 zd y1 (bF y2 y3 v1 v2 p255 lb e3 e4 @Jq @KA @KK (cj6 @KP @Jp.{0} @Jx.{0} @JG @JB.{0} @Kx))) ?_;have W:=ih1 (i+1+1) out (t++[0]) a m n (m+1) aa aa aa (by simp only[Ju,List.length_cons,List.length_nil];omega) aa aa aa;refine Wp.goto ?_;refine dW (Q:=QDe _) lR ?_;refine Wp.le (aJ.of (bc ?_) (OLe.bX _) (λx hx=>?_) (Jl _) (Jl _)) W
       ·simp only[aN,go_sem,reduceIte,Nat.reduceEqDiff,Nat.reduceAdd,bx];and_intros<;>first|exact trivial|exact ar.refl _|exact ar.any _|exact ar.of_eq (by simp[az,byte])|(refine ar.int ?_;omega)
       ·have hne:decide (¬a=b)=true:=Jt hab;simpa [hne] using hx
      ·rw[show decide (s.getD (i+1) 0=UInt8.ofNat 255)=false from Jn b2] at p255;rw[Jr b2];by_cases b1:s.getD (i+1) 0=1
       ·rw[show decide (s.getD (i+1) 0=UInt8.ofNat 1)=true from Jt b1] at p1;rw[JC b1];refine rf0 (bF d1 w1 w2 x1 x2 @JI @byte.eq_1 hz z0 zd y1 (bF y2 y3 v1 v2 p255 p1 lp e6 e7 @cR @JK.{0,0} (nU @Jq @KA @KK @KP @Jp.{0} @Jx.{0} @JG @JB.{0} @Jz.{0} @Kx @or_true))) ?_;have W:=ih0 (i+1+1) (out++[⟨1,0,t⟩]) m n (m+1) aa aa (by simp only[Ju,List.length_cons,List.length_nil];omega) aa;refine Wp.goto ?_;refine dW (Q:=QDe _) lN ?_;refine Wp.le (wJ (a:=m) List.mem_cons_self ?_) W;simp only[aN,go_sem,reduceIte,Nat.reduceEqDiff,Nat.reduceAdd,bx];and_intros<;>first|exact trivial|exact ar.refl _|exact ar.any _|exact ar.of_eq (by rw[jZ];rfl)|(refine ar.int ?_;omega)
       ·rw[show decide (s.getD (i+1) 0=UInt8.ofNat 1)=false from Jn b1] at p1;rw[Jr b1];refine rf0 (bF d1 w1 w2 x1 x2 @JI @byte.eq_1 hz z0 zd y1 (cj7 y2 y3 v1 v2 p255 p1 @Jq)) ?_;refine Wp.ret (show QDe none .ret _ from ⟨trivial,_,rfl,?_⟩);exact ar.tup (aw.cons ar.cap (aw.cons (ar.refl _) aw.nil))
     ·have y1:decide (((i+1:Nat):Int)=(s.length:Int))=true:=Jt aa;rw[EG out t aa hz];refine rf0 (bF d1 w1 w2 x1 x2 @JI @byte.eq_1 hz z0 zd y1 @Jq) ?_;exact Wp.goto (show QDs none (.goto 3) _ from sy)
    ·have d3:=Ci hz;rw[GH out t hc hz];refine rf0 (bF d1 w1 w2 x1 x2 @JI @byte.eq_1 d3 lb e3 e4 (cj9 @Jq @KA @KK @KP @Jp.{0} @Jx.{0} @JG @JB.{0} @Kx)) ?_;have W:=ih1 (i+1) out (t++[s.getD i 0]) a m n (m+1) aa aa aa (by simp only[Ju,List.length_cons,List.length_nil];omega) aa aa aa;refine Wp.goto ?_;refine dW (Q:=QDe _) lR ?_;refine Wp.le (aJ.of (bc ?_) (OLe.bX _) (λx hx=>?_) (Jl _) (Jl _)) W
     ·simp only[aN,go_sem,reduceIte,Nat.reduceEqDiff,Nat.reduceAdd,bx];and_intros<;>first|exact trivial|exact ar.refl _|exact ar.any _|exact ar.of_eq (by simp[az,byte])|(refine ar.int ?_;omega)
     ·have hne:decide (¬a=b)=true:=Jt hab;simpa [hne] using hx
   ·exact ih1 i out t a b n m aa hi ho ht ha hb hab
theorem CL(s:List UInt8)(hs:s.length<=140737488355328):aH Tryz.prog 156 [.str s] (.tup [.sl 3 (pts (kX s)) .any,.int .i64 (nX s)]):=by
 refine f156.aG af rfl (by simp[aP,aD,bw,CH]) ?_;rw[Em];by_cases hb:128<s.length
 ·have g0:decide ((128:Int)<((s.length:Nat):Int))=true:=Jt aa;have e1:kX s=[]:=by unfold kX;rw[JC hb]
  have e2:nX s=5:=by unfold nX;rw[JC hb]
  rw[e1,e2];have hp:pts []=[]:=rfl;rw[hp];refine Wp.cE xA1 ag ?_;refine Wp.scope (WpS.step ?_);unfold mw;refine rf0 g0 ?_;refine Wp.ret ⟨trivial,_,rfl,?_⟩;exact ar.tup (aw.cons (ar.cap) (aw.cons (ar.refl _) aw.nil))
 ·have g0:decide ((128:Int)<((s.length:Nat):Int))=false:=Jn aa;have e1:kX s=(stO s [] 0).getD []:=by unfold kX stO;rw[Jr hb];simp
  have e2:nX s=if (stO s [] 0).isSome then 0 else 4:=by unfold nX stO;rw[Jr hb];simp
  rw[e1,e2];show Wp Tryz.prog 99 _ _ (QDe (stO s [] 0));refine Wp.cE xA1 ag ?_;refine Wp.scope (WpS.step ?_);show Wp Tryz.prog 99 mw _ (QDs (stO s [] 0));have W:=(EL s aa s.length).1 0 [] 0 0 1 aa aa af aa;unfold mw;generalize lM=R at*
  refine rf0 g0 ?_;refine Wp.le (aJ.tok _ _) ?_;refine Wp.le (s':=⟨tm [(0,.str s),(4,.sl 3 (pts []) (.own 0)),(6,.int .i64 (0:Nat))],⟨av,0,[0],1⟩⟩) (aJ.of (bc ?_) (OLe.bX _) (λa ha=>ha) (Jl _) (Jl _)) W;simp only[aN,go_sem,reduceIte,Nat.reduceEqDiff,Nat.reduceAdd,bx,pts,J4];and_intros<;>first|exact trivial|exact ar.refl _|exact ar.any _|exact ar.eL rfl|(refine ar.int ?_;omega)
def lets:List UInt8:=[98,111,99,117,112,113]
def rC(s:List UInt8)(c:UInt8):Int:=match (List.range s.length).find? λi=>s.getD i 0 == c with|some i=>(i:Int)|none=> -1
theorem EM(s:List UInt8)(c:UInt8):aH Tryz.prog 219 [.str s,.int .u8 c.toNat] (.int .i64 (rC s c)):=by
 refine f219.aG af rfl rfl ?_;unfold HZ zz;have b0:(0:Int)<=((c.toNat:Nat):Int):=by omega
 have b1:((c.toNat:Nat):Int)<256:=by have:=c.toNat_lt;omega
 have b2:UInt8.ofNat c.toNat=c:=UInt8.ofNat_toNat;refine rf0 (cj5 b0 b1 @JI @Jq b2) ?_;refine aK ?_;exact ar.refl _
theorem CM(s:List UInt8)(c:UInt8)(hs:1<s.length)(hs2:s.length<=1000000):aH Tryz.prog 200 [.str s,.str [c]] (.int .i64 (rC s c)):=by
 refine f200.aG af rfl rfl ?_;unfold HQ zz;have ci:=EM s c;have d1:decide (((1:Nat):Int)=1)=true:=rfl;have d0:decide (((1:Nat):Int)=0)=false:=rfl;have dn:decide ([c]=s)=false:=Jn (by rintro rfl;simp at hs);have x0:(0:Int)<((1:Nat):Int):=by decide
 have l1:[c].length=1:=rfl;have g0:[c].getD 0 0=c:=rfl;refine rf1 (jD l1 d1 d0 dn x0 g0 @byte.eq_1 Int.toNat_zero @KY @JI) ci ?_;refine aK ?_;exact ar.refl _
theorem EN(s:List UInt8)(c:UInt8)(hs:1<s.length)(hs2:s.length<=1000000):aH Tryz.prog 157 [.str s,.str [c]] (.int .i64 (rC s c)):=by
 refine f157.aG af rfl rfl ?_;unfold HD zz;have ci:=CM s c hs hs2;refine rZ ci ?_;refine aK ?_;exact ar.refl _
def fc(c:UInt8):Int:=rC lets c+1
theorem CN(c:UInt8):fc c=if c=98 then 1 else if c=111 then 2 else if c=99 then 3 else if c=117 then 4 else if c=112 then 5 else if c=113 then 6 else 0:=by
 by_cases h1:c=98
 ·subst h1;decide
 by_cases h2:c=111
 ·subst h2;decide
 by_cases h3:c=99
 ·subst h3;decide
 by_cases h4:c=117
 ·subst h4;decide
 by_cases h5:c=112
 ·subst h5;decide
 by_cases h6:c=113
 ·subst h6;decide
 rw[Jr h1,Jr h2,Jr h3,Jr h4,Jr h5,Jr h6];have hf:(List.range lets.length).find? (λi=>lets.getD i 0 == c)=none:=by
  rw[List.find?_eq_none];intro i hi;have:i<6:=by simpa [lets] using hi
  obtain rfl|rfl|rfl|rfl|rfl|rfl:i=0\/i=1\/i=2\/i=3\/i=4\/i=5:=by omega
  all_goals simp[lets,Li]
  ·exact λh=>h1 h.symm
  ·exact λh=>h2 h.symm
  ·exact λh=>h3 h.symm
  ·exact λh=>h4 h.symm
  ·exact λh=>h5 h.symm
  ·exact λh=>h6 h.symm
 unfold fc rC;rw[hf];rfl
theorem EO(n:Int):IntKind.i64.wrap n<9223372036854775808:=by
 rw[IntKind.wrap_i64];omega
theorem CO(m:UInt8)(b:List UInt8):rdN m b<9223372036854775808:=EO _
def yb(p:Pt):Prop:=p.n<9223372036854775808
theorem GI{s:List UInt8}{p:Pt}{n:Nat}(h:rdP s=some (p,n)):yb p:=by
 cases s with
 |nil=>simp[rdP] at h
 |cons a r=>
  simp only[rdP] at h;split at h
  ·obtain ⟨x,hx,he⟩:=Jo.1 h;simp only[JD] at he;rw[<-he.1];show (0:Int)<_;decide
  ·split at h
   ·split at h
    ·cases h
    ·simp only[JA,JD] at h;rw[<-h.1];exact CO _ _
   ·split at h
    ·split at h
     ·cases h
     ·simp only[JA,JD] at h;rw[<-h.1];exact CO _ _
    ·cases h
theorem yd:∀{k:Nat}{s:List UInt8}{l:List Pt},nW k s=some l->(∀p∈l,yb p)/\l.length<=s.length
 |0,s,l,h=>by
  simp only[nW] at h;split at h
  ·simp only[JA] at h;subst h;exact ⟨by simp,by simp⟩
  ·cases h
 |k+1,s,l,h=>by
  simp only[nW] at h;split at h
  ·simp only[JA] at h;subst h;exact ⟨by simp,by simp⟩
  ·cases hp:rdP s with
   |none=>rw[hp] at h;cases h
   |some x=>
    obtain ⟨p,n⟩:=x;rw[hp] at h;obtain ⟨l',h1,rfl⟩:=Jo.1 h;obtain ⟨i1,i2⟩:=yd h1;have hn:=sx hp;have hd:(s.drop n).length=s.length - n:=JR;refine ⟨λq hq=>?_,by simp only[List.length_cons];omega⟩;rcases JB.1 hq with rfl|hq
    ·exact GI hp
    ·exact i1 q hq
theorem ye(s:List UInt8):(∀p∈kX s,yb p)/\(kX s).length<=128:=by
 unfold kX;split
 ·exact ⟨by simp,by simp⟩
 ·unfold qm;cases h:nW s.length s with
  |none=>exact ⟨by simp,by simp⟩
  |some l=>
   obtain ⟨h1,h2⟩:=yd h;exact ⟨h1,by show l.length<=128;omega⟩
def pZ:List UInt8->Int
 |[c]=>fc c
 |_=>0
def js(l:List Pt):Ky:=
 let k:=pZ (l.getD 0 default).s
 let r:=l.drop 2
 if k≠1/\r≠[] then ⟨k,(l.getD 1 default).s,(r.getD 0 default).s,(r.drop 1).map Pt.n⟩ else ⟨k,(l.getD 1 default).s,[],r.map Pt.n⟩
theorem uj{l:List Pt}(h:∀p∈l,yb p)(hl:l.length<=128):(js l).fit:=by
 have key:∀(r:List Pt),(∀p∈r,p∈l)->r.length<=128->(r.map Pt.n).length<=1000000/\∀n∈r.map Pt.n,n<9223372036854775808:=λr hr hl=>by
  refine ⟨by simp;omega,λn hn=>?_⟩;obtain ⟨p,hp,rfl⟩:=JF.1 hn;exact h p (hr p hp)
 unfold js;simp only;split
 ·exact key ((l.drop 2).drop 1) (λp hp=>Le (Le hp)) (by simp only[JR];omega)
 ·exact key (l.drop 2) (λp hp=>Le hp) (by simp only[JR];omega)
def kn(s:List UInt8)(l:List Pt):Bool:=decide (2<=l.length)&&decide (iN (js l)=0)&&decide (fD (js l)=s)
def CQ:Ky:=⟨0,[],[],[]⟩
def eR(s:List UInt8):Bool:=decide (nX s=0)&&kn s (kX s)
def bo(s:List UInt8):Ky:=if eR s then js (kX s) else CQ
def wK(s:List UInt8):Int:=if eR s then 0 else 4
theorem wL(c:UInt8):0<=fc c/\fc c<=6:=by
 rw[CN]
 repeat' split
 all_goals decide
theorem Am{x:Ky}(h:x.k=0):iN x=2:=by
 have:iM x=false:=by
  unfold iM;have:fT x.k= -1:=by rw[h];rfl
  rw[this];have:decide (((x.ns.length:Nat):Int)= -1)=false:=Jn aa;rw[this];simp
 unfold iN;rw[this];rfl
theorem CR(l:List Pt):(js l).k=pZ (l.getD 0 default).s:=by
 unfold js;simp only;split<;>rfl
theorem An{s:List UInt8}{l:List Pt}(h:pZ (l.getD 0 default).s=0):kn s l=false:=by
 unfold kn;rw[Am (by rw[CR,h])];simp
def hdA:AC->AC
 | .seq a _=>a
 |c=>c
def tlA:AC->AC
 | .seq _ b=>b
 |c=>c
def oC:AC:=tlA (tlA (tlA (tlA (tlA (tlA pe)))))
def kyO(k:Int)(b o:List UInt8)(v:AV):Nat->Option Av.Obj:=upd (upd av 0 (some (.cells [.int .i64 0,.str [],.str [],.sl 1 [] (.exact 0)]))) 1 (some (.cells [.int .i64 k,.str b,.str o,v]))
def QK(s:List UInt8)(x:Ky):aC->St->Prop:=λe s'=>gx e/\∃q,fS [.cell 2 (some 4),.tmp 3] s'.t s'.h=some q/\ar q (.tup [eY (if (decide (iN x=0)&&decide (fD x=s))=true then x else CQ),.int .i64 (if (decide (iN x=0)&&decide (fD x=s))=true then 0 else 4)])
theorem wM(s:List UInt8)(k:Int)(b o:List UInt8)(r:List Pt)(hr:r.length<=128)(hf:(⟨k,b,o,r.map Pt.n⟩:Ky).fit):
  Wp Tryz.prog 88 oC ⟨tm [(0,.str s),(2,.ptr 0 0),(4,.sl 3 (pts r) .any),(6,.ptr 1 0)],⟨kyO k b o (.sl 1 [] (.exact 0)),2,[],0⟩⟩ (QK s ⟨k,b,o,r.map Pt.n⟩):=by
 have lp:=dM r;have ck:=FQ _ hf;have hno:eY CQ= .agg [.int .i64 0,.str [],.str [],.sl 1 [] .any]:=rfl;have hen:eY ⟨k,b,o,r.map Pt.n⟩= .agg [.int .i64 k,.str b,.str o,.sl 1 (ints (r.map Pt.n)) .any]:=rfl;unfold QK;rw[hen] at ck;generalize iN ⟨k,b,o,r.map Pt.n⟩=ke at*
 generalize fD ⟨k,b,o,r.map Pt.n⟩=ks at*
 unfold oC pe kyO zz;simp only[tlA];refine rf0 lp ?_;refine Wp.le (aJ.tok _ _) ?_;refine Wp.le (s':=⟨tm [(0,.str s),(2,.ptr 0 0),(6,.ptr 1 0),(60,.sl 3 (pts r) .any),(61,.int .i64 r.length),(62,.int .i64 (0:Nat))],⟨kyO k b o (.sl 1 (ints []) (.own 0)),2,[0],1⟩⟩) (aJ.of (bc ?_) (OLe.upd (OLe.bX _) (aw.cons (ar.refl _) (aw.cons (ar.refl _) (aw.cons (ar.refl _) (aw.cons (ar.eL rfl) aw.nil))))) (λa ha=>ha) (Jl _) (Jl _)) ?_
 ·exact xSb
 refine Wp.eX [0,2,6,60,61] xA7 (λj:Nat × Nat × Nat × Nat=>[(62,.int .i64 (j.1:Nat))]) (λj=>⟨kyO k b o (.sl 1 (ints ((r.take j.1).map Pt.n)) (.own j.2.1)),j.2.2.1,[j.2.1],j.2.2.2⟩) (λj=>j.1<=r.length/\2<=j.2.2.1/\j.2.1<j.2.2.2) (λj=>r.length - j.1) (0,0,2,1) ⟨JJ _,by decide,by decide⟩ rfl ?_ ?_
 ·exact xSb
 rintro ⟨j,tk,n,m⟩ ⟨hj,hn2,htm⟩;simp only at hj hn2 htm;have n0:¬(0=n):=by omega
 have n1:¬(n=0):=by omega
 have n2:¬(1=n):=by omega
 have n3:¬(n=1):=by omega
 by_cases hc:j<r.length
 ·obtain ⟨g1,h2,h3,e1⟩:=ixF (j:=j) (n:=r.length) aa aa;have hat:=iL r j .any hc;have hsn:ints ((r.take (j+1)).map Pt.n)=ints ((r.take j).map Pt.n)++[.int .i64 (r.getD j default).n]:=by
   have e:r.getD j default=r[j]:=by simp[List.getD,Jm hc]
   rw[e,JV hc,KC];simp only[ints,KC,JM,J4]
  have li:(ints ((r.take j).map Pt.n)).length=j:=by rw[fM];simp;omega
  have e6:(j+1)*8<=140737488355328:=by omega
  have e7:j+1<4611686018427387904:=by omega
  unfold dL at hat;unfold kyO;refine rf0 (bF g1 h2 h3 lp hat n0 n1 n2 n3 li e6 (cj8 e7 @Jq @JI @Jp.{0} @Jx.{0} @JG @Jz.{0} @Kx)) ?_;refine ⟨(j+1,m,n+1,m+1),⟨hc,by simp only;omega,by simp⟩,K9 hc (J8 _),?_⟩;rw[hsn];refine aJ.of (bc ?_) (λa u hu=>⟨u,?_,dP.refl _⟩) (λx hx=>by simpa using hx) (Jl _) (Jl _)
  ·exact dU e1
  ·simp only[upd,av,kyO] at hu |-;by_cases a1:a=1
   ·subst a1;simpa using hu
   ·by_cases a0:a=0
    ·subst a0;simpa [n0] using hu
    ·simp[a1,a0] at hu
 ·have hj2:j=r.length:=by omega
  subst hj2;have g1:=ixE (r.length);rw[J1];unfold kyO;have hv:ar (.agg [.int .i64 k,.str b,.str o,.sl 1 (ints (r.map Pt.n)) (.own tk)]) (.agg [.int .i64 k,.str b,.str o,.sl 1 (ints (r.map Pt.n)) .any]):=ar.agg (aw.cons (ar.refl _) (aw.cons (ar.refl _) (aw.cons (ar.refl _) (aw.cons ar.cap aw.nil))));have hz:ar (.agg [.int .i64 0,.str [],.str [],.sl 1 [] (.exact 0)]) (.agg [.int .i64 0,.str [],.str [],.sl 1 [] .any]):=ar.agg (aw.cons (ar.refl _) (aw.cons (ar.refl _) (aw.cons (ar.refl _) (aw.cons ar.cap aw.nil))));cases dk:decide (ke=0) with
  |true=>
   cases ds:decide (ks=s) with
   |true=>
    refine rf1 (cj3 g1 dk ds) ck ?_;refine aK ?_;rw[hen];exact ar.tup (aw.cons hv (aw.cons (ar.refl _) aw.nil))
   |false=>
    refine rf1 (cj3 g1 dk ds) ck ?_;refine aK ?_;rw[hno];exact ar.tup (aw.cons hz (aw.cons (ar.refl _) aw.nil))
  |false=>
   refine rf1 (cj2 g1 dk) ck ?_;refine aK ?_;rw[Jr af,Jr af,hno];exact ar.tup (aw.cons hz (aw.cons (ar.refl _) aw.nil))
theorem CS:pe= .seq (hdA pe) (.seq (hdA (tlA pe)) (.seq (hdA (tlA (tlA pe))) (.seq (hdA (tlA (tlA (tlA pe)))) (.seq (hdA (tlA (tlA (tlA (tlA pe))))) (.seq (hdA (tlA (tlA (tlA (tlA (tlA pe)))))) oC))))):=rfl
theorem uk(l:List Pt)(k:Nat):(pts l).drop k=pts (l.drop k):=by simp[pts]
theorem EP(s:List UInt8)(hs:s.length<=140737488355328):aH Tryz.prog 110 [.str s] (.tup [eY (bo s),.int .i64 (wK s)]):=by
 refine f110.aG af rfl (by simp[aP,aD,gB]) ?_;rw[CS];have PR:=wM s;generalize oC=R at*
 unfold pe zz;simp only[hdA,tlA];have cd:=CL s hs;obtain ⟨hin,hl⟩:=ye s;have hP:eR s=(decide (nX s=0)&&kn s (kX s)):=rfl;have hO:bo s=if eR s then js (kX s) else CQ:=rfl
 have hE:wK s=if eR s then 0 else 4:=rfl
 rw[hO,hE];rw[hP];clear hO hE hP;generalize kX s=l at*
 have lp:=dM l;have i3:ints []=[]:=rfl;have hno:eY CQ= .agg [.int .i64 0,.str [],.str [],.sl 1 [] .any]:=rfl;by_cases he:nX s=0
 ·have d1:decide (nX s=0)=true:=Jt he;by_cases h2:2<=l.length
  ·have x0:(0:Int)<((l.length:Nat):Int):=by omega
   have x1:(1:Int)<((l.length:Nat):Int):=by omega
   have d2:decide (((l.length:Nat):Int)<2)=false:=Jn aa;have a0:=iL l 0 .any aa;have a1:=iL l 1 .any aa;unfold dL at a0 a1;by_cases h1:(l.getD 0 default).s.length=1
   ·obtain ⟨c,hc⟩:∃c,(l.getD 0 default).s=[c]:=by
     generalize (l.getD 0 default).s=t at*
     match t with
     |[]=>simp at h1
     |[c]=>exact ⟨c,rfl⟩
     |_::_::_=>simp at h1
    have l1:([c].length:Nat)=1:=rfl;have d3:decide (((1:Nat):Int)=1)=true:=rfl;have cx:aH Tryz.prog 157 [.str [98,111,99,117,112,113],.str [c]] (.int .i64 (fc c - 1)):=by
     have:=EN lets c ah ah;have e:fc c - 1=rC lets c:=by unfold fc;omega
     rw[e];exact this
    obtain ⟨r1,r2⟩:=wL c;have w1:IntKind.i64.wrap (fc c - 1+1)=fc c:=by rw[IntWalk.i64_in _ aa];omega
    have hck:=CR l;have hkc:pZ (l.getD 0 default).s=fc c:=by rw[hc];rfl
    rw[hc] at a0;have t1:Int.toNat 1=1:=rfl;have t2:Int.toNat 2=2:=rfl;have x2:(0:Int)<=1:=by decide
    have x3:(0:Int)<=2:=by decide
    have x4:(2:Int)<=((l.length:Nat):Int):=by omega
    have hcut:((pts l).take l.length).drop 2=pts (l.drop 2):=by rw[<-lp,J1,uk]
    have hgd:kn s l=(decide (iN (js l)=0)&&decide (fD (js l)=s)):=by
     unfold kn;rw[Jt h2,Ko]
    rw[hgd,d1,Ko];have hfit:=uj hin hl;have hl2:(l.drop 2).length=l.length - 2:=JR;have lr:=dM (l.drop 2);by_cases hk1:fc c=1
    ·have hC:js l=⟨fc c,(l.getD 1 default).s,[],(l.drop 2).map Pt.n⟩:=by
      unfold js;simp only[hkc,hk1,ne_eq,not_true,false_and,Js]
     rw[hC] at hfit |-;have dk:decide (fc c=1)=true:=Jt hk1;have W:=PR (fc c) (l.getD 1 default).s [] (l.drop 2) aa hfit;refine rn2 (bF d1 d2 d3 x0 x1 x2 x3 x4 t1 t2 l1 (jD a0 a1 lp w1 dk hcut Int.toNat_zero @KY @JI @Jq)) cd cx ?_;show Wp Tryz.prog 88 R _ _;refine Wp.le (aJ.of (bc ?_) (λa u hu=>⟨u,?_,dP.refl _⟩) (λx hx=>hx) (Jl _) (Jl _)) W
     ·exact dU hcut
     ·simp only[upd,av,kyO] at hu |-;by_cases a1:a=1
      ·subst a1;simpa using hu
      ·by_cases a0:a=0
       ·subst a0;simpa using hu
       ·simp[a1,a0] at hu
    ·have dk:decide (fc c=1)=false:=Jn hk1;by_cases hr0:l.drop 2=[]
     ·have hC:js l=⟨fc c,(l.getD 1 default).s,[],(l.drop 2).map Pt.n⟩:=by
       unfold js;simp only[hkc,hr0,ne_eq,not_true,and_false,Js]
      rw[hC] at hfit |-;have W:=PR (fc c) (l.getD 1 default).s [] (l.drop 2) aa hfit;have hl0:(l.drop 2).length=0:=by rw[hr0];rfl
      have z0:decide ((0:Int)<(((l.drop 2).length:Nat):Int))=false:=Jn aa;refine rn2 (bF d1 d2 d3 x0 x1 x2 x3 x4 t1 t2 l1 (bF a0 a1 lp w1 dk hcut lr z0 Int.toNat_zero @KY @JI @Jq)) cd cx ?_;show Wp Tryz.prog 88 R _ _;refine Wp.le (aJ.of (bc ?_) (λa u hu=>⟨u,?_,dP.refl _⟩) (λx hx=>hx) (Jl _) (Jl _)) W
      ·exact dU hcut
      ·simp only[upd,av,kyO] at hu |-;by_cases a1:a=1
       ·subst a1;simpa using hu
       ·by_cases a0:a=0
        ·subst a0;simpa using hu
        ·simp[a1,a0] at hu
     ·have hC:js l=⟨fc c,(l.getD 1 default).s,((l.drop 2).getD 0 default).s,((l.drop 2).drop 1).map Pt.n⟩:=by
       unfold js;simp only[hkc,hr0,hk1,ne_eq,LI,K8,Jw]
      rw[hC] at hfit |-;have hpos:=Lh.2 hr0;have W:=PR (fc c) (l.getD 1 default).s ((l.drop 2).getD 0 default).s ((l.drop 2).drop 1) (by rw[JR];omega) hfit;have z0:decide ((0:Int)<(((l.drop 2).length:Nat):Int))=true:=Jt aa;have x5:(0:Int)<(((l.drop 2).length:Nat):Int):=by omega
      have x6:(1:Int)<=(((l.drop 2).length:Nat):Int):=by omega
      have a2:=iL (l.drop 2) 0 .any hpos;unfold dL at a2;have hcut2:((pts (l.drop 2)).take (l.drop 2).length).drop 1=pts ((l.drop 2).drop 1):=by rw[<-lr,J1,uk]
      generalize l.drop 2=r at*
      refine rn2 (bF d1 d2 d3 x0 x1 x2 x3 x4 x5 x6 t1 (bF t2 l1 a0 a1 a2 lp w1 dk hcut hcut2 lr (cj5 z0 Int.toNat_zero @KY @JI @Jq))) cd cx ?_;show Wp Tryz.prog 88 R _ _;refine Wp.le (aJ.of (bc ?_) (λa u hu=>⟨u,?_,dP.refl _⟩) (λx hx=>hx) (Jl _) (Jl _)) W
      ·exact dU hcut2
      ·simp only[upd,av,kyO] at hu |-;by_cases a1:a=1
       ·subst a1;simpa using hu
       ·by_cases a0:a=0
        ·subst a0;simpa using hu
        ·simp[a1,a0] at hu
   ·have d3:decide ((((l.getD 0 default).s.length:Nat):Int)=1)=false:=Jn aa;have hk:pZ (l.getD 0 default).s=0:=by
     generalize (l.getD 0 default).s=t at*
     match t with
     |[]=>rfl
     |[c]=>simp at h1
     |_::_::_=>rfl
    have hg:kn s l=false:=An hk;rw[hg,KU,Jr af,Jr af,hno];refine rf1 (cj9 d1 d2 d3 x0 a0 lp Int.toNat_zero @KY @JI) cd ?_;refine aK ?_;exact ar.tup (aw.cons (ar.agg (aw.cons (ar.refl _) (aw.cons (ar.refl _) (aw.cons (ar.refl _) (aw.cons ar.cap aw.nil))))) (aw.cons (ar.refl _) aw.nil))
  ·have d2:decide (((l.length:Nat):Int)<2)=true:=Jt aa;have hg:kn s l=false:=by unfold kn;rw[Jn h2];rfl
   rw[hg,KU,Jr af,Jr af,hno];refine rf1 (cj3 d1 d2 lp) cd ?_;refine aK ?_;exact ar.tup (aw.cons (ar.agg (aw.cons (ar.refl _) (aw.cons (ar.refl _) (aw.cons (ar.refl _) (aw.cons ar.cap aw.nil))))) (aw.cons (ar.refl _) aw.nil))
 ·have d1:decide (nX s=0)=false:=Jn he;rw[d1,Kp,Jr af,Jr af,hno];refine rf1 d1 cd ?_;refine aK ?_;exact ar.tup (aw.cons (ar.agg (aw.cons (ar.refl _) (aw.cons (ar.refl _) (aw.cons (ar.refl _) (aw.cons ar.cap aw.nil))))) (aw.cons (ar.refl _) aw.nil))
def p5(s:List UInt8):Bool:=decide (s.length=1)&&(decide (48<=(s.getD 0 0).toNat)&&decide ((s.getD 0 0).toNat<=50))
def stV(s:List UInt8):Int:=if p5 s then (((s.getD 0 0).toNat - 48:Nat):Int) else 0
def stR(s:List UInt8):Int:=if p5 s then 0 else 4
theorem um(s:List UInt8):aH Tryz.prog 111 [.str s] (.tup [.int .i64 (stV s),.int .i64 (stR s)]):=by
 refine f111.aG af rfl rfl ?_;unfold Hr stV stR zz;by_cases h1:s.length=1
 ·have d1:decide (((s.length:Nat):Int)=1)=true:=Jt aa;have l0:(0:Int)<((s.length:Nat):Int):=by omega
  have hi:p5 s=(decide (48<=(s.getD 0 0).toNat)&&decide ((s.getD 0 0).toNat<=50)):=by unfold p5;rw[Jt h1,Ko]
  rw[hi];obtain ⟨c,hg⟩:∃c,s.getD 0 0=c:=⟨_,rfl⟩;rw[hg];have hc:=c.toNat_lt;by_cases h2:48<=c.toNat
  ·have d2:decide (((c.toNat:Nat):Int)<48)=false:=Jn aa;by_cases h3:c.toNat<=50
   ·have d3:decide ((50:Int)<((c.toNat:Nat):Int))=false:=Jn aa;have w1:IntKind.u8.wrap (((c.toNat:Nat):Int) - 48)=((c.toNat - 48:Nat):Int):=by rw[IntWalk.u8_in _ aa];omega
    have w2:IntKind.i64.wrap ((c.toNat - 48:Nat):Int)=((c.toNat - 48:Nat):Int):=IntWalk.i64_in _ aa;rw[Jt h2,Jt h3];refine rf0 (nU d1 l0 hg d2 d3 w1 w2 @byte.eq_1 Int.toNat_zero @KY @JI) ?_;refine aK ?_;exact ar.refl _
   ·have d3:decide ((50:Int)<((c.toNat:Nat):Int))=true:=Jt aa;rw[Jt h2,Jn h3];refine rf0 (cj9 d1 l0 hg d2 d3 @byte.eq_1 Int.toNat_zero @KY @JI) ?_;refine aK ?_;exact ar.refl _
  ·have d2:decide (((c.toNat:Nat):Int)<48)=true:=Jt aa;rw[Jn h2];refine rf0 (cj8 d1 l0 hg d2 @byte.eq_1 Int.toNat_zero @KY @JI) ?_;refine aK ?_;exact ar.refl _
 ·have d1:decide (((s.length:Nat):Int)=1)=false:=Jn aa;have hi:p5 s=false:=by unfold p5;rw[Jn h1];rfl
  rw[hi];refine rf0 d1 ?_;refine aK ?_;exact ar.refl _
structure Hd where
 sz:Int
 re:Int
 im:Int
 g:Bool
 u:Bool
def ER:Hd:=⟨0,0,0,false,false⟩
def yf(h:Hd):AV:=lj h.sz h.re h.im h.g h.u
def hdC(s:List UInt8):Hd:=⟨(val ((s.drop 1).take 2):Nat),(val ((s.drop 3).take 4):Nat),(val ((s.drop 7).take 4):Nat),decide ((s.getD 0 0).toNat%2=1),decide ((s.getD 0 0).toNat/2%2=1)⟩
def hdB(s:List UInt8):Bool:=decide (s.length=11)&&(eN (hdC s).sz (hdC s).re (hdC s).im (hdC s).g&&decide (eZ (hdC s).sz.toNat (hdC s).re.toNat (hdC s).im.toNat (hdC s).g (hdC s).u=s))
def hdO(s:List UInt8):Hd:=if hdB s then hdC s else ER
def hdE(s:List UInt8):Int:=if hdB s then 0 else 4
theorem filter_lt{T:List Nat}{m t:Nat}(h:∀x∈T,x<m)(ht:m<=t):List.filter (λx=>decide (¬x=t)) T=T:=by
 refine List.filter_eq_self.2 λx hx=>?_;have:=h x hx;simp;omega
def HOk(h:H):Prop:=(∀j,h.n<=j->h.objs j=none)/\∀t∈h.toks,t<h.m
set_option maxHeartbeats 4000000 in
theorem CT(b:Bk)(hb:jE b=true)(hl:b.l.length<=1000000)(id:Nat)(Inv:Nat->H->Prop)(E:H->Prop)
  (hbd:∀i h,Inv i h->HOk h)
  (hup:∀i h n m,Inv i h->h.n<=n->h.m<=m->Inv i {h with n:=n,m:=m})
  (hY:∀i h t m,i<(cK b).length->Inv i h->h.m<=t->t<m->r5 Tryz.prog id [.sl 3 (chs ((cK b).getD i [])) (.own t)] {h with toks:=t::h.toks,m:=m} λr h'=>(r= .bool true/\Inv (i+1) h')\/(r= .bool false/\E h'))
  (h0:H) (hi:Inv 0 h0):ef Tryz.prog 91 [.yld id,.ref [.str b.n,.int .i64 b.st,.sl 8 (vss b.l) .any]] h0 λr h'=>r= .tup []/\(Inv (cK b).length h'\/E h'):=by
 refine f91.gZ af ?_;unfold c91 zz;have hroom:=Ey hb;have c1:=xP b.st;have c2:=pS (kyB b) (Ev b) (stS b.st);have hL0:(cK b).getD 0 []=[wu b]:=rfl;have hB1:wu b=⟨fD (kyB b),stS b.st,false⟩:=rfl;have hLs:∀j,j<b.l.length->(cK b).getD (j+1) []=fm b.n (b.l.getD j default):=λj hj=>by
  simp[cK,JN,Jm hj]
 have hLl:(cK b).length=b.l.length+1:=by simp[cK]
 have hch:chs ((cK b).getD 0 [])=[.agg [.str (fD (kyB b)),.str (stS b.st),.bool false]]:=rfl;have hY0:=hY 0 h0 h0.m (h0.m+1) aa hi (Jl _) (J8 _);rw[hch] at hY0;have hE:eY (kyB b)= .agg [.int .i64 1,.str b.n,.str [],.sl 1 [] .any]:=rfl;rw[hE] at c2;generalize fD (kyB b)=k0 at*
 clear hB1 hch hL0;have hY1:=λj h t m (hj:j<b.l.length)=>hY (j+1) h t m aa;clear hY;rw[hLl];clear hE hLl;generalize cK b=R at*
 obtain ⟨nm,st,l⟩:=b;simp only at*
 have len:=fE l;generalize stS st=s0 at*
 refine Wp.le (aJ.tok _ _) ?_;repeat (first
  |refine an.nil ?_
  |((first|apply Wp.bf|apply Wp.ec|((first
    |(refine an.bE ?_ ?_ (c1) ?_;(· simp only[go_sem,reduceIte,Nat.reduceEqDiff,Nat.reduceAdd,bx]);(· simp only[go_sem,reduceIte,Nat.reduceEqDiff,Nat.reduceAdd,bx,List.map,ax,Jw,Js,Nat.reduceMul,Nat.reduceLeDiff];first|exact aw.refl _|(repeat (first|exact aw.nil|refine aw.cons xA5 ?_))))
    |(refine an.bE ?_ ?_ (c2) ?_;(· simp only[go_sem,reduceIte,Nat.reduceEqDiff,Nat.reduceAdd,bx]);(· simp only[go_sem,reduceIte,Nat.reduceEqDiff,Nat.reduceAdd,bx,List.map,ax,Jw,Js,Nat.reduceMul,Nat.reduceLeDiff];exact aw.cons (ar.agg (aw.cons (ar.refl _) (aw.cons (ar.refl _) (aw.cons (ar.refl _) (aw.cons ar.cap aw.nil))))) (aw.refl _))));apply an.evF));(· simp only[go_sem,reduceIte,Nat.reduceEqDiff,Nat.reduceAdd,bx,ax,Jw,Js,Nat.reduceMul,Nat.reduceLeDiff];exact rfl))
  |(apply Wp.bJ;(· simp only[go_sem,reduceIte,Nat.reduceEqDiff,Nat.reduceAdd,bx,ax,Jw,Js,Nat.reduceMul,Nat.reduceLeDiff];exact rfl);(· rfl))
  |refine Wp.skip ?_
  |refine Wp.label ?_
  |refine Wp.block ?_
  |refine Wp.exit ?_
  |refine Wp.seq ?_)
 refine an.yield ae (by simp only[go_sem,reduceIte,Nat.reduceEqDiff]) (by simp only[go_sem,reduceIte,Nat.reduceEqDiff,List.map];exact aw.cons (ar.eL rfl) aw.nil) hY0 λr h1 hq hn hm=>?_;rcases hq with ⟨rfl,hi1⟩|⟨rfl,hE1⟩
 case inr=>
  refine an.evF xAc ?_;refine rf0 @Kf ?_;refine Wp.ret ⟨trivial,_,rfl,?_,.inr hE1⟩;simp only[go_sem]
 clear hY0 hn hm hi h0;refine an.evF xAc ?_;refine rf0 (cj2 @Kb @len) ?_;refine Wp.le (s':=⟨tm [(0,.yld id),(1,.ref [.str nm,.int .i64 st,.sl 8 (vss l) .any]),(30,.sl 8 (vss l) .any),(31,.int .i64 l.length),(32,.int .i64 0)],h1⟩) (aJ.tm ?_) ?_
 ·exact xSb
 refine Wp.eX [0,1,30,31] xA7 (λb:Nat × H=>[(32,.int .i64 (b.1:Nat))]) (λb=>b.2) (λb=>b.1<=l.length/\Inv (b.1+1) b.2) (λb=>l.length - b.1) (0,h1) ⟨JJ _,hi1⟩ rfl ?_ ?_
 ·exact xSb
 clear hi1 h1;rintro ⟨j,h⟩ ⟨hj,hI⟩;simp only at hj hI;by_cases hc:j<l.length
 ·obtain ⟨g1,g2,g3,e1⟩:=gf hc (JT hl ah);have hat:=j0 l j .any hc;have hrm:=hroom j hc;have hY2:=λh t m=>hY1 j h t m hc;rw[hLs j hc] at hY2;obtain ⟨hz1,hz2⟩:=hbd _ _ hI;generalize l.getD j default=v at*
  have c3:=ox v.sz v.re v.im v.g v.u;have c4:=pS (kyV nm v) (Ew nm hrm) (cP v.sz v.re v.im v.g v.u);have c5:=IA v.b hrm.2;have c6:=λk hk=>pS (kyC nm v k) (Ex nm hrm k hk) (chunk v.b k);have h16:=sr hrm.2;have hP0:kd nm v 0=[⟨fD (kyV nm v),cP v.sz v.re v.im v.g v.u,false⟩]:=rfl;have hPs:=wv nm v;have hPl:=Ah nm v;have hT:fm nm v=kd nm v (eQ v.b):=rfl;have hch:=Ai v.b (eQ v.b);have hsl:=wx (chunks v.b (eQ v.b));have hcl:=lu v.b (eQ v.b);have hsl2:=mz (chunks v.b (eQ v.b));rw[hcl] at hsl2 hsl;rw[hT] at hY2;generalize eQ v.b=cn at*
  generalize chunks v.b cn=cks at*
  have hE1:eY (kyV nm v)= .agg [.int .i64 2,.str nm,.str v.o,.sl 1 [.int .i64 v.id] .any]:=rfl;have hE2:∀k:Nat,eY (kyC nm v k)= .agg [.int .i64 3,.str nm,.str v.o,.sl 1 [.int .i64 v.id,.int .i64 k] .any]:=λ_=>rfl;rw[hE1] at c4;simp only[hE2] at c6;unfold lj at c3;unfold dG at hat;generalize fD (kyV nm v)=k1 at*
  generalize cP v.sz v.re v.im v.g v.u=hh at*
  repeat (first
   |refine an.nil ?_
   |((first|apply Wp.bf|apply Wp.ec|((first
     |(refine an.bE ?_ ?_ (c3) ?_;(· simp only[go_sem,reduceIte,Nat.reduceEqDiff,Nat.reduceAdd,bx]);(· simp only[go_sem,reduceIte,Nat.reduceEqDiff,Nat.reduceAdd,bx,List.map,ax,Jw,Js,Nat.reduceMul,Nat.reduceLeDiff,g1,g2,g3,len,hat,Int.toNat_natCast];first|exact aw.refl _|(repeat (first|exact aw.nil|refine aw.cons xA5 ?_))))
     |(refine an.bE ?_ ?_ (c4) ?_;(· simp only[go_sem,reduceIte,Nat.reduceEqDiff,Nat.reduceAdd,bx]);(· simp only[go_sem,reduceIte,Nat.reduceEqDiff,Nat.reduceAdd,bx,List.map,ax,Jw,Js,Nat.reduceMul,Nat.reduceLeDiff,g1,g2,g3,len,hat,Int.toNat_natCast];exact aw.cons (ar.agg (aw.cons (ar.refl _) (aw.cons (ar.refl _) (aw.cons (ar.refl _) (aw.cons ar.cap aw.nil))))) (aw.refl _)))
     |(refine an.bE ?_ ?_ (c5) ?_;(· simp only[go_sem,reduceIte,Nat.reduceEqDiff,Nat.reduceAdd,bx]);(· simp only[go_sem,reduceIte,Nat.reduceEqDiff,Nat.reduceAdd,bx,List.map,ax,Jw,Js,Nat.reduceMul,Nat.reduceLeDiff,g1,g2,g3,len,hat,Int.toNat_natCast];first|exact aw.refl _|(repeat (first|exact aw.nil|refine aw.cons xA5 ?_)))));apply an.evF));(· simp only[go_sem,reduceIte,Nat.reduceEqDiff,Nat.reduceAdd,bx,ax,Jw,Js,Nat.reduceMul,Nat.reduceLeDiff,g1,g2,g3,len,hat,Int.toNat_natCast];exact rfl))
   |(apply Wp.bJ;(· simp only[go_sem,reduceIte,Nat.reduceEqDiff,Nat.reduceAdd,bx,ax,Jw,Js,Nat.reduceMul,Nat.reduceLeDiff,g1,g2,g3,len,hat,Int.toNat_natCast];exact rfl);(· rfl))
   |refine Wp.skip ?_
   |refine Wp.label ?_
   |refine Wp.block ?_
   |refine Wp.exit ?_
   |refine Wp.seq ?_)
  refine Wp.le (aJ.tok _ _) ?_;refine Wp.le (s':=⟨tm [(0,.yld id),(1,.ref [.str nm,.int .i64 st,.sl 8 (vss l) .any]),(30,.sl 8 (vss l) .any),(31,.int .i64 l.length),(32,.int .i64 j),(6,.ptr h.n 0),(9,.sl 3 (chs (kd nm v 0)) (.own h.m)),(59,.sl 1 (lk cks) .any),(60,.int .i64 cn),(61,.int .i64 0)],
   ⟨upd h.objs h.n (some (.cells [.str v.o,.int .i64 v.id,.int .i64 v.sz,.int .i64 v.re,.int .i64 v.im,.bool v.g,.bool v.u,.str v.b])),h.n+1,h.m::h.toks,h.m+1⟩⟩) (aJ.of (bc ?_) GB (λa ha=>ha) (Jl _) (Jl _)) ?_
  ·rw[hP0];simp only[aN,go_sem,reduceIte,Nat.reduceEqDiff,Nat.reduceAdd,bx,hsl2];and_intros<;>first|exact trivial|exact ar.refl _|exact ar.any _|exact ar.eL rfl|(refine ar.int ?_;omega)
  refine Wp.eX [0,1,30,31,32,6,59,60] xA7 (λb:Nat × Nat × Nat=>[(9,.sl 3 (chs (kd nm v b.1)) (.own b.2.1)),(61,.int .i64 (b.1:Nat))])
   (λb=>⟨upd h.objs h.n (some (.cells [.str v.o,.int .i64 v.id,.int .i64 v.sz,.int .i64 v.re,.int .i64 v.im,.bool v.g,.bool v.u,.str v.b])),h.n+1,b.2.1::h.toks,b.2.2⟩)
   (λb=>b.1<=cn/\h.m<=b.2.1/\b.2.1<b.2.2) (λb=>cn - b.1) (0,h.m,h.m+1) ⟨JJ _,Jl _,by simp⟩ rfl ?_ ?_
  ·exact xSb
  rintro ⟨k,t2,m2⟩ ⟨hk,hm1,hm2⟩;simp only at hk hm1 hm2;by_cases hck:k<cn
  ·obtain ⟨kg,k2,k3,ke,e8,e9⟩:=Cu hck (JT h16 ah);have c7:=c6 k (JT hk (JT h16 ah));have hx:=hsl k .any hck;rw[hch k hck] at hx;have hPk:=hPs k;have hlk:=hPl k;have hfl:List.filter (λx=> !decide (x=t2)) h.toks=h.toks:=by
    have:=filter_lt hz2 hm1;simpa using this
   generalize chs (kd nm v k)=row at*
   generalize fD (kyC nm v k)=kk at*
   generalize chunk v.b k=ck at*
   repeat (first
    |refine an.nil ?_
    |((first|apply Wp.bf|apply Wp.ec|((first
      |(refine an.bE ?_ ?_ (c7) ?_;(· simp only[go_sem,reduceIte,Nat.reduceEqDiff,Nat.reduceAdd,bx]);(· simp only[go_sem,reduceIte,Nat.reduceEqDiff,Nat.reduceAdd,bx,List.map,ax,Jw,Js,Nat.reduceMul,Nat.reduceLeDiff,kg,k2,k3,hsl2,hx,hlk,e8,e9,KA,KK,List.length_cons,List.length_nil,JG,JB,Kx,JI,Int.toNat_natCast];exact aw.cons (ar.agg (aw.cons (ar.refl _) (aw.cons (ar.refl _) (aw.cons (ar.refl _) (aw.cons ar.cap aw.nil))))) (aw.refl _))));apply an.evF));(· simp only[go_sem,reduceIte,Nat.reduceEqDiff,Nat.reduceAdd,bx,ax,Jw,Js,Nat.reduceMul,Nat.reduceLeDiff,kg,k2,k3,hsl2,hx,hlk,e8,e9,KA,KK,List.length_cons,List.length_nil,JG,JB,Kx,JI,Int.toNat_natCast];exact rfl))
    |(apply Wp.bJ;(· simp only[go_sem,reduceIte,Nat.reduceEqDiff,Nat.reduceAdd,bx,ax,Jw,Js,Nat.reduceMul,Nat.reduceLeDiff,kg,k2,k3,hsl2,hx,hlk,e8,e9,KA,KK,List.length_cons,List.length_nil,JG,JB,Kx,JI,Int.toNat_natCast];exact rfl);(· rfl))
    |refine Wp.skip ?_
    |refine Wp.label ?_
    |refine Wp.block ?_
    |refine Wp.exit ?_
    |refine Wp.seq ?_)
   refine ⟨(k+1,m2,m2+1),⟨hck,JT hm1 (Nat.le_of_lt hm2),J8 _⟩,K9 hck (J8 _),?_⟩;rw[hPk];refine aJ.of (bc ?_) (OLe.bX _) (λa ha=>?_) (Jl _) (Jl _)
   ·exact dU ke
   ·simpa [hfl] using ha
  ·have hk2:k=cn:=by omega
   subst hk2;have kg:=kf k;refine Wp.le (s':=⟨tm [(0,.yld id),(1,.ref [.str nm,.int .i64 st,.sl 8 (vss l) .any]),(30,.sl 8 (vss l) .any),(31,.int .i64 l.length),(32,.int .i64 j),(9,.sl 3 (chs (kd nm v k)) (.own t2)),(60,.int .i64 k),(61,.int .i64 k)],
    ⟨h.objs,h.n+1,t2::h.toks,m2⟩⟩) (aJ.of (bc ?_) (OLe.skip (hz1 _ (Jl _))) (λa ha=>ha) (Jl _) (Jl _)) ?_
   ·exact xSb
   have hY3:=hY2 {h with n:=h.n+1,m:=h.m} t2 m2 (hup _ _ _ _ hI (LD _) (Jl _)) hm1 hm2;refine rf0 kg ?_;refine an.yield ae (by simp only[go_sem,reduceIte,Nat.reduceEqDiff]) xA4 hY3 λr h1 hq hn hm=>?_;rcases hq with ⟨rfl,hi1⟩|⟨rfl,hE1⟩
   case inr=>
    refine an.evF xAc ?_;refine rf0 @Kf ?_;refine Wp.ret ⟨trivial,_,rfl,?_,.inr hE1⟩;simp only[go_sem]
   refine an.evF xAc ?_;refine rf0 @Kb ?_;refine ⟨(j+1,h1),⟨hc,hi1⟩,K9 hc (J8 _),?_⟩;refine aJ.tm ?_;exact dU e1
 ·have hj2:j=l.length:=by omega
  subst hj2;have g1:=kf l.length;refine rf0 g1 ?_;refine ⟨trivial,_,rfl,?_,.inl hI⟩;simp only[go_sem]
def rdX(b:List UInt8)(p:Nat)(e:Int):Av.Obj:= .cells [.bool true,.sl 1 (az b) .any,.int .i64 p,.int .i64 e]
theorem ES(b:List UInt8)(p:Nat)(e:Int)(id:Nat)(f:Nat->Option Av.Obj)(n m:Nat)(K:List Nat)(ho:f id=some (rdX b p e)):
  ef Tryz.prog 223 [.ptr id 0] ⟨f,n,K,m⟩ λr h'=>r= .bool (decide (e=0))/\h'=⟨f,n,K,m⟩:=by
 refine f223.gZ af ?_;unfold H2 zz;unfold rdX at ho;refine rf0 ho ?_;refine Wp.ret ⟨trivial,_,rfl,?_,rfl⟩;simp only[go_sem,reduceIte,Nat.reduceEqDiff]
theorem IB(b:List UInt8)(p:Nat)(e:Int)(id:Nat)(f:Nat->Option Av.Obj)(n m:Nat)(K:List Nat)(ho:f id=some (rdX b p e)):
  ef Tryz.prog 204 [.ptr id 0] ⟨f,n,K,m⟩ λr h'=>r= .int .i64 e/\h'=⟨f,n,K,m⟩:=by
 refine f204.gZ af ?_;unfold HV zz;unfold rdX at ho;refine rf0 ho ?_;refine Wp.ret ⟨trivial,_,rfl,?_,rfl⟩;simp only[go_sem,reduceIte,Nat.reduceEqDiff]
def iR(b:List UInt8)(p w:Nat):List UInt8:=(b.drop p).take w
theorem CU(b:List UInt8)(hb:b.length<=140737488355328)(p:Nat)(hp:p<=b.length)(e:Int)(w:Nat)(hw:w<=4)(id:Nat)(f:Nat->Option Av.Obj)(n m:Nat)(K:List Nat)(ho:f id=some (rdX b p e)):
  ef Tryz.prog 224 [.ptr id 0,.int .i64 p,.int .i64 w] ⟨f,n,K,m⟩ λr h'=>r= .tup [.int .u64 (if p+w<=b.length then (val (iR b p w):Nat) else 0),.bool (decide (p+w<=b.length))]/\h'=⟨f,n,K,m⟩:=by
 refine f224.gZ af ?_;unfold H3 zz;unfold rdX at ho;have lb:=bj b;have g1:IntKind.i64.wrap ((b.length:Int) - (p:Int))=((b.length - p:Nat):Int):=by rw[IntWalk.i64_in _ aa];omega
 by_cases hc:p+w<=b.length
 ·have g2:decide (((b.length - p:Nat):Int)<(w:Int))=false:=Jn aa;have g3:IntKind.i64.wrap ((p:Int)+(w:Int))=((p+w:Nat):Int):=by rw[IntWalk.i64_in _ aa];omega
  have x1:(0:Int)<=(p:Int):=by omega
  have x2:(p:Int)<=((p+w:Nat):Int):=by omega
  have x3:((p+w:Nat):Int)<=(b.length:Int):=by omega
  have x4:(0:Int)<=((p+w:Nat):Int):=by omega
  rw[JC hc,Jt hc];have lp:((az b).take (p+w)).drop p=az (iR b p w):=by
   unfold iR;simp only[az,<-List.map_take,<-List.map_drop];rw[List.drop_take];congr 2;omega
  have lc:(iR b p w).length=w:=by unfold iR;simp;omega
  have lbc:=bj (iR b p w);have hv:∀j,j<=w->val ((iR b p w).take j)<256^j:=λj hj=>by
   have:=pJ ((iR b p w).take j)
   rwa [JU,lc,KB hj] at this
  generalize iR b p w=s at*
  refine rf0 (bF ho lb g1 g2 g3 x1 x2 x3 x4 @ite_self.{1} lp (cj4 lbc lc @Jq @JI)) ?_;refine Wp.eX [28,29] xA7 (λj:Nat=>[(8,.int .u64 (val (s.take j))),(30,.int .i64 j)]) (λj=>⟨f,n,K,m⟩) (λj=>j<=w) (λj=>w - j) 0 (JJ _) rfl ?_ ?_
  ·exact dU @KX.{0}
  rintro j hj;by_cases hlt:j<w
  ·have d1:decide ((j:Int)<(w:Int))=true:=Jt aa;have h1:(0:Int)<=(j:Int):=by omega
   have h2:(j:Int)<(w:Int):=by omega
   have h2':(j:Int)<(s.length:Int):=by omega
   have h3:j<s.length:=by omega
   have hvj:=hv j hj;have hpw:(256:Nat)^j<=256^3:=Ln aa aa;have e7:(256:Nat)^3=16777216:=by decide
   rw[e7] at hpw;have hc:=(s.getD j 0).toNat_lt;have hat:=jh s j .any h3;unfold byte at hat;have hs:=tT s j h3;have o1:=ui (val (s.take j)) _ aa hc;generalize val (s.take j)=v at*
   have e1:IntKind.u64.wrap ((v:Int)*2^(min (Int.toNat 8) 64))=((v*256:Nat):Int):=by
    rw[show min (Int.toNat 8) 64=8 from rfl,IntWalk.u64_in _ aa];omega
   have e2:¬(8:Int)<0:=by omega
   generalize (s.getD j 0).toNat=c at*
   have e3:IntKind.u64.wrap (c:Int)=(c:Int):=IntWalk.u64_in _ aa;have e5:IntKind.i64.wrap ((j:Int)+1)=((j+1:Nat):Int):=by rw[IntWalk.i64_in _ aa];omega
   refine rf0 (bF d1 h1 h2 h2' lbc lc hat xy e1 e2 e3 (cj3 o1 @Jq @JI)) ?_;refine ⟨j+1,aa,aa,?_⟩;rw[hs];refine aJ.of (bc ?_) (OLe.bX _) (λa ha=>ha) (Jl _) (Jl _);exact dU e5
  ·obtain rfl:j=w:=by omega
   have d1:decide ((j:Int)<(j:Int))=false:=Jn aa;have hPt:s.take j=s:=Kq aa;rw[hPt];refine rf0 d1 ?_;refine Wp.ret ⟨trivial,_,rfl,?_,rfl⟩;simp only[go_sem,reduceIte,Nat.reduceEqDiff]
 ·have g2:decide (((b.length - p:Nat):Int)<(w:Int))=true:=Jt aa;rw[Jr hc,Jn hc];refine rf0 (cj4 ho lb g1 g2) ?_;refine Wp.ret ⟨trivial,_,rfl,?_,rfl⟩;simp only[go_sem,reduceIte,Nat.reduceEqDiff]
def ik(b:List UInt8)(p:Nat)(e:Int)(w:Nat):Int:=if e=0/\p+w<=b.length then ((val (iR b p w):Nat):Int) else 0
def aY(b:List UInt8)(p:Nat)(e:Int)(w:Nat):Nat:=if e=0/\p+w<=b.length then p+w else p
def aX(b:List UInt8)(p:Nat)(e:Int)(w:Nat):Int:=if e=0 then (if p+w<=b.length then 0 else 3) else e
theorem GJ{f:Nat->Option Av.Obj}{id:Nat}{o:Av.Obj}(h:f id=some o):upd f id (some o)=f:=by
 funext j;simp only[upd];split
 ·rename_i e;rw[e,h]
 ·rfl
theorem CV(v:Nat):aH Tryz.prog 203 [.int .u64 v] (.int .i64 (IntKind.i64.wrap (v:Int))):=by
 refine f203.aG af rfl rfl ?_;unfold HU zz;refine fC ?_;refine aK ?_;exact ar.refl _
theorem wN(b:List UInt8)(hb:b.length<=140737488355328)(p:Nat)(hp:p<=b.length)(e:Int)(w:Nat)(hw:w<=4)(id:Nat)(f:Nat->Option Av.Obj)(n m:Nat)(K:List Nat)(ho:f id=some (rdX b p e)):
  ef Tryz.prog 202 [.ptr id 0,.int .i64 w,.clo (.func 203) [] []] ⟨f,n,K,m⟩ λr h'=>r= .int .i64 (ik b p e w)/\h'=⟨upd f id (some (rdX b (aY b p e w) (aX b p e w))),n,K,m⟩:=by
 refine f202.gZ af ?_;unfold HT zz;have hr:=ES b p e id f n m K ho;have hn:=CU b hb p hp e w hw id f n m K ho;by_cases he:e=0
 ·have de:decide (e=0)=true:=Jt he;rw[de] at hr;refine fC ?_;refine an.cB ae xA4 hr λr h' hq _ _=>?_;obtain ⟨rfl,rfl⟩:=hq;have ho2:=ho;unfold rdX at ho2;refine an.evF xAc ?_;refine rf0 (cj2 ho2 @Kb) ?_;refine an.cB ae xA4 hn λr h' hq _ _=>?_;obtain ⟨rfl,rfl⟩:=hq;by_cases hc:p+w<=b.length
  ·have hv:ik b p e w=((val (iR b p w):Nat):Int):=by unfold ik;rw[JC ⟨he,hc⟩]
   have hpx:aY b p e w=p+w:=by unfold aY;rw[JC ⟨he,hc⟩]
   have hex:aX b p e w=0:=by unfold aX;rw[JC he,JC hc]
   rw[hv,hpx,hex,JC hc,Jt hc];have g3:IntKind.i64.wrap ((p:Int)+(w:Int))=((p+w:Nat):Int):=by rw[IntWalk.i64_in _ aa];omega
   have hvl:val (iR b p w)<4294967296:=by
    have h1:=pJ (iR b p w);have h2:(256:Nat)^(iR b p w).length<=256^4:=Ln aa (by unfold iR;simp;omega);have e4:(256:Nat)^4=4294967296:=by decide
    omega
   have cp:=CV (val (iR b p w));rw[IntWalk.i64_in _ aa] at cp;generalize val (iR b p w)=v at*
   refine an.evF xAc ?_;refine an.nil ?_;refine rn0 (cj3 ho2 g3 @Kb) ?_;refine aq.mN (by simp only[go_sem,reduceIte,Nat.reduceEqDiff]) al Tryz.func203 rfl (JL (by kernel_rfl)) xA4 cp ?_;refine aq.eval xA1 ?_;refine aq.nil ⟨by trivial,?_⟩;refine Wp.ret ⟨trivial,_,rfl,?_,?_⟩
   ·simp only[go_sem,reduceIte,Nat.reduceEqDiff]
   ·unfold rdX;rw[he]
  ·have hv:ik b p e w=0:=by unfold ik;rw[Jr (λh=>hc h.2)]
   have hpx:aY b p e w=p:=by unfold aY;rw[Jr (λh=>hc h.2)]
   have hex:aX b p e w=3:=by unfold aX;rw[JC he,Jr hc]
   rw[hv,hpx,hex,Jr hc,Jn hc];refine an.evF xAc ?_;refine rf0 (cj2 ho2 @Kf) ?_;refine Wp.ret ⟨trivial,_,rfl,?_,rfl⟩;simp only[go_sem,reduceIte,Nat.reduceEqDiff]
 ·have de:decide (e=0)=false:=Jn he;rw[de] at hr;have hv:ik b p e w=0:=by unfold ik;rw[Jr (λh=>he h.1)]
  have hpx:aY b p e w=p:=by unfold aY;rw[Jr (λh=>he h.1)]
  have hex:aX b p e w=e:=by unfold aX;rw[Jr he]
  rw[hv,hpx,hex];refine fC ?_;refine an.cB ae xA4 hr λr h' hq _ _=>?_;obtain ⟨rfl,rfl⟩:=hq;refine an.evF xAc ?_;refine rf0 @Kf ?_;refine Wp.ret ⟨trivial,_,rfl,?_,?_⟩
  ·simp only[go_sem,reduceIte,Nat.reduceEqDiff]
  ·rw[GJ ho]
theorem Je(b:List UInt8)(hb:b.length<=140737488355328)(p:Nat)(hp:p<=b.length)(e:Int)(id:Nat)(f:Nat->Option Av.Obj)(n m:Nat)(K:List Nat)(ho:f id=some (rdX b p e)):
  ef Tryz.prog 159 [.ptr id 0] ⟨f,n,K,m⟩ λr h'=>r= .int .i64 (ik b p e 1)/\h'=⟨upd f id (some (rdX b (aY b p e 1) (aX b p e 1))),n,K,m⟩:=by
 refine f159.gZ af ?_;unfold HF zz;have hc:=wN b hb p hp e 1 ah id f n m K ho;have hw:((1:Nat):Int)=1:=rfl;rw[hw] at hc;refine fC ?_;refine an.cB ae xA4 hc λr h' hq _ _=>?_;obtain ⟨rfl,rfl⟩:=hq;refine an.evF xAc ?_;refine an.nil ?_;refine Wp.ret ⟨trivial,_,rfl,?_,rfl⟩;simp only[go_sem,reduceIte,Nat.reduceEqDiff]
theorem IC(b:List UInt8)(hb:b.length<=140737488355328)(p:Nat)(hp:p<=b.length)(e:Int)(id:Nat)(f:Nat->Option Av.Obj)(n m:Nat)(K:List Nat)(ho:f id=some (rdX b p e)):
  ef Tryz.prog 160 [.ptr id 0] ⟨f,n,K,m⟩ λr h'=>r= .int .i64 (ik b p e 2)/\h'=⟨upd f id (some (rdX b (aY b p e 2) (aX b p e 2))),n,K,m⟩:=by
 refine f160.gZ af ?_;unfold HG zz;have hc:=wN b hb p hp e 2 ah id f n m K ho;have hw:((2:Nat):Int)=2:=rfl;rw[hw] at hc;refine fC ?_;refine an.cB ae xA4 hc λr h' hq _ _=>?_;obtain ⟨rfl,rfl⟩:=hq;refine an.evF xAc ?_;refine an.nil ?_;refine Wp.ret ⟨trivial,_,rfl,?_,rfl⟩;simp only[go_sem,reduceIte,Nat.reduceEqDiff]
theorem FR(b:List UInt8)(hb:b.length<=140737488355328)(p:Nat)(hp:p<=b.length)(e:Int)(id:Nat)(f:Nat->Option Av.Obj)(n m:Nat)(K:List Nat)(ho:f id=some (rdX b p e)):
  ef Tryz.prog 161 [.ptr id 0] ⟨f,n,K,m⟩ λr h'=>r= .int .i64 (ik b p e 4)/\h'=⟨upd f id (some (rdX b (aY b p e 4) (aX b p e 4))),n,K,m⟩:=by
 refine f161.gZ af ?_;unfold HH zz;have hc:=wN b hb p hp e 4 ah id f n m K ho;have hw:((4:Nat):Int)=4:=rfl;rw[hw] at hc;refine fC ?_;refine an.cB ae xA4 hc λr h' hq _ _=>?_;obtain ⟨rfl,rfl⟩:=hq;refine an.evF xAc ?_;refine an.nil ?_;refine Wp.ret ⟨trivial,_,rfl,?_,rfl⟩;simp only[go_sem,reduceIte,Nat.reduceEqDiff]
def nf(b:List UInt8)(p:Nat)(e:Int):Int:=if e=0 then (if p<b.length then 5 else 0) else e
theorem ID(b:List UInt8)(hb:b.length<=140737488355328)(p:Nat)(hp:p<=b.length)(e:Int)(id:Nat)(f:Nat->Option Av.Obj)(n m:Nat)(K:List Nat)(ho:f id=some (rdX b p e)):
  ef Tryz.prog 162 [.ptr id 0] ⟨f,n,K,m⟩ λr h'=>r= .int .i64 (nf b p e)/\h'=⟨f,n,K,m⟩:=by
 refine f162.gZ af ?_;unfold HI nf zz;have hc:=IB b p e id f n m K ho;have lb:=bj b;unfold rdX at ho;refine fC ?_;refine an.cB ae xA4 hc λr h' hq _ _=>?_;obtain ⟨rfl,rfl⟩:=hq;refine an.evF xAc ?_;refine an.nil ?_;by_cases he:e=0
 ·have de:decide (e=0)=true:=Jt he;rw[JC he];by_cases hl:p<b.length
  ·have d1:decide ((p:Int)<(b.length:Int))=true:=Jt aa;rw[JC hl];refine rn0 (cj4 ho de lb d1) ?_;refine Wp.ret ⟨trivial,_,rfl,?_,rfl⟩;simp only[go_sem,reduceIte,Nat.reduceEqDiff]
  ·have d1:decide ((p:Int)<(b.length:Int))=false:=Jn aa;rw[Jr hl];refine rn0 (cj4 ho de lb d1) ?_;refine Wp.ret ⟨trivial,_,rfl,?_,rfl⟩;simp only[go_sem,reduceIte,Nat.reduceEqDiff]
 ·have de:decide (e=0)=false:=Jn he;rw[Jr he];refine rn0 (cj2 ho de) ?_;refine Wp.ret ⟨trivial,_,rfl,?_,rfl⟩;simp only[go_sem,reduceIte,Nat.reduceEqDiff]
theorem uo(b:List UInt8)(hb:b.length<=140737488355328)(f:Nat->Option Av.Obj)(n m:Nat)(K:List Nat)(hf:f n=none):
  ef Tryz.prog 158 [.sl 1 (az b) .any] ⟨f,n,K,m⟩ λr h'=>r= .ptr n 0/\h'=⟨upd f n (some (rdX b 0 0)),n+1,K,m⟩:=by
 refine f158.gZ af ?_;unfold HE rdX zz;have cc:aH Tryz.prog 201 [.sl 1 (az b) .any] (.sl 1 (az b) .any):=zt f201 _ (vk b) (by rw[bj];omega) (by rw[bj];omega);refine rn1 hf cc ?_;refine Wp.ret ⟨trivial,_,rfl,?_,rfl⟩;simp only[go_sem,reduceIte,Nat.reduceEqDiff]
theorem oD{b:List UInt8}{p:Nat}{e:Int}{w:Nat}(h:p<=b.length):aY b p e w<=b.length:=by
 unfold aY;split
 ·rename_i h;exact h.2
 ·exact h
theorem gX{b:List UInt8}{p w:Nat}(h:p+w<=b.length):aY b p 0 w=p+w/\aX b p 0 w=0/\ik b p 0 w=((val (iR b p w):Nat):Int):=by
 refine ⟨?_,?_,?_⟩
 ·unfold aY;rw[JC ⟨rfl,h⟩]
 ·unfold aX;rw[JC rfl,JC h]
 ·unfold ik;rw[JC ⟨rfl,h⟩]
theorem mA{b:List UInt8}{p w:Nat}(h:¬p+w<=b.length):aX b p 0 w=3:=by
 unfold aX;rw[JC rfl,Jr h]
theorem iS{b:List UInt8}{p w:Nat}{e:Int}(h:e≠0):aX b p e w=e:=by
 unfold aX;rw[Jr h]
def uq(s:List UInt8):Int:=
 let p1:=aY s 0 0 1;let e1:=aX s 0 0 1
 let p2:=aY s p1 e1 2;let e2:=aX s p1 e1 2
 let p3:=aY s p2 e2 4;let e3:=aX s p2 e2 4
 nf s (aY s p3 e3 4) (aX s p3 e3 4)
theorem CW{s:List UInt8}(h:s.length≠11):uq s≠0:=by
 unfold uq;simp only;by_cases h1:0+1<=s.length
 ·obtain ⟨a1,a2,-⟩:=gX h1;rw[a1,a2];by_cases h2:0+1+2<=s.length
  ·obtain ⟨a1,a2,-⟩:=gX h2;rw[a1,a2];by_cases h3:0+1+2+4<=s.length
   ·obtain ⟨a1,a2,-⟩:=gX h3;rw[a1,a2];by_cases h4:0+1+2+4+4<=s.length
    ·obtain ⟨a1,a2,-⟩:=gX h4;rw[a1,a2];unfold nf;rw[JC rfl,JC aa];decide
    ·rw[mA h4];unfold nf;rw[Jr ah];decide
   ·rw[mA h3,iS ah];unfold nf;rw[Jr ah];decide
  ·rw[mA h2,iS ah,iS ah];unfold nf;rw[Jr ah];decide
 ·rw[mA h1,iS ah,iS ah,iS ah];unfold nf;rw[Jr ah];decide
def oE:AC:=tlA (tlA (tlA (tlA r7)))
theorem CX:r7= .seq (hdA r7) (.seq (hdA (tlA r7)) (.seq (hdA (tlA (tlA r7))) (.seq (hdA (tlA (tlA (tlA r7)))) oE))):=rfl
def zHd:Av.Obj:= .cells [.int .i64 0,.int .i64 0,.int .i64 0,.bool false,.bool false]
def wO(s:List UInt8)(P:Nat)(E:Int)(h:Hd):Bool:=decide (nf s P E=0)&&(decide (nQ h.sz h.re h.im h.g=0)&&decide (cP h.sz h.re h.im h.g h.u=s))
def QH(s:List UInt8)(P:Nat)(E:Int)(h:Hd):aC->St->Prop:=λe s'=>gx e/\∃q,fS [.cell 2 (some 5),.tmp 3] s'.t s'.h=some q/\ar q (.tup [yf (if wO s P E h=true then h else ER),.int .i64 (if wO s P E h=true then 0 else 4)])
theorem Ao(s:List UInt8)(hs:s.length<=140737488355328)(P:Nat)(hP:P<=s.length)(E:Int)(h:Hd)(m:Nat):
  Wp Tryz.prog 46 oE ⟨tm [(0,.str s),(2,.ptr 0 0),(4,.ptr 1 0),(6,.ptr 2 0)],⟨upd (upd (upd av 0 (some zHd)) 1 (some (rdX s P E))) 2 (some (.cells [.int .i64 h.sz,.int .i64 h.re,.int .i64 h.im,.bool h.g,.bool h.u])),3,[],m⟩⟩ (QH s P E h):=by
 obtain ⟨a,b,c,g,u⟩:=h;have ch:=ox a b c g u;unfold QH wO;simp only;unfold oE r7 zHd zz;simp only[tlA];have ce:=λf n m K ho=>ID s hs P hP E 1 f n m K ho;unfold lj at ch;unfold yf lj ER;have n10:¬(1=0):=by decide
 refine fC ?_;refine an.cB ae xA4 (ce _ _ _ _ (by simp only[upd,reduceIte,Nat.reduceEqDiff])) λr h' hq _ _=>?_;obtain ⟨rfl,rfl⟩:=hq;refine an.evF xAc ?_;refine an.nil ?_;cases d1:decide (nf s P E=0) with
 |false=>
  rw[Kp,Jr af,Jr af];refine rf0 d1 ?_;refine aK ?_;exact ar.refl _
 |true=>
  rw[Ko];cases d2:decide (nQ a b c g=0) with
  |false=>
   rw[Kp,Jr af,Jr af];refine rf1 (cj2 d1 d2) ch ?_;refine aK ?_;exact ar.refl _
  |true=>
   rw[Ko];cases d3:decide (cP a b c g u=s) with
   |false=>
    rw[Jr af,Jr af];refine rf1 (cj3 d1 d2 d3) ch ?_;refine aK ?_;exact ar.refl _
   |true=>
    rw[JC rfl,JC rfl];refine rf1 (cj3 d1 d2 d3) ch ?_;refine aK ?_;exact ar.refl _
theorem Jf:∀c,c<256->(!decide (lW .i64 ((c:Nat):Int) 1=0))=decide (c%2=1):=by decide
theorem Jg:∀c,c<256->(!decide (lW .i64 ((c:Nat):Int) 2=0))=decide (c/2%2=1):=by decide
theorem val_one(c:UInt8):val [c]=c.toNat:=by simp[Batch.val]
theorem ET{s:List UInt8}(h:s.length=11):ik s 0 0 1=(((s.getD 0 0).toNat:Nat):Int)/\ik s (aY s 0 0 1) (aX s 0 0 1) 2=(hdC s).sz
  /\ik s (aY s (aY s 0 0 1) (aX s 0 0 1) 2) (aX s (aY s 0 0 1) (aX s 0 0 1) 2) 4=(hdC s).re
  /\ik s (aY s (aY s (aY s 0 0 1) (aX s 0 0 1) 2) (aX s (aY s 0 0 1) (aX s 0 0 1) 2) 4) (aX s (aY s (aY s 0 0 1) (aX s 0 0 1) 2) (aX s (aY s 0 0 1) (aX s 0 0 1) 2) 4) 4=(hdC s).im
  /\uq s=0:=by
 obtain ⟨a1,a2,a3⟩:=gX (b:=s) (p:=0) (w:=1) aa;obtain ⟨b1,b2,b3⟩:=gX (b:=s) (p:=0+1) (w:=2) aa;obtain ⟨c1,c2,c3⟩:=gX (b:=s) (p:=0+1+2) (w:=4) aa;obtain ⟨d1,d2,d3⟩:=gX (b:=s) (p:=0+1+2+4) (w:=4) aa;have hend:uq s=nf s (aY s (aY s (aY s (aY s 0 0 1) (aX s 0 0 1) 2) (aX s (aY s 0 0 1) (aX s 0 0 1) 2) 4) (aX s (aY s (aY s 0 0 1) (aX s 0 0 1) 2) (aX s (aY s 0 0 1) (aX s 0 0 1) 2) 4) 4) (aX s (aY s (aY s (aY s 0 0 1) (aX s 0 0 1) 2) (aX s (aY s 0 0 1) (aX s 0 0 1) 2) 4) (aX s (aY s (aY s 0 0 1) (aX s 0 0 1) 2) (aX s (aY s 0 0 1) (aX s 0 0 1) 2) 4) 4):=rfl;rw[hend,a1,a2,b1,b2,c1,c2,d1,d2,a3,b3,c3,d3];refine ⟨?_,rfl,rfl,rfl,?_⟩
 ·have:iR s 0 1=[s.getD 0 0]:=by
   unfold iR;rw[Kz];match s,h with
   |a::r,_=>rfl
  rw[this,val_one]
 ·unfold nf;rw[JC rfl,Jr aa]
theorem EU{s:List UInt8}(h:s.length=11){P:Nat}{E:Int}(he:nf s P E=0):wO s P E (hdC s)=hdB s:=by
 unfold wO hdB;rw[Jt he,Jt h,Ko,Ko];unfold nQ cP;cases eN (hdC s).sz (hdC s).re (hdC s).im (hdC s).g<;>rfl
theorem wP(s:List UInt8)(hs:s.length<=140737488355328):aH Tryz.prog 112 [.str s] (.tup [yf (hdO s),.int .i64 (hdE s)]):=by
 refine f112.aG af rfl rfl ?_;have hO:hdO s=if hdB s then hdC s else ER:=rfl
 have hE:hdE s=if hdB s then 0 else 4:=rfl
 have HR:=Ao s hs;rw[CX];generalize oE=R at*
 unfold r7 zz;simp only[hdA,tlA];have c0:=uo s hs;have n10:¬(1=0):=by decide
 have n01:¬(0=1):=by decide
 refine fC ?_;refine an.cB ae (by simp only[go_sem,reduceIte,Nat.reduceEqDiff,List.map];exact aw.cons ar.cap aw.nil) (c0 _ _ _ _ (by simp only[upd,av];rfl)) λr h' hq _ _=>?_;obtain ⟨rfl,rfl⟩:=hq;refine an.evF (xAd (cj2 n10 @n01)) ?_;refine an.nil ?_;refine fC ?_;refine an.cB ae xA4 (Je s hs 0 (JJ _) 0 1 _ _ _ _ (by simp only[upd,reduceIte])) λr h' hq _ _=>?_;obtain ⟨rfl,rfl⟩:=hq;refine an.evF (xAd (cj2 n10 @n01)) ?_;refine an.nil ?_;have p1:aY s 0 0 1<=s.length:=oD (JJ _);have p2:aY s (aY s 0 0 1) (aX s 0 0 1) 2<=s.length:=oD p1;have p3:aY s (aY s (aY s 0 0 1) (aX s 0 0 1) 2) (aX s (aY s 0 0 1) (aX s 0 0 1) 2) 4<=s.length:=oD p2;have p4:aY s (aY s (aY s (aY s 0 0 1) (aX s 0 0 1) 2) (aX s (aY s 0 0 1) (aX s 0 0 1) 2) 4) (aX s (aY s (aY s 0 0 1) (aX s 0 0 1) 2) (aX s (aY s 0 0 1) (aX s 0 0 1) 2) 4) 4<=s.length:=oD p3;refine fC ?_;refine an.cB ae xA4 (IC s hs _ p1 (aX s 0 0 1) 1 _ _ _ _ (by simp only[upd,reduceIte])) λr h' hq _ _=>?_;obtain ⟨rfl,rfl⟩:=hq;refine an.evF (xAd (cj2 n10 @n01)) ?_;refine an.cB ae xA4 (FR s hs _ p2 (aX s (aY s 0 0 1) (aX s 0 0 1) 2) 1 _ _ _ _ (by simp only[upd,reduceIte])) λr h' hq _ _=>?_;obtain ⟨rfl,rfl⟩:=hq;refine an.evF (xAd (cj2 n10 @n01)) ?_;refine an.cB ae xA4 (FR s hs _ p3 (aX s (aY s (aY s 0 0 1) (aX s 0 0 1) 2) (aX s (aY s 0 0 1) (aX s 0 0 1) 2) 4) 1 _ _ _ _ (by simp only[upd,reduceIte])) λr h' hq _ _=>?_;obtain ⟨rfl,rfl⟩:=hq;refine an.evF (xAd (cj2 n10 @n01)) ?_;refine an.nil ?_;show Wp Tryz.prog 46 R _ _;by_cases h11:s.length=11
 ·obtain ⟨v0,v1,v2,v3,v4⟩:=ET h11;have hc:=(s.getD 0 0).toNat_lt;have g1:=Jf _ hc;have g2:=Jg _ hc;have hsm:=EU h11 v4;have W:=HR _ p4 (aX s (aY s (aY s (aY s 0 0 1) (aX s 0 0 1) 2) (aX s (aY s 0 0 1) (aX s 0 0 1) 2) 4) (aX s (aY s (aY s 0 0 1) (aX s 0 0 1) 2) (aX s (aY s 0 0 1) (aX s 0 0 1) 2) 4) 4) (hdC s);unfold QH at W;rw[hsm,<-hO,<-hE] at W;have e1:decide ((s.getD 0 0).toNat%2=1)=(hdC s).g:=rfl;have e2:decide ((s.getD 0 0).toNat/2%2=1)=(hdC s).u:=rfl;rw[v1,v2,v3,v0,g1,g2,e1,e2];refine Wp.le ?_ (W 1);refine aJ.of (bc ?_) (λa u hu=>⟨u,?_,dP.refl _⟩) (λx hx=>by simp at hx) (Jl _) (Jl _)
  ·exact xSb
  ·simp only[upd,av,zHd] at hu |-;by_cases a2:a=2
   ·subst a2;simpa using hu
   ·by_cases a1:a=1
    ·subst a1;simpa using hu
    ·by_cases a0:a=0
     ·subst a0;simpa using hu
     ·simp[a2,a1,a0] at hu
 ·have hne:hdB s=false:=by unfold hdB;rw[Jn h11];rfl
  have hen:=CW h11;have W:=λh=>HR _ p4 (aX s (aY s (aY s (aY s 0 0 1) (aX s 0 0 1) 2) (aX s (aY s 0 0 1) (aX s 0 0 1) 2) 4) (aX s (aY s (aY s 0 0 1) (aX s 0 0 1) 2) (aX s (aY s 0 0 1) (aX s 0 0 1) 2) 4) 4) h;have hno:∀h,wO s (aY s (aY s (aY s (aY s 0 0 1) (aX s 0 0 1) 2) (aX s (aY s 0 0 1) (aX s 0 0 1) 2) 4) (aX s (aY s (aY s 0 0 1) (aX s 0 0 1) 2) (aX s (aY s 0 0 1) (aX s 0 0 1) 2) 4) 4) (aX s (aY s (aY s (aY s 0 0 1) (aX s 0 0 1) 2) (aX s (aY s 0 0 1) (aX s 0 0 1) 2) 4) (aX s (aY s (aY s 0 0 1) (aX s 0 0 1) 2) (aX s (aY s 0 0 1) (aX s 0 0 1) 2) 4) 4) h=false:=λh=>by
   unfold wO;show (decide (uq s=0)&&_)=false;rw[Jn hen];rfl
  unfold QH at W;simp only[hno] at W;rw[hO,hE,hne];refine Wp.le ?_ (W ⟨ik s (aY s 0 0 1) (aX s 0 0 1) 2,ik s (aY s (aY s 0 0 1) (aX s 0 0 1) 2) (aX s (aY s 0 0 1) (aX s 0 0 1) 2) 4,ik s (aY s (aY s (aY s 0 0 1) (aX s 0 0 1) 2) (aX s (aY s 0 0 1) (aX s 0 0 1) 2) 4) (aX s (aY s (aY s 0 0 1) (aX s 0 0 1) 2) (aX s (aY s 0 0 1) (aX s 0 0 1) 2) 4) 4,!decide (lW IntKind.i64 (ik s 0 0 1) 1=0),!decide (lW IntKind.i64 (ik s 0 0 1) 2=0)⟩ 1);refine aJ.of (bc ?_) (λa u hu=>⟨u,?_,dP.refl _⟩) (λx hx=>by simp at hx) (Jl _) (Jl _)
  ·exact xSb
  ·simp only[upd,av,zHd] at hu |-;by_cases a2:a=2
   ·subst a2;simpa using hu
   ·by_cases a1:a=1
    ·subst a1;simpa using hu
    ·by_cases a0:a=0
     ·subst a0;simpa using hu
     ·simp[a2,a1,a0] at hu
theorem yg:∀(s x:List UInt8),(∀b∈s,b≠0)->rdT (s++0::1::x)=some (s,s.length+2)
 |[],x,_=>by simp[rdT]
 |a::s,x,h=>by
  rw[List.cons_append,ya _ _ (h a af),yg s x (λb hb=>h b (by simp[hb]))];simp
theorem Ap(m:UInt8)(l:List UInt8):br m (br m l)=l:=by
 unfold br;rw[List.map_map]
 conv=>rhs;rw[<-List.map_id l]
 refine KD λx _=>?_;simp[Function.comp,UInt8.xor_assoc]
theorem EV(l:List UInt8):wI (wI l)=l:=by
 cases l with
 |nil=>rfl
 |cons a r=>
  show ((a ^^^ 128) ^^^ 128)::r=a::r;rw[UInt8.xor_assoc];simp
theorem jt:∀(w v:Nat),val (be w v)=v%256^w
 |0,v=>by simp[be,Batch.val,Nat.mod_one]
 |w+1,v=>by
  have e:be (w+1) v=UInt8.ofNat (v/256^w)::be w v:=rfl;rw[e,km,jt w v,aW,Nat.pow_succ,Nat.mod_mul];have:(UInt8.ofNat (v/256^w)).toNat=v/256^w%256:=by simp
  rw[this,Nat.mul_comm,Nat.add_comm]
theorem CY(m:UInt8)(n:Nat)(h:n<9223372036854775808):rdN m (br m (upB n))=n:=by
 unfold rdN;rw[Ap];have e:upB n=wI (be 8 n):=(Iz n h).symm;rw[e,EV];unfold i64;have e8:(256:Nat)^8=18446744073709551616:=by decide
 rw[jt,e8,J9 aa];exact IntWalk.i64_in _ aa
theorem GK{p:Pt}(hp:p.ok)(x:List UInt8):rdP (ptB p++x)=some (p,(ptB p).length):=by
 obtain ⟨pk,pn,ps⟩:=p;rcases hp.k with hk|hk|hk
 ·simp only at hk;subst hk;obtain ⟨hn,hz,hl⟩:=hp.t rfl;simp only at hn hz hl;subst hn;have hB:ptB ⟨1,0,ps⟩=2::(ps++[0,1]):=rfl;have hA:ptB ⟨1,0,ps⟩++x=2::(ps++0::1::x):=by rw[hB];simp
  rw[hA,hB];have:rdP (2::(ps++0::1::x))=(rdT (ps++0::1::x)).map λx=>(⟨1,0,x.1⟩,x.2+1):=by simp[rdP]
  rw[this,yg _ _ hz];simp
 ·simp only at hk;subst hk;obtain ⟨hs,h0,h1⟩:=hp.u af;simp only at hs h0 h1;subst hs;have hB:ptB ⟨2,pn,[]⟩=3::br 0 (upB pn.toNat):=rfl;have hl:(br 0 (upB pn.toNat)).length=8:=by rw[cZ];simp[upB,aW]
  rw[hB,List.cons_append];have ht:(br 0 (upB pn.toNat)++x).take 8=br 0 (upB pn.toNat):=by rw[List.take_append_of_le_length aa,Kq aa]
  have:rdP (3::(br 0 (upB pn.toNat)++x))=some (⟨2,rdN 0 ((br 0 (upB pn.toNat)++x).take 8),[]⟩,9):=by
   have hn:¬(br 0 (upB pn.toNat)++x).length<8:=by rw[Ju];omega
   simp only[rdP];rw[Jr ah,JC trivial,Jr hn]
  rw[this,ht,CY 0 pn.toNat aa,List.length_cons,hl];congr 2;congr 1;omega
 ·simp only at hk;subst hk;obtain ⟨hs,h0,h1⟩:=hp.u af;simp only at hs h0 h1;subst hs;have hB:ptB ⟨3,pn,[]⟩=4::br 255 (upB pn.toNat):=rfl;have hl:(br 255 (upB pn.toNat)).length=8:=by rw[cZ];simp[upB,aW]
  rw[hB,List.cons_append];have ht:(br 255 (upB pn.toNat)++x).take 8=br 255 (upB pn.toNat):=by rw[List.take_append_of_le_length aa,Kq aa]
  have:rdP (4::(br 255 (upB pn.toNat)++x))=some (⟨3,rdN 255 ((br 255 (upB pn.toNat)++x).take 8),[]⟩,9):=by
   have hn:¬(br 255 (upB pn.toNat)++x).length<8:=by rw[Ju];omega
   simp only[rdP];rw[Jr ah,Jr ah,JC trivial,Jr hn]
  rw[this,ht,CY 255 pn.toNat aa,List.length_cons,hl];congr 2;congr 1;omega
theorem yh:∀(l:List Pt),(∀p∈l,p.ok)->qm (cS l)=some l
 |[],_=>rfl
 |p::l,h=>by
  have hB:cS (p::l)=ptB p++cS l:=rfl;have hne:cS (p::l)≠[]:=by rw[hB];intro h;exact wz p (List.append_eq_nil_iff.1 h).1
  rw[kQ hne,hB,GK (h p af)];simp only[List.drop_left];rw[yh l (λq hq=>h q (by simp[hq]))];rfl
theorem ur{k:Int}(h:1<=k/\k<=6):pZ [dt k]=k:=by
 obtain ⟨h1,h2⟩:=h;obtain rfl|rfl|rfl|rfl|rfl|rfl:k=1\/k=2\/k=3\/k=4\/k=5\/k=6:=by omega
 all_goals decide
theorem uu(k:Int)(ns:List Int):(ns.map (cf k)).map Pt.n=ns:=by
 rw[List.map_map]
 conv=>rhs;rw[<-List.map_id ns]
 exact KD λx _=>rfl
def FU(k:Int)(b:List UInt8)(r:List Pt):Ky:=if k≠1/\r≠[] then ⟨k,b,(r.getD 0 default).s,(r.drop 1).map Pt.n⟩ else ⟨k,b,[],r.map Pt.n⟩
theorem CZ{k:Ky}(h:k.ok):js (eM k)=k:=by
 have hC:js (eM k)=FU (pZ [dt k.k]) k.b ((if k.o=[] then [] else [txt k.o])++k.ns.map (cf k.k)):=rfl;rw[hC,ur h.k];obtain ⟨kk,b,o,ns⟩:=k;simp only at*
 unfold FU;by_cases hk1:kk=1
 ·have ho:=h.e hk1;simp only at ho;subst ho;rw[Jr (λx=>x.1 hk1),JC rfl,List.nil_append,uu]
 ·have ho:=du (h.o hk1);simp only at ho;have ho0:o≠[]:=by rintro rfl;simp at ho
  rw[Jr ho0];rw[JC ⟨hk1,by simp⟩];have e:([txt o]++ns.map (cf kk)).drop 1=ns.map (cf kk):=rfl;rw[e,uu];rfl
theorem gg{k:Ky}(h:k.ok):eR (cw k)=true/\bo (cw k)=k:=by
 have hl:=sn h;have hd:=yh (eM k) (jo h);have hd2:qm (cw k)=some (eM k):=hd;have hO:kX (cw k)=eM k:=by unfold kX;rw[Jr aa,hd2];rfl
 have hE:nX (cw k)=0:=by unfold nX;rw[Jr aa,hd2];rfl
 have hc:=CZ h;have hke:iN k=0:=by
  have ha:iM k=true:=by
   unfold iM;have a1:mZ k.ns=true:=JS.2 λn hn=>Jt (h.r n hn).1;rw[a1,Jt h.n.symm];by_cases hk:k.k=1
   ·rw[h.e hk];simp
   ·simp[hk]
  unfold iN;rw[JC ha,JC h.b];by_cases hk:k.k=1
  ·rw[JC hk]
  ·rw[Jr hk,h.o hk]
 have hks:fD k=cw k:=by unfold fD;rw[JC hke]
 have hB:eR (cw k)=true:=by
  unfold eR kn;rw[hE,hO,hc,hke,hks];simp[eM]
 exact ⟨hB,by unfold bo;rw[JC hB,hO,hc]⟩
theorem wQ{s:List UInt8}(h:eR s=true):(bo s).ok/\cw (bo s)=s:=by
 have hO:bo s=js (kX s):=by unfold bo;rw[JC h]
 unfold eR kn at h;simp only[Jv,JE] at h;obtain ⟨h1,⟨h2,h3⟩,h4⟩:=h;obtain ⟨hin,hl⟩:=ye s;have hok:=Co (uj hin hl) h3;rw[hO];refine ⟨hok,?_⟩;unfold fD at h4;rw[JC h3] at h4;exact h4
theorem bg(c:UInt8)(a b:List UInt8):Op.bytesLess (c::a) (c::b)=Op.bytesLess a b:=by
 have:¬(c<c):=λh=>by have:=LB.1 h;omega
 simp[Op.bytesLess,this]
theorem lS{c d:UInt8}(h:c.toNat<d.toNat)(a b:List UInt8):Op.bytesLess (c::a) (d::b)=true:=by
 have:c<d:=LB.2 h;simp[Op.bytesLess,this]
theorem ng:∀{s s':List UInt8}(x y:List UInt8),(∀b∈s,b≠0)->(∀b∈s',b≠0)->Op.bytesLess s s'=true->Op.bytesLess (s++0::1::x) (s'++0::1::y)=true
 |[],[],x,y,_,_,h=>by simp[Op.bytesLess] at h
 |[],b::s',x,y,_,h2,_=>by
  have hb:=h2 b af;refine lS ?_ _ _;have:b.toNat≠0:=λe=>hb (UInt8.toNat_inj.1 (by simpa using e));simp;omega
 |a::s,[],x,y,_,_,h=>by simp[Op.bytesLess] at h
 |a::s,b::s',x,y,h1,h2,h=>by
  simp only[Op.bytesLess,J7,Jv,JE,Li] at h;simp only[List.cons_append,Op.bytesLess,J7,Jv,JE,Li];rcases h with h|⟨h,h'⟩
  ·exact .inl h
  ·exact .inr ⟨h,ng x y (λc hc=>h1 c (by simp[hc])) (λc hc=>h2 c (by simp[hc])) h'⟩
theorem mB(k:List UInt8):∀a b:List UInt8,Op.bytesLess (k++a) (k++b)=Op.bytesLess a b:=by
 induction k with
 |nil=>intro a b;rfl
 |cons c k ih=>intro a b;rw[List.cons_append,List.cons_append,bg,ih]
theorem rD:∀{a b:List UInt8},a.length=b.length->Op.bytesLess a b=true->Batch.val a<Batch.val b
 |[],[],_,h=>by simp[Op.bytesLess] at h
 |[],_::_,h,_=>by simp at h
 |_::_,[],h,_=>by simp at h
 |c::a,d::b,hl,h=>by
  simp only[List.length_cons,Nat.add_right_cancel_iff] at hl;rw[Arch.km,Arch.km,hl];simp only[Op.bytesLess,J7,Jv,JE,Li] at h;rcases h with h|⟨h,h'⟩
  ·have h1:=Batch.pJ a;have h2:c.toNat+1<=d.toNat:=LB.1 h;rw[hl] at h1;have h3:=Kt (256^b.length) h2;rw[Kr,KK] at h3;omega
  ·subst h;have:=rD hl h';omega
theorem uv{a b:List UInt8}(hl:a.length=b.length)(h:Batch.val a<Batch.val b):Op.bytesLess a b=true:=by
 rcases Batch.dK a b with h1|h1|h1
 ·exact h1
 ·subst h1;omega
 ·have:=rD hl.symm h1;omega
theorem EW{w a b:Nat}(h:a<b)(hb:b<256^w):Op.bytesLess (be w a) (be w b)=true:=
 uv (by simp[aW]) (by rw[jt,jt,J9 aa,J9 hb];exact h)
theorem C8(a:UInt8):(a ^^^ 255).toNat=255 - a.toNat:=by
 rw[UInt8.toNat_xor];have h:∀n:Fin 256,n.val ^^^ (255:UInt8).toNat=255 - n.val:=by decide
 exact h ⟨a.toNat,a.toNat_lt⟩
theorem Aq(l:List UInt8):br 0 l=l:=by simp[br]
theorem rE:∀{a b:List UInt8},a.length=b.length->Op.bytesLess a b=true->Op.bytesLess (br 255 b) (br 255 a)=true
 |[],[],_,h=>by simp[Op.bytesLess] at h
 |[],_::_,h,_=>by simp at h
 |_::_,[],h,_=>by simp at h
 |c::a,d::b,hl,h=>by
  simp only[List.length_cons,Nat.add_right_cancel_iff] at hl;simp only[Op.bytesLess,J7,Jv,JE,Li] at h;have e1:br 255 (d::b)=(d ^^^ 255)::br 255 b:=rfl;have e2:br 255 (c::a)=(c ^^^ 255)::br 255 a:=rfl;rw[e1,e2];rcases h with h|⟨h,h'⟩
  ·refine lS ?_ _ _;have h2:=LB.1 h;have:=C8 c;have:=C8 d;have:=c.toNat_lt;have:=d.toNat_lt;omega
  ·subst h;rw[bg];exact rE hl h'
theorem yi{a b:Nat}(h:a<b)(hb:b<9223372036854775808):Op.bytesLess (upB a) (upB b)=true:=by
 have e:(256:Nat)^8=18446744073709551616:=by decide
 exact EW aa (by rw[e];omega)
theorem p6(x:Ky):cw x=2::dt x.k::0::1::2::(x.b++0::1::cS ((if x.o=[] then [] else [txt x.o])++x.ns.map (cf x.k))):=by
 simp[cw,eM,cS,ptB,txt]
theorem sA{x:Ky}(h:x.o≠[]):cw x=2::dt x.k::0::1::2::(x.b++0::1::2::(x.o++0::1::cS (x.ns.map (cf x.k)))):=by
 rw[p6,Jr h];simp[cS,ptB,txt]
theorem p7{x y:Ky}(h:(dt x.k).toNat<(dt y.k).toNat):Op.bytesLess (cw x) (cw y)=true:=by
 rw[p6,p6,bg];exact lS h _ _
theorem IE{x:Ky}(h:x.ok):∀b∈x.b,b≠0:=λb hb=>by
 have:=(fY h.b).2.2 b hb;exact xS (n:=0) aa
theorem IF{x:Ky}(h:x.ok)(hk:x.k≠1):∀b∈x.o,b≠0:=λb hb=>by
 have:=(du (h.o hk)).2.2 b hb;exact xS (n:=0) aa
theorem EX{x:Ky}(h:x.ok)(hk:x.k≠1):x.o≠[]:=λe=>by
 have:=(du (h.o hk)).1;rw[e] at this;simp at this
theorem uw{x y:Ky}(hx:x.ok)(hy:y.ok)(hk:x.k=y.k)(h:Op.bytesLess x.b y.b=true):Op.bytesLess (cw x) (cw y)=true:=by
 rw[p6,p6,hk,bg,bg,bg,bg,bg];exact ng _ _ (IE hx) (IE hy) h
theorem EY{x y:Ky}(hx:x.ok)(hy:y.ok)(h1:x.k≠1)(hk:x.k=y.k)(hb:x.b=y.b)(h:Op.bytesLess x.o y.o=true):Op.bytesLess (cw x) (cw y)=true:=by
 rw[sA (EX hx h1),sA (EX hy (hk▸h1)),hk,hb,bg,bg,bg,bg,bg,mB,bg,bg,bg];exact ng _ _ (IF hx h1) (IF hy (hk▸h1)) h
theorem yj{x y:Ky}(hx:x.ok)(hy:y.ok)(h1:x.k≠1)(hk:x.k=y.k)(hb:x.b=y.b)(ho:x.o=y.o)(h:Op.bytesLess (cS (x.ns.map (cf x.k))) (cS (y.ns.map (cf y.k)))=true):Op.bytesLess (cw x) (cw y)=true:=by
 rw[sA (EX hx h1),sA (EX hy (hk▸h1)),hk,hb,ho,bg,bg,bg,bg,bg,mB,bg,bg,bg,mB,bg,bg];rw[hk] at h;exact h
theorem IG{n:Int}(h:0<=n)(k:Int)(hk:k≠2):ptB (cf k n)=3::upB n.toNat:=by
 simp[cf,hk,ptB,Aq]
theorem IH{n:Int}(h:0<=n):ptB (cf 2 n)=4::br 255 (upB n.toNat):=by
 simp[cf,ptB]
theorem EZ(n:Nat):(upB n).length=8:=by simp[upB,aW]
theorem E0{n o:List UInt8}{i j:Int}(hx:(⟨2,n,o,[i]⟩:Ky).ok)(hy:(⟨2,n,o,[j]⟩:Ky).ok)(h:j<i):Op.bytesLess (cw ⟨2,n,o,[i]⟩) (cw ⟨2,n,o,[j]⟩)=true:=by
 have ri:=hx.r i af;have rj:=hy.r j af;refine yj hx hy af rfl rfl rfl ?_;simp only[JM,J4,cS,List.flatten_cons,List.flatten_nil,JY];rw[IH ri.1,IH rj.1,bg];exact rE (by simp[EZ]) (yi aa aa)
theorem E1{n o:List UInt8}{i:Int}{a b:Nat}(hx:(⟨3,n,o,[i,a]⟩:Ky).ok)(hy:(⟨3,n,o,[i,b]⟩:Ky).ok)(h:a<b):Op.bytesLess (cw ⟨3,n,o,[i,a]⟩) (cw ⟨3,n,o,[i,b]⟩)=true:=by
 have ra:=hx.r a af;have rb:=hy.r b af;refine yj hx hy af rfl rfl rfl ?_;simp only[JM,J4,cS,List.flatten_cons,List.flatten_nil,JY];rw[mB,IG ra.1 3 ah,IG rb.1 3 ah,bg];exact yi aa aa
theorem ko:∀{a b:List Pr},(a.Pairwise λx y=>Op.bytesLess x.k y.k=true)->(b.Pairwise λx y=>Op.bytesLess x.k y.k=true)->(∀p,p∈a↔p∈b)->a=b
 |[],[],_,_,_=>rfl
 |[],y::b,_,_,h=>by have:=(h y).2 af;simp at this
 |x::a,[],_,_,h=>by have:=(h x).1 af;simp at this
 |x::a,y::b,ha,hb,h=>by
  have ha':=JP.1 ha;have hb':=JP.1 hb;have ir:∀{u:List UInt8},¬Op.bytesLess u u=true:=λ{u} e=>by rw[Batch.bC] at e;cases e
  have hxy:x=y:=by
   rcases JB.1 ((h x).1 af) with e|hx
   ·exact e
   ·rcases JB.1 ((h y).2 af) with e|hy
    ·exact e.symm
    ·exact absurd (kh (hb'.1 x hx) (ha'.1 y hy)) ir
  subst hxy;congr 1;refine ko ha'.2 hb'.2 λp=>⟨λhp=>?_,λhp=>?_⟩
  ·rcases JB.1 ((h p).1 (by simp[hp])) with e|h1
   ·subst e;exact absurd (ha'.1 p hp) ir
   ·exact h1
  ·rcases JB.1 ((h p).2 (by simp[hp])) with e|h1
   ·subst e;exact absurd (hb'.1 p hp) ir
   ·exact h1
theorem wR{α β:Type}{f:α->β}:∀{l:List α},(l.Pairwise λa b=>f a≠f b)->∀a∈l,∀b∈l,f a=f b->a=b
 |[],_,a,ha,_,_,_=>by cases ha
 |x::l,h,a,ha,b,hb,e=>by
  obtain ⟨h1,h2⟩:=JP.1 h;rcases JB.1 ha with ha1|ha1
  ·rcases JB.1 hb with hb1|hb1
   ·rw[ha1,hb1]
   ·exact absurd (ha1▸e) (h1 b hb1)
  ·rcases JB.1 hb with hb1|hb1
   ·exact absurd (hb1▸e.symm) (h1 a ha1)
   ·exact wR h2 a ha1 b hb1 e
section
variable{m:List Bk}(h:imB m=true)
include h
theorem Ar{b:Bk}(hb:b∈m):(kyB b).ok:=kj h _ (Ke.2 ⟨_,JF.2 ⟨b,hb,rfl⟩,by simp[sv]⟩)
theorem ux{b:Bk}(hb:b∈m){v:Vs}(hv:v∈b.l):(kyV b.n v).ok:=
 kj h _ (Ke.2 ⟨_,JF.2 ⟨b,hb,rfl⟩,JB.2 (.inr (Ke.2 ⟨_,JF.2 ⟨v,hv,rfl⟩,by simp[su]⟩))⟩)
theorem uy{b:Bk}(hb:b∈m){v:Vs}(hv:v∈b.l){k:Nat}(hk:k<eQ v.b):(kyC b.n v k).ok:=
 kj h _ (Ke.2 ⟨_,JF.2 ⟨b,hb,rfl⟩,JB.2 (.inr (Ke.2 ⟨_,JF.2 ⟨v,hv,rfl⟩,JB.2 (.inr (JF.2 ⟨k,Kg.2 hk,rfl⟩))⟩))⟩)
theorem Da(p:Pr):p∈aI m↔(∃b∈m,p=⟨cw (kyB b),stS b.st⟩)\/(∃b∈m,∃v∈b.l,p=⟨cw (kyV b.n v),kb v⟩)\/(∃b∈m,∃v∈b.l,∃k,k<eQ v.b/\p=⟨cw (kyC b.n v k),chunk v.b k⟩):=by
 unfold aI;rw[Ke];constructor
 ·rintro ⟨l,hl,hp⟩;obtain ⟨b,hb,rfl⟩:=JF.1 hl;unfold gV at hp;obtain ⟨c,hc,rfl⟩:=JF.1 hp;obtain ⟨r,hr,hc⟩:=Ke.1 hc;unfold cK at hr;rcases JB.1 hr with rfl|hr
  ·simp only[Jz] at hc;subst hc;exact .inl ⟨b,hb,by simp[eh,wu,fZ (Ar h hb)]⟩
  ·obtain ⟨v,hv,rfl⟩:=JF.1 hr;unfold fm at hc;rcases JB.1 hc with rfl|hc
   ·exact .inr (.inl ⟨b,hb,v,hv,by simp[eh,chV,fZ (ux h hb hv)]⟩)
   ·obtain ⟨k,hk,rfl⟩:=JF.1 hc;have hk:=Kg.1 hk;exact .inr (.inr ⟨b,hb,v,hv,k,hk,by simp[eh,chC,fZ (uy h hb hv hk)]⟩)
 ·rintro (⟨b,hb,rfl⟩|⟨b,hb,v,hv,rfl⟩|⟨b,hb,v,hv,k,hk,rfl⟩)
  ·refine ⟨gV b,JF.2 ⟨b,hb,rfl⟩,?_⟩;exact JF.2 ⟨wu b,Ke.2 ⟨[wu b],by simp[cK],by simp⟩,by simp[eh,wu,fZ (Ar h hb)]⟩
  ·refine ⟨gV b,JF.2 ⟨b,hb,rfl⟩,?_⟩;exact JF.2 ⟨chV b.n v,Ke.2 ⟨fm b.n v,JB.2 (.inr (JF.2 ⟨v,hv,rfl⟩)),by simp[fm]⟩,by simp[eh,chV,fZ (ux h hb hv)]⟩
  ·refine ⟨gV b,JF.2 ⟨b,hb,rfl⟩,?_⟩;exact JF.2 ⟨chC b.n v k,Ke.2 ⟨fm b.n v,JB.2 (.inr (JF.2 ⟨v,hv,rfl⟩)),JB.2 (.inr (JF.2 ⟨k,Kg.2 hk,rfl⟩))⟩,by simp[eh,chC,fZ (uy h hb hv hk)]⟩
theorem kS(p:Pr):p∈aF (aI m)↔(∃b∈m,p=⟨cw (kyB b),stS b.st⟩)\/(∃b∈m,∃v∈b.l,p=⟨cw (kyV b.n v),kb v⟩)\/(∃b∈m,∃v∈b.l,∃k,k<eQ v.b/\p=⟨cw (kyC b.n v k),chunk v.b k⟩):=
 ((pW (fo h) (pY h)).2 p).trans (Da h p)
theorem Db{a b:Bk}(ha:a∈m)(hb:b∈m)(e:a.n=b.n):a=b:=
 wR (f:=Bk.n) ((iQ h).imp λhn=>oy hn) a ha b hb e
theorem E2{b:Bk}(hb:b∈m){u v:Vs}(hu:u∈b.l)(hv:v∈b.l)(e1:u.o=v.o)(e2:u.id=v.id):u=v:=
 wR (f:=λv:Vs=>(v.o,v.id)) ((oA (nR h hb)).imp λhn e=>by
  simp only[JD] at e;rcases next_ne hn with h1|h1
  ·exact h1 e.1
  ·exact h1 e.2) u hu v hv (by rw[e1,e2])
theorem pB{b:Bk}(hb:b∈m):bo (cw (kyB b))=kyB b:=(gg (Ar h hb)).2
theorem pV{b:Bk}(hb:b∈m){v:Vs}(hv:v∈b.l):bo (cw (kyV b.n v))=kyV b.n v:=(gg (ux h hb hv)).2
theorem pC{b:Bk}(hb:b∈m){v:Vs}(hv:v∈b.l){k:Nat}(hk:k<eQ v.b):bo (cw (kyC b.n v k))=kyC b.n v k:=(gg (uy h hb hv hk)).2
end
theorem fe{m:List Bk}(q:Pr->Bool):((aF (aI m)).filter q).Pairwise λx y=>Op.bytesLess x.k y.k=true:=(gW (aI m)).sublist List.filter_sublist
def BP(m:List Bk):List Pr:=m.map λb=>⟨cw (kyB b),stS b.st⟩
def VP(b:Bk):List Pr:=b.l.map λv=>⟨cw (kyV b.n v),kb v⟩
def CP(n:List UInt8)(v:Vs):List Pr:=(List.range (eQ v.b)).map λk=>⟨cw (kyC n v k),chunk v.b k⟩
def isK(k:Int)(p:Pr):Bool:=decide ((bo p.k).k=k)
def gD(n o:List UInt8)(id:Int)(p:Pr):Bool:=decide ((bo p.k).k=3)&&(decide ((bo p.k).b=n)&&(decide ((bo p.k).o=o)&&decide ((bo p.k).ns.getD 0 0=id)))
section
variable{m:List Bk}(h:imB m=true)
include h
theorem E3:(BP m).Pairwise λx y=>Op.bytesLess x.k y.k=true:=by
 unfold BP;refine KN.2 (LH (λ{a b} ha hb hn=>?_) (iQ h));exact uw (Ar h ha) (Ar h hb) rfl hn
theorem E4{b:Bk}(hb:b∈m):(VP b).Pairwise λx y=>Op.bytesLess x.k y.k=true:=by
 unfold VP;refine KN.2 (LH (λ{u v} hu hv hn=>?_) (oA (nR h hb)));unfold Vs.next at hn;simp only[J7,Jv,JE] at hn;have ou:=ux h hb hu;have ov:=ux h hb hv;rcases hn with hn|⟨e,hn⟩
 ·exact EY ou ov (by simp[kyV]) rfl rfl hn
 ·obtain ⟨o,i⟩:=u;obtain ⟨o',j⟩:=v;simp only at e hn;subst e;exact E0 ou ov hn
theorem E5{b:Bk}(hb:b∈m){v:Vs}(hv:v∈b.l):(CP b.n v).Pairwise λx y=>Op.bytesLess x.k y.k=true:=by
 unfold CP;refine KN.2 (LH (λ{x y} hx hy hn=>?_) List.pairwise_lt_range);exact E1 (uy h hb hv (Kg.1 hx)) (uy h hb hv (Kg.1 hy)) hn
theorem E6:((m.map VP).flatten).Pairwise λx y=>Op.bytesLess x.k y.k=true:=by
 refine List.pairwise_flatten.2 ⟨λl hl=>?_,?_⟩
 ·obtain ⟨b,hb,rfl⟩:=JF.1 hl;exact E4 h hb
 ·refine KN.2 (LH (λ{a b} ha hb hn x hx y hy=>?_) (iQ h));obtain ⟨u,hu,rfl⟩:=JF.1 hx;obtain ⟨v,hv,rfl⟩:=JF.1 hy;exact uw (ux h ha hu) (ux h hb hv) rfl hn
theorem II:(aF (aI m)).filter (isK 1)=BP m:=by
 refine ko (fe _) (E3 h) λp=>?_;rw[Ku,kS h];unfold BP isK;rw[JF];constructor
 ·rintro ⟨⟨b,hb,rfl⟩|⟨b,hb,v,hv,rfl⟩|⟨b,hb,v,hv,k,hk,rfl⟩,hq⟩
  ·exact ⟨b,hb,rfl⟩
  ·simp only[pV h hb hv] at hq;simp[kyV] at hq
  ·simp only[pC h hb hv hk] at hq;simp[kyC] at hq
 ·rintro ⟨b,hb,rfl⟩;exact ⟨.inl ⟨b,hb,rfl⟩,by simp only[pB h hb];simp[kyB]⟩
theorem FV{b:Bk}(hb:b∈m){v:Vs}(hv:v∈b.l):(aF (aI m)).filter (gD b.n v.o v.id)=CP b.n v:=by
 refine ko (fe _) (E5 h hb hv) λp=>?_;rw[Ku,kS h];unfold CP gD;rw[JF];constructor
 ·rintro ⟨⟨c,hc,rfl⟩|⟨c,hc,u,hu,rfl⟩|⟨c,hc,u,hu,k,hk,rfl⟩,hq⟩
  ·simp only[pB h hc] at hq;simp[kyB] at hq
  ·simp only[pV h hc hu] at hq;simp[kyV] at hq
  ·simp only[pC h hc hu hk] at hq;simp[kyC] at hq;obtain ⟨e1,e2,e3⟩:=hq;obtain rfl:=Db h hc hb (JL e1);obtain rfl:=E2 h hc hu hv (JL e2) e3;exact ⟨k,Kg.2 hk,rfl⟩
 ·rintro ⟨k,hk,rfl⟩;have hk:=Kg.1 hk;exact ⟨.inr (.inr ⟨b,hb,v,hv,k,hk,rfl⟩),by simp only[pC h hb hv hk];simp[kyC]⟩
theorem GL:(aF (aI m)).filter (isK 2)=(m.map VP).flatten:=by
 refine ko (fe _) (E6 h) λp=>?_;rw[Ku,kS h,Ke];unfold isK;constructor
 ·rintro ⟨⟨c,hc,rfl⟩|⟨c,hc,v,hv,rfl⟩|⟨c,hc,v,hv,k,hk,rfl⟩,hq⟩
  ·simp only[pB h hc] at hq;simp[kyB] at hq
  ·exact ⟨VP c,JF.2 ⟨c,hc,rfl⟩,JF.2 ⟨v,hv,rfl⟩⟩
  ·simp only[pC h hc hv hk] at hq;simp[kyC] at hq
 ·rintro ⟨l,hl,hp⟩;obtain ⟨b,hb,rfl⟩:=JF.1 hl;obtain ⟨v,hv,rfl⟩:=JF.1 hp;exact ⟨.inr (.inl ⟨b,hb,v,hv,rfl⟩),by simp only[pV h hb hv];simp[kyV]⟩
theorem As:aF (aI m)=(aF (aI m)).filter (isK 1)++((aF (aI m)).filter (isK 3)++(aF (aI m)).filter (isK 2)):=by
 have kind:∀p∈aF (aI m),∃x:Ky,p.k=cw x/\bo p.k=x/\(x.k=1\/x.k=2\/x.k=3):=λp hp=>by
  rcases (kS h p).1 hp with ⟨b,hb,rfl⟩|⟨b,hb,v,hv,rfl⟩|⟨b,hb,v,hv,k,hk,rfl⟩
  ·exact ⟨_,rfl,pB h hb,.inl rfl⟩
  ·exact ⟨_,rfl,pV h hb hv,.inr (.inl rfl)⟩
  ·exact ⟨_,rfl,pC h hb hv hk,.inr (.inr rfl)⟩
 refine ko (gW _) (Lp.2 ⟨fe _,Lp.2 ⟨fe _,fe _,?_⟩,?_⟩) λp=>?_
 ·intro x hx y hy;obtain ⟨hx,kx⟩:=Ku.1 hx;obtain ⟨hy,ky⟩:=Ku.1 hy;obtain ⟨a,e1,e2,-⟩:=kind x hx;obtain ⟨b,f1,f2,-⟩:=kind y hy;unfold isK at kx ky;rw[e2] at kx;rw[f2] at ky;have k1:a.k=3:=by simpa using kx
  have k2:b.k=2:=by simpa using ky
  rw[e1,f1];exact p7 (by rw[k1,k2];decide)
 ·intro x hx y hy;obtain ⟨hx,kx⟩:=Ku.1 hx;obtain ⟨a,e1,e2,-⟩:=kind x hx;unfold isK at kx;rw[e2] at kx;have k1:a.k=1:=by simpa using kx
  rcases JW.1 hy with hy|hy;all_goals
   obtain ⟨hy,ky⟩:=Ku.1 hy;obtain ⟨b,f1,f2,-⟩:=kind y hy;unfold isK at ky;rw[f2] at ky;rw[e1,f1]
  ·have k2:b.k=3:=by simpa using ky
   exact p7 (by rw[k1,k2];decide)
  ·have k2:b.k=2:=by simpa using ky
   exact p7 (by rw[k1,k2];decide)
 ·rw[JW,JW,Ku,Ku,Ku];constructor
  ·intro hp;obtain ⟨a,e1,e2,hk⟩:=kind p hp;unfold isK;rw[e2];rcases hk with hk|hk|hk
   ·exact .inl ⟨hp,by simp[hk]⟩
   ·exact .inr (.inr ⟨hp,by simp[hk]⟩)
   ·exact .inr (.inl ⟨hp,by simp[hk]⟩)
  ·rintro (hp|hp|hp);all_goals exact hp.1
end
theorem nS(s:List UInt8):∀n:Nat,((List.range n).map (chunk s)).flatten=s.take (160*n)
 |0=>by simp
 |n+1=>by
  rw[List.range_succ,KC,KW,nS s n];simp only[JM,J4,List.flatten_cons,List.flatten_nil,JY,chunk];have e:s.take (min s.length (160*n+160))=s.take (160*n+160):=by
   by_cases h:s.length<=160*n+160
   ·rw[KB h,Kq h,Kq (Jl _)]
   ·rw[Nat.min_eq_right aa]
  rw[e,show 160*(n+1)=160*n+160 by omega,List.drop_take,show 160*n+160 - 160*n=160 by omega,List.take_add]
theorem wS(s:List UInt8):((List.range (eQ s)).map (chunk s)).flatten=s:=by
 rw[nS,Kq (by unfold eQ;omega)]
theorem E7{v:Int}(h:pN v=true):stV (stS v)=v/\p5 (stS v)=true:=by
 rcases tX v with (rfl|rfl|rfl)|⟨h2,-⟩
 ·exact ⟨by decide,by decide⟩
 ·exact ⟨by decide,by decide⟩
 ·exact ⟨by decide,by decide⟩
 ·rw[h] at h2;cases h2
theorem E8{sz re im:Int}{g:Bool}(h:eN sz re im g=true)(u:Bool):hdB (cP sz re im g u)=true/\hdO (cP sz re im g u)=⟨sz,re,im,g,u⟩:=by
 have h':=h;unfold eN jn at h';simp only[Jv,JE] at h';have hs:cP sz re im g u=eZ sz.toNat re.toNat im.toNat g u:=by unfold cP;rw[JC h]
 have hl:(eZ sz.toNat re.toNat im.toNat g u).length=11:=fj _ _ _ _ _;have e2:(256:Nat)^2=65536:=by decide
 have e4:(256:Nat)^4=4294967296:=by decide
 have hc:hdC (eZ sz.toNat re.toNat im.toNat g u)=⟨sz,re,im,g,u⟩:=by
  have f1:eZ sz.toNat re.toNat im.toNat g u=UInt8.ofNat (flN g u)::(be 2 sz.toNat++be 4 re.toNat++be 4 im.toNat):=by
   have e1:be 1 (flN g u)=[UInt8.ofNat (flN g u)]:=by simp[be]
   unfold eZ;rw[e1];simp
  have d1:((eZ sz.toNat re.toNat im.toNat g u).drop 1).take 2=be 2 sz.toNat:=by
   rw[f1,Ka,Kz,K7,List.take_left' (aW _ _)]
  have d2:((eZ sz.toNat re.toNat im.toNat g u).drop 3).take 4=be 4 re.toNat:=by
   rw[f1,Ka,K7,List.drop_left' (aW _ _),List.take_left' (aW _ _)]
  have d3:((eZ sz.toNat re.toNat im.toNat g u).drop 7).take 4=be 4 im.toNat:=by
   rw[f1,Ka,List.drop_left' (by simp[aW]),Kq (by simp[aW])]
  have g0:(eZ sz.toNat re.toNat im.toNat g u).getD 0 0=UInt8.ofNat (flN g u):=by rw[f1];rfl
  unfold hdC;rw[d1,d2,d3,g0,jt,jt,jt,e2,e4,J9 aa,J9 aa,J9 aa];have k1:((sz.toNat:Nat):Int)=sz:=by omega
  have k2:((re.toNat:Nat):Int)=re:=by omega
  have k3:((im.toNat:Nat):Int)=im:=by omega
  rw[k1,k2,k3];cases g<;>cases u<;>rfl
 have hb:hdB (eZ sz.toNat re.toNat im.toNat g u)=true:=by
  unfold hdB;rw[hc,hl];simp only[h,JO,K3]
 rw[hs];refine ⟨hb,?_⟩;unfold hdO;rw[JC hb,hc]
theorem GM{v:Vs}(h:v.okV=true):eN v.sz v.re v.im v.g=true:=by
 simp only[Vs.okV,Vs.fit,Vs.rh,Jv,JE] at h;exact h.2.1.1
theorem IJ{b:Bk}(h:jE b=true):pN b.st=true:=by
 unfold jE at h;simp only[Jv,JE] at h;exact h.1.2
theorem p8{v:Vs}(h:v.okV=true):hdB (kb v)=true/\hdO (kb v)=⟨v.sz,v.re,v.im,v.g,v.u⟩:=E8 (GM h) v.u
structure Pc where
 b:List UInt8
 o:List UInt8
 id:Int
 s:List UInt8
 n:Int
def eS(b o:List UInt8)(id:Int)(p:Pc):Bool:=decide (b=p.b)&&(decide (o=p.o)&&(decide (id=p.id)&&true))
def nY(b o:List UInt8)(id:Int):List AV:=[.str b,.str o,.int .i64 id]
def sB(s:List UInt8)(n:Int):AV:= .agg [.str s,.int .i64 n]
def fp(q:List Pc):List (AV × AV):=q.map λp=>(.agg (nY p.b p.o p.id),sB p.s p.n)
def il:List Pc->List UInt8->List UInt8->Int->Option (Nat × AV)
 |[],_,_,_=>none
 |p::q,b,o,id=>if eS b o id p then some (0,sB p.s p.n) else (il q b o id).map λx=>(x.1+1,x.2)
def cD:List Pc->List UInt8->List UInt8->Int->List UInt8 × Int
 |[],_,_,_=>([],0)
 |p::q,b,o,id=>if eS b o id p then (p.s,p.n) else cD q b o id
def iT:List Pc->List UInt8->List UInt8->Int->List UInt8->Int->List Pc
 |[],b,o,id,s,n=>[⟨b,o,id,s,n⟩]
 |p::q,b,o,id,s,n=>if eS b o id p then ⟨b,o,id,s,n⟩::q else p::iT q b o id s n
def iU:List Pc->List UInt8->List UInt8->Int->List Pc
 |[],_,_,_=>[]
 |p::q,b,o,id=>if eS b o id p then q else p::iU q b o id
theorem wT(b o:List UInt8)(id:Int):∀q:List Pc,dD [.str,.str,.int] (nY b o id) (fp q)=some (il q b o id)
 |[]=>by simp[fp,dD,il,nY,aT,gl]
 |p::q=>by
  have ih:=wT b o id q;have e:aT [.str,.str,.int] (nY b o id) (nY p.b p.o p.id)=some (eS b o id p):=by simp[nY,aT,gl,eS]
  have hq:fp (p::q)=(.agg (nY p.b p.o p.id),sB p.s p.n)::fp q:=rfl;rw[hq];simp only[dD,e,il];cases eS b o id p with
  |true=>rfl
  |false=>simp[ih]
theorem wU(b o:List UInt8)(id:Int):∀q:List Pc,cT (.agg [.str [],.int .i64 0]) false (il q b o id)=sB (cD q b o id).1 (cD q b o id).2
 |[]=>rfl
 |p::q=>by
  have ih:=wU b o id q;simp only[il,cD];cases eS b o id p with
  |true=>rfl
  |false=>
   simp only[Jy,Js];rw[<-ih];cases il q b o id<;>rfl
theorem FW(b o:List UInt8)(id:Int)(s:List UInt8)(n:Int):∀q:List Pc,oK (fp q) (nY b o id) (sB s n) (il q b o id)=fp (iT q b o id s n)
 |[]=>rfl
 |p::q=>by
  have ih:=FW b o id s n q;have hq:fp (p::q)=(.agg (nY p.b p.o p.id),sB p.s p.n)::fp q:=rfl;rw[hq];simp only[il,iT];cases eS b o id p with
  |true=>rfl
  |false=>
   simp only[Jy,Js];have hr:fp (p::iT q b o id s n)=(.agg (nY p.b p.o p.id),sB p.s p.n)::fp (iT q b o id s n):=rfl;rw[hr,<-ih];cases il q b o id<;>rfl
theorem FX(b o:List UInt8)(id:Int):∀q:List Pc,oJ (fp q) (il q b o id)=fp (iU q b o id)
 |[]=>rfl
 |p::q=>by
  have ih:=FX b o id q;have hq:fp (p::q)=(.agg (nY p.b p.o p.id),sB p.s p.n)::fp q:=rfl;rw[hq];simp only[il,iU];cases eS b o id p with
  |true=>rfl
  |false=>
   simp only[Jy,Js];have hr:fp (p::iU q b o id)=(.agg (nY p.b p.o p.id),sB p.s p.n)::fp (iU q b o id):=rfl;rw[hr,<-ih];cases il q b o id<;>rfl
theorem Dc(q:List Pc):(fp q).length=q.length:=KL _
theorem dw{b o:List UInt8}{id:Int}{p:Pc}:eS b o id p=true↔b=p.b/\o=p.o/\id=p.id:=by
 simp[eS]
theorem uz(b o:List UInt8)(id:Int)(s:List UInt8)(n:Int)(b' o':List UInt8)(id':Int):∀q:List Pc,cD (iT q b o id s n) b' o' id'=if b'=b/\o'=o/\id'=id then (s,n) else cD q b' o' id'
 |[]=>by
  simp only[iT,cD];by_cases h:b'=b/\o'=o/\id'=id
  ·rw[JC h,JC (dw.2 h)]
  ·rw[Jr h,Jr (λe=>h (dw.1 e))]
 |p::q=>by
  have ih:=uz b o id s n b' o' id' q;simp only[iT];by_cases hp:eS b o id p=true
  ·rw[JC hp];obtain ⟨e1,e2,e3⟩:=dw.1 hp;simp only[cD];by_cases h:b'=b/\o'=o/\id'=id
   ·rw[JC h,JC (dw.2 h)]
   ·rw[Jr h,Jr (λe=>h (dw.1 e)),Jr (λe=>h (by obtain ⟨x,y,z⟩:=dw.1 e;exact ⟨x.trans e1.symm,y.trans e2.symm,z.trans e3.symm⟩))]
  ·rw[Jr hp];simp only[cD];by_cases h2:eS b' o' id' p=true
   ·rw[JC h2,JC h2,Jr];rintro ⟨rfl,rfl,rfl⟩;exact hp h2
   ·rw[Jr h2,Jr h2,ih]
def ju(q:List Pc):Prop:=q.Pairwise λx y=>¬(x.b=y.b/\x.o=y.o/\x.id=y.id)
theorem mC{b o:List UInt8}{id:Int}{s:List UInt8}{n:Int}{x:Pc}:∀{q:List Pc},x∈iT q b o id s n->x=⟨b,o,id,s,n⟩\/x∈q
 |[],h=>by simp[iT] at h;exact .inl h
 |p::q,h=>by
  simp only[iT] at h;split at h
  ·rcases JB.1 h with h|h
   ·exact .inl h
   ·exact .inr (by simp[h])
  ·rcases JB.1 h with h|h
   ·exact .inr (by simp[h])
   ·rcases mC h with h|h
    ·exact .inl h
    ·exact .inr (by simp[h])
theorem mD{b o:List UInt8}{id:Int}{x:Pc}:∀{q:List Pc},x∈iU q b o id->x∈q
 |[],h=>by simp[iU] at h
 |p::q,h=>by
  simp only[iU] at h;split at h
  ·simp[h]
  ·rcases JB.1 h with h|h
   ·simp[h]
   ·have:=mD h;simp[this]
theorem rF{b o:List UInt8}{id:Int}{s:List UInt8}{n:Int}:∀{q:List Pc},ju q->ju (iT q b o id s n)
 |[],h=>by simp[iT,ju]
 |p::q,h=>by
  obtain ⟨h1,h2⟩:=JP.1 h;simp only[iT];split
  ·rename_i hp;obtain ⟨e1,e2,e3⟩:=dw.1 hp;refine JP.2 ⟨λy hy=>?_,h2⟩;have:=h1 y hy;simp only;rw[e1,e2,e3];exact this
  ·rename_i hp;refine JP.2 ⟨λy hy=>?_,rF h2⟩;rcases mC hy with rfl|hy
   ·simp only;rintro ⟨e1,e2,e3⟩;exact hp (dw.2 ⟨e1.symm,e2.symm,e3.symm⟩)
   ·exact h1 y hy
theorem nh{b o:List UInt8}{id:Int}:∀{q:List Pc},ju q->ju (iU q b o id)/\∀x∈iU q b o id,¬(x.b=b/\x.o=o/\x.id=id)
 |[],h=>by simp[iU,ju]
 |p::q,h=>by
  obtain ⟨h1,h2⟩:=JP.1 h;simp only[iU];split
  ·rename_i hp;obtain ⟨e1,e2,e3⟩:=dw.1 hp;refine ⟨h2,λx hx=>?_⟩;have:=h1 x hx;rintro ⟨f1,f2,f3⟩;exact this ⟨by rw[f1,e1],by rw[f2,e2],by rw[f3,e3]⟩
  ·rename_i hp;obtain ⟨i1,i2⟩:=nh (b:=b) (o:=o) (id:=id) h2;refine ⟨JP.2 ⟨λy hy=>h1 y (mD hy),i1⟩,λx hx=>?_⟩;rcases JB.1 hx with rfl|hx
   ·rintro ⟨f1,f2,f3⟩;exact hp (dw.2 ⟨f1.symm,f2.symm,f3.symm⟩)
   ·exact i2 x hx
theorem uA{b o b' o':List UInt8}{id id':Int}(hn:¬(b'=b/\o'=o/\id'=id)):∀q:List Pc,cD (iU q b o id) b' o' id'=cD q b' o' id'
 |[]=>rfl
 |p::q=>by
  have ih:=uA hn q;simp only[iU];by_cases hp:eS b o id p=true
  ·rw[JC hp];simp only[cD];rw[Jr];intro e;obtain ⟨e1,e2,e3⟩:=dw.1 hp;obtain ⟨f1,f2,f3⟩:=dw.1 e;exact hn ⟨by rw[f1,e1],by rw[f2,e2],by rw[f3,e3]⟩
  ·rw[Jr hp];simp only[cD];rw[ih]
def fw(ns:List (List UInt8))(nm:List UInt8):Nat->Nat->Nat->Nat
 |0,i,_=>i
 |f+1,i,j=>if i<j then (if Op.bytesLess (ns.getD ((i+j)/2) []) nm then fw ns nm f ((i+j)/2+1) j else fw ns nm f i ((i+j)/2)) else i
def gI(ns:List (List UInt8))(nm:List UInt8):Nat:=fw ns nm ns.length 0 ns.length
def eU(ns:List (List UInt8))(nm:List UInt8):Bool:=decide (gI ns nm<ns.length)&&decide (ns.getD (gI ns nm) []=nm)
theorem p9{ns:List (List UInt8)}(hs:ns.Pairwise λa b=>Op.bytesLess a b=true){z:Nat}(hz:z<ns.length):∀(f i j:Nat),j - i<=f->i<=z->z<=j->j<=ns.length->fw ns (ns.getD z []) f i j=z
 |0,i,j,h1,h2,h3,h4=>by simp only[fw];omega
 |f+1,i,j,h1,h2,h3,h4=>by
  simp only[fw];by_cases hij:i<j
  ·rw[JC hij];have a1:(i+j)/2<j:=by omega
   have a2:i<=(i+j)/2:=by omega
   have pw:=Ks.1 hs;generalize (i+j)/2=c at*
   have gc:ns.getD c []=ns[c]'(by omega):=by simp[List.getD,Jm (show c<ns.length by omega)]
   have gz:ns.getD z []=ns[z]:=by simp[List.getD,Jm hz]
   by_cases hl:Op.bytesLess (ns.getD c []) (ns.getD z [])=true
   ·rw[JC hl];have hcz:c<z:=by
     rcases Nat.lt_trichotomy c z with h|h|h
     ·exact h
     ·subst h;rw[Batch.bC] at hl;cases hl
     ·have:=pw z c hz aa h;rw[gc,gz] at hl;have:=Batch.dm this hl;rw[Batch.bC] at this;cases this
    exact p9 hs hz f (c+1) j aa aa h3 h4
   ·rw[Jr hl];have hcz:z<=c:=by
     rcases Kn c z with h|h
     ·have:=pw c z aa hz h;rw[gc,gz] at hl;exact absurd this hl
     ·exact h
    exact p9 hs hz f i c aa h2 hcz aa
  ·rw[Jr hij];omega
theorem E9{ns:List (List UInt8)}(hs:ns.Pairwise λa b=>Op.bytesLess a b=true){z:Nat}(hz:z<ns.length):gI ns (ns.getD z [])=z/\eU ns (ns.getD z [])=true:=by
 have h:gI ns (ns.getD z [])=z:=p9 hs hz _ _ _ aa aa aa (Jl _);refine ⟨h,?_⟩;unfold eU;rw[h];simp[hz]
abbrev SS:=List Bk × List Pc
def qa(m:List Bk)(i:Nat)(v:Vs):List Bk:=m.set i ⟨(m.getD i default).n,(m.getD i default).st,(m.getD i default).l++[v]⟩
def uB(k:Ky)(hd:Hd)(b:List UInt8):Vs:=⟨k.o,k.ns.getD 0 0,hd.sz,hd.re,hd.im,hd.g,hd.u,b⟩
def jF(S:SS)(k:Ky)(v:List UInt8):Option SS:=
 if k.k=1 then (if p5 v=true then some (S.1++[⟨k.b,stV v,[]⟩],S.2) else none)
 else if k.k=3 then (if k.ns.getD 1 0=(cD S.2 k.b k.o (k.ns.getD 0 0)).2 then some (S.1,iT S.2 k.b k.o (k.ns.getD 0 0) ((cD S.2 k.b k.o (k.ns.getD 0 0)).1++v) ((cD S.2 k.b k.o (k.ns.getD 0 0)).2+1)) else none)
 else if k.k=2 then (if hdB v=true then (if eU (S.1.map Bk.n) k.b=true then some (qa S.1 (gI (S.1.map Bk.n) k.b) (uB k (hdO v) (cD S.2 k.b k.o (k.ns.getD 0 0)).1),iU S.2 k.b k.o (k.ns.getD 0 0)) else none) else none)
 else none
def jv(S:SS)(p:Pr):Option SS:=if eR p.k=true then jF S (bo p.k) p.v else none
def jG(l:List Pr):Nat->Option SS
 |0=>some ([],[])
 |j+1=>(jG l j).bind λS=>if (decide (j=0)||Op.bytesLess (l.getD (j - 1) default).k (l.getD j default).k)=true then jv S (l.getD j default) else none
def fN:SS->List Pr->Option SS
 |S,[]=>some S
 |S,p::l=>(jv S p).bind λS'=>fN S' l
theorem gh:∀(a b:List Pr)(S:SS),fN S (a++b)=(fN S a).bind λS'=>fN S' b
 |[],b,S=>rfl
 |p::a,b,S=>by
  simp only[List.cons_append,fN];cases jv S p with
  |none=>rfl
  |some S'=>exact gh a b S'
theorem uC{l:List Pr}(h:l.Pairwise λx y=>Op.bytesLess x.k y.k=true):∀j,j<=l.length->jG l j=fN ([],[]) (l.take j)
 |0,_=>rfl
 |j+1,hj=>by
  have hlt:j<l.length:=by omega
  have e:l.getD j default=l[j]:=by simp[List.getD,Jm hlt]
  have hc:(decide (j=0)||Op.bytesLess (l.getD (j - 1) default).k (l.getD j default).k)=true:=by
   rcases Ly j with h0|h0
   ·simp[h0]
   ·have e1:l.getD (j - 1) default=l[j - 1]:=by simp[List.getD,Jm (show j - 1<l.length by omega)]
    rw[e,e1,Ks.1 h (j - 1) j aa hlt aa];simp
  rw[JV hlt,gh,<-uC h j aa];simp only[jG];congr 1;funext S;rw[JC hc,e];simp only[fN];cases jv S l[j] <;>rfl
def bare(b:Bk):Bk:=⟨b.n,b.st,[]⟩
section
variable{m:List Bk}(h:imB m=true)
include h
theorem IK{b:Bk}(hb:b∈m)(S:SS):jv S ⟨cw (kyB b),stS b.st⟩=some (S.1++[bare b],S.2):=by
 obtain ⟨e1,e2⟩:=E7 (IJ (nR h hb));unfold jv;rw[JC (gg (Ar h hb)).1,pB h hb];simp[jF,kyB,e1,e2,bare]
theorem Dd:∀(a:List Bk)(S:SS),(∀b∈a,b∈m)->fN S (BP a)=some (S.1++a.map bare,S.2)
 |[],S,_=>by simp[BP,fN]
 |b::a,S,hs=>by
  have e:BP (b::a)=⟨cw (kyB b),stS b.st⟩::BP a:=rfl;rw[e];simp only[fN];rw[IK h (hs b af)];simp only[Option.bind_some];rw[Dd a _ λc hc=>hs c (by simp[hc])];simp
end
def QPc(q:List Pc)(C:List Pr):Prop:=ju q/\(∀n o id,cD q n o id=(((C.filter (gD n o id)).map Pr.v).flatten,((C.filter (gD n o id)).length:Int)))/\∀p∈q,∃x∈C,gD p.b p.o p.id x=true
def FY(C:List Pr):Prop:=∀a p b,C=a++p::b->eR p.k=true/\(bo p.k).k=3/\(bo p.k).ns.getD 1 0=((a.filter (gD (bo p.k).b (bo p.k).o ((bo p.k).ns.getD 0 0))).length:Int)
theorem ni{p:Pr}(hk:(bo p.k).k=3)(n o:List UInt8)(id:Int):gD n o id p=true↔n=(bo p.k).b/\o=(bo p.k).o/\id=(bo p.k).ns.getD 0 0:=by
 unfold gD;rw[hk];simp only[JO,Ko,Jv,JE];constructor
 ·rintro ⟨a,b,c⟩;exact ⟨a.symm,b.symm,c.symm⟩
 ·rintro ⟨a,b,c⟩;exact ⟨a.symm,b.symm,c.symm⟩
theorem GN(m:List Bk)(C:List Pr)(hC:FY C):∃q,fN (m,[]) C=some (m,q)/\QPc q C:=by
 induction C using xY with
 |h0=>exact ⟨[],rfl,by simp[ju],λn o id=>rfl,λp hp=>by cases hp⟩
 |h1 a x ih=>
  obtain ⟨q,hq,h1,h2,h3⟩:=ih λu p v e=>hC u p (v++[x]) (by rw[e];simp);obtain ⟨g1,g2,g3⟩:=hC a x [] rfl;have hadd:jv (m,q) x=some (m,iT q (bo x.k).b (bo x.k).o ((bo x.k).ns.getD 0 0) ((cD q (bo x.k).b (bo x.k).o ((bo x.k).ns.getD 0 0)).1++x.v) ((cD q (bo x.k).b (bo x.k).o ((bo x.k).ns.getD 0 0)).2+1)):=by
   unfold jv;rw[JC g1];unfold jF;rw[Jr (by rw[g2];decide),JC g2,JC];simp only;rw[g3,h2]
  refine ⟨_,by rw[gh,hq];simp only[Option.bind_some,fN];rw[hadd];rfl,rF h1,λn o id=>?_,λp hp=>?_⟩
  ·rw[uz,List.filter_append];by_cases hp:n=(bo x.k).b/\o=(bo x.k).o/\id=(bo x.k).ns.getD 0 0
   ·rw[JC hp];have hc:=(ni g2 n o id).2 hp;have e:List.filter (gD n o id) [x]=[x]:=by simp[hc]
    obtain ⟨rfl,rfl,rfl⟩:=hp;rw[e,h2];simp
   ·rw[Jr hp,h2];have e:List.filter (gD n o id) [x]=[]:=by
     simp only[List.filter_cons,List.filter_nil];rw[Jr λhc=>hp ((ni g2 n o id).1 hc)]
    rw[e,JY]
  ·rcases mC hp with rfl|hp
   ·exact ⟨x,by simp,(ni g2 _ _ _).2 ⟨rfl,rfl,rfl⟩⟩
   ·obtain ⟨y,hy,e⟩:=h3 p hp;exact ⟨y,by simp[hy],e⟩
theorem De{m:List Bk}(n o:List UInt8)(id:Int):((aF (aI m)).filter (isK 3)).filter (gD n o id)=(aF (aI m)).filter (gD n o id):=by
 rw[List.filter_filter];refine List.filter_congr λx _=>?_;unfold gD isK;cases decide ((bo x.k).k=3)<;>simp
section
variable{m:List Bk}(h:imB m=true)
include h
theorem GO:FY ((aF (aI m)).filter (isK 3)):=by
 intro a p b e;have hp:p∈(aF (aI m)).filter (isK 3):=by rw[e];simp
 obtain ⟨hp,hk⟩:=Ku.1 hp;rcases (kS h p).1 hp with ⟨c,hc,rfl⟩|⟨c,hc,v,hv,rfl⟩|⟨c,hc,v,hv,k,hkc,rfl⟩
 ·unfold isK at hk;simp only[pB h hc] at hk;simp[kyB] at hk
 ·unfold isK at hk;simp only[pV h hc hv] at hk;simp[kyV] at hk
 ·have f:=Kd (List.filter (gD c.n v.o v.id)) e;rw[De,FV h hc hv,List.filter_append,List.filter_cons] at f;have hself:gD c.n v.o v.id ⟨cw (kyC c.n v k),chunk v.b k⟩=true:=by
   unfold gD;simp only[pC h hc hv hkc];simp[kyC]
  rw[JC hself] at f;simp only[pC h hc hv hkc];refine ⟨(gg (uy h hc hv hkc)).1,rfl,?_⟩;show (k:Int)=_;have hlen:(a.filter (gD c.n v.o v.id)).length<(CP c.n v).length:=by rw[f];simp
  have hcl:(CP c.n v).length=eQ v.b:=by simp[CP]
  have g:(CP c.n v)[(a.filter (gD c.n v.o v.id)).length]? =some ⟨cw (kyC c.n v k),chunk v.b k⟩:=by rw[f];simp
  have g2:(CP c.n v)[(a.filter (gD c.n v.o v.id)).length]? =some ⟨cw (kyC c.n v (a.filter (gD c.n v.o v.id)).length),chunk v.b (a.filter (gD c.n v.o v.id)).length⟩:=by
   unfold CP;rw[La,List.getElem?_range aa];rfl
  rw[g] at g2;simp only[JA,Pr.mk.injEq] at g2;have hkey:=key_inj (uy h hc hv hkc) (uy h hc hv aa) g2.1;have e0:c.n=(kyC c.n v k).b:=rfl;have ek:(kyC c.n v k).ns.getD 0 0=v.id:=rfl;rw[ek];show (k:Int)=((a.filter (gD c.n v.o v.id)).length:Int);simp only[kyC,Ky.mk.injEq,KP,Kc,K8] at hkey;exact hkey
end
def Q3(q:List Pc)(R:List (List UInt8 × Vs)):Prop:=ju q/\(∀r∈R,(cD q r.1 r.2.o r.2.id).1=r.2.b)/\∀p∈q,∃r∈R,p.b=r.1/\p.o=r.2.o/\p.id=r.2.id
def Fa(r:List UInt8 × Vs):Pr:=⟨cw (kyV r.1 r.2),kb r.2⟩
theorem Df{v:Vs}(hv:v.okV=true)(n:List UInt8):uB (kyV n v) (hdO (kb v)) v.b=v:=by
 rw[(p8 hv).2];rfl
theorem IL{m:List Bk}(h:imB m=true){b:Bk}(hb:b∈m){v:Vs}(hv:v∈b.l)(S:SS)(hn:S.1.map Bk.n=m.map Bk.n){i:Nat}(hi:i<m.length)(hbi:m.getD i default=b){R:List (List UInt8 × Vs)}(hq:Q3 S.2 ((b.n,v)::R))(hR:∀r∈R,¬(r.1=b.n/\r.2.o=v.o/\r.2.id=v.id)):
  ∃q',jv S (Fa (b.n,v))=some (qa S.1 i v,q')/\Q3 q' R:=by
 obtain ⟨h1,h2,h3⟩:=hq;have hov:=CC (nR h hb) hv;have hbody:(cD S.2 b.n v.o v.id).1=v.b:=h2 (b.n,v) af;have hrise:(m.map Bk.n).Pairwise λa b=>Op.bytesLess a b=true:=KN.2 (iQ h);have hnm:(m.map Bk.n).getD i []=b.n:=by
  have e:m.getD i default=m[i]:=by simp[List.getD,Jm hi]
  rw[<-hbi,e];simp[List.getD,La,Jm hi]
 obtain ⟨p1,p2⟩:=E9 hrise (z:=i) (by simpa using hi);rw[hnm] at p1 p2;refine ⟨iU S.2 b.n v.o v.id,?_,(nh h1).1,λr hr=>?_,λp hp=>?_⟩
 ·unfold jv Fa;simp only;rw[JC (gg (ux h hb hv)).1,pV h hb hv];unfold jF;rw[Jr (by simp[kyV]),Jr (by simp[kyV]),JC (by simp[kyV]),JC (p8 hov).1,hn];have e1:(kyV b.n v).b=b.n:=rfl;have e2:(kyV b.n v).o=v.o:=rfl;have e3:(kyV b.n v).ns.getD 0 0=v.id:=rfl;rw[e1,e2,e3,JC p2,p1,hbody,Df hov]
 ·rw[uA (λe=>hR r hr e)];exact h2 r (by simp[hr])
 ·obtain ⟨r,hr,e1,e2,e3⟩:=h3 p (mD hp);rcases JB.1 hr with rfl|hr
  ·exact absurd ⟨e1,e2,e3⟩ ((nh h1).2 p hp)
  ·exact ⟨r,hr,e1,e2,e3⟩
theorem Fb(a c:List Bk)(b:Bk)(v:Vs):qa (a++b::c) a.length v=a++⟨b.n,b.st,b.l++[v]⟩::c:=by
 unfold qa;have e:(a++b::c).getD a.length default=b:=by simp[List.getD]
 rw[e];simp
def qo(b:Bk):List (List UInt8 × Vs):=b.l.map λv=>(b.n,v)
theorem GP(b:Bk):VP b=(qo b).map Fa:=by
 unfold VP qo;rw[List.map_map];rfl
def sC(R:List (List UInt8 × Vs)):Prop:=R.Pairwise λx y=>¬(y.1=x.1/\y.2.o=x.2.o/\y.2.id=x.2.id)
theorem yk{m:List Bk}(h:imB m=true){b:Bk}(hb:b∈m){i:Nat}(hi:i<m.length)(hbi:m.getD i default=b)(a c:List Bk)(hai:a.length=i)(hnm:a.map Bk.n++b.n::c.map Bk.n=m.map Bk.n)(R:List (List UInt8 × Vs)):
  ∀(x y:List Vs),b.l=x++y->∀q,Q3 q (y.map (λv=>(b.n,v))++R)->sC (y.map (λv=>(b.n,v))++R)->∃q',fN (a++⟨b.n,b.st,x⟩::c,q) ((y.map λv=>(b.n,v)).map Fa)=some (a++b::c,q')/\Q3 q' R
 |x,[],hl,q,hq,_=>by
  rw[JY] at hl;refine ⟨q,?_,by simpa using hq⟩;simp only[J4,fN];rw[<-hl]
 |x,v::y,hl,q,hq,hR=>by
  have hv:v∈b.l:=by rw[hl];simp
  rw[JM,List.cons_append] at hq hR;obtain ⟨hR1,hR2⟩:=JP.1 hR;obtain ⟨q1,e1,hq1⟩:=IL h hb hv (a++⟨b.n,b.st,x⟩::c,q) (by simpa using hnm) hi hbi hq hR1;simp only at e1;rw[<-hai,Fb] at e1;obtain ⟨q2,e2,hq2⟩:=yk h hb hi hbi a c hai hnm R (x++[v]) y (by rw[hl];simp) q1 hq1 hR2;refine ⟨q2,?_,hq2⟩;rw[JM,JM];simp only[fN];rw[e1];exact e2
theorem ym{m:List Bk}(h:imB m=true):∀(a c:List Bk),m=a++c->∀q,Q3 q (c.map qo).flatten->sC (c.map qo).flatten->fN (a++c.map bare,q) ((c.map VP).flatten)=some (m,[])
 |a,[],hm,q,hq,_=>by
  obtain ⟨-,-,h3⟩:=hq;have:q=[]:=by
   cases q with
   |nil=>rfl
   |cons p q=>obtain ⟨r,hr,-⟩:=h3 p af;simp at hr
  subst this;simp only[J4,List.flatten_nil,fN];rw[hm]
 |a,b::c,hm,q,hq,hR=>by
  have hb:b∈m:=by rw[hm];simp
  have hi:a.length<m.length:=by rw[hm];simp
  have hbi:m.getD a.length default=b:=by rw[hm];simp[List.getD]
  rw[JM,List.flatten_cons] at hq hR;have hnm:a.map Bk.n++b.n::(c.map bare).map Bk.n=m.map Bk.n:=by
   rw[hm,List.map_map,KC,JM];rfl
  obtain ⟨q1,e1,hq1⟩:=yk h hb hi hbi a (c.map bare) rfl hnm (c.map qo).flatten [] b.l rfl q hq hR;have hR2:sC (c.map qo).flatten:=(Lp.1 hR).2.1;have ih:=ym h (a++[b]) c (by rw[hm];simp) q1 hq1 hR2;rw[JM,JM,List.flatten_cons,gh,GP];have eb:bare b=⟨b.n,b.st,[]⟩:=rfl;rw[eb];have ev:qo b=b.l.map λv=>(b.n,v):=rfl;rw[ev,e1];simp only[Option.bind_some];simpa using ih
theorem Au{m:List Bk}(h:imB m=true):sC (m.map qo).flatten:=by
 refine List.pairwise_flatten.2 ⟨λl hl=>?_,?_⟩
 ·obtain ⟨b,hb,rfl⟩:=JF.1 hl;unfold qo;refine KN.2 ((oA (nR h hb)).imp λhn=>?_);rintro ⟨-,e2,e3⟩;rcases next_ne hn with h1|h1
  ·exact h1 e2.symm
  ·exact h1 e3.symm
 ·refine KN.2 ((iQ h).imp λ{a b} hn x hx y hy=>?_);obtain ⟨u,-,rfl⟩:=JF.1 hx;obtain ⟨v,-,rfl⟩:=JF.1 hy;rintro ⟨e1,-⟩;exact oy hn e1.symm
theorem Aw{m:List Bk}(h:imB m=true):jG (aF (aI m)) (aF (aI m)).length=some (m,[]):=by
 rw[uC (gW _) _ (Jl _),J1,As h,gh,II h,Dd h m _ λb hb=>hb];simp only[Option.bind_some,List.nil_append];rw[gh];obtain ⟨q,hq,q1,q2,q3⟩:=GN (m.map bare) _ (GO h);rw[hq];simp only[Option.bind_some];rw[GL h];have:=ym h [] m rfl q ⟨q1,λr hr=>?_,λp hp=>?_⟩ (Au h)
 ·simpa using this
 ·obtain ⟨l,hl,hr⟩:=Ke.1 hr;obtain ⟨b,hb,rfl⟩:=JF.1 hl;obtain ⟨v,hv,rfl⟩:=JF.1 hr;rw[q2,De,FV h hb hv];have e:(CP b.n v).map Pr.v=(List.range (eQ v.b)).map (chunk v.b):=by
   unfold CP;rw[List.map_map];rfl
  simp only;rw[e,wS]
 ·obtain ⟨x,hx,e⟩:=q3 p hp;obtain ⟨hx,hk⟩:=Ku.1 hx;rcases (kS h x).1 hx with ⟨c,hc,rfl⟩|⟨c,hc,v,hv,rfl⟩|⟨c,hc,v,hv,k,hkc,rfl⟩
  ·unfold isK at hk;simp only[pB h hc] at hk;simp[kyB] at hk
  ·unfold isK at hk;simp only[pV h hc hv] at hk;simp[kyV] at hk
  ·unfold gD at e;simp only[pC h hc hv hkc] at e;simp[kyC] at e;exact ⟨(c.n,v),Ke.2 ⟨qo c,JF.2 ⟨c,hc,rfl⟩,JF.2 ⟨v,hv,rfl⟩⟩,(JL e.1).symm,(JL e.2.1).symm,e.2.2.symm⟩
theorem Dg(p:Addr)(w:World):
  CallsD Tryz.prog 104 #[.pointer (some p)] .returning w λe u' w'=>e= .returned (.tuple #[])/\u'= .returning/\w'=w:=by
 refine callsD_of_wpS Tryz.func104 rfl λc₀ cs hu=>?_;apply wpS_seq;apply wpS_region;simp[wpOpsS,go_sem,recoverD,hu,Tryz.ntmps104,Exit.thenS];apply wpS_seq;apply wpS_seq;apply wpS_region;simp[wpOpsS,go_sem,Array.replicate];refine wpS_cond (t:=true) (by simp[Act.eval]) ?_;simp only[Jw];refine wpS_of_wp (wp_ret ?_);cases c₀
 simp_all [Exit.thenS,bodyPostS,results,Tryz.results104]
theorem Dh(k:Int)(w:World):(Instr.typeAssert (.iface 28 (.int .i64 k)) 20 28 true).run Tryz.prog w= .ok (.tuple #[.int .i64 k,.bool true]) w:=by kernel_rfl
theorem wV(p:Addr)(x:Int)(k:Int)(w:World)(hc:w.cell? p=some (.int .i64 x))(hz:w.frozen? p=false):
  CallsD Tryz.prog 104 #[.pointer (some p)] (.panicking [{v:= .iface 28 (.int .i64 k),recovered:=false}]) w λe u' w'=>
   e= .returned (.tuple #[])/\u'= .panicking [{v:= .iface 28 (.int .i64 k),recovered:=true}]/\w'=w.setCell p (.int .i64 k):=by
 refine callsD_of_wpS Tryz.func104 rfl λc₀ cs hu=>?_;apply wpS_seq;apply wpS_region;simp[wpOpsS,go_sem,recoverD,hu,Tryz.ntmps104,Exit.thenS];apply wpS_seq;apply wpS_seq;apply wpS_region;simp[wpOpsS,go_sem,Array.replicate];refine wpS_cond (t:=false) (by simp[Act.eval]) ?_;simp only[Jy,Js];refine wpS_of_wp (wp_skip ?_);simp only[Exit.thenS];apply wpS_seq;apply wpS_region;simp[wpOpsS,go_sem,Exit.thenS,Dh];apply wpS_seq;apply wpS_seq;apply wpS_region;simp[wpOpsS,go_sem];refine wpS_cond (t:=false) (by simp[Act.eval]) ?_;simp only[Jy,Js];refine wpS_of_wp (wp_skip ?_);simp only[Exit.thenS];apply wpS_region;simp[wpOpsS,go_sem,hc,hz,bodyPostS,results,Tryz.results104]
theorem rG{G G2:aE}{w w1 w2:World}{h h':H}{x:Value}(k:Value)(R:aM G h w)(T1:Av.Trans G w h (mj G w.heap.size) w1 h)(R1:aM (mj G w.heap.size) h w1)(hs:w.heap.size<w1.heap.size)(n1:¬h.O (mj G w.heap.size) w.heap.size)
  (T2:Av.Trans (mj G w.heap.size) w1 h G2 w2 h') (R2:aM G2 h' w2) {T:TypeId} {fr:Nat × Nat} (hA:w2.heap[w.heap.size]? =some (.cells #[x] T fr)):
  Av.Trans G w h G2 (w2.setCell ⟨w.heap.size,0,none⟩ k) h'/\aM G2 h' (w2.setCell ⟨w.heap.size,0,none⟩ k):=by
 have ho:G2.own w.heap.size:=(T2.own_keep _ hs n1).2 (.inl rfl);have t:=zr (x:=k) hA ho;exact ⟨(T1.trans R R1 T2).set t (Jl _),R2.set t λx=>n1 (T2.O_new _ hs x)⟩
theorem GQ{g:Nat}{fn:Func}{first caps:List AV}{h h':H}{r:AV}(hg:Tryz.prog.funcs[g]? =some fn)(hb:fn.body.isSome=true)(hn:fn.name≠ "runtime.NumGoroutine")
  (hc:aS Tryz.prog g (first++caps) h r h'):aS Tryz.prog 54 [.clo (.func g) first caps] h (.int .i64 0) h':=by
 intro G w vs hv R F;simp only[ay,au] at hv;obtain ⟨v,us,rfl,⟨fv,cv,rfl,h1,h2⟩,rfl⟩:=hv;have hmf:∀(fn:Fn)(first cap:Array Value)(w:World),(Instr.makeFunc fn first cap).run Tryz.prog w= .ok (.func fn first cap) w:=λ_ _ _ _=>rfl
 go_enter_defers Tryz.func54,Tryz.ntmps54
 go_wp2
 rename_i Q' K1 k1 K2 k2;rw[dR _ hg hb hn];let o:Go.Obj:= .cells #[.int .i64 0] 28
 have hp:cM w (w.alloc o) o:=⟨rfl,rfl,rfl⟩;obtain ⟨T1,R1,n1,n2⟩:=tp R hp;have F1:bP (mj G w.heap.size) h h':=F;have hv1:ay (mj G w.heap.size) (w.alloc o) (first++caps) (fv++cv):=(ay.mono R T1 _ _ h1).append (ay.mono R T1 _ _ h2);show Calls _ _ _ _ _;refine (hc _ _ _ hv1 R1 F1).mono ?_;rintro e w2 ⟨v2,G2,rfl,T2,R2,-⟩;have hA:w2.heap[w.heap.size]? =some o:=(T2.keep _ (by rw[hp.size];omega) n1 n2).trans hp.new;have hcell:w2.cell? {block:=w.heap.size,off:=0}=some (.int .i64 0):=by
  unfold World.cell?;simp only[hA,o];rfl
 have hfz:w2.frozen? {block:=w.heap.size,off:=0}=false:=by
  unfold World.frozen?;simp only[hA,o];rfl
 apply k2
 go_wp2
 obtain ⟨T3,R3⟩:=rG (.int .i64 0) R T1 R1 (by rw[hp.size];omega) n1 T2 R2 hA;have hB:=xv (x:= .int .i64 0) hA;refine leaves_cons (f:=104) (args:= #[.pointer (some ⟨w.heap.size,0,none⟩)]) af (by simp[go_sem]) ?_;refine (Dg ⟨w.heap.size,0,none⟩ _).mono ?_;rintro e u' w'' ⟨rfl,rfl,rfl⟩;generalize w2.setCell ⟨w.heap.size,0,none⟩ (.int .i64 0)=w3 at T3 R3 hB |-;have hcell3:w3.cell? {block:=w.heap.size,off:=0}=some (.int .i64 0):=by
  unfold World.cell?;simp only[hB];rfl
 simp[Leaves,settle,results,Tryz.results54,go_sem,hcell3];exact ⟨G2,T3,R3,by simp[au]⟩
theorem Fc{g:Nat}{fn:Func}{first caps:List AV}{h h':H}{k:Int}(hg:Tryz.prog.funcs[g]? =some fn)(hb:fn.body.isSome=true)(hn:fn.name≠ "runtime.NumGoroutine")
  (hc:fh Tryz.prog g (first++caps) h (.iface 28 (.int .i64 k)) h'):aS Tryz.prog 54 [.clo (.func g) first caps] h (.int .i64 k) h':=by
 intro G w vs hv R F;simp only[ay,au] at hv;obtain ⟨v,us,rfl,⟨fv,cv,rfl,h1,h2⟩,rfl⟩:=hv;have hmf:∀(fn:Fn)(first cap:Array Value)(w:World),(Instr.makeFunc fn first cap).run Tryz.prog w= .ok (.func fn first cap) w:=λ_ _ _ _=>rfl
 go_enter_defers Tryz.func54,Tryz.ntmps54
 go_wp2
 rename_i Q' K1 k1 K2 k2;rw[dR _ hg hb hn];let o:Go.Obj:= .cells #[.int .i64 0] 28
 have hp:cM w (w.alloc o) o:=⟨rfl,rfl,rfl⟩;obtain ⟨T1,R1,n1,n2⟩:=tp R hp;have F1:bP (mj G w.heap.size) h h':=F;have hv1:ay (mj G w.heap.size) (w.alloc o) (first++caps) (fv++cv):=(ay.mono R T1 _ _ h1).append (ay.mono R T1 _ _ h2);show Calls _ _ _ _ _;refine (hc _ _ _ hv1 R1 F1).mono ?_;rintro e w2 ⟨G2,rfl,T2,R2⟩;have hA:w2.heap[w.heap.size]? =some o:=(T2.keep _ (by rw[hp.size];omega) n1 n2).trans hp.new;have hcell:w2.cell? {block:=w.heap.size,off:=0}=some (.int .i64 0):=by
  unfold World.cell?;simp only[hA,o];rfl
 have hfz:w2.frozen? {block:=w.heap.size,off:=0}=false:=by
  unfold World.frozen?;simp only[hA,o];rfl
 obtain ⟨T3,R3⟩:=rG (.int .i64 k) R T1 R1 (by rw[hp.size];omega) n1 T2 R2 hA;have hB:=xv (x:= .int .i64 k) hA;show Leaves _ _ _ _ _ _ _;refine leaves_cons (f:=104) (args:= #[.pointer (some ⟨w.heap.size,0,none⟩)]) af (by simp[go_sem]) ?_;refine (wV ⟨w.heap.size,0,none⟩ 0 k _ hcell hfz).mono ?_;rintro e u' w'' ⟨rfl,rfl,rfl⟩;generalize w2.setCell ⟨w.heap.size,0,none⟩ (.int .i64 k)=w3 at T3 R3 hB |-;have hcell3:w3.cell? {block:=w.heap.size,off:=0}=some (.int .i64 k):=by
  unfold World.cell?;simp only[hB];rfl
 simp[Leaves,settle,results,Tryz.results54,go_sem,hcell3];exact ⟨G2,T3,R3,by simp[au]⟩
abbrev v4:Value:= .iface 28 (.int .i64 4)
theorem kp:aH Tryz.prog 56 [.bool true] (.tup []):=by
 refine f56.aG af rfl rfl ?_;unfold c56 zz;refine fC ?_;exact ⟨trivial,_,rfl,ar.refl _⟩
theorem fR:Gd Tryz.prog 56 [.bool false] v4:=by
 intro n m;obtain ⟨v,h',hc,rfl,rfl⟩:=aU.Hh (Q:=λv h'=>v=v4/\h'=H0 n m) (args:=[.bool false]) (h:=H0 n m) f56 af (by
  unfold c56 zz;refine Wp.cE xA1 ag ?_;refine Wp.cond_true xA2 ?_;refine Wp.Hg (cC.eval (dJ xA1) ?_);refine cC.here (R:=λv h'=>∃v',aC.panic v= .panic v'/\v'=v4/\h'=H0 n m) (en:=aO) rfl (bu _) (λops i o ho hit=>vn ho hit rfl rfl rfl) (λl hl=>by cases hl) ?_;exact ⟨_,rfl,rfl,rfl⟩)
 exact hc
theorem FZ(x y:List UInt8):aH Tryz.prog 96 [.str x,.str y] (.int .i64 (kW x y)):=by
 intro n m G w vs hv R F;simp only[ay,au] at hv;obtain ⟨_,_,rfl,rfl,_,_,rfl,rfl,rfl⟩:=hv;refine (qY x y w).mono ?_;rintro e w' ⟨rfl,rfl⟩;exact ⟨_,G,rfl,Trans.refl _ _ _,R,by simp[au]⟩
theorem yn(x y:List UInt8):decide (kW x y<0)=Op.bytesLess x y:=by
 unfold kW;cases h:Op.bytesLess x y<;>cases h2:Op.bytesLess y x<;>simp
theorem yo(x y:List UInt8):decide (kW x y=0)=decide (x=y):=by
 unfold kW;rcases Batch.dK x y with h|h|h
 ·have hn:¬x=y:=λe=>by rw[e,Batch.bC] at h;cases h
  simp[h,hn]
 ·subst h;simp[Batch.bC]
 ·have hn:¬x=y:=λe=>by rw[e,Batch.bC] at h;cases h
  have:=Batch.pt h;simp[h,hn,this]
theorem F3(n:List UInt8)(st:Int)(l:List Vs)(nm:List UInt8):aH Tryz.prog 114 [.agg [.str n,.int .i64 st,.sl 8 (vss l) .any],.str nm] (.int .i64 (kW n nm)):=by
 refine f114.aG af (by simp[aD,aP,bw,my]) rfl ?_;unfold Ht zz;have cc:=FZ n nm;refine rZ cc ?_;refine aK ?_;exact ar.refl _
def mE(x:Bk × Nat):List AV:=[.str x.1.n,.int .i64 x.1.st,.sl 8 (vss x.1.l) (.own x.2)]
def dX(bt:List (Bk × Nat)):List AV:=bt.flatMap mE
def bV(bt:List (Bk × Nat))(k:Nat):AV:=if bt=[] then .sl 3 [] (.exact 0) else .tsl 3 k 0 bt.length none
theorem fO:∀bt:List (Bk × Nat),(dX bt).length=bt.length*3
 |[]=>rfl
 |a::bt=>by
  have:=fO bt;simp only[dX,Kw,Ju,List.length_cons] at*
  have:(mE a).length=3:=rfl;omega
theorem oF(bt:List (Bk × Nat))(i:Nat)(h:i<bt.length):dX bt=dX (bt.take i)++(mE (bt.getD i default)++dX (bt.drop (i+1))):=by
 have e:bt.getD i default=bt[i]:=by simp[List.getD,Jm h]
 unfold dX;rw[e];have e2:bt=bt.take i++bt[i]::bt.drop (i+1):=by rw[<-List.drop_eq_getElem_cons h,Kj]
 conv=>lhs;rw[e2]
 rw[List.flatMap_append,Kw]
theorem Ax(bt:List (Bk × Nat))(i:Nat)(h:i<bt.length):((dX bt).drop (i*3)).take 3=mE (bt.getD i default):=by
 have hl:(dX (bt.take i)).length=i*3:=by rw[fO,JU,KB aa]
 rw[oF bt i h,<-hl,List.drop_left];exact List.take_left' rfl
theorem F4(h:H)(bt:List (Bk × Nat))(k:Nat)(nm:List UInt8)(hk:bt≠[]->h.objs k=some (.cells (dX bt)))(hl:bt.length<=1000000):
  aS Tryz.prog 113 [bV bt k,.str nm,.clo (.func 114) [] []] h (.tup [.int .i64 (gI ((bt.map Prod.fst).map Bk.n) nm),.bool (eU ((bt.map Prod.fst).map Bk.n) nm)]) h:=by
 refine aU.xx f113 af ?_;unfold Hs zz;by_cases hb:bt=[]
 ·subst hb;have hv:bV [] k= .sl 3 [] (.exact 0):=rfl;have hp:gI (([]:List (Bk × Nat)).map Prod.fst |>.map Bk.n) nm=0:=rfl;have ht:eU (([]:List (Bk × Nat)).map Prod.fst |>.map Bk.n) nm=false:=rfl;rw[hv,hp,ht];refine rf0 @Jx.{0} ?_;refine Wp.eX [0,1,2,8] xA7 (λ_:Nat=>[(9,.int .i64 0),(10,.int .i64 0)]) (λ_=>h) (λ_=>True) (λj=>j) 0 trivial rfl ?_ ?_
  ·exact xSb
  intro _ _;have d:decide ((0:Int)<0)=false:=by decide
  refine rf0 (cj2 @Jx.{0} d) ?_;refine Wp.ret ⟨trivial,_,rfl,?_,rfl⟩;exact ar.refl _
 ·have ho:=hk hb;have hv:bV bt k= .tsl 3 k 0 bt.length none:=by unfold bV;rw[Jr hb]
  rw[hv];have hrl:=fO bt;have hcell:=λi hi=>Ax bt i hi;have hnl:((bt.map Prod.fst).map Bk.n).length=bt.length:=by simp
  have hng:∀i,i<bt.length->((bt.map Prod.fst).map Bk.n).getD i []=(bt.getD i default).1.n:=λi hi=>by
   simp[List.getD,Jm hi]
  generalize dX bt=cs at*
  have hbp:gI ((bt.map Prod.fst).map Bk.n) nm=fw ((bt.map Prod.fst).map Bk.n) nm bt.length 0 bt.length:=by unfold gI;rw[hnl]
  have hbt:eU ((bt.map Prod.fst).map Bk.n) nm=(decide (gI ((bt.map Prod.fst).map Bk.n) nm<bt.length)&&decide (((bt.map Prod.fst).map Bk.n).getD (gI ((bt.map Prod.fst).map Bk.n) nm) []=nm)):=by unfold eU;rw[hnl]
  rw[hbt];generalize (bt.map Prod.fst).map Bk.n=ns at*
  generalize gI ns nm=bp at*
  refine fC ?_;refine Wp.eX [0,1,2,8] xA7 (λj:Nat × Nat × Nat=>[(9,.int .i64 (j.2.1:Nat)),(10,.int .i64 (j.2.2:Nat))]) (λ_=>h) (λj=>j.2.2 - j.2.1<=j.1/\j.2.1<=j.2.2/\j.2.2<=bt.length/\fw ns nm j.1 j.2.1 j.2.2=bp) (λj=>j.1) (bt.length,0,bt.length) ⟨by simp,JJ _,Jl _,hbp.symm⟩ rfl ?_ ?_
  ·exact xSb
  rintro ⟨f,i,j⟩ ⟨a1,a2,a3,a4⟩;simp only at a1 a2 a3 a4;by_cases hc:i<j
  ·have d1:decide ((i:Int)<(j:Int))=true:=Jt aa;have e1:IntKind.i64.wrap ((i:Int)+(j:Int))=((i+j:Nat):Int):=by rw[IntWalk.i64_in _ aa];omega
   have e2:IntKind.u64.wrap ((i+j:Nat):Int)=((i+j:Nat):Int):=IntWalk.u64_in _ aa;have e3:((i+j:Nat):Int).fdiv (2^(min (Int.toNat 1) 64))=(((i+j)/2:Nat):Int):=by
    rw[show min (Int.toNat 1) 64=1 from rfl,Ls _ aa];omega
   have e4:IntKind.i64.wrap (((i+j)/2:Nat):Int)=(((i+j)/2:Nat):Int):=IntWalk.i64_in _ aa;have e5:¬(1:Int)<0:=by omega
   obtain ⟨f,rfl⟩:∃f',f=f'+1:=⟨f - 1,aa⟩;have c1:(i+j)/2<j:=by omega
   have c2:i<=(i+j)/2:=by omega
   have hcl:=hcell ((i+j)/2) aa;have hg:=hng ((i+j)/2) aa;simp only[fw,JC hc] at a4;generalize (i+j)/2=c at*
   have p1:(0:Int)<=(c:Int):=by omega
   have p2:(c:Int)<(bt.length:Int):=by omega
   have p3:c*3+3<=cs.length:=by omega
   unfold mE at hcl;have cc:=F3 (bt.getD c default).1.n (bt.getD c default).1.st (bt.getD c default).1.l nm;rw[hg] at a4;generalize bt.getD c default=bb at*
   have hlt:=yn bb.1.n nm;generalize kW bb.1.n nm=r at*
   refine rf0 (bF d1 e1 e2 e3 e4 e5 xy p1 p2 p3 ho (cj2 hcl @Jq)) ?_;refine an.mN (by simp only[go_sem,reduceIte,Nat.reduceEqDiff,Nat.reduceAdd,bx];try rfl) al rfl rfl ah (by simp only[go_sem,reduceIte,Nat.reduceEqDiff,List.map];exact aw.cons (ar.agg (aw.cons (ar.refl _) (aw.cons (ar.refl _) (aw.cons ar.cap aw.nil)))) (aw.cons (ar.refl _) aw.nil)) cc ?_;cases hb2:Op.bytesLess bb.1.n nm with
   |true=>
    rw[hb2] at hlt a4;simp only[Jw] at a4;refine an.evF (xAd hlt) ?_;have e6:IntKind.i64.wrap ((c:Int)+1)=((c+1:Nat):Int):=by rw[IntWalk.i64_in _ aa];omega
    refine rf0 hlt ?_;refine ⟨(f,c+1,j),⟨by simp only;omega,by simp only;omega,a3,a4⟩,by simp only;omega,?_⟩;refine aJ.of (bc ?_) (OLe.bX _) (λa ha=>ha) (Jl _) (Jl _);exact dU e6
   |false=>
    rw[hb2] at hlt a4;simp only[Jy,Js] at a4;refine an.evF (xAd hlt) ?_;refine rf0 hlt ?_;refine ⟨(f,i,c),⟨by simp only;omega,c2,by simp only;omega,a4⟩,by simp only;omega,?_⟩;refine aJ.of (bc ?_) (OLe.bX _) (λa ha=>ha) (Jl _) (Jl _);exact xSb
  ·obtain rfl:i=j:=by omega
   have hbi:bp=i:=by
    cases f with
    |zero=>exact a4.symm
    |succ f=>simp only[fw,Jr hc] at a4;exact a4.symm
   subst hbi;have d1:decide ((bp:Int)<(bp:Int))=false:=Jn aa;by_cases hlt:bp<bt.length
   ·have d2:decide ((bp:Int)<(bt.length:Int))=true:=Jt aa;have d3:decide (bp<bt.length)=true:=Jt hlt;have hcl:=hcell bp hlt;have hg:=hng bp hlt;have p1:(0:Int)<=(bp:Int):=by omega
    have p2:(bp:Int)<(bt.length:Int):=by omega
    have p3:bp*3+3<=cs.length:=by omega
    unfold mE at hcl;have cc:=F3 (bt.getD bp default).1.n (bt.getD bp default).1.st (bt.getD bp default).1.l nm;rw[hg];generalize bt.getD bp default=bb at*
    have hlt:=yo bb.1.n nm;generalize kW bb.1.n nm=r at*
    refine rf0 (cj8 d1 d2 p1 p2 p3 ho hcl @Jq) ?_;refine an.mN (by simp only[go_sem,reduceIte,Nat.reduceEqDiff,Nat.reduceAdd,bx];try rfl) al rfl rfl ah (by simp only[go_sem,reduceIte,Nat.reduceEqDiff,List.map];exact aw.cons (ar.agg (aw.cons (ar.refl _) (aw.cons (ar.refl _) (aw.cons ar.cap aw.nil)))) (aw.cons (ar.refl _) aw.nil)) cc ?_;refine an.evF (xAd hlt) ?_;refine rf0 hlt ?_;refine Wp.ret ⟨trivial,_,rfl,?_,rfl⟩;rw[d3,Ko];exact ar.refl _
   ·have d2:decide ((bp:Int)<(bt.length:Int))=false:=Jn aa;have d3:decide (bp<bt.length)=false:=Jn hlt;refine rf0 (cj2 d1 d2) ?_;refine Wp.ret ⟨trivial,_,rfl,?_,rfl⟩;rw[d3,Kp];exact ar.refl _
theorem Di(m:List Bk)(hl:m.length<=35184372088832)(hv:∀b∈m,b.l.length<=35184372088832):aH Tryz.prog 22 [bD m,bD m] (.bool true):=by
 refine f22.aG af (by simp[aD,cJ]) rfl ?_;unfold c22 bD zz;have len:=gC m;have e0:decide (((m.length:Nat):Int)=((m.length:Nat):Int))=true:=Jt rfl;refine rn0 (cj3 @len e0 @Kb) ?_;refine Wp.tv [2,3] (by simp only[go_sem,reduceIte,Nat.reduceEqDiff,List.map,len];exact rfl) (λj:Nat=>[(5,.int .i64 j)]) (λj=>j<=m.length) (λj=>m.length - j) 0 (JJ _) ?_ ?_
 ·exact xSb
 rintro j n hn hj;have hn':2<=n:=hn;have n0:¬(0=n):=by omega
 have n1:¬(1=n):=by omega
 have n0':¬(n=0):=by omega
 have n1':¬(n=1):=by omega
 have o0:¬(0=n+1):=by omega
 have o1:¬(1=n+1):=by omega
 have o2:¬(n=n+1):=by omega
 have o3:¬(n+1=n):=by omega
 by_cases hc:j<m.length
 ·have h2:(0:Int)<=(j:Int):=by omega
  have q1:decide ((j:Int)<(m.length:Int))=true:=Jt aa;have h3:(j:Int)<(m.length:Int):=by omega
  have e1:IntKind.i64.wrap ((j:Int)+1)=((j+1:Nat):Int):=by rw[IntWalk.i64_in _ aa];omega
  have gj:=λd=>iP m j d hc;have hlb:(m.getD j default).l.length<=35184372088832:=hv _ (by rw[Av.gS hc];exact KG hc);generalize m.getD j default=v at*
  obtain ⟨nm,st,l⟩:=v;simp only at hlb;unfold iO at gj;have len2:=fE l;have ev:decide (((l.length:Nat):Int)=((l.length:Nat):Int))=true:=Jt rfl;refine rn0 (bF @q1 h2 h3 e1 n0 n1 n0' n1' o0 o1 o2 (cj8 o3 @Jq gj @len len2 ev @JO @Kb)) ?_;refine aq.nil ⟨by simp[aZ,aR,apart,aO,n0,n1,n0',n1',o0,o1,o2,o3],?_⟩;refine rn0 (bF n0 n1 n0' n1' o0 o1 o2 o3 len2 ev e1 (cj4 @KH.{0} @bne_self_eq_false.{0} @JO @Kb)) ?_;refine Wp.tv [2,3,6,7] xA7 (λi:Nat=>[(5,.int .i64 j),(8,.int .i64 i)]) (λi=>i<=l.length) (λi=>l.length - i) 0 (JJ _) ?_ ?_
  ·exact xSb
  rintro i k hk hi;have hk':n+1+1<=k:=hk;by_cases hci:i<l.length
  ·have i2:(0:Int)<=(i:Int):=by omega
   have i1:decide ((i:Int)<(l.length:Int))=true:=Jt aa;have i3:(i:Int)<(l.length:Int):=by omega
   have i4:IntKind.i64.wrap ((i:Int)+1)=((i+1:Nat):Int):=by rw[IntWalk.i64_in _ aa];omega
   have gi:=λd=>j0 l i d hci;generalize l.getD i default=v at*
   unfold dG at gi;refine rn0 (bF i1 i2 i3 i4 n0 n1 n0' n1' o0 o1 o2 (jD o3 @Jq gi len2 @KH.{0} @bne_self_eq_false.{0} @JO @K3 @JK.{0,0} @Kb)) ?_;refine ⟨i+1,k,by show n+1+1<=k;omega,aa,aa,?_⟩;refine aJ.of (bc ?_) (λa o ho=>⟨o,ho,dP.refl _⟩) (λ_ h=>h) (Jl _) (Jl _);exact dU i4
  ·have hi2:i=l.length:=by omega
   subst hi2;have i1:decide ((l.length:Int)<(l.length:Int))=false:=Jn aa;refine rn0 (nU i1 e1 n0 n1 n0' n1' o0 o1 o2 o3 len2) ?_;refine ⟨j+1,k,by show 2<=k;omega,aa,aa,?_⟩;refine aJ.of (bc ?_) (λa o ho=>⟨o,?_,dP.refl _⟩) (λ_ h=>h) (Jl _) (Jl _)
   ·exact dU e1
   ·simp only[upd,av] at ho |-;by_cases a1:a=1
    ·subst a1;simpa [o1,n1,n0',n1'] using ho
    ·by_cases a0:a=0
     ·subst a0;simpa [o0,n0,n0'] using ho
     ·rw[Jr a1,Jr a0] at ho;cases ho
 ·have hj2:j=m.length:=by omega
  subst hj2;have q1:decide ((m.length:Int)<(m.length:Int))=false:=Jn aa;refine rn0 (cj2 @q1 @len) ?_;refine aK ?_;exact ar.refl _
end Go.Proofs.YtjnoobmaedgooaaGreat.Arch
end
