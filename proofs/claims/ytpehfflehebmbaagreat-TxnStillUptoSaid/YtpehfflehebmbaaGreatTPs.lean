/- TxnStill: the statement 'TxnStillUptoSaid', closed by the law that the walk shows. Condition: the arguments are together of bulk at most 1048576. -/
import Derived.JoinedCond
import Derived.Test.YtpehfflehebmbaaGreatTPE
set_option linter.unusedSimpArgs false
set_option linter.unusedVariables false
section
set_option maxRecDepth 100000
namespace Go.Proofs.YtpehfflehebmbaaGreat.C
open Go.Av
def c4:AC:=(.seq (.reg [zG 10 (.mov (.c (.bool false)))] none)
 (.seq (.seq (.reg [zM 18 0,zG 19 (.call 7 [(.t 18)]),zN 20 19,zM 21 20,zm 22 21 false 1,zg 23 21 false (.call 7 [(.t 22)]),zn 24 21 false 23,zO 25 21 24,zM 26 25,zm 27 26 false 2,zg 28 26 false (.len false (.t 27)),zg 29 26 false (.bin .gtr (.t 28) (.c (.int .i64 20))),zO 30 26 29,zM 31 30,zm 32 31 false 3,zg 33 31 false (.len true (.t 32)),zg 34 31 false (.bin .gtr (.t 33) (.c (.int .i64 1000))),zO 35 31 34,zM 36 35,zm 37 36 false 4,zg 38 36 false (.len true (.t 37)),zg 39 36 false (.bin .gtr (.t 38) (.c (.int .i64 1000))),zO 40 36 39] none)
 (.cond (.t 40) (.seq (.reg [zG 41 (.call 8 []),zM 10 41] none)
 .ret) .skip))
 (.seq (.reg [zM 42 0,zG 43 (.call 9 [(.t 42)]),zM 11 43] none)
 (.seq (.seq (.reg [zM 44 11,zG 45 (.eqP false (.t 44) (.c (.sc (.pointer none))))] none)
 (.cond (.t 45) (.seq (.reg [zG 10 (.mov (.c (.bool false)))] none)
 .ret) .skip))
 (.seq (.seq (.reg [zG 12 (.mov (.c (.int .i64 0)))] none)
 (.block 0 (.loop (.seq (.seq (.reg [zM 46 12,zM 47 1,zG 48 (.len false (.t 47)),zG 49 (.bin .lss (.t 46) (.t 48))] none)
 (.cond (.t 49) .skip (.exit 0)))
 (.seq (.block 1 (.seq (.reg [zM 52 1,zM 53 12,zG 54 (.iaddr 5 (.t 52) (.t 53)),zF 55 0 54,zL 56 55,zG 57 (.bin .neq (.t 56) (.c (.int .i64 6))),zM 58 57,zm 59 58 true 1,zm 60 58 true 12,zg 61 58 true (.iaddr 5 (.t 59) (.t 60)),zf 62 58 true 0 61,zl 63 58 true 62,zg 64 58 true (.bin .neq (.t 63) (.c (.int .i64 5))),zA 65 58 64,zM 66 65,zm 67 66 true 11,zm 68 66 true 1,zm 69 66 true 12,zg 70 66 true (.iaddr 5 (.t 68) (.t 69)),zw 71 66 true 5 70,zg 72 66 true (.call 10 [(.t 67),(.t 71)]),zn 73 66 true 72,zA 74 66 73] none)
 (.cond (.t 74) (.seq (.reg [zG 10 (.mov (.c (.bool false)))] none)
 .ret) .skip)))
 (.reg [zM 50 12,zG 51 (.bin .add (.t 50) (.c (.int .i64 1))),zM 12 51] none))))))
 (.seq (.reg [zM 76 11,zK 77 76,zF 78 4 77,zL 79 78,zM 80 3,zM 81 4,zG 82 (.call 15 [(.t 79),(.t 80),(.t 81),(.c (.int .i64 (-1)))]),zM 75 82,zE 83 75 0,zE 84 75 1,zM 13 83,zM 14 84] none)
 (.seq (.seq (.reg [zG 15 (.mov (.c (.int .i64 0)))] none)
 (.block 2 (.loop (.seq (.seq (.reg [zM 85 15,zM 86 2,zG 87 (.len false (.t 86)),zG 88 (.bin .lss (.t 85) (.t 87))] none)
 (.cond (.t 88) .skip (.exit 2)))
 (.seq (.block 3 (.reg [zM 91 11,zK 92 91,zF 93 0 92,zL 94 93,zM 95 11,zK 96 95,zF 97 0 96,zL 98 97,zG 99 (.call 12 [(.t 98)]),zG 100 (.bin .add (.t 99) (.c (.int .i64 1))),zM 101 2,zM 102 15,zG 103 (.iaddr 1 (.t 101) (.t 102)),zL 104 103,zG 105 (.call 18 [(.t 94),(.t 100),(.t 104)])] (some [(3,7),(3,8),(3,13),(7,13),(8,13)])))
 (.reg [zM 89 15,zG 90 (.bin .add (.t 89) (.c (.int .i64 1))),zM 15 90] none))))))
 (.seq (.reg [zM 107 11,zK 108 107,zF 109 4 108,zL 110 109,zM 111 3,zM 112 4,zG 113 (.call 15 [(.t 110),(.t 111),(.t 112),(.c (.int .i64 (-1)))]),zM 106 113,zE 114 106 0,zE 115 106 1,zM 16 114,zM 17 115] none)
 (.seq (.reg [zM 116 13,zM 117 16,zG 118 (.call 16 [(.t 116),(.t 117)]),zM 119 118,zm 120 119 true 14,zm 121 119 true 17,zg 122 119 true (.bin .eql (.t 120) (.t 121)),zA 123 119 122,zM 124 123,zg 125 124 true (.call 8 []),zA 126 124 125,zM 10 126] none)
 .ret)))))))))
theorem f4:aM Tryz.prog 4 127 c4 [.tmp 10]:=⟨_,Tryz.func4,rfl,by kernel_rfl,rfl⟩
def c5:AC:=(.seq (.reg [zG 4 (.mov (.c (.bool false)))] none)
 (.seq (.seq (.reg [zM 22 0,zG 23 (.call 7 [(.t 22)]),zN 24 23,zM 25 24,zm 26 25 false 1,zg 27 25 false (.call 7 [(.t 26)]),zn 28 25 false 27,zO 29 25 28] none)
 (.cond (.t 29) (.seq (.reg [zG 30 (.call 8 []),zM 4 30] none)
 .ret) .skip))
 (.seq (.reg [zM 31 0,zG 32 (.call 9 [(.t 31)]),zM 5 32] none)
 (.seq (.seq (.reg [zM 33 5,zG 34 (.eqP false (.t 33) (.c (.sc (.pointer none))))] none)
 (.cond (.t 34) (.seq (.reg [zG 4 (.mov (.c (.bool false)))] none)
 .ret) .skip))
 (.seq (.seq (.reg [zG 6 (.mov (.c (.int .i64 0)))] none)
 (.block 0 (.loop (.seq (.seq (.reg [zM 35 6,zM 36 1,zG 37 (.len false (.t 36)),zG 38 (.bin .lss (.t 35) (.t 37))] none)
 (.cond (.t 38) .skip (.exit 0)))
 (.seq (.block 1 (.seq (.reg [zM 41 1,zM 42 6,zG 43 (.iaddr 5 (.t 41) (.t 42)),zF 44 0 43,zL 45 44,zG 46 (.bin .neq (.t 45) (.c (.int .i64 6))),zM 47 46,zm 48 47 true 1,zm 49 47 true 6,zg 50 47 true (.iaddr 5 (.t 48) (.t 49)),zf 51 47 true 0 50,zl 52 47 true 51,zg 53 47 true (.bin .neq (.t 52) (.c (.int .i64 5))),zA 54 47 53,zM 55 54,zm 56 55 true 5,zm 57 55 true 1,zm 58 55 true 6,zg 59 55 true (.iaddr 5 (.t 57) (.t 58)),zw 60 55 true 5 59,zg 61 55 true (.call 10 [(.t 56),(.t 60)]),zn 62 55 true 61,zA 63 55 62] none)
 (.cond (.t 63) (.seq (.reg [zG 4 (.mov (.c (.bool false)))] none)
 .ret) .skip)))
 (.reg [zM 39 6,zG 40 (.bin .add (.t 39) (.c (.int .i64 1))),zM 6 40] none))))))
 (.seq (.seq (.reg [zM 64 5,zK 65 64,zF 66 4 65,zL 67 66,zG 68 (.call 19 [(.t 67)])] none)
 (.cond (.t 68) (.seq (.reg [zG 69 (.call 8 []),zM 4 69] none)
 .ret) .skip))
 (.seq (.reg [zM 71 5,zK 72 71,zF 73 0 72,zL 74 73,zM 75 5,zK 76 75,zF 77 0 76,zL 78 77,zG 79 (.call 12 [(.t 78)]),zG 80 (.call 20 [(.t 74),(.t 79)]),zM 70 80,zE 81 70 0,zE 82 70 1,zM 7 81,zM 8 82] (some [(3,7),(3,8)]))
 (.seq (.seq (.reg [zM 83 7,zG 84 (.eqP false (.t 83) (.c (.sc (.pointer none)))),zM 85 84,zm 86 85 false 8,zg 87 85 false (.bin .neq (.t 86) (.c (.int .i64 0))),zO 88 85 87] none)
 (.cond (.t 88) (.seq (.reg [zG 4 (.mov (.c (.bool false)))] none)
 .ret) .skip))
 (.seq (.reg [zM 89 5,zK 90 89,zF 91 4 90,zL 92 91,zG 93 (.call 21 [(.t 92)]),zM 9 93] none)
 (.seq (.seq (.reg [zG 10 (.mov (.c (.int .i64 0)))] none)
 (.block 2 (.loop (.seq (.seq (.reg [zM 94 10,zM 95 9,zG 96 (.len false (.t 95)),zG 97 (.bin .lss (.t 94) (.t 96))] none)
 (.cond (.t 97) .skip (.exit 2)))
 (.seq (.block 3 (.seq (.reg [zM 100 9,zM 101 10,zG 102 (.iaddr 3 (.t 100) (.t 101)),zF 103 2 102,zL 104 103,zM 105 104,zm 106 105 true 7,zm 107 105 true 9,zm 108 105 true 10,zg 109 105 true (.iaddr 3 (.t 107) (.t 108)),zf 110 105 true 0 109,zl 111 105 true 110,zg 112 105 true (.call 17 [(.t 106),(.t 111)]),zg 113 105 true (.bin .neq (.t 112) (.c (.int .i64 0))),zA 114 105 113,zM 115 114,zm 116 115 false 9,zm 117 115 false 10,zg 118 115 false (.iaddr 3 (.t 116) (.t 117)),zf 119 115 false 2 118,zl 120 115 false 119,zn 121 115 false 120,zm 122 115 false 121,zm 123 122 true 7,zm 124 122 true 9,zm 125 122 true 10,zg 126 122 true (.iaddr 3 (.t 124) (.t 125)),zf 127 122 true 0 126,zl 128 122 true 127,zm 129 122 true 9,zm 130 122 true 10,zg 131 122 true (.iaddr 3 (.t 129) (.t 130)),zf 132 122 true 1 131,zl 133 122 true 132,zg 134 122 true (.call 13 [(.t 123),(.t 128),(.t 133)]),zg 135 122 true (.bin .neq (.t 134) (.c (.int .i64 0))),zg 136 115 false (.pick (.t 122) (.t 135) (.c (.bool false))),zO 137 115 136] (some [(28,33)]))
 (.cond (.t 137) (.seq (.reg [zG 4 (.mov (.c (.bool false)))] none)
 .ret) .skip)))
 (.reg [zM 98 10,zG 99 (.bin .add (.t 98) (.c (.int .i64 1))),zM 10 99] none))))))
 (.seq (.reg [zM 138 5,zK 139 138,zF 140 4 139,zL 141 140,zG 142 (.call 22 [(.t 141)]),zG 11 (.alloc [.sl 1 [] (.exact 0),.sl 2 [] (.exact 0)]),zH (.store 2 (.t 11) (.t 142))] none)
 (.seq (.seq (.reg [zG 12 (.mov (.c (.int .i64 0)))] none)
 (.block 4 (.loop (.seq (.seq (.reg [zM 143 12,zF 144 0 11,zL 145 144,zG 146 (.len false (.t 145)),zG 147 (.bin .lss (.t 143) (.t 146))] none)
 (.cond (.t 147) .skip (.exit 4)))
 (.seq (.block 5 (.seq (.reg [zM 151 5,zK 152 151,zF 153 4 152,zL 154 153,zF 155 0 11,zL 156 155,zM 157 12,zG 158 (.iaddr 1 (.t 156) (.t 157)),zL 159 158,zG 160 (.call 14 [(.t 154),(.t 159)]),zM 150 160,zE 161 150 0,zE 162 150 1,zM 13 161,zM 14 162] (some [(3,5),(3,8)]))
 (.seq (.reg [zM 164 7,zF 165 0 11,zL 166 165,zM 167 12,zG 168 (.iaddr 1 (.t 166) (.t 167)),zL 169 168,zG 170 (.call 14 [(.t 164),(.t 169)]),zM 163 170,zE 171 163 0,zE 172 163 1,zM 15 171,zM 16 172] none)
 (.seq (.reg [zM 173 13,zM 174 15,zG 175 (.bin .neq (.t 173) (.t 174)),zM 176 175,zm 177 176 false 14,zm 178 176 false 16,zg 179 176 false (.bin .neq (.t 177) (.t 178)),zO 180 176 179] none)
 (.cond (.t 180) (.seq (.reg [zG 4 (.mov (.c (.bool false)))] none)
 .ret) .skip)))))
 (.reg [zM 148 12,zG 149 (.bin .add (.t 148) (.c (.int .i64 1))),zM 12 149] none))))))
 (.seq (.seq (.reg [zG 17 (.mov (.c (.int .i64 0)))] none)
 (.block 6 (.loop (.seq (.seq (.reg [zM 181 17,zF 182 1 11,zL 183 182,zG 184 (.len false (.t 183)),zG 185 (.bin .lss (.t 181) (.t 184))] none)
 (.cond (.t 185) .skip (.exit 6)))
 (.seq (.block 7 (.seq (.reg [zM 189 5,zK 190 189,zF 191 4 190,zL 192 191,zF 193 1 11,zL 194 193,zM 195 17,zG 196 (.iaddr 2 (.t 194) (.t 195)),zF 197 0 196,zL 198 197,zF 199 1 11,zL 200 199,zM 201 17,zG 202 (.iaddr 2 (.t 200) (.t 201)),zF 203 1 202,zL 204 203,zG 205 (.call 15 [(.t 192),(.t 198),(.t 204),(.c (.int .i64 (-1)))]),zM 188 205,zE 206 188 0,zE 207 188 1,zM 18 206,zM 19 207] (some [(3,5),(3,9),(3,11),(5,11),(9,11),(3,15),(5,15),(9,15)]))
 (.seq (.reg [zM 209 7,zF 210 1 11,zL 211 210,zM 212 17,zG 213 (.iaddr 2 (.t 211) (.t 212)),zF 214 0 213,zL 215 214,zF 216 1 11,zL 217 216,zM 218 17,zG 219 (.iaddr 2 (.t 217) (.t 218)),zF 220 1 219,zL 221 220,zG 222 (.call 15 [(.t 209),(.t 215),(.t 221),(.c (.int .i64 (-1)))]),zM 208 222,zE 223 208 0,zE 224 208 1,zM 20 223,zM 21 224] (some [(2,8),(6,8),(2,12),(6,12)]))
 (.seq (.reg [zM 225 18,zM 226 20,zG 227 (.call 16 [(.t 225),(.t 226)]),zN 228 227,zM 229 228,zm 230 229 false 19,zm 231 229 false 21,zg 232 229 false (.bin .neq (.t 230) (.t 231)),zO 233 229 232] none)
 (.cond (.t 233) (.seq (.reg [zG 4 (.mov (.c (.bool false)))] none)
 .ret) .skip)))))
 (.reg [zM 186 17,zG 187 (.bin .add (.t 186) (.c (.int .i64 1))),zM 17 187] none))))))
 (.seq (.reg [zM 234 5,zK 235 234,zF 236 4 235,zL 237 236,zG 238 (.call 22 [(.t 237)]),zW 239 2 11,zG 240 (.call 23 [(.t 238),(.t 239)]),zM 241 240,zg 242 241 true (.call 8 []),zA 243 241 242,zM 4 243] (some [(3,5),(4,5)]))
 .ret))))))))))))))
theorem f5:aM Tryz.prog 5 244 c5 [.tmp 4]:=⟨_,Tryz.func5,rfl,by kernel_rfl,rfl⟩
end Go.Proofs.YtpehfflehebmbaaGreat.C
end
section
set_option maxRecDepth 10000
namespace Go.Proofs.YtpehfflehebmbaaGreat.Batch
open Go Go.Av Go.Proofs Go.Proofs.YtpehfflehebmbaaGreat.C
theorem less_asymm {a b} (h:Op.bytesLess a b=true):Op.bytesLess b a=false:=by
 cases h':Op.bytesLess b a
 ·rfl
 ·have:=bz h h'
  rw[bk] at this;cases this
end Go.Proofs.YtpehfflehebmbaaGreat.Batch
end
section
set_option maxRecDepth 10000
namespace Go.Proofs.YtpehfflehebmbaaGreat.Reads
open Go Go.Av Go.Proofs Go.Proofs.YtpehfflehebmbaaGreat.C Go.Proofs.YtpehfflehebmbaaGreat.Batch
theorem nf_first {s:Sp} {l:List Sp} (h:NF (s::l)) (q:Bs) (hq:aR (s::l) q=true):Op.bytesLess q s.f=false:=by
 rw[eZ,Bool.or_eq_true] at hq
 rcases hq with hq|hq
 ·exact (nb.1 hq).1
 ·obtain ⟨z,hz,hw⟩:=List.any_eq_true.1 hq
  have ha:=lR.1 ((List.pairwise_cons.1 h.2).1 z hz)
  have hh:=kY.1 (h.1 s (by simp))
  have hw:=(nb.1 hw).1
  grind [bz,bk,cN]
theorem nf_eq:∀{l m:List Sp},NF l→NF m→(∀q,aR l q=aR m q)→l=m
 |[],[],_,_,_=>rfl
 |[],s::m,_,hm,h=>by
  have hh:=kY.1 (hm.1 s (by simp))
  have:aR (s::m) s.f=true:=by
   rw[eZ,Bool.or_eq_true];left;rw[nb];exact ⟨bk _,hh⟩
  rw[←h] at this;cases this
 |s::l,[],hl,_,h=>by
  have hh:=kY.1 (hl.1 s (by simp))
  have:aR (s::l) s.f=true:=by
   rw[eZ,Bool.or_eq_true];left;rw[nb];exact ⟨bk _,hh⟩
  rw[h] at this;cases this
 |s::l,u::m,hl,hm,h=>by
  have hs:=kY.1 (hl.1 s (by simp))
  have hu:=kY.1 (hm.1 u (by simp))
  have cs:aR (s::l) s.f=true:=by
   rw[eZ,Bool.or_eq_true];left;rw[nb];exact ⟨bk _,hs⟩
  have cu:aR (u::m) u.f=true:=by
   rw[eZ,Bool.or_eq_true];left;rw[nb];exact ⟨bk _,hu⟩
  have f1:Op.bytesLess s.f u.f=false:=nf_first hm s.f (by rw[←h];exact cs)
  have f2:Op.bytesLess u.f s.f=false:=nf_first hl u.f (by rw[h];exact cu)
  have ef:s.f=u.f:=by
   rcases cN s.f u.f with e|e|e
   ·rw[f1] at e;cases e
   ·exact e
   ·rw[f2] at e;cases e
  have nope:∀{a:Sp} {r:List Sp},NF (a::r)→a.t≠[]→aR (a::r) a.t=false:=by
   intro a r hn ht
   rw[eZ,Bool.or_eq_false_iff]
   refine ⟨?_,?_⟩
   ·cases hw:fz a a.t with
    |false=>rfl
    |true=>
     rcases (nb.1 hw).2 with e|e
     ·exact absurd e ht
     ·rw[bk] at e;cases e
   ·cases hw:aR r a.t with
    |false=>rfl
    |true=>
     obtain ⟨z,hz,hw⟩:=List.any_eq_true.1 hw
     have ha:=lR.1 ((List.pairwise_cons.1 hn.2).1 z hz)
     have hw:=(nb.1 hw).1
     rw[ha.2] at hw;cases hw
  have inn:∀{a:Sp} {r:List Sp} {q:Bs},Op.bytesLess q a.f=false→(a.t=[]∨Op.bytesLess q a.t=true)→aR (a::r) q=true:=by
   intro a r q h1 h2
   rw[eZ,Bool.or_eq_true];left;rw[nb];exact ⟨h1,h2⟩
  have et:s.t=u.t:=by
   by_cases c1:s.t=[]
   ·by_cases c2:u.t=[]
    ·rw[c1,c2]
    ·have k1:=nope hm c2
     rw[←h,inn (q:=u.t) (by have:=hu.resolve_left c2;rw[ef];exact less_asymm this) (.inl c1)] at k1
     cases k1
   ·by_cases c2:u.t=[]
    ·have k1:=nope hl c1
     rw[h,inn (q:=s.t) (by have:=hs.resolve_left c1;rw[←ef];exact less_asymm this) (.inl c2)] at k1
     cases k1
    ·have hs':=hs.resolve_left c1
     have hu':=hu.resolve_left c2
     rcases cN s.t u.t with e|e|e
     ·have k1:=nope hl c1
      rw[h,inn (q:=s.t) (by rw[←ef];exact less_asymm hs') (.inr e)] at k1
      cases k1
     ·exact e
     ·have k1:=nope hm c2
      rw[←h,inn (q:=u.t) (by rw[ef];exact less_asymm hu') (.inr e)] at k1
      cases k1
  have e:s=u:=by cases s;cases u;simp only at ef et;rw[ef,et]
  subst e
  have hr:∀q,aR l q=aR m q:=by
   intro q
   have hq:=h q
   rw[eZ,eZ] at hq
   have out:∀{r:List Sp},NF (s::r)→fz s q=true→aR r q=false:=by
    intro r hn hw
    cases hc:aR r q with
    |false=>rfl
    |true=>
     obtain ⟨z,hz,hw2⟩:=List.any_eq_true.1 hc
     have ha:=lR.1 ((List.pairwise_cons.1 hn.2).1 z hz)
     have hw2:=(nb.1 hw2).1
     have hw:=(nb.1 hw).2
     rcases hw with e|e
     ·exact absurd e ha.1
     ·rw[bz e ha.2] at hw2;cases hw2
   cases hw:fz s q with
   |false=>simpa [hw] using hq
   |true=>rw[out hl hw,out hm hw]
  rw[nf_eq (qn hl) (qn hm) hr]
end Go.Proofs.YtpehfflehebmbaaGreat.Reads
end
section
set_option maxRecDepth 100000
namespace Go.Proofs.YtpehfflehebmbaaGreat.Reads
open Go Go.Av Go.Proofs Go.Proofs.YtpehfflehebmbaaGreat.C
theorem open_str {a:AV} (h:lr Tryz.prog 5 9 a):∃l,a= .str l∧l.length≤reachBytes:=by
 obtain ⟨cs,h,rfl⟩:=h
 unfold Fits at h
 rw[Tryz.underlying9] at h
 obtain ⟨l,rfl,hl⟩:=h
 refine ⟨l,?_,hl⟩
 unfold dK;rw[if_neg (by rw[show bW Tryz.prog 9=false by kernel_rfl];simp)];rfl
end Go.Proofs.YtpehfflehebmbaaGreat.Reads
end
section
set_option maxRecDepth 100000
namespace Go.Proofs.YtpehfflehebmbaaGreat.Space
open Go Go.Av Go.Proofs Go.Proofs.YtpehfflehebmbaaGreat.C Go.Proofs.YtpehfflehebmbaaGreat.Batch
theorem open_str {a:AV} (h:lr Tryz.prog 5 9 a):∃l,a= .str l∧l.length≤reachBytes:=by
 obtain ⟨cs,h,rfl⟩:=h
 unfold Fits at h
 rw[Tryz.underlying9] at h
 obtain ⟨l,rfl,hl⟩:=h
 refine ⟨l,?_,hl⟩
 unfold dK;rw[if_neg (by rw[show bW Tryz.prog 9=false by kernel_rfl];simp)];rfl
def encB (l:List Ch):AV:= .sl 3 (chs l) .any
theorem open_batches {a:AV} (h:lr Tryz.prog 5 58 a):∃l:List (List Ch),a= .sl 1 (l.map encB) .any∧l.length≤35184372088832∧∀b∈l,b.length≤35184372088832∧∀c∈b,AG c:=by
 obtain ⟨cs,h,rfl⟩:=h
 unfold Fits at h
 rw[Tryz.underlying58] at h
 obtain ⟨xs,rfl,hlx,hx⟩:=h
 obtain ⟨l,rfl,hl⟩:=ou (enc:=encB) (Q:=fun b:List Ch=>b.length≤35184372088832∧∀c∈b,AG c) (fun cs h=>by
  obtain ⟨l,e,-,h1,h2⟩:=ly h
  exact ⟨l,e,h1,h2⟩) hx
 have c1:Tryz.prog.cellsOf 27=1:=by kernel_rfl
 have c2:Tryz.prog.bytesOf 27=24:=by kernel_rfl
 rw[List.length_map,c2] at hlx
 refine ⟨l,?_,uV (by decide) hlx,hl⟩
 unfold dK;rw[if_neg (by rw[show bW Tryz.prog 58=false by kernel_rfl];simp),c1];rfl
end Go.Proofs.YtpehfflehebmbaaGreat.Space
end
section
set_option maxRecDepth 10000
namespace Go.Proofs.YtpehfflehebmbaaGreat.Txn
open Go Go.Av Go.Proofs Go.Proofs.YtpehfflehebmbaaGreat.C Go.Proofs.YtpehfflehebmbaaGreat.Batch Go.Proofs.YtpehfflehebmbaaGreat.Space Go.Proofs.YtpehfflehebmbaaGreat.Reads
theorem oy {c:Ch}:kept c=true↔cH c=true∧¬(c.d=true∧c.v≠[]):=by
 unfold kept cH
 cases c.d<;>simp
theorem uY {l:List Ch} {i:Nat} (hi:i<l.length) (h:¬rOk l i):sy l=false:=by
 cases e:sy l with
 |false=>rfl
 |true=>exact absurd (iu.1 e i hi) h
set_option maxHeartbeats 2000000 in
theorem kF (Y:Tx) (l:List Ch) (hl:l.length≤1000000) (lk:∀c∈l,Ls c.k):
  aA Tryz.prog 39 [eG Y,.sl 3 (chs l) .any] (.tup [eG (gM Y l).1,.int .i64 (gM Y l).2]):=by
 refine f39.aD (by simp) (by simp[al,av,aG,db,dw]) (by simp[av,al,db]) ?_
 unfold c39
 simp only[C.zz]
 have hry:gM Y l=if Y.ended then (Y,17) else if sy l then ({Y with C:=l},0) else (Y,2):=rfl
 obtain ⟨t,C,rk,rs,ended⟩:=Y
 rw[hry]
 unfold eG
 cases ended with
 |true=>
  refine lJ ?_
  refine Wp.ret ⟨trivial,_,by simp only[bR,rvs,rv,go_sem,bx,ax,reduceIte,Nat.reduceEqDiff,if_true,if_false,Nat.reduceLeDiff];exact rfl,?_⟩
  exact ab.refl _
 |false=>
  simp only[Bool.false_eq_true,if_false]
  by_cases h64:64<l.length
  ·have d1:decide ((64:Int)<(l.length:Int))=true:=decide_eq_true (by omega)
   have hno:=uY (l:=l) (i:=64) h64 (fun h=>by have:=h.2.2.1;omega)
   rw[hno]
   refine an0 (cj2 @an d1) ?_
   refine Wp.ret ⟨trivial,_,by simp only[bR,rvs,rv,go_sem,bx,ax,reduceIte,Nat.reduceEqDiff,if_true,if_false,Nat.reduceLeDiff];exact rfl,?_⟩
   exact ab.refl _
  ·have d1:decide ((64:Int)<(l.length:Int))=false:=decide_eq_false (by omega)
   refine an0 (cj2 @an d1) ?_
   refine Wp.cZ [1,2,4,5] xA6 (fun j:Nat=>[(6,.int .i64 j)]) (fun j=>j≤l.length∧∀i,i<j→rOk l i) (fun j=>l.length - j) 0 ⟨Nat.zero_le _,fun i h=>absurd h (by omega)⟩ ?_ ?_
   ·exact xSb
   ·rintro j ⟨hj,hs⟩
    by_cases hc:j<l.length
    ·obtain ⟨g1,h2,h3,e1⟩:=ixF (j:=j) (n:=l.length) (by omega) (by omega)
     have hat:=bH l j .any hc
     have hkp:=kQ (l.getD j default)
     have bad:¬rOk l j→sy l=false:=uY hc
     have hrk:rOk l j↔(kept (l.getD j default)=true∧j<64∧(0<j→Op.bytesLess (l.getD (j - 1) default).k (l.getD j default).k=true)):=by
      rw[oy,and_assoc];exact Iff.rfl
     have hbl:=fun h:j - 1<l.length=>cI (l.getD (j - 1) default).k (l.getD j default).k (lk _ (by rw[Av.ar h];exact List.getElem_mem h)) (lk _ (by rw[Av.ar hc];exact List.getElem_mem hc))
     unfold aL at hkp
     cases hk:kept (l.getD j default) with
     |false=>
      rw[hk] at hkp
      rw[bad (fun h=>by have:=(hrk.1 h).1;rw[hk] at this;cases this)]
      refine an1 (cj7 @an g1 h2 h3 @Int.toNat_natCast hat @aL.eq_1) hkp ?_
      refine Wp.ret ⟨trivial,_,by simp only[bR,rvs,rv,go_sem,bx,ax,reduceIte,Nat.reduceEqDiff,if_true,if_false,Nat.reduceLeDiff];exact rfl,?_⟩
      exact ab.refl _
     |true=>
      rw[hk] at hkp
      have nxt:rOk l j→∀i,i<j+1→rOk l i:=fun h i hi=>by
       by_cases he:i=j
       ·subst he;exact h
       ·exact hs i (by omega)
      rcases Nat.eq_zero_or_pos j with rfl|h0
      ·have d6:decide ((0:Int)<((0:Nat):Int))=false:=rfl
       have hok:rOk l 0:=hrk.2 ⟨hk,by omega,fun h=>absurd h (by omega)⟩
       refine an1 (cj9 @an g1 h2 h3 e1 @Int.toNat_natCast hat @aL.eq_1 d6) hkp ?_
       refine ⟨0+1,⟨by omega,nxt hok⟩,by omega,?_⟩
       exact xSu
      ·have d6:decide ((0:Int)<(j:Int))=true:=decide_eq_true (by omega)
       have w1:IntKind.i64.wrap ((j:Int) - 1)=((j - 1:Nat):Int):=by rw[IntWalk.i64_in _ (by omega)];omega
       have w2:(0:Int)≤((j - 1:Nat):Int):=by omega
       have w3:((j - 1:Nat):Int)<(l.length:Int):=by omega
       have hat1:(chs l).getD (j - 1) .any=aL (l.getD (j - 1) default):=bH l (j - 1) .any (by omega)
       have hb:=hbl (by omega)
       cases hlt:Op.bytesLess (l.getD (j - 1) default).k (l.getD j default).k with
       |false=>
        rw[hlt] at hb
        rw[bad (fun h=>by have:=(hrk.1 h).2.2 h0;rw[hlt] at this;cases this)]
        refine an2 (bD @an g1 h2 h3 w1 w2 w3 hat1 @Int.toNat_natCast hat @aL.eq_1 d6) hkp hb ?_
        refine Wp.ret ⟨trivial,_,by simp only[bR,rvs,rv,go_sem,bx,ax,reduceIte,Nat.reduceEqDiff,if_true,if_false,Nat.reduceLeDiff];exact rfl,?_⟩
        exact ab.refl _
       |true=>
        rw[hlt] at hb
        have hok:rOk l j:=hrk.2 ⟨hk,by omega,fun h=>hlt⟩
        refine an2 (bD @an g1 h2 h3 e1 w1 w2 w3 hat1 @Int.toNat_natCast hat (cj2 @aL.eq_1 d6)) hkp hb ?_
        refine ⟨j+1,⟨by omega,nxt hok⟩,by omega,?_⟩
        exact xSu
    ·obtain rfl:j=l.length:=by omega
     have g1:=ixE (l.length)
     rw[iu.2 hs]
     refine an0 (cj2 @an g1) ?_
     refine Wp.ret ⟨trivial,_,by simp only[bR,rvs,rv,go_sem,bx,ax,reduceIte,Nat.reduceEqDiff,if_true,if_false,Nat.reduceLeDiff];exact rfl,?_⟩
     exact ab.refl _
theorem AL {l:List Pr} {k:Bs} (h:¬oL l k=0):∀p∈l,p.k≠k:=by
 intro p hp e
 unfold oL at h
 cases hf:l.find? (mM k) with
 |some x=>rw[hf] at h;exact h rfl
 |none=>
  rw[List.find?_eq_none] at hf
  have:=hf p hp
  simp[mM,e] at this
theorem drop_eq (l:List Pr) (k:Bs):Batch.jD l k=vV l k:=by
 unfold Batch.jD rest vV
 split
 ·refine List.filter_congr fun p _=>?_
  simp[mM]
 ·rename_i h
  symm
  rw[List.filter_eq_self]
  intro p hp
  simpa using AL h p hp
theorem sF (k v:Bs):∀(l:List Pr) (b:Bool),gX k v b l=pGo k v b l
 |[],b=>rfl
 |p::l,b=>by rw[gX,pGo,sF k v l]
theorem put_eq {l:List Pr} {k v:Bs} (h:shut k v=false):Batch.gZ l k v=Txn.gZ l k v:=by
 rw[Batch.gZ,if_neg (by rw[h];simp),sF,yu]
theorem wF {c:Ch} (h:cH c=true):shut c.k c.v=false:=by
 simp only[cH,Bool.and_eq_true,decide_eq_true_eq] at h
 simp only[shut,Bool.or_eq_false_iff,decide_eq_false_iff_not]
 omega
theorem AM {l:List Pr} {c:Ch} (h:cH c=true):oz l c=qp l c:=by
 unfold oz qp
 rw[drop_eq,put_eq (wF h)]
theorem l8 {C:List Ch} (hk:∀c∈C,cH c=true) (l:List Pr) {j:Nat} (h:j<C.length):dE (C.take (j+1)) l=oz (dE (C.take j) l) (C.getD j default):=by
 rw[Av.bJ default h,dE,List.foldl_append,AM (hk _ (by rw[Av.ar h];exact List.getElem_mem h))]
 rfl
theorem lz {C:List Ch} (hk:∀c∈C,cH c=true) (l:List Pr):∀j,j≤C.length→(dE (C.take j) l).length≤l.length+j
 |0,_=>by simp[dE]
 |j+1,h=>by
  rw[l8 hk l h]
  have:=lz hk l j (by omega)
  have:=yR (dE (C.take j) l) (C.getD j default)
  omega
theorem qG {C:List Ch} (hk:∀c∈C,cH c=true) {l:List Pr} (hl:∀p∈l,Ls p.k):∀j,j≤C.length→∀p∈dE (C.take j) l,Ls p.k
 |0,_=>by simpa [dE] using hl
 |j+1,h=>by
  rw[l8 hk l h]
  refine AK (qG hk hl j (by omega)) ?_
  have hm:C.getD j default∈C:=by rw[Av.ar h];exact List.getElem_mem h
  have:=hk _ hm
  simp only[cH,Bool.and_eq_true,decide_eq_true_eq] at this
  unfold Ls;omega
theorem uZ {S:Spc} (h:∀p∈S.L,Ls p.1) (a b:Bs) (t:Int):∀p∈cY S a b t,Ls p.k:=by
 intro p hp
 obtain ⟨k,hk,e⟩:=List.mem_filterMap.1 hp
 rw[jU e]
 have hk2:k∈ae S.L:=List.mem_of_mem_drop ((List.takeWhile_sublist _).subset hk)
 obtain ⟨x,hx,rfl⟩:=List.mem_map.1 hk2
 exact h x hx
set_option maxHeartbeats 2000000 in
theorem AN (S:Spc) (Y:Tx) (hr:bb S.L) (hS:Small S) (lks:∀p∈S.L,Ls p.1) (hl:Y.C.length≤64) (hk:∀c∈Y.C,cH c=true) (t:Int) (ht:cT S t=0):
  aA Tryz.prog 75 [eG Y,cP S,.int .i64 t] (.sl 2 (prs (dE Y.C (cY S [] [] t))) .any):=by
 refine f75.aD (by simp) (by simp[al,av,aG,db,cA]) (by simp[av,aG,dV]) ?_
 unfold c75
 simp only[C.zz]
 have hsc:=Ak S hr hS lks [] [] ov ov t (-1)
 rw[cn,if_pos ht,show eh (-1) (cY S [] [] t)=cY S [] [] t from rfl] at hsc
 have hal:=uZ lks [] [] t
 have hall:(cY S [] [] t).length≤500000:=by
  have h1:(cY S [] [] t).length≤S.L.length:=by
   unfold cY
   refine Nat.le_trans (List.length_filterMap_le _ _) ?_
   have h2:=((List.takeWhile_sublist (eU ([]:Space.Bs))).trans (List.drop_sublist (plK (ae S.L) []) (ae S.L))).length_le
   unfold bZ
   simpa [ae] using h2
  have:=hS.1;omega
 obtain ⟨ty,C,rk,rs,ended⟩:=Y
 simp only at hl hk ⊢
 have hsn:=fun j (h:j<C.length)=>l8 hk (cY S [] [] t) h
 have hln:=lz hk (cY S [] [] t)
 have hls:=qG hk hal
 unfold eG
 unfold cP at hsc ⊢
 generalize cY S [] [] t=l0 at*
 refine oG hsc ?_
 refine Wp.cZ [3] xA6 (fun j:Nat=>[(7,.sl 2 (prs (dE (C.take j) l0)) .any),(9,.int .i64 j)]) (fun j=>j≤C.length) (fun j=>C.length - j) 0 (Nat.zero_le _) ?_ ?_
 ·exact xSb
 ·intro j hj
  by_cases hc:j<C.length
  ·obtain ⟨g1,h2,h3,e1⟩:=ixF (j:=j) (n:=C.length) (by omega) (by omega)
   have hat:=bH C j .any hc
   have hsn:=hsn j hc
   have hln:=hln j hj
   have hls:=hls j hj
   have hkj:cH (C.getD j default)=true:=hk _ (by rw[Av.ar hc];exact List.getElem_mem hc)
   have hlk:Ls (C.getD j default).k:=by
    simp only[cH,Bool.and_eq_true,decide_eq_true_eq] at hkj
    unfold Ls;omega
   generalize dE (C.take j) l0=l at*
   generalize C.getD j default=c at*
   cases hd:c.d with
   |true=>
    have hdp:=AJ l (by omega) c.k
    have hst:oz l c=Batch.jD l c.k:=by rw[oz,hd];rfl
    refine an1 (cj9 @an g1 h2 h3 e1 @Int.toNat_natCast hat @aL.eq_1 hd) hdp ?_
    refine ⟨j+1,by omega,by omega,?_⟩
    rw[hsn,hst]
    exact xSu
   |false=>
    have hpp:=B2 l (by omega) hls c.k c.v hlk
    have hst:oz l c=Batch.gZ l c.k c.v:=by rw[oz,hd];rfl
    refine an1 (cj9 @an g1 h2 h3 e1 @Int.toNat_natCast hat @aL.eq_1 hd) hpp ?_
    refine ⟨j+1,by omega,by omega,?_⟩
    rw[hsn,hst]
    exact xSu
  ·obtain rfl:j=C.length:=by omega
   have g1:=ixE (C.length)
   refine an0 (cj2 @an g1) ?_
   refine aJ ?_
   rw[List.take_length];exact ab.refl _
theorem yS (a b:Bs) (most:Int) {l:List Pr} {j:Nat} (h:j<l.length):dJ (l.take (j+1)) a b most=if inR a b (l.getD j default).k=true∧(most<0∨((dJ (l.take j) a b most).length:Int)<most) then dJ (l.take j) a b most++[l.getD j default] else dJ (l.take j) a b most:=by
 unfold dJ
 rw[Av.bJ default h,List.filter_append]
 cases hb:inR a b (l.getD j default).k with
 |true=>
  rw[List.filter_cons,hb]
  simp only[if_true,List.filter_nil,true_and]
  exact pF most _ _
 |false=>
  rw[List.filter_cons,hb]
  simp
theorem l9 (a b:Bs) (most:Int) (l:List Pr):(dJ l a b most).length≤l.length:=Nat.le_trans (sd _ _) (List.length_filter_le _ _)
set_option maxHeartbeats 4000000 in
theorem yU (l:List Pr) (hl:l.length≤1000000) (lk:∀p∈l,Ls p.k) (a b:Bs) (la:Ls a) (lb:Ls b) (most:Int):
  aA Tryz.prog 74 [.sl 2 (prs l) .any,.str a,.str b,.int .i64 most] (.sl 2 (prs (dJ l a b most)) .any):=by
 refine f74.aD (by simp) (by simp[al,av,aG,dV]) (by simp[av,aG,dV]) ?_
 unfold c74
 simp only[C.zz]
 refine lJ ?_
 refine Wp.le (aU.tok _ _) ?_
 refine Wp.fD [0,1,2,3] xA7 (fun (j:Nat) tk=>[(9,.sl 2 (prs (dJ (l.take j) a b most)) (.own tk)),(10,.int .i64 (j:Nat))]) (fun j=>j≤l.length) (fun j=>l.length - j) 0 _ (Nat.zero_le _) rfl ?_ ?_
 ·have e0:dJ [] a b most=[]:=by simp[dJ,eh]
  have e1:prs (dJ [] a b most)=[]:=by rw[e0];rfl
  simp only[aC,go_sem,reduceIte,Nat.reduceEqDiff,Nat.reduceAdd,bx,List.take_zero,e1];and_intros<;>first|exact trivial|exact ab.refl _|exact ab.any _|exact ab.eL rfl|(refine ab.int ?_;omega)
 intro j tk m hj
 by_cases hc:j<l.length
 ·obtain ⟨g1,h2,h3,e1⟩:=ixF (j:=j) (n:=l.length) (by omega) (by omega)
  have hat:=cg l j .any hc
  have hsn:=yS a b most hc
  have hlen:=l9 a b most (l.take j)
  rw[List.length_take] at hlen
  have hlk:Ls (l.getD j default).k:=lk _ (by rw[Av.ar hc];exact List.getElem_mem hc)
  have hb1:=cI (l.getD j default).k a hlk la
  have hb2:=cI (l.getD j default).k b hlk lb
  obtain ⟨g0,g0',-,-⟩:=Bm (show (dJ (l.take j) a b most).length≤2000000 by omega)
  generalize hnx:dJ (l.take (j+1)) a b most=nx at*
  generalize dJ (l.take j) a b most=o at*
  generalize l.getD j default=p at*
  have hps:=pH o p.k p.v
  have stay:¬(inR a b p.k=true∧(most<0∨(o.length:Int)<most))→nx=o:=fun h=>by rw[hsn,if_neg h]
  have more:inR a b p.k=true∧(most<0∨(o.length:Int)<most)→nx=o++[p]:=fun h=>by rw[hsn,if_pos h]
  cases q1:Op.bytesLess p.k a with
  |true=>
   rw[q1] at hb1
   have hk2:=stay (fun h=>by have:=h.1;rw[inR,q1] at this;simp at this)
   have zg:=(fR @aN g1 h2 h3 e1 @Int.toNat_natCast hat @bV.eq_1 @Bool.not_true @List.length_map.{0,0})
   repeat' (first
    |(refine aa.nil ⟨?_,?_⟩;(· first|trivial|simp[ay,au,apart,aH]))
    |refine xG1 @zg ?_
    |(refine xG2 @zg ?_;try simp only[List.drop_succ_cons,List.drop_zero,List.drop_nil])
    |refine xGp @zg hb1 ?_
    |(refine xG3 @zg ?_ ?_<;>intro hc)
    |(refine xG4 @zg ?_ ?_<;>intro hc)
    |(refine xG5 @zg ?_ ?_<;>intro hc)
    |refine Wp.eH ?_
    |refine Wp.mK ?_
    |refine xG6 @zg ?_
    |refine xG7 @zg ?_
    |(refine xG8 @zg ?_ ?_<;>intro hc)
    |(refine xG9 @zg ?_ ?_<;>intro hc)
    |(refine xGa @zg ?_ ?_<;>intro hc)
    |refine Wp.skip ?_
    |refine Wp.label ?_
    |refine Wp.block ?_
    |refine Wp.exit ?_
    |refine Wp.seq ?_)
   refine ⟨j+1,tk,m,by omega,by omega,?_⟩
   rw[hnx,hk2]
   exact xSu
  |false=>
   rw[q1] at hb1
   by_cases q2:b=[]
   ·have d2:=decide_eq_true q2
    have hin:inR a b p.k=true:=by rw[inR,q1,q2];rfl
    by_cases m1:most<0
    ·have d1:=decide_eq_true m1
     have hk2:=more ⟨hin,.inl m1⟩
     have zg:=(bD @aN g1 h2 h3 e1 @Int.toNat_natCast hat @bV.eq_1 @Bool.not_false d2 d1 (cj6 g0 g0' @List.length_cons.{0} @List.length_nil.{0} @Nat.zero_add @List.length_map.{0,0}))
     repeat' (first
      |(refine aa.nil ⟨?_,?_⟩;(· first|trivial|simp[ay,au,apart,aH]))
      |refine xG1 @zg ?_
      |(refine xG2 @zg ?_;try simp only[List.drop_succ_cons,List.drop_zero,List.drop_nil])
      |refine xGp @zg hb1 ?_
      |(refine xG3 @zg ?_ ?_<;>intro hc)
      |(refine xG4 @zg ?_ ?_<;>intro hc)
      |(refine xG5 @zg ?_ ?_<;>intro hc)
      |refine Wp.eH ?_
      |refine Wp.mK ?_
      |refine xG6 @zg ?_
      |refine xG7 @zg ?_
      |(refine xG8 @zg ?_ ?_<;>intro hc)
      |(refine xG9 @zg ?_ ?_<;>intro hc)
      |(refine xGa @zg ?_ ?_<;>intro hc)
      |refine Wp.skip ?_
      |refine Wp.label ?_
      |refine Wp.block ?_
      |refine Wp.exit ?_
      |refine Wp.seq ?_)
     refine ⟨j+1,m,m+1,by omega,by omega,?_⟩
     rw[hnx,hk2]
     refine aU.tm (by simp only[aC,go_sem,reduceIte,Nat.reduceEqDiff,Nat.reduceAdd,bx];and_intros<;>first|exact trivial|exact ab.refl _|exact ab.any _|exact ab.of_eq (by rw[←hps])|(refine ab.int ?_;omega))
    ·have d1:=decide_eq_false m1
     by_cases m2:(o.length:Int)<most
     ·have d3:=decide_eq_true m2
      have hk2:=more ⟨hin,.inr m2⟩
      have zg:=(bD @aN g1 h2 h3 e1 @Int.toNat_natCast hat @bV.eq_1 @Bool.not_false d2 d1 (cj7 d3 g0 g0' @List.length_cons.{0} @List.length_nil.{0} @Nat.zero_add @List.length_map.{0,0}))
      repeat' (first
       |(refine aa.nil ⟨?_,?_⟩;(· first|trivial|simp[ay,au,apart,aH]))
       |refine xG1 @zg ?_
       |(refine xG2 @zg ?_;try simp only[List.drop_succ_cons,List.drop_zero,List.drop_nil])
       |refine xGp @zg hb1 ?_
       |(refine xG3 @zg ?_ ?_<;>intro hc)
       |(refine xG4 @zg ?_ ?_<;>intro hc)
       |(refine xG5 @zg ?_ ?_<;>intro hc)
       |refine Wp.eH ?_
       |refine Wp.mK ?_
       |refine xG6 @zg ?_
       |refine xG7 @zg ?_
       |(refine xG8 @zg ?_ ?_<;>intro hc)
       |(refine xG9 @zg ?_ ?_<;>intro hc)
       |(refine xGa @zg ?_ ?_<;>intro hc)
       |refine Wp.skip ?_
       |refine Wp.label ?_
       |refine Wp.block ?_
       |refine Wp.exit ?_
       |refine Wp.seq ?_)
      refine ⟨j+1,m,m+1,by omega,by omega,?_⟩
      rw[hnx,hk2]
      refine aU.tm (by simp only[aC,go_sem,reduceIte,Nat.reduceEqDiff,Nat.reduceAdd,bx];and_intros<;>first|exact trivial|exact ab.refl _|exact ab.any _|exact ab.of_eq (by rw[←hps])|(refine ab.int ?_;omega))
     ·have d3:=decide_eq_false m2
      have hk2:=stay (fun h=>h.2.elim m1 m2)
      have zg:=(bD @aN g1 h2 h3 e1 @Int.toNat_natCast hat @bV.eq_1 @Bool.not_false d2 d1 (cj7 d3 g0 g0' @List.length_cons.{0} @List.length_nil.{0} @Nat.zero_add @List.length_map.{0,0}))
      repeat' (first
       |(refine aa.nil ⟨?_,?_⟩;(· first|trivial|simp[ay,au,apart,aH]))
       |refine xG1 @zg ?_
       |(refine xG2 @zg ?_;try simp only[List.drop_succ_cons,List.drop_zero,List.drop_nil])
       |refine xGp @zg hb1 ?_
       |(refine xG3 @zg ?_ ?_<;>intro hc)
       |(refine xG4 @zg ?_ ?_<;>intro hc)
       |(refine xG5 @zg ?_ ?_<;>intro hc)
       |refine Wp.eH ?_
       |refine Wp.mK ?_
       |refine xG6 @zg ?_
       |refine xG7 @zg ?_
       |(refine xG8 @zg ?_ ?_<;>intro hc)
       |(refine xG9 @zg ?_ ?_<;>intro hc)
       |(refine xGa @zg ?_ ?_<;>intro hc)
       |refine Wp.skip ?_
       |refine Wp.label ?_
       |refine Wp.block ?_
       |refine Wp.exit ?_
       |refine Wp.seq ?_)
      refine ⟨j+1,tk,m,by omega,by omega,?_⟩
      rw[hnx,hk2]
      exact xSu
   ·have d2:=decide_eq_false q2
    cases q3:Op.bytesLess p.k b with
    |false=>
     rw[q3] at hb2
     have hk2:=stay (fun h=>by have:=h.1;rw[inR,q1,d2,q3] at this;simp at this)
     have zg:=(lI @aN g1 h2 h3 e1 @Int.toNat_natCast hat @bV.eq_1 @Bool.not_false d2 @List.length_map.{0,0})
     repeat' (first
      |(refine aa.nil ⟨?_,?_⟩;(· first|trivial|simp[ay,au,apart,aH]))
      |refine xG1 @zg ?_
      |(refine xG2 @zg ?_;try simp only[List.drop_succ_cons,List.drop_zero,List.drop_nil])
      |refine xGp @zg hb1 ?_
      |refine xGp @zg hb2 ?_
      |(refine xG3 @zg ?_ ?_<;>intro hc)
      |(refine xG4 @zg ?_ ?_<;>intro hc)
      |(refine xG5 @zg ?_ ?_<;>intro hc)
      |refine Wp.eH ?_
      |refine Wp.mK ?_
      |refine xG6 @zg ?_
      |refine xG7 @zg ?_
      |(refine xG8 @zg ?_ ?_<;>intro hc)
      |(refine xG9 @zg ?_ ?_<;>intro hc)
      |(refine xGa @zg ?_ ?_<;>intro hc)
      |refine Wp.skip ?_
      |refine Wp.label ?_
      |refine Wp.block ?_
      |refine Wp.exit ?_
      |refine Wp.seq ?_)
     refine ⟨j+1,tk,m,by omega,by omega,?_⟩
     rw[hnx,hk2]
     exact xSu
    |true=>
     rw[q3] at hb2
     have hin:inR a b p.k=true:=by rw[inR,q1,q3];simp
     by_cases m1:most<0
     ·have d1:=decide_eq_true m1
      have hk2:=more ⟨hin,.inl m1⟩
      have zg:=(bD @aN g1 h2 h3 e1 @Int.toNat_natCast hat @bV.eq_1 @Bool.not_false d2 d1 (cj6 g0 g0' @List.length_cons.{0} @List.length_nil.{0} @Nat.zero_add @List.length_map.{0,0}))
      repeat' (first
       |(refine aa.nil ⟨?_,?_⟩;(· first|trivial|simp[ay,au,apart,aH]))
       |refine xG1 @zg ?_
       |(refine xG2 @zg ?_;try simp only[List.drop_succ_cons,List.drop_zero,List.drop_nil])
       |refine xGp @zg hb1 ?_
       |refine xGp @zg hb2 ?_
       |(refine xG3 @zg ?_ ?_<;>intro hc)
       |(refine xG4 @zg ?_ ?_<;>intro hc)
       |(refine xG5 @zg ?_ ?_<;>intro hc)
       |refine Wp.eH ?_
       |refine Wp.mK ?_
       |refine xG6 @zg ?_
       |refine xG7 @zg ?_
       |(refine xG8 @zg ?_ ?_<;>intro hc)
       |(refine xG9 @zg ?_ ?_<;>intro hc)
       |(refine xGa @zg ?_ ?_<;>intro hc)
       |refine Wp.skip ?_
       |refine Wp.label ?_
       |refine Wp.block ?_
       |refine Wp.exit ?_
       |refine Wp.seq ?_)
      refine ⟨j+1,m,m+1,by omega,by omega,?_⟩
      rw[hnx,hk2]
      refine aU.tm (by simp only[aC,go_sem,reduceIte,Nat.reduceEqDiff,Nat.reduceAdd,bx];and_intros<;>first|exact trivial|exact ab.refl _|exact ab.any _|exact ab.of_eq (by rw[←hps])|(refine ab.int ?_;omega))
     ·have d1:=decide_eq_false m1
      by_cases m2:(o.length:Int)<most
      ·have d3:=decide_eq_true m2
       have hk2:=more ⟨hin,.inr m2⟩
       have zg:=(bD @aN g1 h2 h3 e1 @Int.toNat_natCast hat @bV.eq_1 @Bool.not_false d2 d1 (cj7 d3 g0 g0' @List.length_cons.{0} @List.length_nil.{0} @Nat.zero_add @List.length_map.{0,0}))
       repeat' (first
        |(refine aa.nil ⟨?_,?_⟩;(· first|trivial|simp[ay,au,apart,aH]))
        |refine xG1 @zg ?_
        |(refine xG2 @zg ?_;try simp only[List.drop_succ_cons,List.drop_zero,List.drop_nil])
        |refine xGp @zg hb1 ?_
        |refine xGp @zg hb2 ?_
        |(refine xG3 @zg ?_ ?_<;>intro hc)
        |(refine xG4 @zg ?_ ?_<;>intro hc)
        |(refine xG5 @zg ?_ ?_<;>intro hc)
        |refine Wp.eH ?_
        |refine Wp.mK ?_
        |refine xG6 @zg ?_
        |refine xG7 @zg ?_
        |(refine xG8 @zg ?_ ?_<;>intro hc)
        |(refine xG9 @zg ?_ ?_<;>intro hc)
        |(refine xGa @zg ?_ ?_<;>intro hc)
        |refine Wp.skip ?_
        |refine Wp.label ?_
        |refine Wp.block ?_
        |refine Wp.exit ?_
        |refine Wp.seq ?_)
       refine ⟨j+1,m,m+1,by omega,by omega,?_⟩
       rw[hnx,hk2]
       refine aU.tm (by simp only[aC,go_sem,reduceIte,Nat.reduceEqDiff,Nat.reduceAdd,bx];and_intros<;>first|exact trivial|exact ab.refl _|exact ab.any _|exact ab.of_eq (by rw[←hps])|(refine ab.int ?_;omega))
      ·have d3:=decide_eq_false m2
       have hk2:=stay (fun h=>h.2.elim m1 m2)
       have zg:=(bD @aN g1 h2 h3 e1 @Int.toNat_natCast hat @bV.eq_1 @Bool.not_false d2 d1 (cj7 d3 g0 g0' @List.length_cons.{0} @List.length_nil.{0} @Nat.zero_add @List.length_map.{0,0}))
       repeat' (first
        |(refine aa.nil ⟨?_,?_⟩;(· first|trivial|simp[ay,au,apart,aH]))
        |refine xG1 @zg ?_
        |(refine xG2 @zg ?_;try simp only[List.drop_succ_cons,List.drop_zero,List.drop_nil])
        |refine xGp @zg hb1 ?_
        |refine xGp @zg hb2 ?_
        |(refine xG3 @zg ?_ ?_<;>intro hc)
        |(refine xG4 @zg ?_ ?_<;>intro hc)
        |(refine xG5 @zg ?_ ?_<;>intro hc)
        |refine Wp.eH ?_
        |refine Wp.mK ?_
        |refine xG6 @zg ?_
        |refine xG7 @zg ?_
        |(refine xG8 @zg ?_ ?_<;>intro hc)
        |(refine xG9 @zg ?_ ?_<;>intro hc)
        |(refine xGa @zg ?_ ?_<;>intro hc)
        |refine Wp.skip ?_
        |refine Wp.label ?_
        |refine Wp.block ?_
        |refine Wp.exit ?_
        |refine Wp.seq ?_)
       refine ⟨j+1,tk,m,by omega,by omega,?_⟩
       rw[hnx,hk2]
       exact xSu
 ·obtain rfl:j=l.length:=by omega
  have g1:=ixE (l.length)
  refine an0 (cj2 @aN g1) ?_
  refine aJ ?_
  rw[List.take_length];exact ab.own
def iS (Y:Tx) (l:List Pr) (a b:Bs) (most:Int):Tx × List Pr × Int:=
 er Y (dJ l a b most) a (if ((dJ l a b most).length:Int)=most then ((dJ l a b most).getD (most.toNat - 1) default).k++[0] else b)
theorem wG (Y:Tx) (l:List Pr) (a b:Bs):(if (er Y l a b).2.2=0 then (er Y l a b).2.1 else [])=(er Y l a b).2.1:=by
 unfold er
 split
 ·simp
 ·rename_i h;simp[h]
theorem wH (Y:Tx) (l:List Pr) (a b:Bs) {most:Int} (h0:¬most=0):kg Y (l.filter fun p=>inR a b p.k) a b most=iS Y l a b most:=by
 unfold iS kg dJ
 generalize (l.filter fun p=>inR a b p.k)=L
 unfold eh
 by_cases h1:most<0
 ·rw[if_neg (by omega),if_pos h1,if_neg (by omega)]
 ·rw[if_neg h1]
  by_cases h2:most≤(L.length:Int)
  ·rw[if_pos ⟨by omega,h2⟩,if_pos (by rw[List.length_take];omega)]
   have:(L.take most.toNat).getD (most.toNat - 1) default=L.getD (most.toNat - 1) default:=by
    simp[List.getD,List.getElem?_take,show most.toNat - 1<most.toNat by omega]
   rw[this]
  ·rw[if_neg (by omega),List.take_of_length_le (by omega),if_neg (by omega)]
theorem mb {S:Spc} (hr:bb S.L) {Y:Tx} (hC:Space.bL (ak Y.C)) (ht:Y.t≤S.last) (a b:Bs) (most:Int):
  dC S Y a b most=if Y.ended then (Y,[],17) else if Y.t<S.mark then (Y,[],12) else if most=0 then (Y,[],0) else iS Y (dE Y.C (cY S [] [] Y.t)) a b most:=by
 unfold dC
 cases Y.ended with
 |true=>rfl
 |false=>
  simp only[Bool.false_eq_true,if_false]
  unfold gI cn cT
  by_cases hm:Y.t<S.mark
  ·simp[hm]
  ·rw[if_neg hm,if_neg (show ¬S.last<Y.t by omega),if_pos rfl,if_neg hm]
   simp only[ne_eq,not_true_eq_false,false_or]
   by_cases h0:most=0
   ·simp[h0]
   ·rw[if_neg h0,if_neg h0]
    have hl:=ye hr hC a b Y.t
    rw[show eh (-1) (cY S a b Y.t)=cY S a b Y.t from rfl,hl,wH _ _ _ _ h0]
    rw[iS,wG]
set_option maxHeartbeats 4000000 in
theorem wI (S:Spc) (Y:Tx) (hr:bb S.L) (hS:Small S) (lks:∀p∈S.L,p.1.length≤1000000) (hC:Space.bL (ak Y.C)) (hl:Y.C.length≤64) (hk:∀c∈Y.C,cH c=true) (lk:LsK Y.rk) (ll:LsS Y.rs) (ht:Y.t≤S.last) (a b:Bs) (la:Ls a) (lb:Ls b) (most:Int):
  aA Tryz.prog 34 [eG Y,cP S,.str a,.str b,.int .i64 most] (.tup [eG (dC S Y a b most).1,.sl 2 (prs (dC S Y a b most).2.1) .any,.int .i64 (dC S Y a b most).2.2]):=by
 rw[mb hr hC ht]
 refine f34.aD (by simp) (by simp[al,av,db,cA]) (by simp[av,al,aG,db,dV]) ?_
 unfold c34
 simp only[C.zz]
 have hlsS:∀p∈S.L,Ls p.1:=fun p hp=>by have:=lks p hp;unfold Ls;omega
 have hse:=fun h=>AN S Y hr hS hlsS hl hk Y.t h
 have hal:=uZ hlsS [] [] Y.t
 have hlen0:(cY S [] [] Y.t).length≤500000:=by
  have:=rP (S:=S) (a:=[]) (b:=[]) (t:=Y.t)
  have h1:=hS.1
  by_cases hm:cT S Y.t=0
  ·rw[cn,if_pos hm] at this
   simp only[eh] at this
   have h2:(cY S [] [] Y.t).length≤S.L.length:=this
   omega
  ·have h2:(cY S [] [] Y.t).length≤S.L.length:=by
    unfold cY
    refine Nat.le_trans (List.length_filterMap_le _ _) ?_
    have h2:=((List.takeWhile_sublist (eU ([]:Space.Bs))).trans (List.drop_sublist (plK (ae S.L) []) (ae S.L))).length_le
    unfold bZ
    simpa [ae] using h2
   omega
 have hln:=lz hk (cY S [] [] Y.t) Y.C.length (Nat.le_refl _)
 have hls:=qG hk hal Y.C.length (Nat.le_refl _)
 have hkey:∀p∈dE Y.C (cY S [] [] Y.t),p.k.length≤1000000:=by
  intro p hp
  rcases (lf Y.C (im hr [] [] Y.t) hC p).1 hp with ⟨c,hc,e,-⟩|⟨h1,-⟩
  ·have:=hk c hc
   simp only[cH,Bool.and_eq_true,decide_eq_true_eq] at this
   rw[←e];omega
  ·have h3:=((jA hr).1 h1).1
   obtain ⟨x,hx,e⟩:=List.mem_map.1 h3
   rw[←e];exact lks x hx
 rw[List.take_length] at hln hls
 have hsp:=fun x hx=>At Y.rk Y.rs lk ll x hx
 have hkb:cT S Y.t=0↔¬Y.t<S.mark:=by
  unfold cT
  by_cases h:Y.t<S.mark
  ·simp[h]
  ·simp[h,show ¬S.last<Y.t by omega]
 obtain ⟨t,C,rk,rs,ended⟩:=Y
 simp only at hC hl hk lk ll ht hse hlen0 hln hls hkey hsp hkb ⊢
 have hs10:=fun most=>yU (dE C (cY S [] [] t)) (by omega) hls a b la lb most
 unfold eG at hse ⊢
 unfold cP at hse ⊢
 unfold Reads.bU Reads.bT at hsp
 cases ended with
 |true=>
  refine lJ ?_
  refine Wp.ret ⟨trivial,_,by simp only[bR,rvs,rv,go_sem,bx,ax,reduceIte,Nat.reduceEqDiff,if_true,if_false,Nat.reduceLeDiff];exact rfl,?_⟩
  exact ab.tup (af.cons (ab.refl _) (af.cons ab.cap (af.refl _)))
 |false=>
  simp only[Bool.false_eq_true,if_false]
  by_cases hm:t<S.mark
  ·have d1:=decide_eq_true hm
   rw[if_pos hm]
   refine an0 d1 ?_
   refine Wp.ret ⟨trivial,_,by simp only[bR,rvs,rv,go_sem,bx,ax,reduceIte,Nat.reduceEqDiff,if_true,if_false,Nat.reduceLeDiff];exact rfl,?_⟩
   exact ab.tup (af.cons (ab.refl _) (af.cons ab.cap (af.refl _)))
  ·have d1:=decide_eq_false hm
   rw[if_neg hm]
   have hse:=hse (hkb.2 hm)
   have hs10:=hs10 most
   by_cases h0:most=0
   ·have d2:=decide_eq_true h0
    rw[if_pos h0]
    refine an2 (cj2 d1 d2) hse hs10 ?_
    refine Wp.ret ⟨trivial,_,by simp only[bR,rvs,rv,go_sem,bx,ax,reduceIte,Nat.reduceEqDiff,if_true,if_false,Nat.reduceLeDiff];exact rfl,?_⟩
    exact ab.tup (af.cons (ab.refl _) (af.cons ab.cap (af.refl _)))
   ·have d2:=decide_eq_false h0
    rw[if_neg h0]
    unfold iS er
    have hsl:=l9 a b most (dE C (cY S [] [] t))
    have hmem:∀p∈dJ (dE C (cY S [] [] t)) a b most,p.k.length≤1000000:=by
     intro p hp
     unfold dJ eh at hp
     split at hp
     ·exact hkey p (List.mem_filter.1 hp).1
     ·exact hkey p (List.mem_filter.1 (List.mem_of_mem_take hp)).1
    generalize dJ (dE C (cY S [] [] t)) a b most=o at*
    by_cases he:(o.length:Int)=most
    ·have d3:=decide_eq_true he
     have hpos:0<o.length:=by omega
     have w1:IntKind.i64.wrap (most - 1)=((o.length - 1:Nat):Int):=by rw[IntWalk.i64_in _ (by omega)];omega
     have w2:(0:Int)≤((o.length - 1:Nat):Int):=by omega
     have w3:((o.length - 1:Nat):Int)<(o.length:Int):=by omega
     have hat:=cg o (o.length - 1) .any (by omega)
     have hq:most.toNat - 1=o.length - 1:=by omega
     have hkl:=hmem (o.getD (o.length - 1) default) (by rw[Av.ar (by omega)];exact List.getElem_mem _)
     have hadd:(o.getD (o.length - 1) default).k.length+1<9223372036854775808:=by omega
     have hsp:=hsp ⟨a,(o.getD (o.length - 1) default).k++[0]⟩ ⟨la,by unfold Ls;simp only[List.length_append,List.length_cons,List.length_nil];omega⟩
     simp only[he,if_true,hq]
     generalize hsb:cu rk rs ⟨a,(o.getD (o.length - 1) default).k++[0]⟩=sb at*
     simp only at hsp
     by_cases hz:sb.2.2=0
     ·have d4:=decide_eq_true hz
      simp only[hz,if_true]
      rw[hz] at hsp
      refine an3 (bD d1 d2 d3 @aN w1 w2 w3 @Int.toNat_natCast hat @bV.eq_1 @List.length_cons.{0} (cj5 @List.length_nil.{0} @Nat.zero_add hadd @decide_true @Bool.not_true)) hse hs10 hsp ?_
      refine Wp.ret ⟨trivial,_,by simp only[bR,rvs,rv,go_sem,bx,ax,reduceIte,Nat.reduceEqDiff,if_true,if_false,Nat.reduceLeDiff];exact rfl,?_⟩
      exact ab.refl _
     ·have d4:=decide_eq_false hz
      simp only[hz,if_false]
      refine an3 (bD d1 d2 d3 d4 @aN w1 w2 w3 @Int.toNat_natCast hat @bV.eq_1 (cj4 @List.length_cons.{0} @List.length_nil.{0} @Nat.zero_add hadd)) hse hs10 hsp ?_
      refine Wp.ret ⟨trivial,_,by simp only[bR,rvs,rv,go_sem,bx,ax,reduceIte,Nat.reduceEqDiff,if_true,if_false,Nat.reduceLeDiff];exact rfl,?_⟩
      exact ab.tup (af.cons (ab.refl _) (af.cons ab.cap (af.refl _)))
    ·have d3:=decide_eq_false he
     have hsp:=hsp ⟨a,b⟩ ⟨la,lb⟩
     simp only[he,if_false]
     generalize hsb:cu rk rs ⟨a,b⟩=sb at*
     simp only at hsp
     by_cases hz:sb.2.2=0
     ·simp only[hz,if_true]
      rw[hz] at hsp
      refine an3 (cj6 d1 d2 d3 @aN @decide_true @Bool.not_true) hse hs10 hsp ?_
      refine Wp.ret ⟨trivial,_,by simp only[bR,rvs,rv,go_sem,bx,ax,reduceIte,Nat.reduceEqDiff,if_true,if_false,Nat.reduceLeDiff];exact rfl,?_⟩
      exact ab.refl _
     ·have d4:=decide_eq_false hz
      simp only[hz,if_false]
      refine an3 (cj5 d1 d2 d3 d4 @aN) hse hs10 hsp ?_
      refine Wp.ret ⟨trivial,_,by simp only[bR,rvs,rv,go_sem,bx,ax,reduceIte,Nat.reduceEqDiff,if_true,if_false,Nat.reduceLeDiff];exact rfl,?_⟩
      exact ab.tup (af.cons (ab.refl _) (af.cons ab.cap (af.refl _)))
end Go.Proofs.YtpehfflehebmbaaGreat.Txn
end
section
set_option maxRecDepth 10000
namespace Go.Av
theorem ep {L L':List Fr} {n m:Nat} {T:List Nat} (ok:Ok L n T m) (h:∀G∈L',G∈L):OLe (lay L) (lay L'):=fun j o hj=>by
 have:∃G∈L',G.o j=some o:=by
  clear h ok
  induction L' with
  |nil=>cases hj
  |cons G L' ih=>
   rw[cO] at hj
   cases e:G.o j with
   |some o'=>
    rw[e] at hj
    simp only[Option.some_or,Option.some.injEq] at hj
    exact ⟨G,by simp,by rw[e,hj]⟩
   |none=>
    rw[e] at hj
    simp only[Option.none_or] at hj
    obtain ⟨G',h1,h2⟩:=ih hj
    exact ⟨G',by simp[h1],h2⟩
 obtain ⟨G,h1,h2⟩:=this
 exact ⟨o,ok.sub (h G h1) j o h2,cq.refl _⟩
end Go.Av
namespace Go.Proofs.YtpehfflehebmbaaGreat.Txn
open Go Go.Av Go.Proofs Go.Proofs.YtpehfflehebmbaaGreat.C Go.Proofs.YtpehfflehebmbaaGreat.Batch Go.Proofs.YtpehfflehebmbaaGreat.Space Go.Proofs.YtpehfflehebmbaaGreat.Reads
structure Ac where
 kind:Int
 n:Int
 a:Bs
 b:Bs
 l:List Ch
instance:Inhabited Ac:=⟨⟨0,0,[],[],[]⟩⟩
def dm (c:Ac):AV:= .agg [.int .i64 c.kind,.int .i64 c.n,.str c.a,.str c.b,.sl 3 (chs c.l) .any]
theorem wJ (c:Ac):av (dm c)=true:=by simp[dm,av,al,aG,dw]
def wO (s:Nat) (S:Spc) (xv:AV) (Y:Tx):Av.Obj:= .cells [.ptr s 0,.sl 2 (S.L.map Space.encI) .any,.int .i64 S.last,.int .i64 S.mark,xv,.int .i64 Y.t,.sl 3 (chs Y.C) .any,.sl 1 (strs Y.rk) .any,.sl 2 (sps Y.rs) .any,.bool Y.ended]
theorem jE {c:Ch} (h:cH c=true):c.k.length≤120:=by
 simp only[cH,Bool.and_eq_true,decide_eq_true_eq] at h
 exact h.1
structure Inv (k:Nat) (S:Spc) (Y:Tx):Prop where
 fit:Fit S k
 rt:Rt S
 tl:Y.t≤S.last
 rC:Space.bL (ak Y.C)
 lC:Y.C.length≤64
 kC:∀c∈Y.C,cH c=true
 ck:bg Y.rk Y.rs=true
 sk:∀q∈Y.rk,q.length≤2000
 ls:LsS Y.rs
theorem Inv.lsC {k:Nat} {S:Spc} {Y:Tx} (h:Inv k S Y):∀c∈Y.C,Ls c.k:=fun c hc=>by
 have:=jE (h.kC c hc);unfold Ls;omega
theorem Inv.lk {k:Nat} {S:Spc} {Y:Tx} (h:Inv k S Y):LsK Y.rk:=LsK.of fun q hq=>by
 have:=h.sk q hq;unfold Ls;omega
theorem yV (S:Spc) (a b:Bs) (t:Int):(cY S a b t).length≤S.L.length:=by
 unfold cY
 refine Nat.le_trans (List.length_filterMap_le _ _) ?_
 have h2:=((List.takeWhile_sublist (eU b)).trans (List.drop_sublist (plK (ae S.L) a) (ae S.L))).length_le
 unfold bZ
 simpa [ae] using h2
theorem wK (Y:Tx) (l:List Pr) (a b:Bs):(er Y l a b).2.1.length≤l.length:=by
 unfold er;split<;>simp
theorem wL {k:Nat} {S:Spc} {Y:Tx} (h:Inv k S Y) (hsm:Small S) (a b:Bs) (most:Int):(dC S Y a b most).2.1.length≤1000000:=by
 rw[mb h.fit.ri h.rC h.tl]
 split
 ·simp
 ·split
  ·simp
  ·split
   ·simp
   ·unfold iS
    refine Nat.le_trans (wK _ _ _ _) ?_
    refine Nat.le_trans (l9 _ _ _ _) ?_
    have h1:=lz h.kC (cY S [] [] Y.t) Y.C.length (Nat.le_refl _)
    rw[List.take_length] at h1
    have h2:=yV S [] [] Y.t
    have h3:=h.lC
    have h4:=hsm.1
    omega
end Go.Proofs.YtpehfflehebmbaaGreat.Txn
end
section
set_option maxRecDepth 10000
namespace Go.Proofs.YtpehfflehebmbaaGreat.Txn
open Go Go.Av Go.Proofs Go.Proofs.YtpehfflehebmbaaGreat.C Go.Proofs.YtpehfflehebmbaaGreat.Batch Go.Proofs.YtpehfflehebmbaaGreat.Space Go.Proofs.YtpehfflehebmbaaGreat.Reads
set_option maxHeartbeats 4000000 in
theorem u0 {s w k:Nat} {S:Spc} {FS:Fr} {xv:AV} {Y:Tx} (hS:cU s S FS) (hI:Fit S k) (hR:Rt S) (c:Ac) (hk:c.kind=4) (hl:k+c.l.length+1≤400000):
  aT Tryz.prog 10 [.ptr w 0,dm c] [FS,ob w (wO s S xv Y)] fun r L=>r= .bool true∧∃FS',L=[FS',ob w (wO s (bM S (S.last+1) c.l).1 xv Y)]∧cU s (bM S (S.last+1) c.l).1 FS':=by
 refine f10.bo (by simp) fun n m ok=>?_
 unfold c10
 simp only[C.zz]
 have hwn:=ok.lt (F:=ob w (wO s S xv Y)) (by simp) (j:=w) (o:=wO s S xv Y) (by simp[aW])
 have d1:decide (c.kind=1)=false:=decide_eq_false (by omega)
 have d2:decide (c.kind=2)=false:=decide_eq_false (by omega)
 have d3:decide (c.kind=3)=false:=decide_eq_false (by omega)
 have d4:decide (c.kind=4)=true:=decide_eq_true hk
 have hml:=hR.ml
 have hmn:=hR.mn
 have hmx:=hR.mx
 have hsm:=hI.small (show k≤500000 by omega)
 have hsn:s<n:=by obtain ⟨_,_,_,_,_,h,_⟩:=hS.go;exact ok.lt (by simp) h
 have w3:IntKind.i64.wrap (S.last+1)=S.last+1:=IntWalk.i64_in _ (by omega)
 have hap:=yq S hI.ri hsm hI.ls (S.last+1) c.l (by omega)
 have hag:=ql hS hI.ri (S.last+1) c.l (by omega) (hI.room (by omega))
 generalize hV:bM S (S.last+1) c.l=V at*
 unfold cP at hap
 have okx:=ok
 have ok1:=ok.more (.cells [.int .i64 c.kind,.int .i64 c.n,.str c.a,.str c.b,.sl 3 (chs c.l) .any])
 have fa:=aK n (.cells [.int .i64 c.kind,.int .i64 c.n,.str c.a,.str c.b,.sl 3 (chs c.l) .any]) [FS,ob w (wO s S xv Y)]
 have fw:lay [ob n (.cells [.int .i64 c.kind,.int .i64 c.n,.str c.a,.str c.b,.sl 3 (chs c.l) .any]),FS,ob w (wO s S xv Y)] w=some (.cells [.ptr s 0,.sl 2 (S.L.map Space.encI) .any,.int .i64 S.last,.int .i64 S.mark,xv,.int .i64 Y.t,.sl 3 (chs Y.C) .any,.sl 1 (strs Y.rk) .any,.sl 2 (sps Y.rs) .any,.bool Y.ended]):=ok1.sub (F:=ob w (wO s S xv Y)) (by simp) w (wO s S xv Y) (by simp[aW])
 refine Wp.aw (by simp only[go_sem,reduceIte,Nat.reduceEqDiff,Nat.reduceAdd,bx,dm];exact rfl) (by trivial) ?_
 rw[bm]
 have hw1:(w=n)=False:=eq_false (by omega)
 have hw2:(n=w)=False:=eq_false (by omega)
 have hw3:(w=n+1)=False:=eq_false (by omega)
 have hw4:(n+1=w)=False:=eq_false (by omega)
 refine rn1 (cj7 fa fw d1 d2 d3 d4 w3) hap ?_
 refine aa.nil ⟨by simp[ay,au,apart,aH,hw1,hw2,hw3,hw4],?_⟩
 rw[bm,bu]
 have ok2:=ok1.more (.cells [.sl 2 (V.1.L.map Space.encI) .any,.int .i64 V.1.last,.int .i64 V.1.mark])
 have f17:=aK (n+1) (.cells [.sl 2 (V.1.L.map Space.encI) .any,.int .i64 V.1.last,.int .i64 V.1.mark]) [ob n (.cells [.int .i64 c.kind,.int .i64 c.n,.str c.a,.str c.b,.sl 3 (chs c.l) .any]),FS,ob w (wO s S xv Y)]
 have fw2:lay [ob (n+1) (.cells [.sl 2 (V.1.L.map Space.encI) .any,.int .i64 V.1.last,.int .i64 V.1.mark]),ob n (.cells [.int .i64 c.kind,.int .i64 c.n,.str c.a,.str c.b,.sl 3 (chs c.l) .any]),FS,ob w (wO s S xv Y)] w=some (.cells [.ptr s 0,.sl 2 (S.L.map Space.encI) .any,.int .i64 S.last,.int .i64 S.mark,xv,.int .i64 Y.t,.sl 3 (chs Y.C) .any,.sl 1 (strs Y.rk) .any,.sl 2 (sps Y.rs) .any,.bool Y.ended]):=ok2.sub (F:=ob w (wO s S xv Y)) (by simp) w (wO s S xv Y) (by simp[aW])
 have e8:=Ok.bu (A:=[_,_,_]) (.cells [.ptr s 0,.sl 2 (V.1.L.map Space.encI) .any,.int .i64 V.1.last,.int .i64 V.1.mark,xv,.int .i64 Y.t,.sl 3 (chs Y.C) .any,.sl 1 (strs Y.rk) .any,.sl 2 (sps Y.rs) .any,.bool Y.ended]) ok2
 have on8:=On.dv (A:=[_,_,_]) (o':=(.cells [.ptr s 0,.sl 2 (V.1.L.map Space.encI) .any,.int .i64 V.1.last,.int .i64 V.1.mark,xv,.int .i64 Y.t,.sl 3 (chs Y.C) .any,.sl 1 (strs Y.rk) .any,.sl 2 (sps Y.rs) .any,.bool Y.ended])) ok2
 simp only[List.cons_append,List.nil_append] at e8 on8
 refine Wp.aw (by simp only[go_sem,reduceIte,Nat.reduceEqDiff,Nat.reduceAdd,bx,ax,if_true,if_false,Nat.reduceMul,Nat.reduceLeDiff,f17,fw2];exact rfl) (by trivial) ?_
 rw[e8]
 have ok3:=on8.ok
 have fw3:=ok3.sub (F:=ob w (.cells [.ptr s 0,.sl 2 (V.1.L.map Space.encI) .any,.int .i64 V.1.last,.int .i64 V.1.mark,xv,.int .i64 Y.t,.sl 3 (chs Y.C) .any,.sl 1 (strs Y.rk) .any,.sl 2 (sps Y.rs) .any,.bool Y.ended])) (by simp) w _ (by simp[aW];rfl)
 have fa3:=ok3.sub (F:=ob n (.cells [.int .i64 c.kind,.int .i64 c.n,.str c.a,.str c.b,.sl 3 (chs c.l) .any])) (by simp) n _ (by simp[aW];rfl)
 have ok:=ok3
 refine xL0 (cj3 fa3 fw3 w3) (xK hS) ?_
 intro ids
 refine aa.cM [_,_] [FS] [_] (by simp only[go_sem,bx]) xA4 hag ok3 fun r G' n' T' m' ids hq on hids=>?_
 obtain ⟨rfl,FS',rfl,hres⟩:=hq
 simp only[List.cons_append,List.nil_append,List.append_nil] at on ⊢
 have dz:decide (V.2=V.2)=true:=decide_eq_true rfl
 refine aa.evR (by simp only[go_sem,reduceIte,Nat.reduceEqDiff,Nat.reduceAdd,bx,dz];exact rfl) ?_
 refine aa.nil ⟨by simp[ay,au,apart,aH],?_⟩
 refine de ?_
 have onA:=((((On.refl ok2).grown.grown).step on8).step on).cB.cB
 exact Wp.ret ⟨trivial,_,rfl,_,_,On.iX onA (ep on.ok (fun G hG=>List.mem_cons_of_mem _ (List.mem_cons_of_mem _ hG))) (ab.refl _) ⟨rfl,_,rfl,hres⟩⟩
set_option maxHeartbeats 4000000 in
theorem u2 {s w k:Nat} {S:Spc} {FS:Fr} {xv:AV} {Y:Tx} (hS:cU s S FS) (hI:Fit S k) (hR:Rt S) (c:Ac) (hk:c.kind=5) (hl:k+1≤400000):
  aT Tryz.prog 10 [.ptr w 0,dm c] [FS,ob w (wO s S xv Y)] fun r L=>r= .bool true∧∃FS',L=[FS',ob w (wO s (br S c.n).1 xv Y)]∧cU s (br S c.n).1 FS':=by
 refine f10.bo (by simp) fun n m ok=>?_
 unfold c10
 simp only[C.zz]
 have hwn:=ok.lt (F:=ob w (wO s S xv Y)) (by simp) (j:=w) (o:=wO s S xv Y) (by simp[aW])
 have d1:decide (c.kind=1)=false:=decide_eq_false (by omega)
 have d2:decide (c.kind=2)=false:=decide_eq_false (by omega)
 have d3:decide (c.kind=3)=false:=decide_eq_false (by omega)
 have d4:decide (c.kind=4)=false:=decide_eq_false (by omega)
 have d5:decide (c.kind=5)=true:=decide_eq_true hk
 have hml:=hR.ml
 have hmn:=hR.mn
 have hmx:=hR.mx
 have hsm:=hI.small (show k≤500000 by omega)
 have hsn:s<n:=by obtain ⟨_,_,_,_,_,h,_⟩:=hS.go;exact ok.lt (by simp) h
 have hap:=Al S hI.ri hsm c.n
 have hag:=yg hS hI.ri hsm c.n
 generalize hV:br S c.n=V at*
 unfold cP at hap
 have okx:=ok
 have ok1:=ok.more (.cells [.int .i64 c.kind,.int .i64 c.n,.str c.a,.str c.b,.sl 3 (chs c.l) .any])
 have fa:=aK n (.cells [.int .i64 c.kind,.int .i64 c.n,.str c.a,.str c.b,.sl 3 (chs c.l) .any]) [FS,ob w (wO s S xv Y)]
 have fw:lay [ob n (.cells [.int .i64 c.kind,.int .i64 c.n,.str c.a,.str c.b,.sl 3 (chs c.l) .any]),FS,ob w (wO s S xv Y)] w=some (.cells [.ptr s 0,.sl 2 (S.L.map Space.encI) .any,.int .i64 S.last,.int .i64 S.mark,xv,.int .i64 Y.t,.sl 3 (chs Y.C) .any,.sl 1 (strs Y.rk) .any,.sl 2 (sps Y.rs) .any,.bool Y.ended]):=ok1.sub (F:=ob w (wO s S xv Y)) (by simp) w (wO s S xv Y) (by simp[aW])
 refine Wp.aw (by simp only[go_sem,reduceIte,Nat.reduceEqDiff,Nat.reduceAdd,bx,dm];exact rfl) (by trivial) ?_
 rw[bm]
 have hw1:(w=n)=False:=eq_false (by omega)
 have hw2:(n=w)=False:=eq_false (by omega)
 have hw3:(w=n+1)=False:=eq_false (by omega)
 have hw4:(n+1=w)=False:=eq_false (by omega)
 refine rn1 (cj7 fa fw d1 d2 d3 d4 d5) hap ?_
 refine aa.nil ⟨by simp[ay,au,apart,aH,hw1,hw2,hw3,hw4],?_⟩
 rw[bm,bu]
 have ok2:=ok1.more (.cells [.sl 2 (V.1.L.map Space.encI) .any,.int .i64 V.1.last,.int .i64 V.1.mark])
 have f17:=aK (n+1) (.cells [.sl 2 (V.1.L.map Space.encI) .any,.int .i64 V.1.last,.int .i64 V.1.mark]) [ob n (.cells [.int .i64 c.kind,.int .i64 c.n,.str c.a,.str c.b,.sl 3 (chs c.l) .any]),FS,ob w (wO s S xv Y)]
 have fw2:lay [ob (n+1) (.cells [.sl 2 (V.1.L.map Space.encI) .any,.int .i64 V.1.last,.int .i64 V.1.mark]),ob n (.cells [.int .i64 c.kind,.int .i64 c.n,.str c.a,.str c.b,.sl 3 (chs c.l) .any]),FS,ob w (wO s S xv Y)] w=some (.cells [.ptr s 0,.sl 2 (S.L.map Space.encI) .any,.int .i64 S.last,.int .i64 S.mark,xv,.int .i64 Y.t,.sl 3 (chs Y.C) .any,.sl 1 (strs Y.rk) .any,.sl 2 (sps Y.rs) .any,.bool Y.ended]):=ok2.sub (F:=ob w (wO s S xv Y)) (by simp) w (wO s S xv Y) (by simp[aW])
 have e8:=Ok.bu (A:=[_,_,_]) (.cells [.ptr s 0,.sl 2 (V.1.L.map Space.encI) .any,.int .i64 V.1.last,.int .i64 V.1.mark,xv,.int .i64 Y.t,.sl 3 (chs Y.C) .any,.sl 1 (strs Y.rk) .any,.sl 2 (sps Y.rs) .any,.bool Y.ended]) ok2
 have on8:=On.dv (A:=[_,_,_]) (o':=(.cells [.ptr s 0,.sl 2 (V.1.L.map Space.encI) .any,.int .i64 V.1.last,.int .i64 V.1.mark,xv,.int .i64 Y.t,.sl 3 (chs Y.C) .any,.sl 1 (strs Y.rk) .any,.sl 2 (sps Y.rs) .any,.bool Y.ended])) ok2
 simp only[List.cons_append,List.nil_append] at e8 on8
 refine Wp.aw (by simp only[go_sem,reduceIte,Nat.reduceEqDiff,Nat.reduceAdd,bx,ax,if_true,if_false,Nat.reduceMul,Nat.reduceLeDiff,f17,fw2];exact rfl) (by trivial) ?_
 rw[e8]
 have ok3:=on8.ok
 have fw3:=ok3.sub (F:=ob w (.cells [.ptr s 0,.sl 2 (V.1.L.map Space.encI) .any,.int .i64 V.1.last,.int .i64 V.1.mark,xv,.int .i64 Y.t,.sl 3 (chs Y.C) .any,.sl 1 (strs Y.rk) .any,.sl 2 (sps Y.rs) .any,.bool Y.ended])) (by simp) w _ (by simp[aW];rfl)
 have fa3:=ok3.sub (F:=ob n (.cells [.int .i64 c.kind,.int .i64 c.n,.str c.a,.str c.b,.sl 3 (chs c.l) .any])) (by simp) n _ (by simp[aW];rfl)
 have ok:=ok3
 refine rn0 (cj2 fa3 fw3) ?_
 refine aa.cM [_,_] [FS] [_] (by simp only[go_sem,bx]) xA4 hag ok3 fun r G' n' T' m' ids hq on hids=>?_
 obtain ⟨rfl,FS',rfl,hres⟩:=hq
 simp only[List.cons_append,List.nil_append,List.append_nil] at on ⊢
 have dz:decide (V.2=V.2)=true:=decide_eq_true rfl
 refine aa.evR (by simp only[go_sem,reduceIte,Nat.reduceEqDiff,Nat.reduceAdd,bx,dz];exact rfl) ?_
 refine aa.nil ⟨by simp[ay,au,apart,aH],?_⟩
 refine de ?_
 have onA:=((((On.refl ok2).grown.grown).step on8).step on).cB.cB
 exact Wp.ret ⟨trivial,_,rfl,_,_,On.iX onA (ep on.ok (fun G hG=>List.mem_cons_of_mem _ (List.mem_cons_of_mem _ hG))) (ab.refl _) ⟨rfl,_,rfl,hres⟩⟩
set_option maxHeartbeats 4000000 in
theorem AO {s w x k:Nat} {S:Spc} {F FS:Fr} {Y:Tx} (hF:TxF x s Y F) (hS:cU s S FS) (hI:Inv k S Y) (c:Ac) (hk:c.kind=1) (hl:k+1≤400000) (la:Ls c.a):
  aT Tryz.prog 10 [.ptr w 0,dm c] [F,FS,ob w (wO s S (.ptr x 0) Y)] fun r L=>r= .bool true∧∃F',L=[F',FS,ob w (wO s S (.ptr x 0) (eF Y ⟨c.a,[],true⟩).1)]∧TxF x s (eF Y ⟨c.a,[],true⟩).1 F':=by
 refine f10.bo (by simp) fun n m ok=>?_
 unfold c10
 simp only[C.zz]
 have hwn:=ok.lt (F:=ob w (wO s S (.ptr x 0) Y)) (by simp) (j:=w) (o:=wO s S (.ptr x 0) Y) (by simp[aW])
 have d1:decide (c.kind=1)=true:=decide_eq_true hk
 have hsm:=hI.fit.small (show k≤500000 by omega)
 have hsn:s<n:=by obtain ⟨_,_,_,_,_,h,_⟩:=hS.go;exact ok.lt (by simp) h
 have hxn:x<n:=by obtain ⟨_,_,_,_,_,h,_⟩:=hF.go;exact ok.lt (by simp) h
 have hap:=l5 Y hI.rC hI.lC hI.lsC ⟨c.a,[],true⟩ la (fun _=>rfl)
 have hag:=B0 hF hI.rC hI.lC c.a
 generalize hV:eF Y ⟨c.a,[],true⟩=V at*
 unfold eG aL at hap
 have okx:=ok
 have ok1:=ok.more (.cells [.int .i64 c.kind,.int .i64 c.n,.str c.a,.str c.b,.sl 3 (chs c.l) .any])
 have fa:=aK n (.cells [.int .i64 c.kind,.int .i64 c.n,.str c.a,.str c.b,.sl 3 (chs c.l) .any]) [F,FS,ob w (wO s S (.ptr x 0) Y)]
 have fw:lay [ob n (.cells [.int .i64 c.kind,.int .i64 c.n,.str c.a,.str c.b,.sl 3 (chs c.l) .any]),F,FS,ob w (wO s S (.ptr x 0) Y)] w=some (.cells [.ptr s 0,.sl 2 (S.L.map Space.encI) .any,.int .i64 S.last,.int .i64 S.mark,(.ptr x 0),.int .i64 Y.t,.sl 3 (chs Y.C) .any,.sl 1 (strs Y.rk) .any,.sl 2 (sps Y.rs) .any,.bool Y.ended]):=ok1.sub (F:=ob w (wO s S (.ptr x 0) Y)) (by simp) w (wO s S (.ptr x 0) Y) (by simp[aW])
 refine Wp.aw (by simp only[go_sem,reduceIte,Nat.reduceEqDiff,Nat.reduceAdd,bx,dm];exact rfl) (by trivial) ?_
 rw[bm]
 have hw1:(w=n)=False:=eq_false (by omega)
 have hw2:(n=w)=False:=eq_false (by omega)
 have hw3:(w=n+1)=False:=eq_false (by omega)
 have hw4:(n+1=w)=False:=eq_false (by omega)
 refine rn1 (cj3 fa fw d1) hap ?_
 refine aa.nil ⟨by simp[ay,au,apart,aH,hw1,hw2,hw3,hw4],?_⟩
 rw[bm,bu]
 have ok2:=ok1.more (.cells [.int .i64 V.1.t,.sl 3 (chs V.1.C) .any,.sl 1 (strs V.1.rk) .any,.sl 2 (sps V.1.rs) .any,.bool V.1.ended])
 have f17:=aK (n+1) (.cells [.int .i64 V.1.t,.sl 3 (chs V.1.C) .any,.sl 1 (strs V.1.rk) .any,.sl 2 (sps V.1.rs) .any,.bool V.1.ended]) [ob n (.cells [.int .i64 c.kind,.int .i64 c.n,.str c.a,.str c.b,.sl 3 (chs c.l) .any]),F,FS,ob w (wO s S (.ptr x 0) Y)]
 have fw2:lay [ob (n+1) (.cells [.int .i64 V.1.t,.sl 3 (chs V.1.C) .any,.sl 1 (strs V.1.rk) .any,.sl 2 (sps V.1.rs) .any,.bool V.1.ended]),ob n (.cells [.int .i64 c.kind,.int .i64 c.n,.str c.a,.str c.b,.sl 3 (chs c.l) .any]),F,FS,ob w (wO s S (.ptr x 0) Y)] w=some (.cells [.ptr s 0,.sl 2 (S.L.map Space.encI) .any,.int .i64 S.last,.int .i64 S.mark,(.ptr x 0),.int .i64 Y.t,.sl 3 (chs Y.C) .any,.sl 1 (strs Y.rk) .any,.sl 2 (sps Y.rs) .any,.bool Y.ended]):=ok2.sub (F:=ob w (wO s S (.ptr x 0) Y)) (by simp) w (wO s S (.ptr x 0) Y) (by simp[aW])
 have e8:=Ok.bu (A:=[_,_,_,_]) (.cells [.ptr s 0,.sl 2 (S.L.map Space.encI) .any,.int .i64 S.last,.int .i64 S.mark,(.ptr x 0),.int .i64 V.1.t,.sl 3 (chs V.1.C) .any,.sl 1 (strs V.1.rk) .any,.sl 2 (sps V.1.rs) .any,.bool V.1.ended]) ok2
 have on8:=On.dv (A:=[_,_,_,_]) (o':=(.cells [.ptr s 0,.sl 2 (S.L.map Space.encI) .any,.int .i64 S.last,.int .i64 S.mark,(.ptr x 0),.int .i64 V.1.t,.sl 3 (chs V.1.C) .any,.sl 1 (strs V.1.rk) .any,.sl 2 (sps V.1.rs) .any,.bool V.1.ended])) ok2
 simp only[List.cons_append,List.nil_append] at e8 on8
 refine Wp.aw (by simp only[go_sem,reduceIte,Nat.reduceEqDiff,Nat.reduceAdd,bx,ax,if_true,if_false,Nat.reduceMul,Nat.reduceLeDiff,f17,fw2];exact rfl) (by trivial) ?_
 rw[e8]
 have ok3:=on8.ok
 have fw3:=ok3.sub (F:=ob w (.cells [.ptr s 0,.sl 2 (S.L.map Space.encI) .any,.int .i64 S.last,.int .i64 S.mark,(.ptr x 0),.int .i64 V.1.t,.sl 3 (chs V.1.C) .any,.sl 1 (strs V.1.rk) .any,.sl 2 (sps V.1.rs) .any,.bool V.1.ended])) (by simp) w _ (by simp[aW];rfl)
 have fa3:=ok3.sub (F:=ob n (.cells [.int .i64 c.kind,.int .i64 c.n,.str c.a,.str c.b,.sl 3 (chs c.l) .any])) (by simp) n _ (by simp[aW];rfl)
 have ok:=ok3
 refine rn0 (cj2 fa3 fw3) ?_
 refine aa.cM [_,_] [F] [_,_] (by simp only[go_sem,bx]) xA4 hag ok3 fun r G' n' T' m' ids hq on hids=>?_
 obtain ⟨rfl,F',rfl,hres⟩:=hq
 simp only[List.cons_append,List.nil_append,List.append_nil] at on ⊢
 have dz:decide (V.2=V.2)=true:=decide_eq_true rfl
 refine aa.evR (by simp only[go_sem,reduceIte,Nat.reduceEqDiff,Nat.reduceAdd,bx,dz];exact rfl) ?_
 refine aa.nil ⟨by simp[ay,au,apart,aH],?_⟩
 refine de ?_
 have onA:=((((On.refl ok2).grown.grown).step on8).step on).cB.cB
 exact Wp.ret ⟨trivial,_,rfl,_,_,On.iX onA (ep on.ok (fun G hG=>List.mem_cons_of_mem _ (List.mem_cons_of_mem _ hG))) (ab.refl _) ⟨rfl,_,rfl,hres⟩⟩
set_option maxHeartbeats 4000000 in
theorem AP {s w x k:Nat} {S:Spc} {F FS:Fr} {Y:Tx} (hF:TxF x s Y F) (hS:cU s S FS) (hI:Inv k S Y) (c:Ac) (hk:c.kind=2) (hl:k+1≤400000) (la:Ls c.a):
  aT Tryz.prog 10 [.ptr w 0,dm c] [F,FS,ob w (wO s S (.ptr x 0) Y)] fun r L=>r= .bool true∧∃F',L=[F',FS,ob w (wO s S (.ptr x 0) (gG S Y c.a).1)]∧TxF x s (gG S Y c.a).1 F':=by
 refine f10.bo (by simp) fun n m ok=>?_
 unfold c10
 simp only[C.zz]
 have hwn:=ok.lt (F:=ob w (wO s S (.ptr x 0) Y)) (by simp) (j:=w) (o:=wO s S (.ptr x 0) Y) (by simp[aW])
 have d1:decide (c.kind=1)=false:=decide_eq_false (by omega)
 have d2:decide (c.kind=2)=true:=decide_eq_true hk
 have hsm:=hI.fit.small (show k≤500000 by omega)
 have hsn:s<n:=by obtain ⟨_,_,_,_,_,h,_⟩:=hS.go;exact ok.lt (by simp) h
 have hxn:x<n:=by obtain ⟨_,_,_,_,_,h,_⟩:=hF.go;exact ok.lt (by simp) h
 have hap:=yM S Y hsm.wide (by have:=hI.lC;omega) hI.lk hI.ls hI.tl c.a la
 have hag:=Bj hF hS hsm.wide c.a
 generalize hV:gG S Y c.a=V at*
 unfold eG cP at hap
 have okx:=ok
 have ok1:=ok.more (.cells [.int .i64 c.kind,.int .i64 c.n,.str c.a,.str c.b,.sl 3 (chs c.l) .any])
 have fa:=aK n (.cells [.int .i64 c.kind,.int .i64 c.n,.str c.a,.str c.b,.sl 3 (chs c.l) .any]) [F,FS,ob w (wO s S (.ptr x 0) Y)]
 have fw:lay [ob n (.cells [.int .i64 c.kind,.int .i64 c.n,.str c.a,.str c.b,.sl 3 (chs c.l) .any]),F,FS,ob w (wO s S (.ptr x 0) Y)] w=some (.cells [.ptr s 0,.sl 2 (S.L.map Space.encI) .any,.int .i64 S.last,.int .i64 S.mark,(.ptr x 0),.int .i64 Y.t,.sl 3 (chs Y.C) .any,.sl 1 (strs Y.rk) .any,.sl 2 (sps Y.rs) .any,.bool Y.ended]):=ok1.sub (F:=ob w (wO s S (.ptr x 0) Y)) (by simp) w (wO s S (.ptr x 0) Y) (by simp[aW])
 refine Wp.aw (by simp only[go_sem,reduceIte,Nat.reduceEqDiff,Nat.reduceAdd,bx,dm];exact rfl) (by trivial) ?_
 rw[bm]
 have hw1:(w=n)=False:=eq_false (by omega)
 have hw2:(n=w)=False:=eq_false (by omega)
 have hw3:(w=n+1)=False:=eq_false (by omega)
 have hw4:(n+1=w)=False:=eq_false (by omega)
 refine rn1 (cj4 fa fw d1 d2) hap ?_
 refine aa.nil ⟨by simp[ay,au,apart,aH,hw1,hw2,hw3,hw4],?_⟩
 rw[bm,bu]
 have ok2:=ok1.more (.cells [.int .i64 V.1.t,.sl 3 (chs V.1.C) .any,.sl 1 (strs V.1.rk) .any,.sl 2 (sps V.1.rs) .any,.bool V.1.ended])
 have f17:=aK (n+1) (.cells [.int .i64 V.1.t,.sl 3 (chs V.1.C) .any,.sl 1 (strs V.1.rk) .any,.sl 2 (sps V.1.rs) .any,.bool V.1.ended]) [ob n (.cells [.int .i64 c.kind,.int .i64 c.n,.str c.a,.str c.b,.sl 3 (chs c.l) .any]),F,FS,ob w (wO s S (.ptr x 0) Y)]
 have fw2:lay [ob (n+1) (.cells [.int .i64 V.1.t,.sl 3 (chs V.1.C) .any,.sl 1 (strs V.1.rk) .any,.sl 2 (sps V.1.rs) .any,.bool V.1.ended]),ob n (.cells [.int .i64 c.kind,.int .i64 c.n,.str c.a,.str c.b,.sl 3 (chs c.l) .any]),F,FS,ob w (wO s S (.ptr x 0) Y)] w=some (.cells [.ptr s 0,.sl 2 (S.L.map Space.encI) .any,.int .i64 S.last,.int .i64 S.mark,(.ptr x 0),.int .i64 Y.t,.sl 3 (chs Y.C) .any,.sl 1 (strs Y.rk) .any,.sl 2 (sps Y.rs) .any,.bool Y.ended]):=ok2.sub (F:=ob w (wO s S (.ptr x 0) Y)) (by simp) w (wO s S (.ptr x 0) Y) (by simp[aW])
 have e8:=Ok.bu (A:=[_,_,_,_]) (.cells [.ptr s 0,.sl 2 (S.L.map Space.encI) .any,.int .i64 S.last,.int .i64 S.mark,(.ptr x 0),.int .i64 V.1.t,.sl 3 (chs V.1.C) .any,.sl 1 (strs V.1.rk) .any,.sl 2 (sps V.1.rs) .any,.bool V.1.ended]) ok2
 have on8:=On.dv (A:=[_,_,_,_]) (o':=(.cells [.ptr s 0,.sl 2 (S.L.map Space.encI) .any,.int .i64 S.last,.int .i64 S.mark,(.ptr x 0),.int .i64 V.1.t,.sl 3 (chs V.1.C) .any,.sl 1 (strs V.1.rk) .any,.sl 2 (sps V.1.rs) .any,.bool V.1.ended])) ok2
 simp only[List.cons_append,List.nil_append] at e8 on8
 refine Wp.aw (by simp only[go_sem,reduceIte,Nat.reduceEqDiff,Nat.reduceAdd,bx,ax,if_true,if_false,Nat.reduceMul,Nat.reduceLeDiff,f17,fw2];exact rfl) (by trivial) ?_
 rw[e8]
 have ok3:=on8.ok
 have fw3:=ok3.sub (F:=ob w (.cells [.ptr s 0,.sl 2 (S.L.map Space.encI) .any,.int .i64 S.last,.int .i64 S.mark,(.ptr x 0),.int .i64 V.1.t,.sl 3 (chs V.1.C) .any,.sl 1 (strs V.1.rk) .any,.sl 2 (sps V.1.rs) .any,.bool V.1.ended])) (by simp) w _ (by simp[aW];rfl)
 have fa3:=ok3.sub (F:=ob n (.cells [.int .i64 c.kind,.int .i64 c.n,.str c.a,.str c.b,.sl 3 (chs c.l) .any])) (by simp) n _ (by simp[aW];rfl)
 have ok:=ok3
 refine rn0 (cj2 fa3 fw3) ?_
 refine aa.cM [_,_] [F,FS] [_] (by simp only[go_sem,bx]) xA4 hag ok3 fun r G' n' T' m' ids hq on hids=>?_
 obtain ⟨rfl,F',rfl,hres⟩:=hq
 simp only[List.cons_append,List.nil_append,List.append_nil] at on ⊢
 have dz:decide (V.2.1=V.2.1)=true:=decide_eq_true rfl
 have dy:decide (V.2.2=V.2.2)=true:=decide_eq_true rfl
 refine aa.evR (by simp only[go_sem,reduceIte,Nat.reduceEqDiff,Nat.reduceAdd,bx,dz,dy];exact rfl) ?_
 refine aa.nil ⟨by simp[ay,au,apart,aH],?_⟩
 refine rn0 (cj2 dz dy) ?_
 have onA:=((((On.refl ok2).grown.grown).step on8).step on).cB.cB
 exact Wp.ret ⟨trivial,_,rfl,_,_,On.iX onA (ep on.ok (fun G hG=>List.mem_cons_of_mem _ (List.mem_cons_of_mem _ hG))) (ab.refl _) ⟨rfl,_,rfl,hres⟩⟩
set_option maxHeartbeats 4000000 in
theorem AQ {s w x k:Nat} {S:Spc} {F FS:Fr} {Y:Tx} (hF:TxF x s Y F) (hS:cU s S FS) (hI:Inv k S Y) (c:Ac) (hk:c.kind=3) (hl:k+1≤400000) (la:Ls c.a) (lb:Ls c.b):
  aT Tryz.prog 10 [.ptr w 0,dm c] [F,FS,ob w (wO s S (.ptr x 0) Y)] fun r L=>r= .bool true∧∃F',L=[F',FS,ob w (wO s S (.ptr x 0) (dC S Y c.a c.b c.n).1)]∧TxF x s (dC S Y c.a c.b c.n).1 F':=by
 refine f10.bo (by simp) fun n m ok=>?_
 unfold c10
 simp only[C.zz]
 have hwn:=ok.lt (F:=ob w (wO s S (.ptr x 0) Y)) (by simp) (j:=w) (o:=wO s S (.ptr x 0) Y) (by simp[aW])
 have d1:decide (c.kind=1)=false:=decide_eq_false (by omega)
 have d2:decide (c.kind=2)=false:=decide_eq_false (by omega)
 have d3:decide (c.kind=3)=true:=decide_eq_true hk
 have hsm:=hI.fit.small (show k≤500000 by omega)
 have hsn:s<n:=by obtain ⟨_,_,_,_,_,h,_⟩:=hS.go;exact ok.lt (by simp) h
 have hxn:x<n:=by obtain ⟨_,_,_,_,_,h,_⟩:=hF.go;exact ok.lt (by simp) h
 have hap:=wI S Y hI.fit.ri hsm (fun p hp=>by have:=(hI.rt.it p hp).1;omega) hI.rC hI.lC hI.kC hI.lk hI.ls hI.tl c.a c.b la lb c.n
 have hag:=qE hF hS hI.fit.ri hsm (fun p hp=>by have:=(hI.rt.it p hp).1;omega) hI.rC hI.lC (fun q hq=>by have:=jE (hI.kC q hq);omega) c.a c.b c.n
 have hln:=wL hI hsm c.a c.b c.n
 generalize hV:dC S Y c.a c.b c.n=V at*
 have hsa:=r9 V.2.1 V.2.1 hln
 unfold eG cP at hap
 have okx:=ok
 have ok1:=ok.more (.cells [.int .i64 c.kind,.int .i64 c.n,.str c.a,.str c.b,.sl 3 (chs c.l) .any])
 have fa:=aK n (.cells [.int .i64 c.kind,.int .i64 c.n,.str c.a,.str c.b,.sl 3 (chs c.l) .any]) [F,FS,ob w (wO s S (.ptr x 0) Y)]
 have fw:lay [ob n (.cells [.int .i64 c.kind,.int .i64 c.n,.str c.a,.str c.b,.sl 3 (chs c.l) .any]),F,FS,ob w (wO s S (.ptr x 0) Y)] w=some (.cells [.ptr s 0,.sl 2 (S.L.map Space.encI) .any,.int .i64 S.last,.int .i64 S.mark,(.ptr x 0),.int .i64 Y.t,.sl 3 (chs Y.C) .any,.sl 1 (strs Y.rk) .any,.sl 2 (sps Y.rs) .any,.bool Y.ended]):=ok1.sub (F:=ob w (wO s S (.ptr x 0) Y)) (by simp) w (wO s S (.ptr x 0) Y) (by simp[aW])
 refine Wp.aw (by simp only[go_sem,reduceIte,Nat.reduceEqDiff,Nat.reduceAdd,bx,dm];exact rfl) (by trivial) ?_
 rw[bm]
 have hw1:(w=n)=False:=eq_false (by omega)
 have hw2:(n=w)=False:=eq_false (by omega)
 have hw3:(w=n+1)=False:=eq_false (by omega)
 have hw4:(n+1=w)=False:=eq_false (by omega)
 refine rn1 (cj5 fa fw d1 d2 d3) hap ?_
 refine aa.nil ⟨by simp[ay,au,apart,aH,hw1,hw2,hw3,hw4],?_⟩
 rw[bm,bu]
 have ok2:=ok1.more (.cells [.int .i64 V.1.t,.sl 3 (chs V.1.C) .any,.sl 1 (strs V.1.rk) .any,.sl 2 (sps V.1.rs) .any,.bool V.1.ended])
 have f17:=aK (n+1) (.cells [.int .i64 V.1.t,.sl 3 (chs V.1.C) .any,.sl 1 (strs V.1.rk) .any,.sl 2 (sps V.1.rs) .any,.bool V.1.ended]) [ob n (.cells [.int .i64 c.kind,.int .i64 c.n,.str c.a,.str c.b,.sl 3 (chs c.l) .any]),F,FS,ob w (wO s S (.ptr x 0) Y)]
 have fw2:lay [ob (n+1) (.cells [.int .i64 V.1.t,.sl 3 (chs V.1.C) .any,.sl 1 (strs V.1.rk) .any,.sl 2 (sps V.1.rs) .any,.bool V.1.ended]),ob n (.cells [.int .i64 c.kind,.int .i64 c.n,.str c.a,.str c.b,.sl 3 (chs c.l) .any]),F,FS,ob w (wO s S (.ptr x 0) Y)] w=some (.cells [.ptr s 0,.sl 2 (S.L.map Space.encI) .any,.int .i64 S.last,.int .i64 S.mark,(.ptr x 0),.int .i64 Y.t,.sl 3 (chs Y.C) .any,.sl 1 (strs Y.rk) .any,.sl 2 (sps Y.rs) .any,.bool Y.ended]):=ok2.sub (F:=ob w (wO s S (.ptr x 0) Y)) (by simp) w (wO s S (.ptr x 0) Y) (by simp[aW])
 have e8:=Ok.bu (A:=[_,_,_,_]) (.cells [.ptr s 0,.sl 2 (S.L.map Space.encI) .any,.int .i64 S.last,.int .i64 S.mark,(.ptr x 0),.int .i64 V.1.t,.sl 3 (chs V.1.C) .any,.sl 1 (strs V.1.rk) .any,.sl 2 (sps V.1.rs) .any,.bool V.1.ended]) ok2
 have on8:=On.dv (A:=[_,_,_,_]) (o':=(.cells [.ptr s 0,.sl 2 (S.L.map Space.encI) .any,.int .i64 S.last,.int .i64 S.mark,(.ptr x 0),.int .i64 V.1.t,.sl 3 (chs V.1.C) .any,.sl 1 (strs V.1.rk) .any,.sl 2 (sps V.1.rs) .any,.bool V.1.ended])) ok2
 simp only[List.cons_append,List.nil_append] at e8 on8
 refine Wp.aw (by simp only[go_sem,reduceIte,Nat.reduceEqDiff,Nat.reduceAdd,bx,ax,if_true,if_false,Nat.reduceMul,Nat.reduceLeDiff,f17,fw2];exact rfl) (by trivial) ?_
 rw[e8]
 have ok3:=on8.ok
 have fw3:=ok3.sub (F:=ob w (.cells [.ptr s 0,.sl 2 (S.L.map Space.encI) .any,.int .i64 S.last,.int .i64 S.mark,(.ptr x 0),.int .i64 V.1.t,.sl 3 (chs V.1.C) .any,.sl 1 (strs V.1.rk) .any,.sl 2 (sps V.1.rs) .any,.bool V.1.ended])) (by simp) w _ (by simp[aW];rfl)
 have fa3:=ok3.sub (F:=ob n (.cells [.int .i64 c.kind,.int .i64 c.n,.str c.a,.str c.b,.sl 3 (chs c.l) .any])) (by simp) n _ (by simp[aW];rfl)
 have ok:=ok3
 refine rn0 (cj2 fa3 fw3) ?_
 refine aa.cM [_,_] [F,FS] [_] (by simp only[go_sem,bx]) xA4 hag ok3 fun r G' n' T' m' ids hq on hids=>?_
 obtain ⟨rfl,F',rfl,hres⟩:=hq
 simp only[List.cons_append,List.nil_append,List.append_nil] at on ⊢
 have dz:decide (V.2.1=V.2.1)=true:=decide_eq_true rfl
 have dy:decide (V.2.2=V.2.2)=true:=decide_eq_true rfl
 rw[dz] at hsa
 refine aa.evR xA1 ?_
 refine aa.nil ⟨by simp[ay,au,apart,aH],?_⟩
 refine rn1 dy hsa ?_
 have onA:=((((On.refl ok2).grown.grown).step on8).step on).cB.cB
 exact Wp.ret ⟨trivial,_,rfl,_,_,On.iX onA (ep on.ok (fun G hG=>List.mem_cons_of_mem _ (List.mem_cons_of_mem _ hG))) (ab.refl _) ⟨rfl,_,rfl,hres⟩⟩
set_option maxHeartbeats 4000000 in
theorem AR {s w x k:Nat} {S:Spc} {F FS:Fr} {Y:Tx} (hF:TxF x s Y F) (hS:cU s S FS) (c:Ac) (hk:c.kind=6):
  aT Tryz.prog 10 [.ptr w 0,dm c] [F,FS,ob w (wO s S (.ptr x 0) Y)] fun r L=>r= .bool true∧∃F',L=[F',FS,ob w (wO s S (.ptr x 0) {Y with ended:=true})]∧TxF x s {Y with ended:=true} F':=by
 refine f10.bo (by simp) fun n m ok=>?_
 unfold c10
 simp only[C.zz]
 have hwn:=ok.lt (F:=ob w (wO s S (.ptr x 0) Y)) (by simp) (j:=w) (o:=wO s S (.ptr x 0) Y) (by simp[aW])
 have hsn:s<n:=by obtain ⟨_,_,_,_,_,h,_⟩:=hS.go;exact ok.lt (by simp) h
 have hxn:x<n:=by obtain ⟨_,_,_,_,_,h,_⟩:=hF.go;exact ok.lt (by simp) h
 have okx:=ok
 have ok1:=ok.more (.cells [.int .i64 c.kind,.int .i64 c.n,.str c.a,.str c.b,.sl 3 (chs c.l) .any])
 have fa:=aK n (.cells [.int .i64 c.kind,.int .i64 c.n,.str c.a,.str c.b,.sl 3 (chs c.l) .any]) [F,FS,ob w (wO s S (.ptr x 0) Y)]
 have fw:lay [ob n (.cells [.int .i64 c.kind,.int .i64 c.n,.str c.a,.str c.b,.sl 3 (chs c.l) .any]),F,FS,ob w (wO s S (.ptr x 0) Y)] w=some (.cells [.ptr s 0,.sl 2 (S.L.map Space.encI) .any,.int .i64 S.last,.int .i64 S.mark,(.ptr x 0),.int .i64 Y.t,.sl 3 (chs Y.C) .any,.sl 1 (strs Y.rk) .any,.sl 2 (sps Y.rs) .any,.bool Y.ended]):=ok1.sub (F:=ob w (wO s S (.ptr x 0) Y)) (by simp) w (wO s S (.ptr x 0) Y) (by simp[aW])
 have hw1:(w=n)=False:=eq_false (by omega)
 have hw2:(n=w)=False:=eq_false (by omega)
 have hw3:(w=n+1)=False:=eq_false (by omega)
 have hw4:(n+1=w)=False:=eq_false (by omega)
 have d1:decide (c.kind=1)=false:=decide_eq_false (by omega)
 have d2:decide (c.kind=2)=false:=decide_eq_false (by omega)
 have d3:decide (c.kind=3)=false:=decide_eq_false (by omega)
 have d4:decide (c.kind=4)=false:=decide_eq_false (by omega)
 have d5:decide (c.kind=5)=false:=decide_eq_false (by omega)
 have d6:decide (c.kind=6)=true:=decide_eq_true hk
 have hop:decide (ik Y=17)=Y.ended:=by
  unfold ik
  cases Y.ended<;>rfl
 have e8:=Ok.bu (A:=[_,_,_]) (.cells [.ptr s 0,.sl 2 (S.L.map Space.encI) .any,.int .i64 S.last,.int .i64 S.mark,(.ptr x 0),.int .i64 Y.t,.sl 3 (chs Y.C) .any,.sl 1 (strs Y.rk) .any,.sl 2 (sps Y.rs) .any,.bool true]) ok1
 have on8:=On.dv (A:=[_,_,_]) (o':=(.cells [.ptr s 0,.sl 2 (S.L.map Space.encI) .any,.int .i64 S.last,.int .i64 S.mark,(.ptr x 0),.int .i64 Y.t,.sl 3 (chs Y.C) .any,.sl 1 (strs Y.rk) .any,.sl 2 (sps Y.rs) .any,.bool true])) ok1
 simp only[List.cons_append,List.nil_append] at e8 on8
 have ok3:=on8.ok
 have fw3:=ok3.sub (F:=ob w (.cells [.ptr s 0,.sl 2 (S.L.map Space.encI) .any,.int .i64 S.last,.int .i64 S.mark,(.ptr x 0),.int .i64 Y.t,.sl 3 (chs Y.C) .any,.sl 1 (strs Y.rk) .any,.sl 2 (sps Y.rs) .any,.bool true])) (by simp) w _ (by simp[aW];rfl)
 refine Wp.aw (by simp only[go_sem,reduceIte,Nat.reduceEqDiff,Nat.reduceAdd,bx,dm];exact rfl) (by trivial) ?_
 rw[bm]
 refine rn0 (cj8 fa fw d1 d2 d3 d4 d5 d6) ?_
 rw[e8]
 refine rn0 fw3 ?_
 refine aa.cM [_] [F] [_,_] (by simp only[go_sem,bx]) xA4 (CY hF) ok3 fun r G' n' T' m' ids hq on hids=>?_
 obtain ⟨rfl,F',rfl,hres⟩:=hq
 simp only[List.cons_append,List.nil_append,List.append_nil] at on ⊢
 refine aa.evR (by simp only[go_sem,reduceIte,Nat.reduceEqDiff,Nat.reduceAdd,bx,hop,beq_self_eq_true];exact rfl) ?_
 refine aa.nil ⟨by simp[ay,au,apart,aH],?_⟩
 refine de ?_
 have onA:=(((On.refl ok1).grown.step on8).step on).cB
 exact Wp.ret ⟨trivial,_,rfl,_,_,On.iX onA (ep on.ok (fun G hG=>List.mem_cons_of_mem _ hG)) (ab.refl _) ⟨rfl,_,rfl,hres⟩⟩
set_option maxHeartbeats 4000000 in
theorem AS {s w x k:Nat} {S:Spc} {F FS:Fr} {Y:Tx} (hF:TxF x s Y F) (hS:cU s S FS) (hI:Inv k S Y) (c:Ac) (hk:¬(1≤c.kind∧c.kind≤7)) (hl:k+1≤400000) (la:Ls c.a):
  aT Tryz.prog 10 [.ptr w 0,dm c] [F,FS,ob w (wO s S (.ptr x 0) Y)] fun r L=>r= .bool true∧∃F',L=[F',FS,ob w (wO s S (.ptr x 0) (eF Y ⟨c.a,c.b,false⟩).1)]∧TxF x s (eF Y ⟨c.a,c.b,false⟩).1 F':=by
 refine f10.bo (by simp) fun n m ok=>?_
 unfold c10
 simp only[C.zz]
 have hwn:=ok.lt (F:=ob w (wO s S (.ptr x 0) Y)) (by simp) (j:=w) (o:=wO s S (.ptr x 0) Y) (by simp[aW])
 have hsn:s<n:=by obtain ⟨_,_,_,_,_,h,_⟩:=hS.go;exact ok.lt (by simp) h
 have hxn:x<n:=by obtain ⟨_,_,_,_,_,h,_⟩:=hF.go;exact ok.lt (by simp) h
 have okx:=ok
 have ok1:=ok.more (.cells [.int .i64 c.kind,.int .i64 c.n,.str c.a,.str c.b,.sl 3 (chs c.l) .any])
 have fa:=aK n (.cells [.int .i64 c.kind,.int .i64 c.n,.str c.a,.str c.b,.sl 3 (chs c.l) .any]) [F,FS,ob w (wO s S (.ptr x 0) Y)]
 have fw:lay [ob n (.cells [.int .i64 c.kind,.int .i64 c.n,.str c.a,.str c.b,.sl 3 (chs c.l) .any]),F,FS,ob w (wO s S (.ptr x 0) Y)] w=some (.cells [.ptr s 0,.sl 2 (S.L.map Space.encI) .any,.int .i64 S.last,.int .i64 S.mark,(.ptr x 0),.int .i64 Y.t,.sl 3 (chs Y.C) .any,.sl 1 (strs Y.rk) .any,.sl 2 (sps Y.rs) .any,.bool Y.ended]):=ok1.sub (F:=ob w (wO s S (.ptr x 0) Y)) (by simp) w (wO s S (.ptr x 0) Y) (by simp[aW])
 have hw1:(w=n)=False:=eq_false (by omega)
 have hw2:(n=w)=False:=eq_false (by omega)
 have hw3:(w=n+1)=False:=eq_false (by omega)
 have hw4:(n+1=w)=False:=eq_false (by omega)
 have d1:decide (c.kind=1)=false:=decide_eq_false (by omega)
 have d2:decide (c.kind=2)=false:=decide_eq_false (by omega)
 have d3:decide (c.kind=3)=false:=decide_eq_false (by omega)
 have d4:decide (c.kind=4)=false:=decide_eq_false (by omega)
 have d5:decide (c.kind=5)=false:=decide_eq_false (by omega)
 have d6:decide (c.kind=6)=false:=decide_eq_false (by omega)
 have d7:decide (c.kind=7)=false:=decide_eq_false (by omega)
 have hsm:=hI.fit.small (show k≤500000 by omega)
 have hap:=l5 Y hI.rC hI.lC hI.lsC ⟨c.a,c.b,false⟩ la (fun h=>by cases h)
 have hag:=Bi hF hI.rC hI.lC c.a c.b
 generalize hV:eF Y ⟨c.a,c.b,false⟩=W at*
 unfold eG aL at hap
 refine Wp.aw (by simp only[go_sem,reduceIte,Nat.reduceEqDiff,Nat.reduceAdd,bx,dm];exact rfl) (by trivial) ?_
 rw[bm]
 refine rn1 (cj8 fa fw d1 d2 d3 d4 d5 d6) hap ?_
 refine aa.nil ⟨by simp[ay,au,apart,aH,hw1,hw2,hw3,hw4],?_⟩
 rw[bm,bu]
 have ok2:=ok1.more (.cells [.int .i64 W.1.t,.sl 3 (chs W.1.C) .any,.sl 1 (strs W.1.rk) .any,.sl 2 (sps W.1.rs) .any,.bool W.1.ended])
 have f17:=aK (n+1) (.cells [.int .i64 W.1.t,.sl 3 (chs W.1.C) .any,.sl 1 (strs W.1.rk) .any,.sl 2 (sps W.1.rs) .any,.bool W.1.ended]) [ob n (.cells [.int .i64 c.kind,.int .i64 c.n,.str c.a,.str c.b,.sl 3 (chs c.l) .any]),F,FS,ob w (wO s S (.ptr x 0) Y)]
 have fw2:lay [ob (n+1) (.cells [.int .i64 W.1.t,.sl 3 (chs W.1.C) .any,.sl 1 (strs W.1.rk) .any,.sl 2 (sps W.1.rs) .any,.bool W.1.ended]),ob n (.cells [.int .i64 c.kind,.int .i64 c.n,.str c.a,.str c.b,.sl 3 (chs c.l) .any]),F,FS,ob w (wO s S (.ptr x 0) Y)] w=some (.cells [.ptr s 0,.sl 2 (S.L.map Space.encI) .any,.int .i64 S.last,.int .i64 S.mark,(.ptr x 0),.int .i64 Y.t,.sl 3 (chs Y.C) .any,.sl 1 (strs Y.rk) .any,.sl 2 (sps Y.rs) .any,.bool Y.ended]):=ok2.sub (F:=ob w (wO s S (.ptr x 0) Y)) (by simp) w (wO s S (.ptr x 0) Y) (by simp[aW])
 have fa2:=ok2.sub (F:=ob n (.cells [.int .i64 c.kind,.int .i64 c.n,.str c.a,.str c.b,.sl 3 (chs c.l) .any])) (by simp) n _ (by simp[aW];rfl)
 refine rn0 (cj3 fa2 fw2 d7) ?_
 refine aa.cM [_,_] [F] [_,_] (by simp only[go_sem,bx]) xA4 hag ok2 fun r G' n' T' m' ids hq on hids=>?_
 obtain ⟨rfl,F',rfl,hres⟩:=hq
 simp only[List.cons_append,List.nil_append,List.append_nil] at on ⊢
 refine aa.evR xA1 ?_
 refine aa.nil ⟨by simp[ay,au,apart,aH],?_⟩
 have ok3:=on.ok
 have f18:=aK (n+1) (.cells [.int .i64 W.1.t,.sl 3 (chs W.1.C) .any,.sl 1 (strs W.1.rk) .any,.sl 2 (sps W.1.rs) .any,.bool W.1.ended]) [ob n (.cells [.int .i64 c.kind,.int .i64 c.n,.str c.a,.str c.b,.sl 3 (chs c.l) .any]),F',FS,ob w (wO s S (.ptr x 0) Y)]
 have fw4:lay [ob (n+1) (.cells [.int .i64 W.1.t,.sl 3 (chs W.1.C) .any,.sl 1 (strs W.1.rk) .any,.sl 2 (sps W.1.rs) .any,.bool W.1.ended]),ob n (.cells [.int .i64 c.kind,.int .i64 c.n,.str c.a,.str c.b,.sl 3 (chs c.l) .any]),F',FS,ob w (wO s S (.ptr x 0) Y)] w=some (.cells [.ptr s 0,.sl 2 (S.L.map Space.encI) .any,.int .i64 S.last,.int .i64 S.mark,(.ptr x 0),.int .i64 Y.t,.sl 3 (chs Y.C) .any,.sl 1 (strs Y.rk) .any,.sl 2 (sps Y.rs) .any,.bool Y.ended]):=ok3.sub (F:=ob w (wO s S (.ptr x 0) Y)) (by simp) w (wO s S (.ptr x 0) Y) (by simp[aW])
 have e8:=Ok.bu (A:=[_,_,_,_]) (.cells [.ptr s 0,.sl 2 (S.L.map Space.encI) .any,.int .i64 S.last,.int .i64 S.mark,(.ptr x 0),.int .i64 W.1.t,.sl 3 (chs W.1.C) .any,.sl 1 (strs W.1.rk) .any,.sl 2 (sps W.1.rs) .any,.bool W.1.ended]) ok3
 have on8:=On.dv (A:=[_,_,_,_]) (o':=(.cells [.ptr s 0,.sl 2 (S.L.map Space.encI) .any,.int .i64 S.last,.int .i64 S.mark,(.ptr x 0),.int .i64 W.1.t,.sl 3 (chs W.1.C) .any,.sl 1 (strs W.1.rk) .any,.sl 2 (sps W.1.rs) .any,.bool W.1.ended])) ok3
 simp only[List.cons_append,List.nil_append] at e8 on8
 have dz:decide (W.2=W.2)=true:=decide_eq_true rfl
 refine rn0 (cj3 f18 fw4 dz) ?_
 rw[e8]
 have onA:=((((On.refl ok2).grown.grown).step on).step on8).cB.cB
 exact Wp.ret ⟨trivial,_,rfl,_,_,On.iX onA (ep on8.ok (fun G hG=>List.mem_cons_of_mem _ (List.mem_cons_of_mem _ hG))) (ab.refl _) ⟨rfl,_,rfl,hres⟩⟩
end Go.Proofs.YtpehfflehebmbaaGreat.Txn
end
section
set_option maxRecDepth 10000
namespace Go.Av
theorem On.B3 {l0 l:List Fr} {n0 m0 n m:Nat} {T:List Nat} (a:On l0 n0 (m0+1) l n T m):On l0 n0 m0 l n T m:=
 ⟨a.gn,by have:=a.gm;omega,a.ok,a.wi,fun t ht=>(a.ki t ht).imp id (fun h=>by omega)⟩
end Go.Av
namespace Go.Proofs.YtpehfflehebmbaaGreat.Txn
open Go Go.Av Go.Proofs Go.Proofs.YtpehfflehebmbaaGreat.C Go.Proofs.YtpehfflehebmbaaGreat.Batch Go.Proofs.YtpehfflehebmbaaGreat.Space Go.Proofs.YtpehfflehebmbaaGreat.Reads
theorem pS {l:List Fr} {n m:Nat} {T:List Nat} (ok:Ok l n T m):Ok l n (m::T) (m+1):=
 ⟨ok.bd,ok.dj,fun t ht=>List.mem_cons_of_mem _ (ok.tk t ht),ok.td,fun t ht=>by
  rcases List.mem_cons.1 ht with rfl|h
  ·omega
  ·have:=ok.tb t h;omega⟩
def oM (c:Ac) (Y:Tx):List Ch:=if 0≤c.n then Y.C.take (min c.n.toNat Y.C.length) else c.l
theorem sG (l:List Ch) (k:Nat):(chs l).take k=chs (l.take k):=by simp[chs,List.map_take]
set_option maxHeartbeats 4000000 in
theorem AT {s w x k:Nat} {S:Spc} {F FS:Fr} {Y:Tx} (hF:TxF x s Y F) (hS:cU s S FS) (hI:Inv k S Y) (c:Ac) (hk:c.kind=7) (hl:k+c.l.length+1≤400000) (la:Ls c.a) (hlc:∀x∈c.l,Ls x.k):
  aT Tryz.prog 10 [.ptr w 0,dm c] [F,FS,ob w (wO s S (.ptr x 0) Y)] fun r L=>r= .bool true∧∃F',L=[F',FS,ob w (wO s S (.ptr x 0) (gM Y (oM c Y)).1)]∧TxF x s (gM Y (oM c Y)).1 F':=by
 refine f10.bo (by simp) fun n m ok=>?_
 unfold c10
 simp only[C.zz]
 have hwn:=ok.lt (F:=ob w (wO s S (.ptr x 0) Y)) (by simp) (j:=w) (o:=wO s S (.ptr x 0) Y) (by simp[aW])
 have hsn:s<n:=by obtain ⟨_,_,_,_,_,h,_⟩:=hS.go;exact ok.lt (by simp) h
 have hxn:x<n:=by obtain ⟨_,_,_,_,_,h,_⟩:=hF.go;exact ok.lt (by simp) h
 have okx:=ok
 have ok1:=ok.more (.cells [.int .i64 c.kind,.int .i64 c.n,.str c.a,.str c.b,.sl 3 (chs c.l) .any])
 have fa:=aK n (.cells [.int .i64 c.kind,.int .i64 c.n,.str c.a,.str c.b,.sl 3 (chs c.l) .any]) [F,FS,ob w (wO s S (.ptr x 0) Y)]
 have fw:lay [ob n (.cells [.int .i64 c.kind,.int .i64 c.n,.str c.a,.str c.b,.sl 3 (chs c.l) .any]),F,FS,ob w (wO s S (.ptr x 0) Y)] w=some (.cells [.ptr s 0,.sl 2 (S.L.map Space.encI) .any,.int .i64 S.last,.int .i64 S.mark,(.ptr x 0),.int .i64 Y.t,.sl 3 (chs Y.C) .any,.sl 1 (strs Y.rk) .any,.sl 2 (sps Y.rs) .any,.bool Y.ended]):=ok1.sub (F:=ob w (wO s S (.ptr x 0) Y)) (by simp) w (wO s S (.ptr x 0) Y) (by simp[aW])
 have hw1:(w=n)=False:=eq_false (by omega)
 have hw2:(n=w)=False:=eq_false (by omega)
 have hw3:(w=n+1)=False:=eq_false (by omega)
 have hw4:(n+1=w)=False:=eq_false (by omega)
 have d1:decide (c.kind=1)=false:=decide_eq_false (by omega)
 have d2:decide (c.kind=2)=false:=decide_eq_false (by omega)
 have d3:decide (c.kind=3)=false:=decide_eq_false (by omega)
 have d4:decide (c.kind=4)=false:=decide_eq_false (by omega)
 have d5:decide (c.kind=5)=false:=decide_eq_false (by omega)
 have d6:decide (c.kind=6)=false:=decide_eq_false (by omega)
 have d7:decide (c.kind=7)=true:=decide_eq_true hk
 have hsm:=hI.fit.small (show k≤500000 by omega)
 have hap:=l5 Y hI.rC hI.lC hI.lsC ⟨c.a,c.b,false⟩ la (fun h=>by cases h)
 have hlC:=hI.lC
 have hlsC:=hI.lsC
 generalize hV:eF Y ⟨c.a,c.b,false⟩=W at*
 unfold eG aL at hap
 refine Wp.aw (by simp only[go_sem,reduceIte,Nat.reduceEqDiff,Nat.reduceAdd,bx,dm];exact rfl) (by trivial) ?_
 rw[bm]
 refine rn1 (cj8 fa fw d1 d2 d3 d4 d5 d6) hap ?_
 refine aa.nil ⟨by simp[ay,au,apart,aH,hw1,hw2,hw3,hw4],?_⟩
 rw[bm,bu]
 have ok2:=ok1.more (.cells [.int .i64 W.1.t,.sl 3 (chs W.1.C) .any,.sl 1 (strs W.1.rk) .any,.sl 2 (sps W.1.rs) .any,.bool W.1.ended])
 have fw2:lay [ob (n+1) (.cells [.int .i64 W.1.t,.sl 3 (chs W.1.C) .any,.sl 1 (strs W.1.rk) .any,.sl 2 (sps W.1.rs) .any,.bool W.1.ended]),ob n (.cells [.int .i64 c.kind,.int .i64 c.n,.str c.a,.str c.b,.sl 3 (chs c.l) .any]),F,FS,ob w (wO s S (.ptr x 0) Y)] w=some (.cells [.ptr s 0,.sl 2 (S.L.map Space.encI) .any,.int .i64 S.last,.int .i64 S.mark,(.ptr x 0),.int .i64 Y.t,.sl 3 (chs Y.C) .any,.sl 1 (strs Y.rk) .any,.sl 2 (sps Y.rs) .any,.bool Y.ended]):=ok2.sub (F:=ob w (wO s S (.ptr x 0) Y)) (by simp) w (wO s S (.ptr x 0) Y) (by simp[aW])
 have fa2:=ok2.sub (F:=ob n (.cells [.int .i64 c.kind,.int .i64 c.n,.str c.a,.str c.b,.sl 3 (chs c.l) .any])) (by simp) n _ (by simp[aW];rfl)
 by_cases hn:(0:Int)≤c.n
 ·have q1:=decide_eq_true hn
  by_cases hb:((chs Y.C).length:Int)<c.n
  ·have hb2:(Y.C.length:Int)<c.n:=by rwa [an] at hb
   have hrl:oM c Y=Y.C.take Y.C.length:=by rw[oM,if_pos hn,Nat.min_eq_right (by omega)]
   rw[hrl]
   have hlL:∀c∈Y.C.take Y.C.length,Ls c.k:=fun c hc=>hlsC c (List.mem_of_mem_take hc)
   have hlen:(Y.C.take Y.C.length).length≤500000:=by first|omega|(simp only[List.length_take];omega)
   have hap2:=kF Y (Y.C.take Y.C.length) (by omega) hlL
   have hag:=l6 hF (Y.C.take Y.C.length) (by omega)
   have f22:=aK (n+1) (.cells [.int .i64 W.1.t,.sl 3 (chs W.1.C) .any,.sl 1 (strs W.1.rk) .any,.sl 2 (sps W.1.rs) .any,.bool W.1.ended]) [ob n (.cells [.int .i64 c.kind,.int .i64 c.n,.str c.a,.str c.b,.sl 3 (chs c.l) .any]),F,FS,ob w (wO s S (.ptr x 0) Y)]
   have r1:(Y.C.take Y.C.length).length*40≤140737488355328:=by omega
   have r2:(Y.C.take Y.C.length).length<4611686018427387904:=by omega
   generalize hL:Y.C.take Y.C.length=l at*
   generalize hR:gM Y l=R at*
   unfold eG at hap2
   refine rn0 (bD fa2 fw2 @an d7 q1 hb2 @Int.toNat_natCast @Nat.le_refl @Int.le_refl @List.drop_zero.{0} @sG (cj2 @ite_self.{1} hL)) ?_
   refine aa.bF xA2 (by simp only[go_sem,reduceIte,Nat.reduceEqDiff,Nat.reduceAdd,bx,List.map];exact af.refl _) (hap2) ?_
   refine aa.evR (by simp only[go_sem,reduceIte,Nat.reduceEqDiff,Nat.reduceAdd,bx,ax,if_true,if_false,Nat.reduceMul,Nat.reduceLeDiff,f22];exact rfl) ?_
   refine aa.nil ⟨by simp[ay,au,apart,aH],?_⟩
   rw[bu]
   have ok2':=pS (Ok.aZ (o':=(.cells [.int .i64 R.1.t,.sl 3 (chs R.1.C) .any,.sl 1 (strs R.1.rk) .any,.sl 2 (sps R.1.rs) .any,.bool R.1.ended])) ok2)
   have fa2':=ok2'.sub (F:=ob n (.cells [.int .i64 c.kind,.int .i64 c.n,.str c.a,.str c.b,.sl 3 (chs c.l) .any])) (by simp) n _ (by simp[aW];rfl)
   have fw2':lay [ob (n+1) (.cells [.int .i64 R.1.t,.sl 3 (chs R.1.C) .any,.sl 1 (strs R.1.rk) .any,.sl 2 (sps R.1.rs) .any,.bool R.1.ended]),ob n (.cells [.int .i64 c.kind,.int .i64 c.n,.str c.a,.str c.b,.sl 3 (chs c.l) .any]),F,FS,ob w (wO s S (.ptr x 0) Y)] w=some (.cells [.ptr s 0,.sl 2 (S.L.map Space.encI) .any,.int .i64 S.last,.int .i64 S.mark,(.ptr x 0),.int .i64 Y.t,.sl 3 (chs Y.C) .any,.sl 1 (strs Y.rk) .any,.sl 2 (sps Y.rs) .any,.bool Y.ended]):=ok2'.sub (F:=ob w (wO s S (.ptr x 0) Y)) (by simp) w (wO s S (.ptr x 0) Y) (by simp[aW])
   refine rn0 (cj8 fa2' fw2' @an @List.length_nil.{0} @Nat.zero_add r1 r2 @List.nil_append.{0}) ?_
   refine aa.cM [_,_] [F] [_,_] (by simp only[go_sem,bx]) (by simp only[go_sem,reduceIte,Nat.reduceEqDiff,List.map];exact af.cons (ab.refl _) (af.cons ab.own af.nil)) hag ok2' fun r G' n' T' m' ids hq on hids=>?_
   obtain ⟨rfl,F',rfl,hres⟩:=hq
   simp only[List.cons_append,List.nil_append,List.append_nil] at on ⊢
   refine aa.evR xA1 ?_
   refine aa.nil ⟨by simp[ay,au,apart,aH],?_⟩
   have ok3:=on.ok
   have f18:=aK (n+1) (.cells [.int .i64 R.1.t,.sl 3 (chs R.1.C) .any,.sl 1 (strs R.1.rk) .any,.sl 2 (sps R.1.rs) .any,.bool R.1.ended]) [ob n (.cells [.int .i64 c.kind,.int .i64 c.n,.str c.a,.str c.b,.sl 3 (chs c.l) .any]),F',FS,ob w (wO s S (.ptr x 0) Y)]
   have fw4:lay [ob (n+1) (.cells [.int .i64 R.1.t,.sl 3 (chs R.1.C) .any,.sl 1 (strs R.1.rk) .any,.sl 2 (sps R.1.rs) .any,.bool R.1.ended]),ob n (.cells [.int .i64 c.kind,.int .i64 c.n,.str c.a,.str c.b,.sl 3 (chs c.l) .any]),F',FS,ob w (wO s S (.ptr x 0) Y)] w=some (.cells [.ptr s 0,.sl 2 (S.L.map Space.encI) .any,.int .i64 S.last,.int .i64 S.mark,(.ptr x 0),.int .i64 Y.t,.sl 3 (chs Y.C) .any,.sl 1 (strs Y.rk) .any,.sl 2 (sps Y.rs) .any,.bool Y.ended]):=ok3.sub (F:=ob w (wO s S (.ptr x 0) Y)) (by simp) w (wO s S (.ptr x 0) Y) (by simp[aW])
   have e8:=Ok.bu (A:=[_,_,_,_]) (.cells [.ptr s 0,.sl 2 (S.L.map Space.encI) .any,.int .i64 S.last,.int .i64 S.mark,(.ptr x 0),.int .i64 R.1.t,.sl 3 (chs R.1.C) .any,.sl 1 (strs R.1.rk) .any,.sl 2 (sps R.1.rs) .any,.bool R.1.ended]) ok3
   have on8:=On.dv (A:=[_,_,_,_]) (o':=(.cells [.ptr s 0,.sl 2 (S.L.map Space.encI) .any,.int .i64 S.last,.int .i64 S.mark,(.ptr x 0),.int .i64 R.1.t,.sl 3 (chs R.1.C) .any,.sl 1 (strs R.1.rk) .any,.sl 2 (sps R.1.rs) .any,.bool R.1.ended])) ok3
   simp only[List.cons_append,List.nil_append] at e8 on8
   have dz:decide (R.2=R.2)=true:=decide_eq_true rfl
   refine rn0 (cj3 f18 fw4 dz) ?_
   rw[e8]
   have onT:On [F,FS,ob w (wO s S (.ptr x 0) Y)] n m (ob (n+1) (.cells [.int .i64 R.1.t,.sl 3 (chs R.1.C) .any,.sl 1 (strs R.1.rk) .any,.sl 2 (sps R.1.rs) .any,.bool R.1.ended])::ob n (.cells [.int .i64 c.kind,.int .i64 c.n,.str c.a,.str c.b,.sl 3 (chs c.l) .any])::[F,FS,ob w (wO s S (.ptr x 0) Y)]) (n+1+1) (m::ks [F,FS,ob w (wO s S (.ptr x 0) Y)]) (m+1):=((On.refl (pS (Ok.aZ (o':=(.cells [.int .i64 R.1.t,.sl 3 (chs R.1.C) .any,.sl 1 (strs R.1.rk) .any,.sl 2 (sps R.1.rs) .any,.bool R.1.ended])) ok2))).grown.grown).B3
   have onA:=((onT.step on).step on8).cB.cB
   exact Wp.ret ⟨trivial,_,rfl,_,_,On.iX onA (ep on8.ok (fun G hG=>List.mem_cons_of_mem _ (List.mem_cons_of_mem _ hG))) (ab.refl _) ⟨rfl,_,rfl,hres⟩⟩
  ·have hb2:¬(Y.C.length:Int)<c.n:=by rwa [an] at hb
   have hrl:oM c Y=Y.C.take c.n.toNat:=by rw[oM,if_pos hn,Nat.min_eq_left (by omega)]
   rw[hrl]
   have hlL:∀x∈Y.C.take c.n.toNat,Ls x.k:=fun c hc=>hlsC c (List.mem_of_mem_take hc)
   have b1:c.n≤(Y.C.length:Int):=by omega
   have b2:c.n.toNat≤Y.C.length:=by omega
   have hlen:(Y.C.take c.n.toNat).length≤500000:=by first|omega|(simp only[List.length_take];omega)
   have hap2:=kF Y (Y.C.take c.n.toNat) (by omega) hlL
   have hag:=l6 hF (Y.C.take c.n.toNat) (by omega)
   have f22:=aK (n+1) (.cells [.int .i64 W.1.t,.sl 3 (chs W.1.C) .any,.sl 1 (strs W.1.rk) .any,.sl 2 (sps W.1.rs) .any,.bool W.1.ended]) [ob n (.cells [.int .i64 c.kind,.int .i64 c.n,.str c.a,.str c.b,.sl 3 (chs c.l) .any]),F,FS,ob w (wO s S (.ptr x 0) Y)]
   have r1:(Y.C.take c.n.toNat).length*40≤140737488355328:=by omega
   have r2:(Y.C.take c.n.toNat).length<4611686018427387904:=by omega
   generalize hL:Y.C.take c.n.toNat=l at*
   generalize hR:gM Y l=R at*
   unfold eG at hap2
   refine rn0 (bD fa2 fw2 @an d7 q1 hb2 b1 b2 hn @Int.toNat_natCast @Nat.le_refl (cj5 @Int.le_refl @List.drop_zero.{0} @sG @ite_self.{1} hL)) ?_
   refine aa.bF xA2 (by simp only[go_sem,reduceIte,Nat.reduceEqDiff,Nat.reduceAdd,bx,List.map];exact af.refl _) (hap2) ?_
   refine aa.evR (by simp only[go_sem,reduceIte,Nat.reduceEqDiff,Nat.reduceAdd,bx,ax,if_true,if_false,Nat.reduceMul,Nat.reduceLeDiff,f22];exact rfl) ?_
   refine aa.nil ⟨by simp[ay,au,apart,aH],?_⟩
   rw[bu]
   have ok2':=pS (Ok.aZ (o':=(.cells [.int .i64 R.1.t,.sl 3 (chs R.1.C) .any,.sl 1 (strs R.1.rk) .any,.sl 2 (sps R.1.rs) .any,.bool R.1.ended])) ok2)
   have fa2':=ok2'.sub (F:=ob n (.cells [.int .i64 c.kind,.int .i64 c.n,.str c.a,.str c.b,.sl 3 (chs c.l) .any])) (by simp) n _ (by simp[aW];rfl)
   have fw2':lay [ob (n+1) (.cells [.int .i64 R.1.t,.sl 3 (chs R.1.C) .any,.sl 1 (strs R.1.rk) .any,.sl 2 (sps R.1.rs) .any,.bool R.1.ended]),ob n (.cells [.int .i64 c.kind,.int .i64 c.n,.str c.a,.str c.b,.sl 3 (chs c.l) .any]),F,FS,ob w (wO s S (.ptr x 0) Y)] w=some (.cells [.ptr s 0,.sl 2 (S.L.map Space.encI) .any,.int .i64 S.last,.int .i64 S.mark,(.ptr x 0),.int .i64 Y.t,.sl 3 (chs Y.C) .any,.sl 1 (strs Y.rk) .any,.sl 2 (sps Y.rs) .any,.bool Y.ended]):=ok2'.sub (F:=ob w (wO s S (.ptr x 0) Y)) (by simp) w (wO s S (.ptr x 0) Y) (by simp[aW])
   refine rn0 (cj8 fa2' fw2' @an @List.length_nil.{0} @Nat.zero_add r1 r2 @List.nil_append.{0}) ?_
   refine aa.cM [_,_] [F] [_,_] (by simp only[go_sem,bx]) (by simp only[go_sem,reduceIte,Nat.reduceEqDiff,List.map];exact af.cons (ab.refl _) (af.cons ab.own af.nil)) hag ok2' fun r G' n' T' m' ids hq on hids=>?_
   obtain ⟨rfl,F',rfl,hres⟩:=hq
   simp only[List.cons_append,List.nil_append,List.append_nil] at on ⊢
   refine aa.evR xA1 ?_
   refine aa.nil ⟨by simp[ay,au,apart,aH],?_⟩
   have ok3:=on.ok
   have f18:=aK (n+1) (.cells [.int .i64 R.1.t,.sl 3 (chs R.1.C) .any,.sl 1 (strs R.1.rk) .any,.sl 2 (sps R.1.rs) .any,.bool R.1.ended]) [ob n (.cells [.int .i64 c.kind,.int .i64 c.n,.str c.a,.str c.b,.sl 3 (chs c.l) .any]),F',FS,ob w (wO s S (.ptr x 0) Y)]
   have fw4:lay [ob (n+1) (.cells [.int .i64 R.1.t,.sl 3 (chs R.1.C) .any,.sl 1 (strs R.1.rk) .any,.sl 2 (sps R.1.rs) .any,.bool R.1.ended]),ob n (.cells [.int .i64 c.kind,.int .i64 c.n,.str c.a,.str c.b,.sl 3 (chs c.l) .any]),F',FS,ob w (wO s S (.ptr x 0) Y)] w=some (.cells [.ptr s 0,.sl 2 (S.L.map Space.encI) .any,.int .i64 S.last,.int .i64 S.mark,(.ptr x 0),.int .i64 Y.t,.sl 3 (chs Y.C) .any,.sl 1 (strs Y.rk) .any,.sl 2 (sps Y.rs) .any,.bool Y.ended]):=ok3.sub (F:=ob w (wO s S (.ptr x 0) Y)) (by simp) w (wO s S (.ptr x 0) Y) (by simp[aW])
   have e8:=Ok.bu (A:=[_,_,_,_]) (.cells [.ptr s 0,.sl 2 (S.L.map Space.encI) .any,.int .i64 S.last,.int .i64 S.mark,(.ptr x 0),.int .i64 R.1.t,.sl 3 (chs R.1.C) .any,.sl 1 (strs R.1.rk) .any,.sl 2 (sps R.1.rs) .any,.bool R.1.ended]) ok3
   have on8:=On.dv (A:=[_,_,_,_]) (o':=(.cells [.ptr s 0,.sl 2 (S.L.map Space.encI) .any,.int .i64 S.last,.int .i64 S.mark,(.ptr x 0),.int .i64 R.1.t,.sl 3 (chs R.1.C) .any,.sl 1 (strs R.1.rk) .any,.sl 2 (sps R.1.rs) .any,.bool R.1.ended])) ok3
   simp only[List.cons_append,List.nil_append] at e8 on8
   have dz:decide (R.2=R.2)=true:=decide_eq_true rfl
   refine rn0 (cj3 f18 fw4 dz) ?_
   rw[e8]
   have onT:On [F,FS,ob w (wO s S (.ptr x 0) Y)] n m (ob (n+1) (.cells [.int .i64 R.1.t,.sl 3 (chs R.1.C) .any,.sl 1 (strs R.1.rk) .any,.sl 2 (sps R.1.rs) .any,.bool R.1.ended])::ob n (.cells [.int .i64 c.kind,.int .i64 c.n,.str c.a,.str c.b,.sl 3 (chs c.l) .any])::[F,FS,ob w (wO s S (.ptr x 0) Y)]) (n+1+1) (m::ks [F,FS,ob w (wO s S (.ptr x 0) Y)]) (m+1):=((On.refl (pS (Ok.aZ (o':=(.cells [.int .i64 R.1.t,.sl 3 (chs R.1.C) .any,.sl 1 (strs R.1.rk) .any,.sl 2 (sps R.1.rs) .any,.bool R.1.ended])) ok2))).grown.grown).B3
   have onA:=((onT.step on).step on8).cB.cB
   exact Wp.ret ⟨trivial,_,rfl,_,_,On.iX onA (ep on8.ok (fun G hG=>List.mem_cons_of_mem _ (List.mem_cons_of_mem _ hG))) (ab.refl _) ⟨rfl,_,rfl,hres⟩⟩
 ·have q1:=decide_eq_false hn
  have hrl:oM c Y=c.l:=by rw[oM,if_neg hn]
  rw[hrl]
  have hlL:∀x∈c.l,Ls x.k:=hlc
  have hlen:(c.l).length≤500000:=by first|omega|(simp only[List.length_take];omega)
  have hap2:=kF Y (c.l) (by omega) hlL
  have hag:=l6 hF (c.l) (by omega)
  have f22:=aK (n+1) (.cells [.int .i64 W.1.t,.sl 3 (chs W.1.C) .any,.sl 1 (strs W.1.rk) .any,.sl 2 (sps W.1.rs) .any,.bool W.1.ended]) [ob n (.cells [.int .i64 c.kind,.int .i64 c.n,.str c.a,.str c.b,.sl 3 (chs c.l) .any]),F,FS,ob w (wO s S (.ptr x 0) Y)]
  have r1:(c.l).length*40≤140737488355328:=by omega
  have r2:(c.l).length<4611686018427387904:=by omega
  have hL:True:=trivial
  generalize hR:gM Y c.l=R at*
  unfold eG at hap2
  refine rn0 (cj5 fa2 fw2 @an d7 q1) ?_
  refine aa.bF xA2 (by simp only[go_sem,reduceIte,Nat.reduceEqDiff,Nat.reduceAdd,bx,List.map];exact af.refl _) (hap2) ?_
  refine aa.evR (by simp only[go_sem,reduceIte,Nat.reduceEqDiff,Nat.reduceAdd,bx,ax,if_true,if_false,Nat.reduceMul,Nat.reduceLeDiff,f22];exact rfl) ?_
  refine aa.nil ⟨by simp[ay,au,apart,aH],?_⟩
  rw[bu]
  have ok2':=pS (Ok.aZ (o':=(.cells [.int .i64 R.1.t,.sl 3 (chs R.1.C) .any,.sl 1 (strs R.1.rk) .any,.sl 2 (sps R.1.rs) .any,.bool R.1.ended])) ok2)
  have fa2':=ok2'.sub (F:=ob n (.cells [.int .i64 c.kind,.int .i64 c.n,.str c.a,.str c.b,.sl 3 (chs c.l) .any])) (by simp) n _ (by simp[aW];rfl)
  have fw2':lay [ob (n+1) (.cells [.int .i64 R.1.t,.sl 3 (chs R.1.C) .any,.sl 1 (strs R.1.rk) .any,.sl 2 (sps R.1.rs) .any,.bool R.1.ended]),ob n (.cells [.int .i64 c.kind,.int .i64 c.n,.str c.a,.str c.b,.sl 3 (chs c.l) .any]),F,FS,ob w (wO s S (.ptr x 0) Y)] w=some (.cells [.ptr s 0,.sl 2 (S.L.map Space.encI) .any,.int .i64 S.last,.int .i64 S.mark,(.ptr x 0),.int .i64 Y.t,.sl 3 (chs Y.C) .any,.sl 1 (strs Y.rk) .any,.sl 2 (sps Y.rs) .any,.bool Y.ended]):=ok2'.sub (F:=ob w (wO s S (.ptr x 0) Y)) (by simp) w (wO s S (.ptr x 0) Y) (by simp[aW])
  refine rn0 (cj8 fa2' fw2' @an @List.length_nil.{0} @Nat.zero_add r1 r2 @List.nil_append.{0}) ?_
  refine aa.cM [_,_] [F] [_,_] (by simp only[go_sem,bx]) (by simp only[go_sem,reduceIte,Nat.reduceEqDiff,List.map];exact af.cons (ab.refl _) (af.cons ab.own af.nil)) hag ok2' fun r G' n' T' m' ids hq on hids=>?_
  obtain ⟨rfl,F',rfl,hres⟩:=hq
  simp only[List.cons_append,List.nil_append,List.append_nil] at on ⊢
  refine aa.evR xA1 ?_
  refine aa.nil ⟨by simp[ay,au,apart,aH],?_⟩
  have ok3:=on.ok
  have f18:=aK (n+1) (.cells [.int .i64 R.1.t,.sl 3 (chs R.1.C) .any,.sl 1 (strs R.1.rk) .any,.sl 2 (sps R.1.rs) .any,.bool R.1.ended]) [ob n (.cells [.int .i64 c.kind,.int .i64 c.n,.str c.a,.str c.b,.sl 3 (chs c.l) .any]),F',FS,ob w (wO s S (.ptr x 0) Y)]
  have fw4:lay [ob (n+1) (.cells [.int .i64 R.1.t,.sl 3 (chs R.1.C) .any,.sl 1 (strs R.1.rk) .any,.sl 2 (sps R.1.rs) .any,.bool R.1.ended]),ob n (.cells [.int .i64 c.kind,.int .i64 c.n,.str c.a,.str c.b,.sl 3 (chs c.l) .any]),F',FS,ob w (wO s S (.ptr x 0) Y)] w=some (.cells [.ptr s 0,.sl 2 (S.L.map Space.encI) .any,.int .i64 S.last,.int .i64 S.mark,(.ptr x 0),.int .i64 Y.t,.sl 3 (chs Y.C) .any,.sl 1 (strs Y.rk) .any,.sl 2 (sps Y.rs) .any,.bool Y.ended]):=ok3.sub (F:=ob w (wO s S (.ptr x 0) Y)) (by simp) w (wO s S (.ptr x 0) Y) (by simp[aW])
  have e8:=Ok.bu (A:=[_,_,_,_]) (.cells [.ptr s 0,.sl 2 (S.L.map Space.encI) .any,.int .i64 S.last,.int .i64 S.mark,(.ptr x 0),.int .i64 R.1.t,.sl 3 (chs R.1.C) .any,.sl 1 (strs R.1.rk) .any,.sl 2 (sps R.1.rs) .any,.bool R.1.ended]) ok3
  have on8:=On.dv (A:=[_,_,_,_]) (o':=(.cells [.ptr s 0,.sl 2 (S.L.map Space.encI) .any,.int .i64 S.last,.int .i64 S.mark,(.ptr x 0),.int .i64 R.1.t,.sl 3 (chs R.1.C) .any,.sl 1 (strs R.1.rk) .any,.sl 2 (sps R.1.rs) .any,.bool R.1.ended])) ok3
  simp only[List.cons_append,List.nil_append] at e8 on8
  have dz:decide (R.2=R.2)=true:=decide_eq_true rfl
  refine rn0 (cj3 f18 fw4 dz) ?_
  rw[e8]
  have onT:On [F,FS,ob w (wO s S (.ptr x 0) Y)] n m (ob (n+1) (.cells [.int .i64 R.1.t,.sl 3 (chs R.1.C) .any,.sl 1 (strs R.1.rk) .any,.sl 2 (sps R.1.rs) .any,.bool R.1.ended])::ob n (.cells [.int .i64 c.kind,.int .i64 c.n,.str c.a,.str c.b,.sl 3 (chs c.l) .any])::[F,FS,ob w (wO s S (.ptr x 0) Y)]) (n+1+1) (m::ks [F,FS,ob w (wO s S (.ptr x 0) Y)]) (m+1):=((On.refl (pS (Ok.aZ (o':=(.cells [.int .i64 R.1.t,.sl 3 (chs R.1.C) .any,.sl 1 (strs R.1.rk) .any,.sl 2 (sps R.1.rs) .any,.bool R.1.ended])) ok2))).grown.grown).B3
  have onA:=((onT.step on).step on8).cB.cB
  exact Wp.ret ⟨trivial,_,rfl,_,_,On.iX onA (ep on8.ok (fun G hG=>List.mem_cons_of_mem _ (List.mem_cons_of_mem _ hG))) (ab.refl _) ⟨rfl,_,rfl,hres⟩⟩
end Go.Proofs.YtpehfflehebmbaaGreat.Txn
end
section
set_option maxRecDepth 10000
namespace Go.Proofs.YtpehfflehebmbaaGreat.Txn
open Go Go.Av Go.Proofs Go.Proofs.YtpehfflehebmbaaGreat.C Go.Proofs.YtpehfflehebmbaaGreat.Batch Go.Proofs.YtpehfflehebmbaaGreat.Space Go.Proofs.YtpehfflehebmbaaGreat.Reads
theorem sH (l:List Ac):al (l.map Txn.dm)=true:=Av.cS (fun a=>Txn.wJ a) l
def eV (l:List Ac):Nat:=(l.map fun a=>1+a.l.length).sum
theorem iw {l:List Ac} {j:Nat} (h:j<l.length):eV (l.take (j+1))=eV (l.take j)+1+(l.getD j default).l.length:=by
 rw[Av.bJ default h,eV,eV,List.map_append,List.sum_append];simp;omega
def tQ (l:List Ac) (i:Nat):Bool:=decide (eV (l.take (i+1))≤150)&&decide ((l.getD i default).a.length≤1000)&&decide ((l.getD i default).b.length≤1000)
def tR (l:List Ac):Bool:=(List.range l.length).all (tQ l)
set_option maxHeartbeats 2000000 in
theorem yW (l:List Ac) (hl:l.length≤35184372088832) (hv:∀a∈l,a.l.length≤35184372088832):aA Tryz.prog 7 [.sl 5 (l.map Txn.dm) .any] (.bool (tR l)):=by
 refine f7.aD (by simp) (by simp[al,av,aG,sH]) rfl ?_
 unfold c7
 simp only[C.zz]
 have hil:(l.map Txn.dm).length=l.length:=by simp
 refine rn0 hil ?_
 refine Wp.cZ [0] xA6 (fun j:Nat=>[(3,.int .i64 (eV (l.take j):Nat)),(4,.int .i64 (j:Nat))]) (fun j=>j≤l.length∧eV (l.take j)≤150∧∀i,i<j→tQ l i=true) (fun j=>l.length - j) 0 ⟨Nat.zero_le _,by simp[eV],fun i h=>absurd h (by omega)⟩ ?_ ?_
 ·simp only[aC,go_sem,reduceIte,Nat.reduceEqDiff,Nat.reduceAdd,bx,List.take_zero,eV,List.map_nil,List.sum_nil,Int.ofNat_zero];and_intros<;>first|exact trivial|exact ab.refl _|exact ab.any _|(refine ab.int ?_;omega)
 rintro j ⟨hj,hcn,hs⟩
 by_cases hcj:j<l.length
 ·obtain ⟨g1,h2,h3,e1⟩:=ixF (j:=j) (n:=l.length) (by omega) (by omega)
  have hat:=cR Txn.dm l j .any hcj
  have no:tQ l j=false→tR l=false:=fun h=>by rw[tR,Av.eM hcj h]
  have def0:tQ l j=(decide (eV (l.take (j+1))≤150)&&decide ((l.getD j default).a.length≤1000)&&decide ((l.getD j default).b.length≤1000)):=rfl
  have hsn:=iw hcj
  have hvx:=hv (l.getD j default) (by rw[Av.ar hcj];exact List.getElem_mem hcj)
  generalize hC:eV (l.take (j+1))=C at*
  generalize eV (l.take j)=D at*
  generalize l.getD j default=x at*
  have w1:IntKind.i64.wrap ((D:Int)+1)=((D+1:Nat):Int):=by rw[IntWalk.i64_in _ (by omega)];omega
  have w2:IntKind.i64.wrap (((D+1:Nat):Int)+(x.l.length:Int))=(C:Int):=by rw[IntWalk.i64_in _ (by omega)];omega
  by_cases q1:150<(C:Int)
  ·have d1:=decide_eq_true q1
   have hf:=no (by rw[def0,decide_eq_false (show ¬C≤150 by omega)];rfl)
   refine rn0 (fR g1 h2 h3 hat hil @Txn.dm.eq_1 @an w1 w2 d1) ?_
   refine aJ ?_
   rw[hf];exact ab.refl _
  have d1:=decide_eq_false q1
  by_cases q2:1000<(x.a.length:Int)
  ·have d2:=decide_eq_true q2
   have hf:=no (by rw[def0,decide_eq_false (show ¬x.a.length≤1000 by omega)];simp)
   refine rn0 (lI g1 h2 h3 hat hil @Txn.dm.eq_1 @an w1 w2 d1 d2) ?_
   refine aJ ?_
   rw[hf];exact ab.refl _
  have d2:=decide_eq_false q2
  by_cases q3:1000<(x.b.length:Int)
  ·have d3:=decide_eq_true q3
   have hf:=no (by rw[def0,decide_eq_false (show ¬x.b.length≤1000 by omega)];simp)
   refine rn0 (bD g1 h2 h3 hat hil @Txn.dm.eq_1 @an w1 w2 d1 d2 d3) ?_
   refine aJ ?_
   rw[hf];exact ab.refl _
  have d3:=decide_eq_false q3
  have hyes:tQ l j=true:=by
   rw[def0,decide_eq_true (show C≤150 by omega),decide_eq_true (show x.a.length≤1000 by omega),decide_eq_true (show x.b.length≤1000 by omega)];rfl
  refine rn0 (bD g1 h2 h3 hat hil @Txn.dm.eq_1 @an w1 w2 d1 d2 (cj2 d3 e1)) ?_
  refine ⟨j+1,⟨by omega,by rw[hC];omega,fG hs hyes⟩,by omega,?_⟩
  rw[hC]
  exact xSu
 ·have hje:j=l.length:=by omega
  subst hje
  have g1:=ixE (l.length)
  refine rn0 (cj2 g1 hil) ?_
  refine aJ ?_
  rw[tR,Av.eI hs]
  exact ab.refl _
theorem mc (l:List Ac):∀{i j:Nat},i≤j→eV (l.take i)≤eV (l.take j):=by
 intro i j h
 have e:l.take i=(l.take j).take i:=by rw[List.take_take,Nat.min_eq_left h]
 have e2:l.take j=(l.take j).take i++(l.take j).drop i:=(List.take_append_drop _ _).symm
 rw[e,eV,eV]
 conv=>rhs;rw[e2,List.map_append,List.sum_append]
 omega
structure yX (l:List Ac):Prop where
 n:eV l≤150
 a:∀c∈l,c.a.length≤1000
 b:∀c∈l,c.b.length≤1000
theorem yX.len {l:List Ac} (h:yX l):l.length≤150:=by
 have h1:=h.n
 have:∀l:List Ac,l.length≤eV l:=fun l=>by
  induction l with
  |nil=>simp[eV]
  |cons a l ih=>simp only[eV,List.map_cons,List.sum_cons,List.length_cons] at ih ⊢;omega
 have:=this l;omega
theorem u3 {l:List Ac} (h:tR l=true):yX l:=by
 have hall:∀i,i<l.length→tQ l i=true:=fun i hi=>List.all_eq_true.1 h i (List.mem_range.2 hi)
 have mem:∀a∈l,∃i,i<l.length∧l.getD i default=a:=fun a ha=>by
  obtain ⟨i,hi,rfl⟩:=List.mem_iff_getElem.1 ha
  exact ⟨i,hi,Av.ar hi⟩
 have at_:∀i,i<l.length→eV (l.take (i+1))≤150∧(l.getD i default).a.length≤1000∧(l.getD i default).b.length≤1000:=fun i hi=>by
  have:=hall i hi
  simp only[tQ,Bool.and_eq_true,decide_eq_true_eq] at this
  exact ⟨this.1.1,this.1.2,this.2⟩
 refine ⟨?_,fun a ha=>?_,fun a ha=>?_⟩
 ·cases hn:l.length with
  |zero=>have:=List.length_eq_zero_iff.1 hn;subst this;simp[eV]
  |succ n=>
   have:=(at_ n (by omega)).1
   rwa [←hn,List.take_length] at this
 ·obtain ⟨i,hi,rfl⟩:=mem a ha;exact (at_ i hi).2.1
 ·obtain ⟨i,hi,rfl⟩:=mem a ha;exact (at_ i hi).2.2
def stS (S:Spc) (c:Ac):Spc:=if c.kind=4 then (bM S (S.last+1) c.l).1 else if c.kind=5 then (br S c.n).1 else S
def stY (S:Spc) (Y:Tx) (c:Ac):Tx:=
 if c.kind=1 then (eF Y ⟨c.a,[],true⟩).1 else if c.kind=2 then (gG S Y c.a).1 else if c.kind=3 then (dC S Y c.a c.b c.n).1 else
 if c.kind=4∨c.kind=5 then Y else if c.kind=6 then {Y with ended:=true} else if c.kind=7 then (gM Y (oM c Y)).1 else (eF Y ⟨c.a,c.b,false⟩).1
theorem sI {C:List Ch} {c x:Ch} (h:x∈jv C c):x=c∨x∈C:=by
 unfold jv at h
 rcases List.mem_append.1 h with h|h
 ·exact .inr (List.mem_of_mem_take h)
 ·rcases List.mem_cons.1 h with h|h
  ·exact .inl h
  ·exact .inr (List.mem_of_mem_drop h)
theorem Inv.mono {k j:Nat} {S:Spc} {Y:Tx} (h:Inv k S Y) (hk:k≤j):Inv j S Y:=⟨h.fit.mono hk,h.rt,h.tl,h.rC,h.lC,h.kC,h.ck,h.sk,h.ls⟩
theorem Inv.chg {k:Nat} {S:Spc} {Y:Tx} (h:Inv k S Y) (c:Ch):Inv k S (eF Y c).1:=by
 unfold eF
 split
 ·exact h
 ·unfold fL
  split
  ·exact h
  ·rename_i hk
   split
   ·exact h
   ·rename_i hf
    refine ⟨h.fit,h.rt,h.tl,vN h.rC c,?_,fun x hx=>?_,h.ck,h.sk,h.ls⟩
    ·simp only
     rw[rJ]
     have:=h.lC
     split
     ·exact this
     ·rename_i ht
      simp only[Bool.not_eq_true] at ht
      have:¬64≤Y.C.length:=fun e=>hf ⟨ht,e⟩
      omega
    ·rcases sI hx with rfl|hx
     ·simpa using hk
     ·exact h.kC x hx
theorem B4 {k:List Bs} {l:List Sp} (hc:bg k l=true) (sk:∀q∈k,q.length≤2000) {q:Bs} (hq:q.length≤2000) (h0:(eo k l q).2.2=0):
  bg (eo k l q).1 (eo k l q).2.1=true∧(∀x∈(eo k l q).1,x.length≤2000)∧(eo k l q).2.1=l:=by
 have hl:=(Ap hc q).2 h0
 refine ⟨hl.1,?_,?_⟩
 ·obtain ⟨b1,b2,b3,b4⟩:=dh hc
  obtain ⟨r1,r2⟩:=pL b4
  unfold eo at h0 ⊢
  rw[if_pos hc] at h0 ⊢
  unfold dg at h0 ⊢
  split
  ·intro x hx
   have hx:=(List.mem_filter.1 hx).1
   rcases (qC r1 q x).1 hx with h|h
   ·exact sk x h
   ·rw[h];exact hq
  ·rename_i hn;rw[if_neg hn] at h0;cases h0
 ·unfold eo at h0 ⊢
  rw[if_pos hc] at h0 ⊢
  unfold dg at h0 ⊢
  split
  ·rfl
  ·rename_i hn;rw[if_neg hn] at h0;cases h0
theorem AU {l:List Sp} (hl:LsS l) (hn:NF l) {x:Sp} (hx:LsP x) (hh:hasB x=true):LsS (di l x):=by
 have hr:=tK hl hx l.length (Nat.le_refl _)
 rw[List.take_length] at hr
 rw[←uQ hn hh]
 refine LsS.of fun y hy=>?_
 rcases List.mem_append.1 hy with hy|hy
 ·rcases List.mem_append.1 hy with hy|hy
  ·exact hr.a y hy
  ·rw[List.mem_singleton.1 hy];exact hr.x
 ·exact hr.b y hy
theorem yY {ks:List Bs} {l:List Sp} (h0:(dg ks l).2.2=0):(∀x∈(dg ks l).1,x∈ks)∧(dg ks l).2.1=l:=by
 unfold dg at h0 ⊢
 split
 ·exact ⟨fun x hx=>(List.mem_filter.1 hx).1,rfl⟩
 ·rename_i hn;rw[if_neg hn] at h0;cases h0
theorem AW {k:List Bs} {l:List Sp} (hc:bg k l=true) (sk:∀q∈k,q.length≤2000) (hl:LsS l) {x:Sp} (hx:LsP x) (h0:(cu k l x).2.2=0):
  bg (cu k l x).1 (cu k l x).2.1=true∧(∀q∈(cu k l x).1,q.length≤2000)∧LsS (cu k l x).2.1:=by
 have hlw:=(yz hc x).2 h0
 obtain ⟨b1,b2,b3,b4⟩:=dh hc
 refine ⟨hlw.1,?_,?_⟩
 ·unfold cu at h0 ⊢
  rw[if_pos hc] at h0 ⊢
  exact fun y hy=>sk y ((yY h0).1 y hy)
 ·unfold cu at h0 ⊢
  rw[if_pos hc] at h0 ⊢
  rw[(yY h0).2]
  cases hh:hasB x with
  |true=>rw[if_pos rfl];exact AU hl (pq b3) hx hh
  |false=>rw[if_neg (by simp)];exact hl
theorem Inv.get {k:Nat} {S:Spc} {Y:Tx} (h:Inv k S Y) (q:Bs) (hq:q.length≤2000):Inv k S (gG S Y q).1:=by
 unfold gG
 split
 ·exact h
 ·simp only
  unfold fN
  split
  ·split<;>exact h
  ·split
   ·exact h
   ·split
    ·rename_i h0
     obtain ⟨a1,a2,a3⟩:=B4 h.ck h.sk hq h0
     exact ⟨h.fit,h.rt,h.tl,h.rC,h.lC,h.kC,a1,a2,by simp only;rw[a3];exact h.ls⟩
    ·exact h
theorem Inv.er {k:Nat} {S:Spc} {Y:Tx} (h:Inv k S Y) (l:List Pr) (a b:Bs) (hab:LsP ⟨a,b⟩):Inv k S (er Y l a b).1:=by
 unfold Txn.er
 split
 ·rename_i h0
  obtain ⟨a1,a2,a3⟩:=AW h.ck h.sk h.ls hab h0
  exact ⟨h.fit,h.rt,h.tl,h.rC,h.lC,h.kC,a1,a2,a3⟩
 ·exact h
theorem yZ {k:Nat} {S:Spc} {Y:Tx} (h:Inv k S Y):∀p∈dE Y.C (cY S [] [] Y.t),p.k.length≤128:=by
 intro p hp
 rcases (lf Y.C (im h.fit.ri [] [] Y.t) h.rC p).1 hp with ⟨c,hc,e,-⟩|⟨h1,-⟩
 ·have:=jE (h.kC c hc)
  rw[←e];omega
 ·have h3:=((jA h.fit.ri).1 h1).1
  obtain ⟨x,hx,e⟩:=List.mem_map.1 h3
  rw[←e];exact (h.rt.it x hx).1
theorem wM {l:List Pr} {a b:Bs} {most:Int} {p:Pr} (h:p∈dJ l a b most):p∈l:=by
 unfold dJ eh at h
 split at h
 ·exact (List.mem_filter.1 h).1
 ·exact (List.mem_filter.1 (List.mem_of_mem_take h)).1
theorem Inv.scan {k:Nat} {S:Spc} {Y:Tx} (h:Inv k S Y) (a b:Bs) (most:Int) (ha:a.length≤2000) (hb:b.length≤2000):Inv k S (dC S Y a b most).1:=by
 rw[mb h.fit.ri h.rC h.tl]
 split
 ·exact h
 ·split
  ·exact h
  ·split
   ·exact h
   ·unfold iS
    refine h.er _ _ _ ⟨by unfold Ls;simp only;omega,?_⟩
    simp only
    split
    ·unfold Ls
     rw[List.length_append]
     have hk:((dJ (dE Y.C (cY S [] [] Y.t)) a b most).getD (most.toNat - 1) default).k.length≤128:=by
      by_cases hi:most.toNat - 1<(dJ (dE Y.C (cY S [] [] Y.t)) a b most).length
      ·rw[Av.ar hi]
       exact yZ h _ (wM (List.getElem_mem hi))
      ·rw[List.getD_eq_getElem?_getD,List.getElem?_eq_none (by omega)]
       simp[show (default:Pr)=⟨[],[]⟩ from rfl]
     simp only[List.length_cons,List.length_nil]
     omega
    ·unfold Ls;omega
theorem Inv.res {k:Nat} {S:Spc} {Y:Tx} (h:Inv k S Y) (l:List Ch):Inv k S (gM Y l).1:=by
 unfold gM
 split
 ·exact h
 ·unfold lx
  split
  ·rename_i hr
   have hall:=iu.1 hr
   have hri:=sB (Nat.le_refl _) hall
   rw[List.take_length] at hri
   refine ⟨h.fit,h.rt,h.tl,hri,?_,fun c hc=>?_,h.ck,h.sk,h.ls⟩
   ·simp only
    rcases Nat.lt_or_ge 64 l.length with h1|h1
    ·have:=(hall 64 h1).2.2.1;omega
    ·exact h1
   ·obtain ⟨i,hi,rfl⟩:=List.getElem_of_mem hc
    have:=(hall i hi).1
    rwa [Av.ar hi] at this
  ·exact h
theorem tS (S:Spc) (t:Int) (l:List Ch):S.last≤(bM S t l).1.last:=by
 unfold bM
 split
 ·exact Int.le_refl _
 ·rename_i h
  split
  ·exact Int.le_refl _
  ·simp only;omega
theorem y6 (S:Spc) (m:Int):(br S m).1.last=S.last:=by
 unfold br
 split
 ·rfl
 ·have:∀(ks:List Bs) (S:Spc),(iq m S ks).last=S.last:=by
   intro ks
   induction ks with
   |nil=>intro S;rfl
   |cons q ks ih=>intro S;simp only[iq,List.foldl_cons] at ih ⊢;rw[ih];first|rfl|(unfold iP;rfl)|(split<;>rfl)
  simp only[this]
theorem Inv.apply {k:Nat} {S:Spc} {Y:Tx} (h:Inv k S Y) (t:Int) (l:List Ch) (hl:∀c∈l,Ls c.k):Inv (k+l.length) (bM S t l).1 Y:=
 ⟨h.fit.apply t l hl,h.rt.apply h.fit t l,Int.le_trans h.tl (tS S t l),h.rC,h.lC,h.kC,h.ck,h.sk,h.ls⟩
theorem Inv.vac {k:Nat} {S:Spc} {Y:Tx} (h:Inv k S Y) (m:Int):Inv k (br S m).1 Y:=
 ⟨h.fit.vac m,h.rt.vac h.fit m,by rw[y6];exact h.tl,h.rC,h.lC,h.kC,h.ck,h.sk,h.ls⟩
theorem Inv.step {k:Nat} {S:Spc} {Y:Tx} (h:Inv k S Y) (c:Ac) (ha:c.a.length≤2000) (hb:c.b.length≤2000) (hl:∀x∈c.l,Ls x.k):Inv (k+1+c.l.length) (stS S c) (stY S Y c):=by
 unfold stS stY
 by_cases h4:c.kind=4
 ·rw[if_pos h4,if_neg (by omega),if_neg (by omega),if_neg (by omega),if_pos (.inl h4)]
  exact (h.apply _ _ hl).mono (by omega)
 rw[if_neg h4]
 by_cases h5:c.kind=5
 ·rw[if_pos h5,if_neg (by omega),if_neg (by omega),if_neg (by omega),if_pos (.inr h5)]
  exact (h.vac _).mono (by omega)
 rw[if_neg h5]
 refine Inv.mono (k:=k) ?_ (by omega)
 split
 ·exact h.chg _
 ·split
  ·exact h.get _ ha
  ·split
   ·exact h.scan _ _ _ ha hb
   ·rw[if_neg (by omega)]
    split
    ·exact ⟨h.fit,h.rt,h.tl,h.rC,h.lC,h.kC,h.ck,h.sk,h.ls⟩
    ·split
     ·exact h.res _
     ·exact h.chg _
def y7 (t:Int):AV:= .agg [.int .i64 t,.sl 3 [] (.exact 0),.sl 1 [] (.exact 0),.sl 2 [] (.exact 0),.bool false]
theorem y8 (S:Spc) (sm:jY S) (t:Int):aA Tryz.prog 31 [cP S,.int .i64 t] (.tup [y7 (if cT S t=0 then t else 0),.int .i64 (cT S t)]):=by
 refine f31.aD (by simp) (by simp[al,av,cA]) (by simp[y7,av,al,aG]) ?_
 unfold c31
 simp only[C.zz]
 have lk:=yn S sm [] t
 by_cases hb:cT S t=0
 ·have h7:∀e:Int,(eE S [] t).2=e→(decide (e=0)=true∨(decide (e=0)=false∧decide (e=7)=true)):=fun e h=>by
   subst h
   rw[eE,if_pos hb]
   split
   ·exact .inl rfl
   ·exact .inr ⟨rfl,rfl⟩
  unfold cP at lk ⊢
  generalize hv:(eE S [] t).1=v at*
  generalize hw:(eE S [] t).2=e at*
  rw[if_pos hb,hb]
  rcases h7 e rfl with d1|⟨d1,d2⟩
  ·refine rn1 d1 lk ?_
   refine aJ ?_
   exact ab.refl _
  ·refine rn1 (cj2 d1 d2) lk ?_
   refine aJ ?_
   exact ab.refl _
 ·rw[eE,if_neg hb] at lk
  have d1:=decide_eq_false hb
  have d2:decide (cT S t=7)=false:=decide_eq_false (by unfold cT;split<;>(try split)<;>decide)
  rw[if_neg hb]
  unfold cP at lk ⊢
  refine rn1 (cj2 d1 d2) lk ?_
  refine aJ ?_
  exact ab.refl _
end Go.Proofs.YtpehfflehebmbaaGreat.Txn
end
section
set_option maxRecDepth 10000
namespace Go.Av
theorem On.perm {l0 L L':List Fr} {n0 m0 n m:Nat} {T:List Nat} (a:On l0 n0 m0 L n T m) (h:List.Perm L L'):On l0 n0 m0 L' n T m:=by
 have ok':Ok L' n T m:=⟨fun F hF=>a.ok.bd F (h.mem_iff.2 hF),h.pairwise a.ok.dj (fun hxy j=>(hxy j).symm),fun t ht=>a.ok.tk t (by
  obtain ⟨F,hF,h2⟩:=List.mem_flatMap.1 ht
  exact List.mem_flatMap.2 ⟨F,h.mem_iff.2 hF,h2⟩),h.pairwise a.ok.td (fun {x y} hxy t h1 h2=>hxy t h2 h1),a.ok.tb⟩
 have hlay:∀j,lay L' j=none∨(lay L j).isSome=true:=fun j=>by
  cases e:lay L' j with
  |none=>exact .inl rfl
  |some o=>
   right
   cases e2:lay L j with
   |some _=>rfl
   |none=>
    have:=cd.1 e2
    rw[cd.2 fun F hF=>this F (h.mem_iff.2 hF)] at e
    cases e
 refine a.step ⟨Nat.le_refl _,Nat.le_refl _,ok',fun j=>?_,fun t ht=> .inl ?_⟩
 ·rcases hlay j with h|h
  ·exact .inr (.inr h)
  ·exact .inr (.inl h)
 ·obtain ⟨F,hF,h2⟩:=List.mem_flatMap.1 ht
  exact List.mem_flatMap.2 ⟨F,h.mem_iff.2 hF,h2⟩
theorem oA {L L':List Fr} {n m i:Nat} {T:List Nat} {o o':Obj} (ok:Ok L n T m) (hi:ob i o∈L) (hs:cq o o') (h:∀G∈L',G=ob i o'∨G∈L):OLe (lay L) (lay L'):=fun j p hj=>by
 have:∃G∈L',G.o j=some p:=by
  clear h ok
  induction L' with
  |nil=>cases hj
  |cons G L' ih=>
   rw[cO] at hj
   cases e:G.o j with
   |some o'=>
    rw[e] at hj
    simp only[Option.some_or,Option.some.injEq] at hj
    exact ⟨G,by simp,by rw[e,hj]⟩
   |none=>
    rw[e] at hj
    simp only[Option.none_or] at hj
    obtain ⟨G',h1,h2⟩:=ih hj
    exact ⟨G',by simp[h1],h2⟩
 obtain ⟨G,h1,h2⟩:=this
 rcases h G h1 with rfl|h3
 ·rw[aW] at h2
  split at h2
  ·rename_i e;subst e;cases h2
   exact ⟨o,ok.sub hi j o (by simp[aW]),hs⟩
  ·cases h2
 ·exact ⟨p,ok.sub h3 j p h2,cq.refl _⟩
end Go.Av
namespace Go.Proofs.YtpehfflehebmbaaGreat.Txn
open Go Go.Av Go.Proofs Go.Proofs.YtpehfflehebmbaaGreat.C Go.Proofs.YtpehfflehebmbaaGreat.Batch Go.Proofs.YtpehfflehebmbaaGreat.Space Go.Proofs.YtpehfflehebmbaaGreat.Reads
theorem wN {N:Nat} {dst:Option Nat} {g:Option (Nat × Bool)} {l:List Opd} {its:List aO} {t:Tm} {log:List Ent} {K:Tm→H→List Ent→Prop} {s w x k:Nat} {S:Spc} {F FS:Fr} {Y:Tx} (A:List Fr) {n m:Nat} {T:List Nat} {c:Ac}
  (hg:guardOf t g=some true) (hs:af (l.map (ev t)) [.ptr w 0,Txn.dm c]) (hF:TxF x s Y F) (hS:cU s S FS) (hI:Inv k S Y) (hl:k+c.l.length+1≤400000) (ha:c.a.length≤1000) (hb:c.b.length≤1000) (hlc:∀y∈c.l,Ls y.k)
  (ok:Ok (A++[F,FS,ob w (wO s S (.ptr x 0) Y)]) n T m)
  (rest:∀F' FS' n' T' m' ids tk,TxF x s (stY S Y c) F'→cU s (stS S c) FS'→On (A++[F,FS,ob w (wO s S (.ptr x 0) Y)]) n m (A++[F',FS',ob w (wO s (stS S c) (.ptr x 0) (stY S Y c))]) n' T' m'→
   aa Tryz.prog N its (cL t dst (.bool true)) ⟨lay (A++[F',FS',ob w (wO s (stS S c) (.ptr x 0) (stY S Y c))]),n',T',m'⟩ (⟨[],ids,tk⟩::log) K):
  aa Tryz.prog N (⟨dst,g,.call 10 l⟩::its) t ⟨lay (A++[F,FS,ob w (wO s S (.ptr x 0) Y)]),n,T,m⟩ log K:=by
 have la:Ls c.a:=by unfold Ls;omega
 have lb:Ls c.b:=by unfold Ls;omega
 have all:∀(c1:stS S c=S),(aT Tryz.prog 10 [.ptr w 0,Txn.dm c] [F,FS,ob w (wO s S (.ptr x 0) Y)] fun r L=>r= .bool true∧∃F',L=[F',FS,ob w (wO s S (.ptr x 0) (stY S Y c))]∧TxF x s (stY S Y c) F')→
   aa Tryz.prog N (⟨dst,g,.call 10 l⟩::its) t ⟨lay (A++[F,FS,ob w (wO s S (.ptr x 0) Y)]),n,T,m⟩ log K:=fun c1 hc=>by
  have ok':Ok (A++[F,FS,ob w (wO s S (.ptr x 0) Y)]++[]) n T m:=by rw[List.append_nil];exact ok
  have:=aa.cM (P:=Tryz.prog) (N:=N) (dst:=dst) (its:=its) (log:=log) (K:=K) A [F,FS,ob w (wO s S (.ptr x 0) Y)] [] hg hs hc ok' fun r G' n' T' m' ids hq on hids=>?_
  ·rw[List.append_nil] at this;exact this
  ·obtain ⟨rfl,F',rfl,hF'⟩:=hq
   rw[List.append_nil,List.append_nil] at on
   rw[List.append_nil]
   have hS':cU s (stS S c) FS:=by rw[c1];exact hS
   have:=fun tk=>rest F' FS n' T' m' ids tk hF' hS' (by rw[c1];exact on)
   rw[c1] at this
   exact this _
 have two:∀(c1:stY S Y c=Y),(aT Tryz.prog 10 [.ptr w 0,Txn.dm c] [FS,ob w (wO s S (.ptr x 0) Y)] fun r L=>r= .bool true∧∃FS',L=[FS',ob w (wO s (stS S c) (.ptr x 0) Y)]∧cU s (stS S c) FS')→
   aa Tryz.prog N (⟨dst,g,.call 10 l⟩::its) t ⟨lay (A++[F,FS,ob w (wO s S (.ptr x 0) Y)]),n,T,m⟩ log K:=fun c1 hc=>by
  have e:∀X:List Fr,A++F::X=A++[F]++X++[]:=fun X=>by simp
  have ok':Ok (A++[F]++[FS,ob w (wO s S (.ptr x 0) Y)]++[]) n T m:=by rw[←e];exact ok
  have:=aa.cM (P:=Tryz.prog) (N:=N) (dst:=dst) (its:=its) (log:=log) (K:=K) (A++[F]) [FS,ob w (wO s S (.ptr x 0) Y)] [] hg hs hc ok' fun r G' n' T' m' ids hq on hids=>?_
  ·rw[←e] at this;exact this
  ·obtain ⟨rfl,FS',rfl,hS'⟩:=hq
   rw[←e,←e] at on
   rw[←e]
   have hF':TxF x s (stY S Y c) F:=by rw[c1];exact hF
   have:=fun tk=>rest F FS' n' T' m' ids tk hF' hS' (by rw[c1];exact on)
   rw[c1] at this
   exact this _
 by_cases k1:c.kind=1
 ·have e1:stS S c=S:=by rw[stS,if_neg (by omega),if_neg (by omega)]
  have e2:stY S Y c=(eF Y ⟨c.a,[],true⟩).1:=by rw[stY,if_pos k1]
  exact all e1 (by rw[e2];exact AO hF hS hI c k1 (by omega) la)
 by_cases k2:c.kind=2
 ·have e1:stS S c=S:=by rw[stS,if_neg (by omega),if_neg (by omega)]
  have e2:stY S Y c=(gG S Y c.a).1:=by rw[stY,if_neg k1,if_pos k2]
  exact all e1 (by rw[e2];exact AP hF hS hI c k2 (by omega) la)
 by_cases k3:c.kind=3
 ·have e1:stS S c=S:=by rw[stS,if_neg (by omega),if_neg (by omega)]
  have e2:stY S Y c=(dC S Y c.a c.b c.n).1:=by rw[stY,if_neg k1,if_neg k2,if_pos k3]
  exact all e1 (by rw[e2];exact AQ hF hS hI c k3 (by omega) la lb)
 by_cases k4:c.kind=4
 ·have e1:stS S c=(bM S (S.last+1) c.l).1:=by rw[stS,if_pos k4]
  have e2:stY S Y c=Y:=by rw[stY,if_neg k1,if_neg k2,if_neg k3,if_pos (.inl k4)]
  exact two e2 (by rw[e1];exact u0 hS hI.fit hI.rt c k4 (by omega))
 by_cases k5:c.kind=5
 ·have e1:stS S c=(br S c.n).1:=by rw[stS,if_neg k4,if_pos k5]
  have e2:stY S Y c=Y:=by rw[stY,if_neg k1,if_neg k2,if_neg k3,if_pos (.inr k5)]
  exact two e2 (by rw[e1];exact u2 hS hI.fit hI.rt c k5 (by omega))
 have e1:stS S c=S:=by rw[stS,if_neg k4,if_neg k5]
 by_cases k6:c.kind=6
 ·have e2:stY S Y c= {Y with ended:=true}:=by rw[stY,if_neg k1,if_neg k2,if_neg k3,if_neg (by omega),if_pos k6]
  exact all e1 (by rw[e2];exact AR (k:=0) hF hS c k6)
 by_cases k7:c.kind=7
 ·have e2:stY S Y c=(gM Y (oM c Y)).1:=by rw[stY,if_neg k1,if_neg k2,if_neg k3,if_neg (by omega),if_neg k6,if_pos k7]
  exact all e1 (by rw[e2];exact AT hF hS hI c k7 (by omega) la hlc)
 have e2:stY S Y c=(eF Y ⟨c.a,c.b,false⟩).1:=by rw[stY,if_neg k1,if_neg k2,if_neg k3,if_neg (by omega),if_neg k6,if_neg k7]
 exact all e1 (by rw[e2];exact AS hF hS hI c (by omega) (by omega) la)
end Go.Proofs.YtpehfflehebmbaaGreat.Txn
end
section
set_option maxRecDepth 10000
namespace Go.Proofs.YtpehfflehebmbaaGreat.Space
open Go Go.Av Go.Proofs Go.Proofs.YtpehfflehebmbaaGreat.C Go.Proofs.YtpehfflehebmbaaGreat.Batch
theorem plc_cons (x:Ver) (v:List Ver) (t:Int):plc (x::v) t=if x.t≤t then 0 else plc v t+1:=by
 simp only[plc,List.findIdx_cons]
 by_cases h:x.t≤t<;>simp[h]
theorem at_cons {x:Ver} {v:List Ver} {t:Int} (hc:chB (x::v)=true) (ht:t<x.t):atB (x::v) t=atB v t:=by
 have hv:=(ot.1 hc).2.1
 have hp:plc (x::v) t=plc v t+1:=by rw[plc_cons,if_neg (by omega)]
 unfold atB
 rw[hp]
 simp only[hc,hv,true_and,List.length_cons,List.getD_cons_succ]
 by_cases h:plc v t<v.length
 ·rw[if_pos (by omega),if_pos h]
 ·rw[if_neg (by omega),if_neg h]
theorem at_nil (t:Int):atB [] t=([],false):=by simp[atB,plc]
def Told (S S':Spc) (t:Int):Prop:=∀q,atB (aY S'.L q) t=atB (aY S.L q) t
theorem told_up {S:Spc} {k:Nat} (hF:Fit S k) (hR:Rt S) {T t:Int} (h1:S.last<T) (h2:T≤1152921504606846976) (h3:t≤S.last) {l:List Ch} (hf:gD l=true):∀j,j≤l.length→∀q,atB (aY ((l.take j).foldl (upR T S) S.L) q) t=atB (aY S.L q) t
 |0,_,q=>rfl
 |j+1,hj,q=>by
  have ih:=told_up hF hR h1 h2 h3 hf j (by omega) q
  have hr:=(yo T S hF.ri l hf j (by omega)).1
  rw[bJ default (show j<l.length by omega),List.foldl_append]
  simp only[List.foldl_cons,List.foldl_nil]
  rw[upR,kT hr]
  split
  ·rename_i e
   obtain ⟨a,b⟩:=BT hf (show j<l.length by omega)
   have hm:=tF (fun p hp=>(hR.it p hp).2.1) (l.getD j default).k
   have hx:=BS (t:=T) (by have:=hR.mn;have:=hR.ml;omega) h2 a b
   have hhd:aY S.L (l.getD j default).k≠[]→((aY S.L (l.getD j default).k).getD 0 default).t<T:=fun hn=>by have:=hR.head _ hn;omega
   have ha:=wo hm hx hhd
   rw[ha]
   simp only
   rw[at_cons (ot.2 ⟨hx,hm,hhd⟩) (by simp only;omega),e]
  ·exact ih
theorem told_apply {S:Spc} {k:Nat} (hF:Fit S k) (hR:Rt S) {T t:Int} (h3:t≤S.last) (l:List Ch):Told S (bM S T l).1 t:=by
 intro q
 unfold bM
 split
 ·rfl
 ·split
  ·rfl
  ·rename_i h1 h2
   have hf:gD l=true:=by simpa using h2
   have e:=(yo T S hF.ri l hf l.length (Nat.le_refl _)).2.2
   have hu:=told_up hF hR (T:=T) (t:=t) (by omega) (by omega) h3 hf l.length (Nat.le_refl _) q
   rw[List.take_length] at e hu
   rw[e];exact hu
theorem rise_ext:∀{A B:List Pr},A.Pairwise (fun x y=>Op.bytesLess x.k y.k=true)→B.Pairwise (fun x y=>Op.bytesLess x.k y.k=true)→(∀x,x∈A↔x∈B)→A=B
 |[],[],_,_,_=>rfl
 |[],y::B,_,_,h=>absurd ((h y).2 (by simp)) (by simp)
 |x::A,[],_,_,h=>absurd ((h x).1 (by simp)) (by simp)
 |x::A,y::B,hA,hB,h=>by
  obtain ⟨a1,a2⟩:=List.pairwise_cons.1 hA
  obtain ⟨b1,b2⟩:=List.pairwise_cons.1 hB
  have e:x=y:=by
   rcases List.mem_cons.1 ((h x).1 (by simp)) with e|e
   ·exact e
   ·rcases List.mem_cons.1 ((h y).2 (by simp)) with e'|e'
    ·exact e'.symm
    ·have:=bz (b1 x e) (a1 y e')
     rw[bk] at this;cases this
  subst e
  rw[rise_ext a2 b2 fun z=>⟨fun hz=>?_,fun hz=>?_⟩]
  ·rcases List.mem_cons.1 ((h z).1 (by simp[hz])) with e|e
   ·have:=a1 z hz;rw[e,bk] at this;cases this
   ·exact e
  ·rcases List.mem_cons.1 ((h z).2 (by simp[hz])) with e|e
   ·have:=b1 z hz;rw[e,bk] at this;cases this
   ·exact e
theorem tellW_some {a b:Bs} {t:Int} {p:It} {x:Pr}:eu a b t p=some x↔inB p.1 a b=true∧p.1=x.k∧atB p.2 t=(x.v,true):=by
 unfold eu yk
 constructor
 ·intro h
  split at h
  ·split at h
   ·rename_i h1 h2
    cases h
    exact ⟨h1,rfl,Prod.ext rfl h2⟩
   ·cases h
  ·cases h
 ·rintro ⟨h1,h2,h3⟩
  rw[if_pos h1,if_pos (by rw[h3]),h3]
  cases x;simp only at h2;rw[h2]
theorem tells_rise {a b:Bs} {t:Int}:∀{L:List It},bb L→(L.filterMap (eu a b t)).Pairwise (fun x y=>Op.bytesLess x.k y.k=true)
 |[],_=>by simp
 |p::L,hr=>by
  obtain ⟨h1,h2⟩:=ir.1 hr
  rw[List.filterMap_cons]
  cases hp:eu a b t p with
  |none=>exact tells_rise h2
  |some x=>
   simp only
   refine List.pairwise_cons.2 ⟨fun y hy=>?_,tells_rise h2⟩
   obtain ⟨z,hz,e⟩:=List.mem_filterMap.1 hy
   rw[←(tellW_some.1 hp).2.1,←(tellW_some.1 e).2.1]
   exact h1 z hz
theorem tells_mem {L:List It} (hr:bb L) {a b:Bs} {t:Int} {x:Pr}:x∈L.filterMap (eu a b t)↔inB x.k a b=true∧atB (aY L x.k) t=(x.v,true):=by
 rw[List.mem_filterMap]
 constructor
 ·rintro ⟨p,hp,e⟩
  obtain ⟨h1,h2,h3⟩:=tellW_some.1 e
  rw[←h2,jC hr hp]
  exact ⟨h1,h3⟩
 ·rintro ⟨h1,h2⟩
  have hn:aY L x.k≠[]:=fun e=>by rw[e,at_nil] at h2;exact absurd (congrArg Prod.snd h2) (by simp)
  obtain ⟨p,hp,e1,e2⟩:=wq (P:=fun p=>p∈L) (fun p hp=>hp) x.k hn
  exact ⟨p,hp,tellW_some.2 ⟨by rw[e2];exact h1,e2,by rw[e1];exact h2⟩⟩
theorem told_all {S S':Spc} (hr:bb S.L) (hr':bb S'.L) {t:Int} (h:Told S S' t) (a b:Bs):cY S' a b t=cY S a b t:=by
 rw[Ag hr,Ag hr',mI,mI]
 refine rise_ext (tells_rise hr') (tells_rise hr) fun x=>?_
 rw[tells_mem hr,tells_mem hr',h x.k]
end Go.Proofs.YtpehfflehebmbaaGreat.Space
end
section
set_option maxRecDepth 10000
namespace Go.Proofs.YtpehfflehebmbaaGreat.Reads
open Go Go.Av Go.Proofs Go.Proofs.YtpehfflehebmbaaGreat.C Go.Proofs.YtpehfflehebmbaaGreat.Batch
theorem span_lay {l:List Sp} (h:NF l) (x:Sp):NF (if hasB x=true then di l x else l)∧∀q,aR (if hasB x=true then di l x else l) q=(fz x q||aR l q):=by
 cases hh:hasB x with
 |true=>rw[if_pos rfl];exact ⟨(uG h hh).1,(uG h hh).2.1⟩
 |false=>rw[if_neg (by simp)];exact ⟨h,fun q=>by rw[BV hh,Bool.false_or]⟩
theorem span_set {k k':List Bs} {l l':List Sp} {x:Sp} (hc:bg k l=true) (hc':bg k' l'=true) (hs:∀q,aR l' q=(fz x q||aR l q)) (hk:(k.filter fun q=> !aR l' q)=k'):cu k l x=(k',l',0):=by
 obtain ⟨b1,b2,b3,b4⟩:=dh hc
 obtain ⟨c1,c2,c3,c4⟩:=dh hc'
 have hl:=span_lay (pq b3) x
 have e:(if hasB x=true then di l x else l)=l':=nf_eq hl.1 (pq c3) fun q=>by rw[hl.2,hs]
 unfold cu
 rw[if_pos hc,e,dg,hk,decide_eq_true c1,decide_eq_true c2]
 rfl
theorem span_is {k:List Bs} {l:List Sp} {x:Sp} (hc:bg k l=true) (h0:(cu k l x).2.2=0):
  bg (cu k l x).1 (cu k l x).2.1=true∧(∀q,aR (cu k l x).2.1 q=(fz x q||aR l q)):=by
 refine ⟨((yz hc x).2 h0).1,fun q=>?_⟩
 obtain ⟨b1,b2,b3,b4⟩:=dh hc
 rw[←(span_lay (pq b3) x).2]
 unfold cu at h0 ⊢
 rw[if_pos hc] at h0 ⊢
 generalize (if hasB x=true then di l x else l)=L at*
 by_cases hh:(decide ((k.filter fun y=> !aR L y).length≤64)&&decide (L.length≤64))=true
 ·unfold dg;rw[if_pos hh]
 ·unfold dg at h0;rw[if_neg hh] at h0;exact absurd h0 (by decide)
theorem q0 {k:List Bs} {l:List Sp} (hc:bg k l=true):(k.filter fun q=> !aR l q)=k:=by
 obtain ⟨b1,b2,b3,b4⟩:=dh hc
 rw[List.filter_eq_self]
 intro q hq
 rw[(pL b4).2 q hq];rfl
theorem span_again {k:List Bs} {l:List Sp} {x:Sp} (hc:bg k l=true) (hs:∀q,fz x q=true→aR l q=true):cu k l x=(k,l,0):=by
 refine span_set hc hc (fun q=>?_) (q0 hc)
 cases hw:fz x q with
 |false=>rfl
 |true=>rw[hs q hw];rfl
theorem span_twice {k:List Bs} {l:List Sp} {x:Sp} (hc:bg k l=true) (h0:(cu k l x).2.2=0):cu (cu k l x).1 (cu k l x).2.1 x=((cu k l x).1,(cu k l x).2.1,0):=by
 obtain ⟨h1,h2⟩:=span_is hc h0
 exact span_again h1 fun q hq=>by rw[h2,hq];rfl
end Go.Proofs.YtpehfflehebmbaaGreat.Reads
namespace Go.Proofs.YtpehfflehebmbaaGreat.Txn
open Go Go.Av Go.Proofs Go.Proofs.YtpehfflehebmbaaGreat.C Go.Proofs.YtpehfflehebmbaaGreat.Batch Go.Proofs.YtpehfflehebmbaaGreat.Space Go.Proofs.YtpehfflehebmbaaGreat.Reads
end Go.Proofs.YtpehfflehebmbaaGreat.Txn
end
section
set_option maxRecDepth 10000
namespace Go.Proofs.YtpehfflehebmbaaGreat.Txn
open Go Go.Av Go.Proofs Go.Proofs.YtpehfflehebmbaaGreat.C Go.Proofs.YtpehfflehebmbaaGreat.Batch Go.Proofs.YtpehfflehebmbaaGreat.Space Go.Proofs.YtpehfflehebmbaaGreat.Reads
theorem mf (S:Spc) (Y:Tx) (q:Bs):(gG S Y q).1.C=Y.C∧(gG S Y q).1.t=Y.t∧(gG S Y q).1.ended=Y.ended:=by
 unfold gG
 split
 ·exact ⟨rfl,rfl,rfl⟩
 ·simp only
  unfold fN
  split
  ·split<;>exact ⟨rfl,rfl,rfl⟩
  ·split
   ·exact ⟨rfl,rfl,rfl⟩
   ·split<;>exact ⟨rfl,rfl,rfl⟩
theorem tT (Y:Tx) (l:List Pr) (a b:Bs):(er Y l a b).1.C=Y.C∧(er Y l a b).1.t=Y.t∧(er Y l a b).1.ended=Y.ended:=by
 unfold er
 split<;>exact ⟨rfl,rfl,rfl⟩
theorem kG (S:Spc) (Y:Tx) (a b:Bs) (most:Int):(dC S Y a b most).1.C=Y.C∧(dC S Y a b most).1.t=Y.t∧(dC S Y a b most).1.ended=Y.ended:=by
 unfold dC
 split
 ·exact ⟨rfl,rfl,rfl⟩
 ·simp only
  unfold gI
  split
  ·exact ⟨rfl,rfl,rfl⟩
  ·generalize (if b=[]∨Op.bytesLess a b=true then gH Y.C (cn S a b Y.t (-1)).1 a b else (cn S a b Y.t (-1)).1)=L
   unfold kg
   split<;>exact tT _ _ _ _
theorem jW (Y:Tx) (c:Ch):(eF Y c).1.t=Y.t∧(eF Y c).1.ended=Y.ended:=by
 unfold eF;split<;>exact ⟨rfl,rfl⟩
theorem pT (Y:Tx) (l:List Ch):(gM Y l).1.t=Y.t∧(gM Y l).1.ended=Y.ended:=by
 unfold gM
 split
 ·exact ⟨rfl,rfl⟩
 ·unfold lx;split<;>exact ⟨rfl,rfl⟩
theorem C5 (S:Spc) (Y:Tx) (c:Ac):(stY S Y c).t=Y.t:=by
 unfold stY
 split
 ·exact (jW _ _).1
 ·split
  ·exact (mf _ _ _).2.1
  ·split
   ·exact (kG _ _ _ _ _).2.1
   ·split
    ·rfl
    ·split
     ·rfl
     ·split
      ·exact (pT _ _).1
      ·exact (jW _ _).1
theorem wP (S:Spc) (Y:Tx) (c:Ac) (h6:c.kind≠6):(stY S Y c).ended=Y.ended:=by
 unfold stY
 split
 ·exact (jW _ _).2
 ·split
  ·exact (mf _ _ _).2.2
  ·split
   ·exact (kG _ _ _ _ _).2.2
   ·split
    ·rfl
    ·try rw[if_neg h6]
     split
     ·exact (pT _ _).2
     ·exact (jW _ _).2
theorem tV (S:Spc) (t:Int) (l:List Ch):(bM S t l).1.mark=S.mark:=by
 have:∀(l:List Ch) (S:Spc),(doS t S l).mark=S.mark:=by
  intro l
  induction l with
  |nil=>intro S;rfl
  |cons c l ih=>intro S;simp only[doS,List.foldl_cons] at ih ⊢;rw[ih];first|rfl|(unfold Space.cb;first|rfl|(unfold iP;rfl))
 unfold bM
 split
 ·rfl
 ·split
  ·rfl
  ·exact this l S
theorem y9 (S:Spc) (c:Ac) (h5:c.kind≠5):(stS S c).mark=S.mark:=by
 unfold stS
 split
 ·exact tV _ _ _
 ·first|rfl|(rw [if_neg h5])
def DV (C:List Ch):Prop:=∀c∈C,c.d=true→c.v=[]
theorem DV.chg {Y:Tx} (h:DV Y.C) {c:Ch} (hc:c.d=true→c.v=[]):DV (eF Y c).1.C:=by
 unfold eF
 split
 ·exact h
 ·unfold fL
  split
  ·exact h
  ·split
   ·exact h
   ·intro x hx
    rcases sI hx with rfl|hx
    ·exact hc
    ·exact h x hx
theorem DV.step {S:Spc} {Y:Tx} (h:DV Y.C) (c:Ac):DV (stY S Y c).C:=by
 unfold stY
 split
 ·exact h.chg fun _=>rfl
 ·split
  ·rw[(mf _ _ _).1];exact h
  ·split
   ·rw[(kG _ _ _ _ _).1];exact h
   ·split
    ·exact h
    ·split
     ·exact h
     ·split
      ·unfold gM
       split
       ·exact h
       ·unfold lx
        split
        ·rename_i hr
         have hall:=iu.1 hr
         intro x hx hd
         obtain ⟨i,hi,rfl⟩:=List.getElem_of_mem hx
         have:=(hall i hi).2.1
         rw[Av.ar hi] at this
         exact Classical.byContradiction fun e=>this ⟨hd,e⟩
        ·exact h
      ·exact h.chg fun e=>by cases e
theorem still_scan {S S':Spc} {Y:Tx} (hr:bb S.L) (hr':bb S'.L) (ht:Y.t≤S.last) (hl:S.last≤S'.last) (hm:S'.mark=S.mark) (hc:bg Y.rk Y.rs=true) (htl:Space.Told S S' Y.t) (a b:Bs):
  dC S' (dC S Y a b (-1)).1 a b (-1)=((dC S Y a b (-1)).1,(dC S Y a b (-1)).2.1,(dC S Y a b (-1)).2.2):=by
 have key:∀Z:Tx,Z.C=Y.C→Z.t=Y.t→Z.ended=Y.ended→dC S' Z a b (-1)=dC S Z a b (-1):=fun Z e1 e2 e3=>by
  have hk:cT S' Z.t=cT S Z.t:=by
   unfold cT;rw[hm,e2]
   split
   ·rfl
   ·rw[if_neg (by omega),if_neg (by omega)]
  unfold dC gI cn
  rw[hk,e2,told_all hr hr' htl]
 obtain ⟨k1,k2,k3⟩:=kG S Y a b (-1)
 rw[key _ k1 k2 k3]
 unfold dC
 cases he:Y.ended with
 |true=>simp only[if_true,he]
 |false=>
  simp only[Bool.false_eq_true,if_false]
  by_cases h0:(cn S a b Y.t (-1)).2≠0∨(-1:Int)=0
  ·simp only[gI,if_pos h0,he,Bool.false_eq_true,if_false]
  ·have e:∀Z:Tx,Z.C=Y.C→Z.t=Y.t→gI S Z a b (-1)=er Z (if b=[]∨Op.bytesLess a b=true then gH Y.C (cn S a b Y.t (-1)).1 a b else (cn S a b Y.t (-1)).1) a b:=fun Z e1 e2=>by
    unfold gI
    rw[e2,if_neg h0,kg,if_neg (by omega),e1]
   rw[e Y rfl rfl]
   generalize (if b=[]∨Op.bytesLess a b=true then gH Y.C (cn S a b Y.t (-1)).1 a b else (cn S a b Y.t (-1)).1)=l at*
   obtain ⟨j1,j2,j3⟩:=tT Y l a b
   rw[j3,he]
   simp only[Bool.false_eq_true,if_false]
   rw[e _ j1 j2]
   unfold er
   by_cases h9:(cu Y.rk Y.rs ⟨a,b⟩).2.2=0
   ·rw[if_pos h9]
    simp only[span_twice hc h9,if_true]
   ·rw[if_neg h9]
    simp only[if_neg h9]
end Go.Proofs.YtpehfflehebmbaaGreat.Txn
end
section
set_option maxRecDepth 10000
namespace Go.Av
theorem wQ {f:jn} {i:Nat} {a b:Option Obj}:upd (upd f i a) i b=upd f i b:=by
 funext j;simp only[upd];split<;>rfl
end Go.Av
namespace Go.Proofs.YtpehfflehebmbaaGreat.Txn
open Go Go.Av Go.Proofs Go.Proofs.YtpehfflehebmbaaGreat.C Go.Proofs.YtpehfflehebmbaaGreat.Batch Go.Proofs.YtpehfflehebmbaaGreat.Space Go.Proofs.YtpehfflehebmbaaGreat.Reads
def Y0 (t:Int):Tx:=⟨t,[],[],[],false⟩
def bS (l:List Ac):Spc:=l.foldl stS ⟨[],0,0⟩
theorem u4 {l:List Ac} {j:Nat} (h:j<l.length):bS (l.take (j+1))=stS (bS (l.take j)) (l.getD j default):=by
 rw[Av.bJ default h,bS,List.foldl_append];rfl
theorem Inv.zero:Inv 0 ⟨[],0,0⟩ (Y0 0):=⟨Fit.zero,Rt.zero,Int.le_refl _,List.Pairwise.nil,by simp[Y0],fun c hc=>by simp[Y0] at hc,rfl,fun q hq=>by simp[Y0] at hq,LsS.of fun s hs=>by simp[Y0] at hs⟩
theorem Inv.stS {k:Nat} {S:Spc} {Y:Tx} (h:Inv k S Y) (c:Ac) (hl:∀x∈c.l,Ls x.k):Inv (k+1+c.l.length) (Txn.stS S c) Y:=by
 unfold Txn.stS
 split
 ·exact (h.apply _ _ hl).mono (by omega)
 ·split
  ·exact (h.vac _).mono (by omega)
  ·exact h.mono (by omega)
theorem tW {l:List Ac} (hl:∀c∈l,∀x∈c.l,Ls x.k):∀j,j≤l.length→Inv (eV (l.take j)) (bS (l.take j)) (Y0 0)
 |0,_=>by simpa [bS,eV] using Inv.zero
 |j+1,h=>by
  have ih:=tW hl j (by omega)
  rw[u4 h,iw h]
  exact (ih.stS _ (hl _ (by rw[Av.ar h];exact List.getElem_mem h)))
theorem Inv.begin {k:Nat} {S:Spc} (h:Inv k S (Y0 0)):Inv k S (Y0 S.last):=⟨h.fit,h.rt,Int.le_refl _,h.rC,h.lC,h.kC,h.ck,h.sk,h.ls⟩
abbrev fb:AV:= .sc (.pointer none)
set_option maxHeartbeats 4000000 in
theorem AX (l:List Ac) (hf:yX l) (hlc:∀c∈l,∀x∈c.l,Ls x.k):aT Tryz.prog 9 [.sl 5 (l.map Txn.dm) .any] [] fun r L=>∃w x s F FS,r= .ptr w 0∧L=[F,FS,ob w (wO s (bS l) (.ptr x 0) (Y0 (bS l).last))]∧TxF x s (Y0 (bS l).last) F∧cU s (bS l) FS:=by
 refine f9.bo (by simp) fun n m ok=>?_
 unfold c9
 simp only[C.zz]
 have hil:(l.map Txn.dm).length=l.length:=by simp
 have hlen:=hf.len
 refine de ?_
 refine aa.cM [] [] [] (by simp only[go_sem]) xA4 Be ok fun r G' n1 T1 m1 ids hq on hids=>?_
 obtain ⟨s,FS,rfl,rfl,hS0⟩:=hq
 simp only[List.cons_append,List.nil_append,List.append_nil] at on ⊢
 refine aa.evR xA1 ?_
 refine aa.nil ⟨by simp[ay,au,apart,aH],?_⟩
 rw[bm]
 have onA:=((On.refl (on.ok.more (wO s ⟨[],0,0⟩ fb (Y0 0)))).grown.perm (List.Perm.swap _ _ _))
 have okB:=on.ok.more (.cells [.ptr s 0,.sl 2 [] (.exact 0),.int .i64 0,.int .i64 0,fb,.int .i64 0,.sl 3 [] (.exact 0),.sl 1 [] (.exact 0),.sl 2 [] (.exact 0),.bool false])
 refine Wp.frz (fun j=>false) [(0,.sl 5 (l.map Txn.dm) .any),(3,.ptr n1 0)] ⟨lay [FS,ob n1 (wO s ⟨[],0,0⟩ fb (Y0 0))],n1+1,T1,m1⟩ ?_ ?_ (fun t ht=>ht) (Nat.le_refl _) (Nat.le_refl _) ?_
 ·simp only[aC,go_sem,reduceIte,Nat.reduceEqDiff,unT,eB,bx,if_false,if_true,List.drop_zero,Bool.false_eq_true]
  and_intros<;>first|exact ab.refl _|trivial
 ·have:=oA (L':=[FS,ob n1 (wO s ⟨[],0,0⟩ fb (Y0 0))]) (o':=wO s ⟨[],0,0⟩ fb (Y0 0)) okB (List.mem_cons_self ..) (af.cons (ab.refl _) (af.cons ab.cap (af.cons (ab.refl _) (af.cons (ab.refl _) (af.cons (ab.refl _) (af.cons (ab.refl _) (af.cons ab.cap (af.cons ab.cap (af.cons ab.cap (af.refl _)))))))))) (fun G hG=>by
   simp only[List.mem_cons,List.not_mem_nil,or_false] at hG
   rcases hG with rfl|rfl
   ·right;simp
   ·left;rfl)
  intro j o hj
  obtain ⟨o1,h1,h2⟩:=this j o hj
  exact ⟨o1,by simpa [H.drop] using h1,h2⟩
 refine de ?_
 refine Wp.gU (β:=Nat) [0,3] xA7 (fun i=>[(4,.int .i64 (i:Nat))]) (fun i L=>i≤l.length∧∃FS',L=[FS',ob n1 (wO s (bS (l.take i)) fb (Y0 0))]∧cU s (bS (l.take i)) FS') (fun i=>l.length - i) 0 ⟨Nat.zero_le _,FS,by simp[bS],by simpa [bS] using hS0⟩ onA.ok xA9 ?_
 rintro i L n5 T5 m5 on5 ⟨hi,FS',rfl,hS⟩
 have hI:=tW hlc i hi
 have hcnt:=mc l hi
 rw[List.take_length] at hcnt
 have hn:=hf.n
 have fw:lay [FS',ob n1 (wO s (bS (l.take i)) fb (Y0 0))] n1=some (.cells [.ptr s 0,.sl 2 ((bS (l.take i)).L.map Space.encI) .any,.int .i64 (bS (l.take i)).last,.int .i64 (bS (l.take i)).mark,fb,.int .i64 0,.sl 3 (chs []) .any,.sl 1 (strs []) .any,.sl 2 (sps []) .any,.bool false]):=on5.ok.sub (F:=ob n1 (wO s (bS (l.take i)) fb (Y0 0))) (by simp) n1 (wO s (bS (l.take i)) fb (Y0 0)) (by simp[aW])
 by_cases hi2:i<l.length
 ·obtain ⟨g1,h2,h3,e1⟩:=ixF (j:=i) (n:=l.length) (by omega) (by omega)
  have hat:=cR Txn.dm l i .any hi2
  have hsn:=u4 hi2
  have hcs:=iw hi2
  have hcm:=mc l (show i+1≤l.length from hi2)
  rw[List.take_length] at hcm
  have hxl:=hlc (l.getD i default) (by rw[Av.ar hi2];exact List.getElem_mem hi2)
  generalize l.getD i default=c at*
  generalize bS (l.take i)=S at*
  have hst:¬(c.kind=4∨c.kind=5)→stS S c=S:=fun h=>by rw[stS,if_neg (by omega),if_neg (by omega)]
  refine rn0 (cj8 g1 h2 h3 hil hat fw @Txn.dm.eq_1 @decide_true) ?_
  rw[bm,bu]
  have ok6:=on5.ok.more (.cells [.int .i64 c.kind,.int .i64 c.n,.str c.a,.str c.b,.sl 3 (chs c.l) .any])
  have f5:=aK n5 (.cells [.int .i64 c.kind,.int .i64 c.n,.str c.a,.str c.b,.sl 3 (chs c.l) .any]) [FS',ob n1 (wO s S fb (Y0 0))]
  have on6:On [FS',ob n1 (wO s S fb (Y0 0))] n5 m5 [ob n5 (.cells [.int .i64 c.kind,.int .i64 c.n,.str c.a,.str c.b,.sl 3 (chs c.l) .any]),FS',ob n1 (wO s S fb (Y0 0))] (n5+1) T5 m5:=(On.refl ok6).grown
  by_cases k4:c.kind=4
  ·have q4:=decide_eq_true k4
   have hg:=u0 (xv:=fb) (w:=n1) (Y:=Y0 0) hS hI.fit hI.rt c k4 (by omega)
   have e4:stS S c=(bM S (S.last+1) c.l).1:=by rw[stS,if_pos k4]
   rw[←e4] at hg
   refine rn0 (cj2 f5 q4) ?_
   refine aa.cM [_] [FS',ob n1 (wO s S fb (Y0 0))] [] (by simp only[go_sem,bx]) xA4 hg ok6 fun r G' n7 T7 m7 ids7 hq7 on7 hids7=>?_
   obtain ⟨rfl,FS2,rfl,hS2⟩:=hq7
   simp only[List.cons_append,List.nil_append,List.append_nil] at on7 ⊢
   refine aa.evR xA1 ?_
   refine aa.nil ⟨by simp[ay,au,apart,aH],?_⟩
   refine rn0 e1 ?_
   refine ⟨i+1,_,n7,T7,m7,(on6.step on7).cB,⟨by omega,FS2,by rw[hsn],by rw[hsn];exact hS2⟩,by omega,?_⟩
   refine aU.of (dr ?_) (ep on7.ok (fun G hG=>List.mem_cons_of_mem _ hG)) (fun _ h=>h) (Nat.le_refl _) (Nat.le_refl _)
   exact xSb
  have q4:=decide_eq_false k4
  by_cases k5:c.kind=5
  ·have q5:=decide_eq_true k5
   have hg:=u2 (xv:=fb) (w:=n1) (Y:=Y0 0) hS hI.fit hI.rt c k5 (by omega)
   have e5:stS S c=(br S c.n).1:=by rw[stS,if_neg k4,if_pos k5]
   rw[←e5] at hg
   refine rn0 (cj3 f5 q4 q5) ?_
   refine aa.cM [_] [FS',ob n1 (wO s S fb (Y0 0))] [] (by simp only[go_sem,bx]) xA4 hg ok6 fun r G' n7 T7 m7 ids7 hq7 on7 hids7=>?_
   obtain ⟨rfl,FS2,rfl,hS2⟩:=hq7
   simp only[List.cons_append,List.nil_append,List.append_nil] at on7 ⊢
   refine aa.evR xA1 ?_
   refine aa.nil ⟨by simp[ay,au,apart,aH],?_⟩
   refine rn0 e1 ?_
   refine ⟨i+1,_,n7,T7,m7,(on6.step on7).cB,⟨by omega,FS2,by rw[hsn],by rw[hsn];exact hS2⟩,by omega,?_⟩
   refine aU.of (dr ?_) (ep on7.ok (fun G hG=>List.mem_cons_of_mem _ hG)) (fun _ h=>h) (Nat.le_refl _) (Nat.le_refl _)
   exact xSb
  have q5:=decide_eq_false k5
  have e6:=hst (fun h=>h.elim k4 k5)
  refine rn0 (cj4 f5 q4 q5 e1) ?_
  refine ⟨i+1,_,n5+1,T5,m5,on6.cB,⟨by omega,FS',by rw[hsn,e6],by rw[hsn,e6];exact hS⟩,by omega,?_⟩
  refine aU.of (dr ?_) (ep ok6 (fun G hG=>List.mem_cons_of_mem _ hG)) (fun _ h=>h) (Nat.le_refl _) (Nat.le_refl _)
  exact xSb
 ·obtain rfl:i=l.length:=by omega
  have g1:=ixE (l.length)
  have hkb:cT (bS (l.take l.length)) (bS (l.take l.length)).last=0:=Space.oy.2 ⟨hI.rt.ml,Int.le_refl _⟩
  have hsm:=hI.fit.small (show eV (l.take l.length)≤500000 by rw[List.take_length];omega)
  have hbg:=uC hS hsm.wide (bS (l.take l.length)).last hkb
  have hbr:=y8 (bS (l.take l.length)) hsm.wide (bS (l.take l.length)).last
  rw[List.take_length] at*
  generalize bS l=S at*
  rw[if_pos hkb,hkb] at hbr
  unfold cP y7 at hbr
  have hsn:s<n5:=by obtain ⟨_,_,_,_,_,h,_⟩:=hS.go;exact on5.ok.lt (by simp) h
  have ok:=on5.ok
  refine xL0 (cj4 g1 hil fw @decide_false) (xK hS) ?_
  intro ids
  refine aa.cM [] [FS'] [ob n1 (wO s S fb (Y0 0))] (by simp only[go_sem,bx]) xA4 hbg on5.ok fun r G' n7 T7 m7 ids7 hq7 on7 hids7=>?_
  obtain ⟨x,Fx,rfl,rfl,hFx⟩:=hq7
  simp only[List.cons_append,List.nil_append,List.append_nil] at on7 ⊢
  have hin:n1<n7:=on7.ok.lt (F:=ob n1 (wO s S fb (Y0 0))) (by simp) (j:=n1) (o:=wO s S fb (Y0 0)) (by simp[aW])
  have fw7:lay [Fx,FS',ob n1 (wO s S fb (Y0 0))] n1=some (.cells [.ptr s 0,.sl 2 (S.L.map Space.encI) .any,.int .i64 S.last,.int .i64 S.mark,fb,.int .i64 0,.sl 3 (chs []) .any,.sl 1 (strs []) .any,.sl 2 (sps []) .any,.bool false]):=on7.ok.sub (F:=ob n1 (wO s S fb (Y0 0))) (by simp) n1 (wO s S fb (Y0 0)) (by simp[aW])
  have hw1:(n1=n7)=False:=eq_false (by omega)
  have hw2:(n7=n1)=False:=eq_false (by omega)
  refine aa.evR xA1 ?_
  refine aa.nil ⟨by simp[ay,au,apart,aH],?_⟩
  refine rn1 (cj3 fw7 hw1 hw2) hbr ?_
  refine aa.nil ⟨by simp[ay,au,apart,aH,hw1,hw2],?_⟩
  rw[bm,bu]
  have ok8:=on7.ok.more (.cells [.int .i64 S.last,.sl 3 [] (.exact 0),.sl 1 [] (.exact 0),.sl 2 [] (.exact 0),.bool false])
  have f8:=aK n7 (.cells [.int .i64 S.last,.sl 3 [] (.exact 0),.sl 1 [] (.exact 0),.sl 2 [] (.exact 0),.bool false]) [Fx,FS',ob n1 (wO s S fb (Y0 0))]
  have fw8:lay [ob n7 (.cells [.int .i64 S.last,.sl 3 [] (.exact 0),.sl 1 [] (.exact 0),.sl 2 [] (.exact 0),.bool false]),Fx,FS',ob n1 (wO s S fb (Y0 0))] n1=some (.cells [.ptr s 0,.sl 2 (S.L.map Space.encI) .any,.int .i64 S.last,.int .i64 S.mark,fb,.int .i64 0,.sl 3 (chs []) .any,.sl 1 (strs []) .any,.sl 2 (sps []) .any,.bool false]):=ok8.sub (F:=ob n1 (wO s S fb (Y0 0))) (by simp) n1 (wO s S fb (Y0 0)) (by simp[aW])
  refine rn0 (cj4 f8 fw8 hw1 hw2) ?_
  rw[wQ]
  have e8:=Ok.bu (A:=[_,_,_]) (.cells [.ptr s 0,.sl 2 (S.L.map Space.encI) .any,.int .i64 S.last,.int .i64 S.mark,.ptr x 0,.int .i64 S.last,.sl 3 [] (.exact 0),.sl 1 [] (.exact 0),.sl 2 [] (.exact 0),.bool false]) ok8
  have on8:=On.dv (A:=[_,_,_]) (o':=(.cells [.ptr s 0,.sl 2 (S.L.map Space.encI) .any,.int .i64 S.last,.int .i64 S.mark,.ptr x 0,.int .i64 S.last,.sl 3 [] (.exact 0),.sl 1 [] (.exact 0),.sl 2 [] (.exact 0),.bool false])) ok8
  have on9:=On.dv (A:=[_,_,_]) (o':=wO s S (.ptr x 0) (Y0 S.last)) ok8
  simp only[List.cons_append,List.nil_append] at e8 on8 on9
  rw[e8]
  refine aa.nil ⟨by simp[ay,au,apart,aH,hw1,hw2],?_⟩
  refine de ?_
  have onB:=((((on.step onA).step on5).step on7).step (((On.refl ok8).grown.step on9).cB))
  exact Wp.ret ⟨trivial,_,rfl,_,_,On.iX onB (oA (i:=n1) (o:=(.cells [.ptr s 0,.sl 2 (S.L.map Space.encI) .any,.int .i64 S.last,.int .i64 S.mark,.ptr x 0,.int .i64 S.last,.sl 3 [] (.exact 0),.sl 1 [] (.exact 0),.sl 2 [] (.exact 0),.bool false])) (o':=wO s S (.ptr x 0) (Y0 S.last)) on8.ok (by simp) (af.cons (ab.refl _) (af.cons (ab.refl _) (af.cons (ab.refl _) (af.cons (ab.refl _) (af.cons (ab.refl _) (af.cons (ab.refl _) (af.cons ab.cap (af.cons ab.cap (af.cons ab.cap (af.refl _)))))))))) (fun G hG=>by
   simp only[List.mem_cons,List.not_mem_nil,or_false] at hG
   rcases hG with rfl|rfl|rfl
   ·right;simp
   ·right;simp
   ·left;rfl)) (ab.refl _) ⟨n1,x,s,Fx,FS',rfl,rfl,hFx,hS⟩⟩
end Go.Proofs.YtpehfflehebmbaaGreat.Txn
end
section
set_option maxRecDepth 100000
namespace Go.Proofs.YtpehfflehebmbaaGreat.Txn
open Go Go.Av Go.Proofs Go.Proofs.YtpehfflehebmbaaGreat.C Go.Proofs.YtpehfflehebmbaaGreat.Batch Go.Proofs.YtpehfflehebmbaaGreat.Space
def B5 (a:Ac):Prop:=a.a.length≤reachBytes∧a.b.length≤reachBytes∧a.l.length≤35184372088832∧∀c∈a.l,AG c
theorem wR {k:Nat} {cs:List AV} (h:Fits Tryz.prog (k+4) 29 cs):∃p:Ac,dK Tryz.prog 29 cs=Txn.dm p∧B5 p:=by
 have hw:∀cs,dK Tryz.prog 29 cs= .agg cs:=fun cs=>by
  unfold dK;rw[if_pos (by kernel_rfl)]
 rw[hw]
 unfold Fits at h
 rw[Tryz.underlying29] at h
 obtain ⟨xss,rfl,h⟩:=h
 cases h with|cons h0 h=>cases h with|cons h1 h=>cases h with|cons h2 h=>cases h with|cons h3 h=>cases h with|cons h4 h=>
 cases h
 unfold Fits at h0 h1 h2 h3
 simp only at h0 h1 h2 h3 h4
 rw[Tryz.underlying3] at h0 h1
 rw[Tryz.underlying9] at h2 h3
 obtain ⟨n,rfl,hn⟩:=h0
 obtain ⟨v,rfl,hv⟩:=h1
 obtain ⟨a,rfl,ha⟩:=h2
 obtain ⟨b,rfl,hb⟩:=h3
 obtain ⟨l,-,rfl,h5,h6⟩:=ly h4
 exact ⟨⟨n,v,a,b,l⟩,rfl,ha,hb,h5,h6⟩
theorem oB {a:AV} (h:lr Tryz.prog 5 22 a):∃l:List Ac,a= .sl 5 (l.map Txn.dm) .any∧l.length≤35184372088832∧∀p∈l,B5 p:=by
 obtain ⟨cs,h,rfl⟩:=h
 unfold Fits at h
 rw[Tryz.underlying22] at h
 obtain ⟨xs,rfl,hlx,hx⟩:=h
 obtain ⟨l,rfl,hl⟩:=ou (fun cs h=>wR h) hx
 have c1:Tryz.prog.cellsOf 29=5:=by kernel_rfl
 have c2:Tryz.prog.bytesOf 29=72:=by kernel_rfl
 rw[List.length_map,c2] at hlx
 refine ⟨l,?_,uV (by decide) hlx,hl⟩
 unfold dK;rw[if_neg (by rw[show bW Tryz.prog 22=false by kernel_rfl];simp),c1];rfl
end Go.Proofs.YtpehfflehebmbaaGreat.Txn
end
section
set_option maxRecDepth 10000
namespace Go.Proofs.YtpehfflehebmbaaGreat.Txn
open Go Go.Av Go.Proofs Go.Proofs.YtpehfflehebmbaaGreat.C Go.Proofs.YtpehfflehebmbaaGreat.Batch Go.Proofs.YtpehfflehebmbaaGreat.Space Go.Proofs.YtpehfflehebmbaaGreat.Reads
def stW (p:Ac→Bool) (w:Spc × Tx) (c:Ac):Spc × Tx:=if p c=true then (stS w.1 c,stY w.1 w.2 c) else w
def jc (p:Ac→Bool) (w:Spc × Tx) (l:List Ac):Spc × Tx:=l.foldl (stW p) w
theorem mg (p:Ac→Bool) (w:Spc × Tx) {l:List Ac} {j:Nat} (h:j<l.length):jc p w (l.take (j+1))=stW p (jc p w (l.take j)) (l.getD j default):=by
 rw[Av.bJ default h,jc,List.foldl_append];rfl
def LsA (l:List Ac):Prop:=∀c∈l,∀x∈c.l,Ls x.k
theorem za {l:List Ac} (h:∀c∈l,B5 c):LsA l:=fun c hc x hx=>by
 have:=((h c hc).2.2.2 x hx).1
 have e:reachBytes=140737488351232:=rfl
 unfold Ls;omega
theorem u5 (l:List Ac) (j:Nat):eV (l.take j)≤eV l:=by
 rcases Nat.le_total j l.length with h|h
 ·have:=mc l h;rwa [List.take_length] at this
 ·rw[List.take_of_length_le h];exact Nat.le_refl _
theorem oC (p:Ac→Bool) {k:Nat} {w:Spc × Tx} (h:Inv k w.1 w.2) {l:List Ac} (hf:yX l) (hl:LsA l):∀j,j≤l.length→Inv (k+eV (l.take j)) (jc p w (l.take j)).1 (jc p w (l.take j)).2
 |0,_=>by simpa [jc,eV] using h
 |j+1,hj=>by
  have ih:=oC p h hf hl j (by omega)
  have hm:l.getD j default∈l:=by rw[Av.ar hj];exact List.getElem_mem _
  have ha:=hf.a _ hm
  have hb:=hf.b _ hm
  rw[mg p w hj,iw hj]
  unfold stW
  split
  ·exact (ih.step _ (by omega) (by omega) (hl _ hm)).mono (by omega)
  ·exact ih.mono (by omega)
structure Live (w:Spc × Tx):Prop where
 e:w.2.ended=false
 m:w.1.mark≤w.2.t
 d:DV w.2.C
theorem Live.run (p:Ac→Bool) (hp:∀c,p c=true→c.kind≠5∧c.kind≠6) {w:Spc × Tx} (h:Live w) {l:List Ac}:∀j,j≤l.length→Live (jc p w (l.take j))
 |0,_=>by simpa [jc] using h
 |j+1,hj=>by
  have ih:=Live.run p hp h (l:=l) j (by omega)
  rw[mg p w hj]
  unfold stW
  split
  ·rename_i hc
   obtain ⟨h5,h6⟩:=hp _ hc
   exact ⟨by rw[wP _ _ _ h6];exact ih.e,by rw[C5,y9 _ _ h5];exact ih.m,ih.d.step _⟩
  ·exact ih
theorem live0 {S:Spc} (h:S.mark≤S.last):Live (S,Y0 S.last):=⟨rfl,h,fun c hc=>by simp[Y0] at hc⟩
end Go.Proofs.YtpehfflehebmbaaGreat.Txn
end
section
set_option maxRecDepth 10000
namespace Go.Proofs.YtpehfflehebmbaaGreat.Reads
open Go Go.Av Go.Proofs Go.Proofs.YtpehfflehebmbaaGreat.C Go.Proofs.YtpehfflehebmbaaGreat.Batch
theorem sJ (k:List Bs) (l:List Sp) (hk:k.length≤1000000) (hl:l.length≤1000000):aA Tryz.prog 23 [bT k l,bT k l] (.bool true):=by
 refine f23.aD (by simp) (by simp[al,cJ,av]) rfl ?_
 unfold c23
 simp only[C.zz]
 refine Wp.aw (by simp only[go_sem,reduceIte,Nat.reduceEqDiff,Nat.reduceAdd,bx,bT];exact rfl) (by trivial) ?_
 refine Wp.frz (fun j=>true) [(2,.ref [.sl 1 (strs k) .any,.sl 2 (sps l) .any]),(3,.ref [.sl 1 (strs k) .any,.sl 2 (sps l) .any])] ⟨ag,2,[],0⟩ ?_ (OLe.none _) (by simp) (by simp[go_sem]) (Nat.le_refl _) ?_
 ·simp only[aC,go_sem,reduceIte,Nat.reduceEqDiff,unT,and_true,beq_self_eq_true,Nat.reduceBEq,Bool.false_eq_true]
  and_intros<;>exact ab.refl _
 have z1:decide ((k.length:Int)=(k.length:Int))=true:=decide_eq_true rfl
 have z2:decide ((l.length:Int)=(l.length:Int))=true:=decide_eq_true rfl
 refine an0 (cj4 @ao @az z1 z2) ?_
 refine Wp.cZ [2,3] xA6 (fun j:Nat=>[(5,.int .i64 j)]) (fun j=>j≤k.length) (fun j=>k.length - j) 0 (Nat.zero_le _) ?_ ?_
 ·exact xSb
 ·intro j hj
  by_cases hc:j<k.length
  ·have g1:decide ((j:Int)<(k.length:Int))=true:=decide_eq_true (by omega)
   have q1:(0:Int)≤(j:Int):=by omega
   have q2:(j:Int)<(k.length:Int):=by omega
   have e1:IntKind.i64.wrap ((j:Int)+1)=((j+1:Nat):Int):=by rw[IntWalk.i64_in _ (by omega)];omega
   have z3:decide (k.getD j []=k.getD j [])=true:=decide_eq_true rfl
   refine an0 (cj8 g1 q1 q2 e1 z3 @ao @Int.toNat_natCast (fun d=>aV _ _ d hc)) ?_
   refine ⟨j+1,by omega,by omega,?_⟩
   exact xSu
  ·obtain rfl:j=k.length:=by omega
   have g1:decide ((k.length:Int)<(k.length:Int))=false:=decide_eq_false (by omega)
   refine an0 (cj2 g1 @ao) ?_
   refine Wp.cZ [2,3] xA6 (fun j:Nat=>[(6,.int .i64 j)]) (fun j=>j≤l.length) (fun j=>l.length - j) 0 (Nat.zero_le _) ?_ ?_
   ·exact xSb
   ·intro j hj
    by_cases hc:j<l.length
    ·have g1:decide ((j:Int)<(l.length:Int))=true:=decide_eq_true (by omega)
     have q1:(0:Int)≤(j:Int):=by omega
     have q2:(j:Int)<(l.length:Int):=by omega
     have e1:IntKind.i64.wrap ((j:Int)+1)=((j+1:Nat):Int):=by rw[IntWalk.i64_in _ (by omega)];omega
     refine an0 (fR g1 q1 q2 e1 @az @Int.toNat_natCast (fun d=>bt _ _ d hc) @aX.eq_1 @beq_self_eq_true.{0} @Bool.and_self) ?_
     refine ⟨j+1,by omega,by omega,?_⟩
     exact xSu
    ·obtain rfl:j=l.length:=by omega
     have g1:decide ((l.length:Int)<(l.length:Int))=false:=decide_eq_false (by omega)
     refine an0 (cj2 g1 @az) ?_
     refine aJ ?_
     exact ab.refl _
end Go.Proofs.YtpehfflehebmbaaGreat.Reads
end
section
set_option maxRecDepth 10000
namespace Go.Proofs.YtpehfflehebmbaaGreat.Txn
open Go Go.Av Go.Proofs Go.Proofs.YtpehfflehebmbaaGreat.C Go.Proofs.YtpehfflehebmbaaGreat.Batch Go.Proofs.YtpehfflehebmbaaGreat.Space Go.Proofs.YtpehfflehebmbaaGreat.Reads
theorem lay3w {F FS:Fr} {s w n m:Nat} {S:Spc} {xv:AV} {Y:Tx} {T:List Nat} (ok:Ok [F,FS,ob w (wO s S xv Y)] n T m):lay [F,FS,ob w (wO s S xv Y)] w=some (.cells [.ptr s 0,.sl 2 (S.L.map Space.encI) .any,.int .i64 S.last,.int .i64 S.mark,xv,.int .i64 Y.t,.sl 3 (chs Y.C) .any,.sl 1 (strs Y.rk) .any,.sl 2 (sps Y.rs) .any,.bool Y.ended]):=
 ok.sub (F:=ob w (wO s S xv Y)) (by simp) w (wO s S xv Y) (by simp[aW])
theorem Inv.kL {k:Nat} {S:Spc} {Y:Tx} (h:Inv k S Y):∀p∈S.L,p.1.length≤1000000:=fun p hp=>by have:=(h.rt.it p hp).1;omega
theorem Inv.kCl {k:Nat} {S:Spc} {Y:Tx} (h:Inv k S Y):∀c∈Y.C,c.k.length≤1000000:=fun c hc=>by have:=jE (h.kC c hc);omega
abbrev vS:Spc:=⟨[([97],[⟨5,[49],false⟩])],5,0⟩
abbrev vT:Spc:=⟨[([97],[⟨5,[49],false⟩]),([99],[⟨6,[51],false⟩])],6,0⟩
abbrev vY:Tx:=⟨5,[⟨[98],[50],false⟩],[],[],false⟩
abbrev vZ:Tx:=⟨5,[⟨[98],[50],false⟩],[],[⟨[],[]⟩],false⟩
abbrev vW:List Pr:=[⟨[97],[49]⟩,⟨[98],[50]⟩]
theorem vi0:bb ([]:List It):=by simp[bb,Space.bL,ae]
theorem vi1:bb vS.L:=by simp[bb,Space.bL,ae]
theorem vi2:bb vT.L:=by simp[bb,Space.bL,ae,Op.bytesLess]
theorem B6:Small vS:=⟨by simp,fun q=>by simp only[aY];split<;>simp⟩
theorem B7:Small vT:=⟨by simp,fun q=>by simp only[aY];split<;>(try simp)<;>(try (split<;>simp))⟩
theorem vrC:Space.bL (ak vY.C):=by simp[ak,Space.bL]
set_option maxHeartbeats 4000000 in
theorem zb:aA Tryz.prog 8 [] (.bool true):=by
 refine f8.aD (by simp) (by simp[al]) rfl ?_
 unfold c8
 simp only[C.zz]
 try dsimp only
 have a1:bM ⟨[],0,0⟩ 5 [⟨[97],[49],false⟩]=(vS,0):=by kernel_rfl
 have a2:bM vS 6 [⟨[99],[51],false⟩]=(vT,0):=by kernel_rfl
 have p1:eF ⟨5,[],[],[],false⟩ ⟨[98],[50],false⟩=(vY,0):=by kernel_rfl
 have s1:dC vS vY [] [] (-1)=(vZ,vW,0):=by kernel_rfl
 have s2:dC vT vZ [] [] (-1)=(vZ,vW,0):=by kernel_rfl
 have q1:gG vT vZ [98]=(vZ,[50],0):=by kernel_rfl
 have u1:lZ vT vZ=true:=by kernel_rfl
 have y0:decide ((0:Int)=0)=true:=rfl
 have y5:decide ((5:Int)=5)=true:=rfl
 have yb:decide (([50]:Bs)=[50])=true:=rfl
 have hw:=r9 vW vW (by simp)
 rw[decide_eq_true rfl] at hw
 have hr:=sJ [] [⟨[],[]⟩] (by simp) (by simp)
 refine rn0 y0 ?_
 show aa _ _ _ _ ⟨lay [],0,[],0⟩ _ _
 refine aa.eX xA2 xA3 (Be) (Ok.nil) fun r1 G1 n1 T1 m1 ids1 hq1 on1=>?_
 obtain ⟨s,F1,rfl,rfl,h1⟩:=hq1
 refine aa.evR xA1 ?_
 refine aa.nil ⟨by simp[ay,au,apart,aH],?_⟩
 have g1:=ql h1 vi0 5 [⟨[97],[49],false⟩] (by simp) ⟨by simp,fun q=>by simp[aY]⟩
 rw[a1] at g1
 refine rn0 y0 ?_
 refine aa.cM [] [F1] [] xA8 (by simp only[go_sem,reduceIte,Nat.reduceEqDiff,List.map];exact af.cons (ab.refl _) (af.cons (ab.refl _) (af.cons ab.cap af.nil))) g1 on1.ok fun r G' n2 T2 m2 ids2 hq2 on2 hids2=>?_
 obtain ⟨rfl,F2,rfl,h2⟩:=hq2
 simp only[List.nil_append,List.cons_append] at on2 ⊢
 refine aa.evR (by simp only[go_sem,reduceIte,Nat.reduceEqDiff,Nat.reduceAdd,bx,y0];exact rfl) ?_
 refine aa.nil ⟨by simp[ay,au,apart,aH],?_⟩
 have g2:=uC h2 B6.wide 5 (by kernel_rfl)
 refine rn0 y0 ?_
 refine aa.cM [] [F2] [] xA8 xA4 g2 on2.ok fun r G' n3 T3 m3 ids3 hq3 on3 hids3=>?_
 obtain ⟨x,F3,rfl,rfl,h3⟩:=hq3
 simp only[List.nil_append,List.cons_append] at on3 ⊢
 refine aa.evR (by simp only[go_sem,reduceIte,Nat.reduceEqDiff,Nat.reduceAdd,bx,y0];exact rfl) ?_
 refine aa.nil ⟨by simp[ay,au,apart,aH],?_⟩
 have g3:=Bi h3 (by simp[ak,Space.bL]) (by simp) [98] [50]
 rw[p1] at g3
 refine rn0 y0 ?_
 refine aa.cM [] [F3] [F2] xA8 xA4 g3 on3.ok fun r G' n4 T4 m4 ids4 hq4 on4 hids4=>?_
 obtain ⟨rfl,F4,rfl,h4⟩:=hq4
 simp only[List.nil_append,List.cons_append] at on4 ⊢
 refine aa.evR (by simp only[go_sem,reduceIte,Nat.reduceEqDiff,Nat.reduceAdd,bx,y0];exact rfl) ?_
 refine aa.nil ⟨by simp[ay,au,apart,aH],?_⟩
 have g4:=qE h4 h2 vi1 B6 (by simp) vrC (by simp) (by simp) [] [] (-1)
 rw[s1] at g4
 refine rn0 y0 ?_
 refine aa.cM [] [F4,F2] [] xA8 xA4 g4 on4.ok fun r G' n5 T5 m5 ids5 hq5 on5 hids5=>?_
 obtain ⟨rfl,F5,rfl,h5⟩:=hq5
 simp only[List.nil_append,List.cons_append] at on5 ⊢
 refine aa.evR (by simp only[go_sem,reduceIte,Nat.reduceEqDiff,Nat.reduceAdd,bx,y0];exact rfl) ?_
 refine aa.nil ⟨by simp[ay,au,apart,aH],?_⟩
 have g5:=ql h2 vi1 6 [⟨[99],[51],false⟩] (by simp) ⟨by simp,fun q=>by have:=B6.2 q;show (aY vS.L q).length+1≤4398046511103;omega⟩
 rw[a2] at g5
 refine rn0 y0 ?_
 refine aa.cM [F5] [F2] [] xA8 (by simp only[go_sem,reduceIte,Nat.reduceEqDiff,List.map];exact af.cons (ab.refl _) (af.cons (ab.refl _) (af.cons ab.cap af.nil))) g5 on5.ok fun r G' n6 T6 m6 ids6 hq6 on6 hids6=>?_
 obtain ⟨rfl,F6,rfl,h6⟩:=hq6
 simp only[List.nil_append,List.cons_append] at on6 ⊢
 refine aa.evR (by simp only[go_sem,reduceIte,Nat.reduceEqDiff,Nat.reduceAdd,bx,y0];exact rfl) ?_
 refine aa.nil ⟨by simp[ay,au,apart,aH],?_⟩
 have g6:=qE h5 h6 vi2 B7 (by simp) vrC (by simp) (by simp) [] [] (-1)
 rw[s2] at g6
 refine rn0 y0 ?_
 refine aa.cM [] [F5,F6] [] xA8 xA4 g6 on6.ok fun r G' n7 T7 m7 ids7 hq7 on7 hids7=>?_
 obtain ⟨rfl,F7,rfl,h7⟩:=hq7
 simp only[List.nil_append,List.cons_append] at on7 ⊢
 refine aa.evR (by simp only[go_sem,reduceIte,Nat.reduceEqDiff,Nat.reduceAdd,bx,y0];exact rfl) ?_
 refine aa.nil ⟨by simp[ay,au,apart,aH],?_⟩
 have g7:=Bj h7 h6 B7.wide [98]
 rw[q1] at g7
 refine rn0 y0 ?_
 refine aa.cM [] [F7,F6] [] xA8 xA4 g7 on7.ok fun r G' n8 T8 m8 ids8 hq8 on8 hids8=>?_
 obtain ⟨rfl,F8,rfl,h8⟩:=hq8
 simp only[List.nil_append,List.cons_append] at on8 ⊢
 refine aa.evR (by simp only[go_sem,reduceIte,Nat.reduceEqDiff,Nat.reduceAdd,bx,y0];exact rfl) ?_
 refine aa.nil ⟨by simp[ay,au,apart,aH],?_⟩
 refine rn1 (cj2 y0 @decide_true) hw ?_
 have g8:=su h8 h6 vi2 B7.wide (by simp) (by simp) (by simp)
 rw[u1] at g8
 refine aa.cM [] [F8,F6] [] xA8 xA4 g8 on8.ok fun r G' n9 T9 m9 ids9 hq9 on9 hids9=>?_
 obtain ⟨rfl,rfl⟩:=hq9
 simp only[List.nil_append,List.cons_append] at on9 ⊢
 refine aa.evR (by simp only[go_sem,reduceIte,Nat.reduceEqDiff,Nat.reduceAdd,bx,y0,yb,decide_true,if_true];exact rfl) ?_
 refine aa.iM ([]) ([F6]) xA2 xA3 (uS h8 (by simp) (by simp)) (h8.k) (on9.ok) fun na ma idsa hna hma hidsa oka=>?_
 simp only[List.nil_append,List.cons_append] at oka ⊢
 have ok:=oka
 refine aa.evR (by simp only[go_sem,reduceIte,Nat.reduceEqDiff,Nat.reduceAdd,bx,y0,decide_true,List.length_cons,List.length_nil,Nat.zero_add,Nat.one_mul,Nat.reduceMul,Nat.reduceLeDiff,and_self,if_true];exact rfl) ?_
 repeat (first
  |((first|apply Wp.cf|apply Wp.dU|((first
    |(refine aa.bF ?_ ?_ (hr) ?_;(· simp only[go_sem,reduceIte,Nat.reduceEqDiff,Nat.reduceAdd,bx]);(· simp only[go_sem,reduceIte,Nat.reduceEqDiff,Nat.reduceAdd,bx,List.map];exact af.cons (ab.refl _) (af.cons (ab.agg (af.cons ab.cap (af.cons ab.cap af.nil))) af.nil)))
    |(refine aa.pa ?_ ?_ (xO h8) (by first|exact fun j o h=>h|exact ok.sub (by simp)|assumption) (fun ids=>?_);(· simp only[go_sem,reduceIte,Nat.reduceEqDiff,Nat.reduceAdd,bx]);(· simp only[go_sem,reduceIte,Nat.reduceEqDiff,Nat.reduceAdd,bx,List.map];first|exact af.refl _|(repeat (first|exact af.nil|refine af.cons xA5 ?_)))));apply aa.evR));(· simp only[go_sem,reduceIte,Nat.reduceEqDiff,Nat.reduceAdd,bx,ax,if_true,if_false,Nat.reduceMul,Nat.reduceLeDiff,y0,y5,decide_true,strs,sps];exact rfl))
  |(refine aa.nil ⟨?_,?_⟩;(· first|trivial|simp[ay,au,apart,aH]))
  |(apply Wp.bq;(· simp only[go_sem,reduceIte,Nat.reduceEqDiff,Nat.reduceAdd,bx,ax,if_true,if_false,Nat.reduceMul,Nat.reduceLeDiff,y0,y5,decide_true,strs,sps];exact rfl);(· rfl))
  |refine Wp.skip ?_
  |refine Wp.label ?_
  |refine Wp.block ?_
  |refine Wp.exit ?_
  |refine Wp.seq ?_)
 refine aJ ?_
 exact ab.refl _
def serP (c:Ac):Bool:=decide (c.kind≠6)&&decide (c.kind≠5)
theorem serP_no (c:Ac) (h:serP c=true):c.kind≠5∧c.kind≠6:=by
 simp only[serP,Bool.and_eq_true,decide_eq_true_eq] at h
 exact ⟨h.2,h.1⟩
def aS (S:Spc) (c:List (List Ch)):Spc:=c.foldl (fun S l=>(bM S (S.last+1) l).1) S
def cntB (c:List (List Ch)):Nat:=(c.map List.length).sum
theorem aS_snoc (S:Spc) {c:List (List Ch)} {j:Nat} (h:j<c.length):aS S (c.take (j+1))=(bM (aS S (c.take j)) ((aS S (c.take j)).last+1) (c.getD j default)).1:=by
 rw[Av.bJ default h,aS,List.foldl_append];rfl
theorem cntB_snoc {c:List (List Ch)} {j:Nat} (h:j<c.length):cntB (c.take (j+1))=cntB (c.take j)+(c.getD j default).length:=by
 rw[Av.bJ default h,cntB,cntB,List.map_append,List.sum_append];simp
theorem cntB_le (c:List (List Ch)) (j:Nat):cntB (c.take j)≤cntB c:=by
 have e:c=c.take j++c.drop j:=(List.take_append_drop _ _).symm
 conv=>rhs;rw[e,cntB,List.map_append,List.sum_append]
 rw[cntB];omega
structure Behind (S S':Spc) (t:Int) (k:Nat):Prop where
 f:Fit S' k
 r:Rt S'
 l:S.last≤S'.last
 m:S'.mark=S.mark
 t:Space.Told S S' t
theorem behind {S:Spc} {k:Nat} (hF:Fit S k) (hR:Rt S) {t:Int} (ht:t≤S.last) {c:List (List Ch)} (hl:∀b∈c,∀x∈b,Ls x.k):∀j,j≤c.length→Behind S (aS S (c.take j)) t (k+cntB (c.take j))
 |0,_=>⟨by simpa [aS,cntB] using hF,by simpa [aS] using hR,by simp[aS],by simp[aS],fun q=>by simp[aS]⟩
 |j+1,hj=>by
  have ih:=behind hF hR ht hl j (by omega)
  have hm:c.getD j default∈c:=by rw[Av.ar hj];exact List.getElem_mem _
  have hla:=tS (aS S (c.take j)) ((aS S (c.take j)).last+1) (c.getD j default)
  rw[aS_snoc S hj,cntB_snoc hj]
  refine ⟨?_,ih.r.apply ih.f _ _,Int.le_trans ih.l hla,by rw[tV,ih.m],fun q=>?_⟩
  ·have:=ih.f.apply ((aS S (c.take j)).last+1) (c.getD j default) (hl _ hm)
   rwa [Nat.add_assoc] at this
  ·rw[told_apply ih.f ih.r (T:=(aS S (c.take j)).last+1) (Int.le_trans ht ih.l) (c.getD j default) q];exact ih.t q
theorem bulk_chs:∀l:List Ch,3*l.length≤cv (chs l)
 |[]=>by simp[chs,cv]
 |c::l=>by
  have:=bulk_chs l
  simp only[chs,List.map_cons,cv,aL,lp,List.length_cons] at this ⊢
  omega
theorem bulk_bs:∀c:List (List Ch),3*cntB c≤cv (c.map Space.encB)
 |[]=>by simp[cntB]
 |b::c=>by
  have h1:=bulk_bs c
  have h2:=bulk_chs b
  simp only[cntB,List.map_cons,List.sum_cons,cv,Space.encB,lp] at h1 h2 ⊢
  omega
theorem encB_pure (l:List (List Ch)):al (l.map Space.encB)=true:=Av.cS (fun b=>by simp[Space.encB,av,aG,dw]) l
set_option maxHeartbeats 8000000 in
theorem tstill_p (l more:List Ac) (cs:List (List Ch)) (fr to:Bs) (hl:l.length≤35184372088832) (hv:∀a∈l,a.l.length≤35184372088832) (hl2:more.length≤35184372088832) (hv2:∀a∈more,a.l.length≤35184372088832) (ls1:LsA l) (ls2:LsA more) (hcl:cs.length≤35184372088832) (hct:cntB cs≤349526) (hcs:∀b∈cs,∀x∈b,Ls x.k):
  aA Tryz.prog 4 [.sl 5 (l.map Txn.dm) .any,.sl 5 (more.map Txn.dm) .any,.sl 1 (cs.map Space.encB) .any,.str fr,.str to] (.bool true):=by
 refine f4.aD (by simp) (by simp[al,av,aG,sH,encB_pure]) rfl ?_
 unfold c4
 simp only[C.zz]
 have hil:(l.map Txn.dm).length=l.length:=by simp
 have hil2:(more.map Txn.dm).length=more.length:=by simp
 have hL:=zb
 have f1:=yW l hl hv
 have f2:=yW more hl2 hv2
 cases hq1:tR l with
 |false=>
  rw[hq1] at f1
  refine rn2 hil f1 hL ?_
  refine aJ ?_
  exact ab.refl _
 |true=>
 rw[hq1] at f1
 cases hq2:tR more with
 |false=>
  rw[hq2] at f2
  refine rn3 hil f1 f2 hL ?_
  refine aJ ?_
  exact ab.refl _
 |true=>
 rw[hq2] at f2
 have hil3:(cs.map Space.encB).length=cs.length:=by simp
 by_cases hc0:(20:Int)<(cs.length:Int)
 ·have d0:=decide_eq_true hc0
  refine rn3 (cj2 hil3 d0) f1 f2 hL ?_
  refine aJ ?_
  exact ab.refl _
 have d0:=decide_eq_false hc0
 by_cases hc1:(1000:Int)<(fr.length:Int)
 ·have d1:=decide_eq_true hc1
  refine rn3 (cj3 hil3 d0 d1) f1 f2 hL ?_
  refine aJ ?_
  exact ab.refl _
 have d1:=decide_eq_false hc1
 by_cases hc2:(1000:Int)<(to.length:Int)
 ·have d2:=decide_eq_true hc2
  refine rn3 (cj4 hil3 d0 d1 d2) f1 f2 hL ?_
  refine aJ ?_
  exact ab.refl _
 have d2:=decide_eq_false hc2
 have w1:=u3 hq1
 have w2:=u3 hq2
 have hn1:=w1.n
 have hn2:=w2.n
 have hb:=AX l w1 ls1
 have hbi:=tW ls1 l.length (Nat.le_refl _)
 rw[List.take_length] at hbi
 generalize bS l=S0 at*
 have hb0:Inv (eV l) (S0,Y0 S0.last).1 (S0,Y0 S0.last).2:=hbi.begin
 have hlv0:Live (S0,Y0 S0.last):=live0 hbi.rt.ml
 refine rn2 (cj4 hil3 d0 d1 d2) f1 f2 ?_
 show aa _ _ _ _ ⟨lay [],0,[],0⟩ _ _
 refine aa.eX xA2 xA3 (hb) (Ok.nil) fun r1 G1 n1 T1 m1 ids1 hq1 on1=>?_
 obtain ⟨w,x,s,F0,FS0,rfl,rfl,hF0,hS0⟩:=hq1
 refine aa.evR xA1 ?_
 refine de ?_
 refine Wp.gU (β:=Nat) [0,1,2,3,4,11] xA7 (fun j=>[(12,.int .i64 (j:Nat))]) (fun j L=>j≤more.length∧∃F FS,L=[F,FS,ob w (wO s (jc serP (S0,Y0 S0.last) (more.take j)).1 (.ptr x 0) (jc serP (S0,Y0 S0.last) (more.take j)).2)]∧TxF x s (jc serP (S0,Y0 S0.last) (more.take j)).2 F∧cU s (jc serP (S0,Y0 S0.last) (more.take j)).1 FS) (fun j=>more.length - j) 0 ⟨Nat.zero_le _,F0,FS0,by simp[jc],by simpa [jc] using hF0,by simpa [jc] using hS0⟩ on1.ok xA9 ?_
 rintro j L n5 T5 m5 on5 ⟨hj,F,FS,rfl,hF,hS⟩
 have hI:=oC serP hb0 w2 ls2 j hj
 have hcm:=u5 more j
 by_cases hi2:j<more.length
 ·obtain ⟨g1,h2,h3,e1⟩:=ixF (j:=j) (n:=more.length) (by omega) (by omega)
  have hat:=cR Txn.dm more j .any hi2
  have hI2:=oC serP hb0 w2 ls2 (j+1) hi2
  have hcm2:=u5 more (j+1)
  have hsn:=mg serP (S0,Y0 S0.last) hi2
  have hm:more.getD j default∈more:=by rw[Av.ar hi2];exact List.getElem_mem _
  have hxa:=w2.a _ hm
  have hxb:=w2.b _ hm
  have hxl:=ls2 _ hm
  have hcnt:=iw hi2
  generalize hW2:jc serP (S0,Y0 S0.last) (more.take (j+1))=W2 at*
  generalize jc serP (S0,Y0 S0.last) (more.take j)=W1 at*
  obtain ⟨S,Y⟩:=W1
  obtain ⟨S',Y'⟩:=W2
  generalize more.getD j default=c at*
  rw[stW] at hsn
  have no:serP c=false→(S',Y')=(S,Y):=fun h=>by rw[hsn,if_neg (by rw[h];simp)]
  have yes:serP c=true→S'=stS S c∧Y'=stY S Y c:=fun h=>by rw[if_pos h] at hsn;exact ⟨congrArg Prod.fst hsn,congrArg Prod.snd hsn⟩
  simp only at hI hI2 hF hS on5 ⊢
  by_cases k6:c.kind=6
  ·have q6:=decide_eq_true k6
   have e:=no (by rw[serP,decide_eq_false (show ¬c.kind≠6 by simpa using k6),Bool.false_and])
   simp only[Prod.mk.injEq] at e
   refine rn0 (cj8 g1 h2 h3 hil2 hat @Txn.dm.eq_1 q6 e1) ?_
   refine ⟨j+1,_,n5,T5,m5,On.refl on5.ok,⟨by omega,F,FS,by rw[hW2,e.1,e.2],by rw[hW2,e.2];exact hF,by rw[hW2,e.1];exact hS⟩,by omega,?_⟩
   refine aU.of (dr ?_) (fun j o h=>⟨o,h,cq.refl _⟩) (fun _ h=>h) (Nat.le_refl _) (Nat.le_refl _)
   exact xSb
  have q6:=decide_eq_false k6
  by_cases k5:c.kind=5
  ·have q5:=decide_eq_true k5
   have e:=no (by rw[serP,decide_eq_true (show c.kind≠6 from k6),decide_eq_false (show ¬c.kind≠5 by simpa using k5)];rfl)
   simp only[Prod.mk.injEq] at e
   refine rn0 (cj9 g1 h2 h3 hil2 hat @Txn.dm.eq_1 q6 q5 e1) ?_
   refine ⟨j+1,_,n5,T5,m5,On.refl on5.ok,⟨by omega,F,FS,by rw[hW2,e.1,e.2],by rw[hW2,e.2];exact hF,by rw[hW2,e.1];exact hS⟩,by omega,?_⟩
   refine aU.of (dr ?_) (fun j o h=>⟨o,h,cq.refl _⟩) (fun _ h=>h) (Nat.le_refl _) (Nat.le_refl _)
   exact xSb
  have q5:=decide_eq_false k5
  have e:=yes (by rw[serP,decide_eq_true (show c.kind≠6 from k6),decide_eq_true (show c.kind≠5 from k5)];rfl)
  refine rn0 (cj8 g1 h2 h3 hil2 hat @Txn.dm.eq_1 q6 q5) ?_
  refine wN [] xA8 xA4 hF hS hI (by omega) hxa hxb hxl on5.ok fun F' FS' n7 T7 m7 ids7 tk7 hF' hS' on7=>?_
  simp only[←e.1,←e.2,List.nil_append] at hF' hS' on7 ⊢
  refine aa.evR xA1 ?_
  refine rn0 e1 ?_
  refine ⟨j+1,_,n7,T7,m7,on7,⟨by omega,F',FS',by rw[hW2],by rw[hW2];exact hF',by rw[hW2];exact hS'⟩,by omega,?_⟩
  refine aU.of (dr ?_) (fun j o h=>⟨o,h,cq.refl _⟩) (fun _ h=>h) (Nat.le_refl _) (Nat.le_refl _)
  exact xSb
 ·obtain rfl:j=more.length:=by omega
  have g1:=ixE (more.length)
  have hlv:=hlv0.run serP serP_no (l:=more) more.length (Nat.le_refl _)
  rw[List.take_length] at*
  generalize jc serP (S0,Y0 S0.last) more=W1 at*
  obtain ⟨S,Y⟩:=W1
  simp only at hI hF hS on5 ⊢
  obtain ⟨lv1,lv2,lv3⟩:=hlv
  simp only at lv1 lv2 lv3
  have fw:=lay3w on5.ok
  have hW:=hI.fit.small (show _≤500000 by omega)
  have hlC:=hI.lC
  have gs:=qE hF hS hI.fit.ri hW hI.kL hI.rC hI.lC hI.kCl fr to (-1)
  have hB:=behind hI.fit hI.rt hI.tl hcs
  have hst:=fun j hj=>still_scan (a:=fr) (b:=to) hI.fit.ri (hB j hj).f.ri hI.tl (hB j hj).l (hB j hj).m hI.ck (hB j hj).t
  have hIR:=hI.scan fr to (-1) (by omega) (by omega)
  have hsl:=wL hI hW fr to (-1)
  have kcl:∀c∈(dC S Y fr to (-1)).1.C,c.k.length≤1000000:=fun c hc=>by have:=jE (hIR.kC c hc);omega
  refine rn0 (cj4 g1 hil2 @decide_false fw) ?_
  refine aa.cM [] [F,FS] [ob w (wO s S (.ptr x 0) Y)] xA8 xA4 gs on5.ok fun r G' n6 T6 m6 ids6 hq6 on6 hids6=>?_
  obtain ⟨rfl,F1,rfl,hF1⟩:=hq6
  simp only[List.nil_append,List.cons_append] at on6 ⊢
  generalize dC S Y fr to (-1)=R at*
  refine aa.evR xA1 ?_
  refine aa.nil ⟨by simp[ay,au,apart,aH],?_⟩
  refine rn0 hil3 ?_
  refine Wp.gU (β:=Nat) [2,3,4,11,13,14] xA7 (fun i=>[(15,.int .i64 (i:Nat))]) (fun i L=>i≤cs.length∧∃FS,L=[F1,FS,ob w (wO s S (.ptr x 0) Y)]∧cU s (aS S (cs.take i)) FS) (fun i=>cs.length - i) 0 ⟨Nat.zero_le _,FS,rfl,by simpa [aS] using hS⟩ on6.ok xA9 ?_
  rintro i L n7 T7 m7 on7 ⟨hi,FS2,rfl,hS2⟩
  have fw7:=lay3w on7.ok
  have hBi:=hB i hi
  have hci:=cntB_le cs i
  by_cases hi3:i<cs.length
  ·obtain ⟨g1,h2,h3,e1⟩:=ixF (j:=i) (n:=cs.length) (by omega) (by omega)
   have hat:=cR Space.encB cs i .any hi3
   have hsn:=aS_snoc S hi3
   have hcn:=cntB_snoc hi3
   have hcj:=cntB_le cs (i+1)
   have hmx:=hBi.r.mx
   have hmn:=hBi.r.mn
   have hml:=hBi.r.ml
   generalize cs.getD i default=b at*
   generalize hS3:aS S (cs.take i)=S2 at*
   have w3:IntKind.i64.wrap (S2.last+1)=S2.last+1:=IntWalk.i64_in _ (by omega)
   have ga:=ql hS2 hBi.f.ri (S2.last+1) b (by omega) (hBi.f.room (by omega))
   rw[←hsn] at ga
   have ok:=on7.ok
   refine xL0 (cj9 g1 h2 h3 hil3 hat @Space.encB.eq_1 fw7 w3 @Int.toNat_natCast) (xK hS2) ?_
   intro ids
   refine aa.cM [F1] [FS2] [ob w (wO s S (.ptr x 0) Y)] xA8 xA4 ga on7.ok fun r G' n8 T8 m8 ids8 hq8 on8 hids8=>?_
   obtain ⟨rfl,FS3,rfl,hS4⟩:=hq8
   simp only[List.nil_append,List.cons_append] at on8 ⊢
   refine aa.evR xA1 ?_
   refine aa.nil ⟨by simp[ay,au,apart,aH],?_⟩
   refine rn0 e1 ?_
   refine ⟨i+1,_,n8,T8,m8,on8,⟨by omega,FS3,rfl,hS4⟩,by omega,?_⟩
   refine aU.of (dr ?_) (fun j o h=>⟨o,h,cq.refl _⟩) (fun _ h=>h) (Nat.le_refl _) (Nat.le_refl _)
   exact xSb
  obtain rfl:i=cs.length:=by omega
  have g1:=ixE (cs.length)
  have hs2:=hst cs.length (Nat.le_refl _)
  rw[List.take_length] at*
  generalize aS S cs=S2 at*
  have hW2:=hBi.f.small (show _≤500000 by omega)
  have gt:=qE hF1 hS2 hBi.f.ri hW2 (fun p hp=>by have:=(hBi.r.it p hp).1;omega) hIR.rC hIR.lC kcl fr to (-1)
  rw[hs2] at gt
  have hsp:=r9 R.2.1 R.2.1 hsl
  rw[decide_eq_true rfl] at hsp
  have z2:decide (R.2.2=R.2.2)=true:=decide_eq_true rfl
  refine rn0 (cj3 g1 hil3 fw7) ?_
  refine aa.cM [] [F1,FS2] [ob w (wO s S (.ptr x 0) Y)] xA8 xA4 gt on7.ok fun r G' n9 T9 m9 ids9 hq9 on9 hids9=>?_
  obtain ⟨rfl,F2,rfl,hF2⟩:=hq9
  simp only[List.nil_append,List.cons_append] at on9 ⊢
  refine aa.evR xA1 ?_
  refine aa.nil ⟨by simp[ay,au,apart,aH],?_⟩
  refine rn2 z2 hsp hL ?_
  refine aJ ?_
  exact ab.refl _
theorem law_TxnStill {b:Nat} (avs:List AV) (h:si (lr Tryz.prog 5) Tryz.f4.params.toList avs) (hb:cv avs≤b) (hb1:b≤1048576):aA Tryz.prog 4 avs (.bool true):=by
 rw[Tryz.params4] at h
 cases h with|cons h0 h=>cases h with|cons h1 h=>cases h with|cons h2 h=>cases h with|cons h3 h=>cases h with|cons h4 h=>
 cases h
 have e:reachBytes=140737488351232:=rfl
 obtain ⟨l,rfl,hl,hv⟩:=oB h0
 obtain ⟨more,rfl,hl2,hv2⟩:=oB h1
 obtain ⟨cs,rfl,hc,hc2⟩:=open_batches h2
 obtain ⟨fr,rfl,-⟩:=Space.open_str h3
 obtain ⟨to,rfl,-⟩:=Space.open_str h4
 have hk:=bulk_bs cs
 simp only[cv,lp] at hb
 exact tstill_p l more cs fr to hl (fun x hx=>(hv x hx).2.2.1) hl2 (fun x hx=>(hv2 x hx).2.2.1) (za hv) (za hv2) hc (by omega) (fun b hb x hx=>by have:=((hc2 b hb).2 x hx).1;unfold Ls;omega)
end Go.Proofs.YtpehfflehebmbaaGreat.Txn
end
section
namespace Go.Proofs.YtpehfflehebmbaaGreat.Txn
open Go Go.Av Go.Proofs Go.Proofs.YtpehfflehebmbaaGreat.C Go.Proofs.YtpehfflehebmbaaGreat.Space
open Go.ChangeShapes Go.WideShapes Go.ChangeAt Go.RowKit
set_option maxRecDepth 100000 in
theorem lifted_TxnStill (os:Os) (started:os.Started) (H:Type) (enc:TypeId × Value→H) (F:Stop.Interp):
  ReturnsInHanded {} Tryz.checked os 4 .any ((Rows.OpenSpec.upto Rows.txnStillSpec).pre6 enc Tryz.prog Tryz.f4 Rows.txnStillUptoRow.domain false) (((Rows.OpenSpec.upto Rows.txnStillSpec).at F).post enc Tryz.prog Tryz.f4 false true false false):=by
 refine returnsInHanded_of_cond_sized (C:=Tryz.checked) (s:=Rows.OpenSpec.upto Rows.txnStillSpec) (k:=Rows.uptoSmall) rfl own started (by kernel_rfl) Tryz.func4
  (OpenSpec.witness (enc:=enc) (C:=Tryz.checked) (s:=Rows.OpenSpec.upto Rows.txnStillSpec) (k:=Rows.uptoSmall) rfl false ⟨#[],#[.slice none 0 0,.slice none 0 0,.slice none 0 0,.string ⟨#[]⟩,.string ⟨#[]⟩],[]⟩ 8 (by kernel_rfl) (by kernel_rfl) (by kernel_rfl)
   (x:=([.nil,.nil,.nil,.lit (.string []),.lit (.string [])],[],[])) (by kernel_rfl) rfl (by kernel_rfl)) ?_
 intro W base args ds gs before hval hW _ hk hwt _
 exact wy (s:=Rows.txnStillSpec) laid CX Bk full rfl (fun l hl=>by match l,hl with|[_,_,_,_,_],_=>rfl) rfl Tryz.underlying4 (by kernel_rfl) (by kernel_rfl) hval hW hwt (fun avs h hb=>law_TxnStill avs h hb (of_decide_eq_true hk))
theorem said_TxnStillUpto:Rows.TxnStillUptoSaid:=
 OpenClaim.holds_of_cond 4 Tryz.f4 rfl rfl rfl rfl rfl rfl rfl ⟨rfl,rfl,rfl,rfl,rfl⟩ rfl rfl rfl rfl rfl (by kernel_rfl) Tryz.func4 (by kernel_rfl)
  (of_decide_eq_true (by kernel_rfl)) (by unfold Func.isWrapper;first|(rw [if_pos (by decide+kernel)];kernel_rfl)|(rw [if_neg (by decide+kernel)];exact ⟨rfl,rfl⟩))
  (fun os started H enc _ F=>lifted_TxnStill os started H enc F)
#print axioms said_TxnStillUpto
end Go.Proofs.YtpehfflehebmbaaGreat.Txn
end
