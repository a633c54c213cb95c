import Derived.Test.YthflbgeplmecoaaGreatSxUse
import Derived.Test.YthflbgeplmecoaaGreatM13
set_option linter.unusedVariables false
set_option linter.unusedSimpArgs false
set_option maxRecDepth 100000
set_option maxHeartbeats 4000000
namespace Go
open Go.Sx
def Sp.valid (t d g m:Int):Bool:=decide (0≤t∧t≤65536∧0≤d∧d≤65536∧1≤g∧g≤4096∧0≤m∧m≤4096)
def Sp.adjust (t d g m n:Int):Int:=if Sp.valid t d g m=false∨n<0∨2147483647<n then 0 else if n<t then-(min m (max 0 (t-n-d)*g))else min m (max 0 (n-t-d)*g)
end Go
namespace Go.Sx
theorem v166 (t:Int) (d:Int) (g:Int) (m:Int):InR .i64 t∧InR .i64 d∧InR .i64 g∧InR .i64 m→Cn (bLe 0 t) (Cn (bLe t 65536) (Cn (bLe 0 d) (Cn (bLe d 65536) (Cn (bLe 1 g) (Cn (bLe g 4096) (Cn (bLe 0 m) (bLe m 4096=Sp.valid t d g m) (false=Sp.valid t d g m)) (false=Sp.valid t d g m)) (false=Sp.valid t d g m)) (false=Sp.valid t d g m)) (false=Sp.valid t d g m)) (false=Sp.valid t d g m)) (false=Sp.valid t d g m):=by
 intro hw
 simp only[Cn_iff,Sm_iff,true_and]
 simp only[bLe,decide_eq_true_eq,decide_eq_false_iff_not,Sp.valid,and_true]
 repeat' (first|apply And.intro|intro _)
 all_goals (first|(simp only[decide_eq_decide]; omega)|(symm; simp only[decide_eq_false_iff_not]; omega))
def r166:Cr PR:=K0 [] 166 6 {ps:=[(true,[.int .i64,.int .i64,.int .i64,.int .i64])],rs:=[(false,[.bool])],pre:=fun _=>True,out:=fun a=>[[.b (Sp.valid (I a 0 0) (I a 0 1) (I a 0 2) (I a 0 3))]]} U fun a=>Y (v166 (I a 0 0) (I a 0 1) (I a 0 2) (I a 0 3))
end Go.Sx
namespace Go.Sx
theorem v119 (t:Int) (d:Int) (g:Int) (m:Int):InR .i64 t∧InR .i64 d∧InR .i64 g∧InR .i64 m→Cn (bLe 0 t) (Cn (bLe t 65536) (Cn (bLe 0 d) (Cn (bLe d 65536) (Cn (bLe 1 g) (Cn (bLe g 4096) (Cn (bLe 0 m) (bLe m 4096=Sp.valid t d g m) (false=Sp.valid t d g m)) (false=Sp.valid t d g m)) (false=Sp.valid t d g m)) (false=Sp.valid t d g m)) (false=Sp.valid t d g m)) (false=Sp.valid t d g m)) (false=Sp.valid t d g m):=by
 intro hw
 simp only[Cn_iff,Sm_iff,true_and]
 simp only[bLe,decide_eq_true_eq,decide_eq_false_iff_not,Sp.valid,and_true]
 repeat' (first|apply And.intro|intro _)
 all_goals (first|(simp only[decide_eq_decide]; omega)|(symm; simp only[decide_eq_false_iff_not]; omega))
def r119:Cr PR:=K0 [] 119 6 {ps:=[(true,[.int .i64,.int .i64,.int .i64,.int .i64])],rs:=[(false,[.bool])],pre:=fun _=>True,out:=fun a=>[[.b (Sp.valid (I a 0 0) (I a 0 1) (I a 0 2) (I a 0 3))]]} U fun a=>Y (v119 (I a 0 0) (I a 0 1) (I a 0 2) (I a 0 3))
end Go.Sx
namespace Go
theorem Sp.valid_iff (t d g m:Int):Sp.valid t d g m=true↔0≤t∧t≤65536∧0≤d∧d≤65536∧1≤g∧g≤4096∧0≤m∧m≤4096:=by simp[Sp.valid]
theorem Sp.gain {t d g m x:Int} (h:Sp.valid t d g m=true) (h1:0≤x) (h2:x≤4294967296):0≤x*g∧x*g≤4294967296*4096:=by
 rw[Sp.valid_iff]at h
 exact Go.Sx.mul_bd h1 h2 (by omega) (by omega)
end Go
namespace Go.Sx
theorem v187 (t:Int) (d:Int) (g:Int) (m:Int) (n:Int):InR .i64 t∧InR .i64 d∧InR .i64 g∧InR .i64 m∧InR .i64 n→True∧True∧Cn (bNot (Sp.valid t d g m)) (0=Sp.adjust t d g m n) (Cn (bLt n 0) (0=Sp.adjust t d g m n) (Cn (bLt 2147483647 n) (0=Sp.adjust t d g m n) (Cn (bLt n t) (InR .i64 (iSub t n)∧InR .i64 (iSub (iSub t n) d)∧InR .i64 (iMul (iMax 0 (iSub (iSub t n) d)) g)∧InR .i64 (iSub 0 (iMin m (iMul (iMax 0 (iSub (iSub t n) d)) g)))∧iSub 0 (iMin m (iMul (iMax 0 (iSub (iSub t n) d)) g))=Sp.adjust t d g m n) (InR .i64 (iSub n t)∧InR .i64 (iSub (iSub n t) d)∧InR .i64 (iMul (iMax 0 (iSub (iSub n t) d)) g)∧iMin m (iMul (iMax 0 (iSub (iSub n t) d)) g)=Sp.adjust t d g m n)))):=by
 intro hw
 simp only[Cn_iff,Sm_iff,true_and]
 simp only[iAdd,iSub,iMul,iQuo,iRem,iMin,iMax,bEq,bNe,bLt,bLe,bNot,InR,pIn,pNe,pLe,decide_eq_true_eq,decide_eq_false_iff_not,Bool.not_eq_true',Bool.not_eq_false',true_and,and_true]at*
 skip
 simp only[true_implies,Sp.adjust]
 refine⟨fun hv=> ?_,fun hv=>⟨fun h1=> ?_,fun h1=>⟨fun h2=> ?_,fun h2=>⟨fun h3=> ?_,fun h3=> ?_⟩⟩⟩⟩
 · rw[if_pos (by simp[hv])]
 · rw[if_pos (by simp[hv]; omega)]
 · rw[if_pos (by simp[hv]; omega)]
 · have hb:=Sp.gain (x:=max 0 (t-n-d)) hv (by omega) (by rw[Sp.valid_iff]at hv; omega)
   have hf:¬(Sp.valid t d g m=false∨n<0∨2147483647<n):=by simp only[hv]; simp; omega
   rw[if_neg hf,if_pos h3]
   rw[Sp.valid_iff]at hv
   omega
 · have hb:=Sp.gain (x:=max 0 (n-t-d)) hv (by omega) (by rw[Sp.valid_iff]at hv; omega)
   have hf:¬(Sp.valid t d g m=false∨n<0∨2147483647<n):=by simp only[hv]; simp; omega
   rw[if_neg hf,if_neg (by omega)]
   rw[Sp.valid_iff]at hv
   omega
def r187:Cr PR:=K0 [r166] 187 6 {ps:=[(true,[.int .i64,.int .i64,.int .i64,.int .i64]),(false,hI)],rs:=[(false,hI)],pre:=fun _=>True,out:=fun a=>[[.i (Sp.adjust (I a 0 0) (I a 0 1) (I a 0 2) (I a 0 3) (I a 1 0))]]} U fun a=>Y (v187 (I a 0 0) (I a 0 1) (I a 0 2) (I a 0 3) (I a 1 0))
end Go.Sx
namespace Go.Sx
end Go.Sx

set_option linter.unusedVariables false
set_option linter.unusedSimpArgs false
set_option maxRecDepth 100000
set_option maxHeartbeats 4000000
namespace Go
open Go.Sx
def Sp.poss (n d:Int):Bool:=Sp.rvalid n d&&decide (d≤768000∧d≤n*64∧n≤d*64*8192)
def Sp.decl (n d k j:Int):Bool:=Sp.poss n d&&decide (0≤k∧k≤4096∧0≤j∧j≤65536)
def Sp.up (a b:Int):Int:=(a+b-1)/b
def Sp.wob (n d k:Int):Int:=Sp.up (2*k*n) (65536*d)
end Go
namespace Go.Sx
theorem v220 (n:Int) (d:Int):InR .i64 n∧InR .i64 d→True∧Cn (Sp.rvalid n d) (Cn (bLe d 768000) (InR .i64 (iMul n 64)∧Cn (bLe d (iMul n 64)) (InR .i64 (iMul d 64)∧InR .i64 (iMul (iMul d 64) 8192)∧bLe n (iMul (iMul d 64) 8192)=Sp.poss n d) (false=Sp.poss n d)) (false=Sp.poss n d)) (false=Sp.poss n d):=by
 intro hw
 simp only[Cn_iff,Sm_iff,true_and]
 simp only[bLe,bEq,iMul,InR,decide_eq_true_eq,decide_eq_false_iff_not,Sp.poss,and_true]
 have hv:Sp.rvalid n d=true→1≤n∧1≤d∧n≤68719476736∧d≤68719476736:=fun h=>by simp[Sp.rvalid]at h; omega
 cases hr:Sp.rvalid n d
 · simp
 · have hv:=hv hr
   simp only[Bool.true_and,Bool.true_eq_false,false_implies,true_implies,and_true,true_and]
   repeat' (first|apply And.intro|intro _)
   all_goals (first|omega|(simp only[decide_eq_decide]; omega)|(symm; simp only[decide_eq_false_iff_not]; omega))
def r220:Cr PR:=K0 [r144] 220 6 {ps:=[(true,hII)],rs:=[(false,[.bool])],pre:=fun _=>True,out:=fun a=>[[.b (Sp.poss (I a 0 0) (I a 0 1))]]} U fun a=>Y (v220 (I a 0 0) (I a 0 1))
end Go.Sx
namespace Go.Sx
theorem v178 (n:Int) (d:Int):InR .i64 n∧InR .i64 d→True∧Cn (Sp.rvalid n d) (Cn (bLe d 768000) (InR .i64 (iMul 64 n)∧Cn (bLe d (iMul 64 n)) (InR .i64 (iMul 524288 d)∧bLe n (iMul 524288 d)=Sp.poss n d) (false=Sp.poss n d)) (false=Sp.poss n d)) (false=Sp.poss n d):=by
 intro hw
 simp only[Cn_iff,Sm_iff,true_and]
 simp only[bLe,bEq,iMul,InR,decide_eq_true_eq,decide_eq_false_iff_not,Sp.poss,and_true]
 have hv:Sp.rvalid n d=true→1≤n∧1≤d∧n≤68719476736∧d≤68719476736:=fun h=>by simp[Sp.rvalid]at h; omega
 cases hr:Sp.rvalid n d
 · simp
 · have hv:=hv hr
   simp only[Bool.true_and,Bool.true_eq_false,false_implies,true_implies,and_true,true_and]
   repeat' (first|apply And.intro|intro _)
   all_goals (first|omega|(simp only[decide_eq_decide]; omega)|(symm; simp only[decide_eq_false_iff_not]; omega))
def r178:Cr PR:=K0 [r76] 178 6 {ps:=[(true,hII)],rs:=[(false,[.bool])],pre:=fun _=>True,out:=fun a=>[[.b (Sp.poss (I a 0 0) (I a 0 1))]]} U fun a=>Y (v178 (I a 0 0) (I a 0 1))
end Go.Sx
namespace Go.Sx
theorem v160 (n:Int) (d:Int) (k:Int) (j:Int):InR .i64 n∧InR .i64 d∧InR .i64 k∧InR .i64 j→True∧Cn (Sp.poss n d) (Cn (bLe 0 k) (Cn (bLe k 4096) (Cn (bLe 0 j) (bLe j 65536=Sp.decl n d k j) (false=Sp.decl n d k j)) (false=Sp.decl n d k j)) (false=Sp.decl n d k j)) (false=Sp.decl n d k j):=by
 intro hw
 simp only[Cn_iff,Sm_iff,true_and]
 simp only[bLe,bEq,decide_eq_true_eq,decide_eq_false_iff_not,Sp.decl,and_true]
 cases hr:Sp.poss n d
 · simp
 · simp only[Bool.true_and,Bool.true_eq_false,false_implies,true_implies,and_true,true_and]
   repeat' (first|apply And.intro|intro _)
   all_goals (first|omega|(simp only[decide_eq_decide]; omega)|(symm; simp only[decide_eq_false_iff_not]; omega))
def r160:Cr PR:=K0 [r220] 160 6 {ps:=[(true,hII),(false,hI),(false,hI)],rs:=[(false,[.bool])],pre:=fun _=>True,out:=fun a=>[[.b (Sp.decl (I a 0 0) (I a 0 1) (I a 1 0) (I a 2 0))]]} U fun a=>Y (v160 (I a 0 0) (I a 0 1) (I a 1 0) (I a 2 0))
end Go.Sx
namespace Go.Sx
theorem v169 (n:Int) (d:Int) (k:Int) (j:Int):InR .i64 n∧InR .i64 d∧InR .i64 k∧InR .i64 j→True∧Cn (Sp.poss n d) (Cn (bLe 0 k) (Cn (bLe k 4096) (Cn (bLe 0 j) (bLe j 65536=Sp.decl n d k j) (false=Sp.decl n d k j)) (false=Sp.decl n d k j)) (false=Sp.decl n d k j)) (false=Sp.decl n d k j):=by
 intro hw
 simp only[Cn_iff,Sm_iff,true_and]
 simp only[bLe,bEq,decide_eq_true_eq,decide_eq_false_iff_not,Sp.decl,and_true]
 cases hr:Sp.poss n d
 · simp
 · simp only[Bool.true_and,Bool.true_eq_false,false_implies,true_implies,and_true,true_and]
   repeat' (first|apply And.intro|intro _)
   all_goals (first|omega|(simp only[decide_eq_decide]; omega)|(symm; simp only[decide_eq_false_iff_not]; omega))
def r169:Cr PR:=K0 [r178] 169 6 {ps:=[(true,hII),(false,hI),(false,hI)],rs:=[(false,[.bool])],pre:=fun _=>True,out:=fun a=>[[.b (Sp.decl (I a 0 0) (I a 0 1) (I a 1 0) (I a 2 0))]]} U fun a=>Y (v169 (I a 0 0) (I a 0 1) (I a 1 0) (I a 2 0))
end Go.Sx
namespace Go.Sx
theorem v161 (p:Int) (q:Int):InR .i64 p∧InR .i64 q→0≤p∧1≤q∧p+q≤9223372036854775807→InR .i64 (iAdd p q)∧InR .i64 (iSub (iAdd p q) 1)∧(pNe q 0∧InR .i64 (iQuo (iSub (iAdd p q) 1) q))∧iQuo (iSub (iAdd p q) 1) q=Sp.up p q:=by
 intro hw hp
 simp only[iAdd,iSub,iQuo,InR,pNe,Sp.up,and_true]
 have e:(p+q-1).tdiv q=(p+q-1)/q:=Int.tdiv_eq_ediv_of_nonneg (by omega)
 rw[e]
 have h0:0≤(p+q-1)/q:=Int.ediv_nonneg (by omega) (by omega)
 have h1:(p+q-1)/q≤p+q-1:=Int.ediv_le_self _ (by omega)
 omega
def r161:Cr PR:=K [] 161 6 {ps:=[(false,hI),(false,hI)],rs:=[(false,hI)],pre:=fun a=>0≤(I a 0 0)∧1≤(I a 1 0)∧(I a 0 0)+(I a 1 0)≤9223372036854775807,out:=fun a=>[[.i (Sp.up (I a 0 0) (I a 1 0))]]} U fun a=>Y (v161 (I a 0 0) (I a 1 0))
end Go.Sx
namespace Go.Sx
theorem v170 (p:Int) (q:Int):InR .i64 p∧InR .i64 q→0≤p∧1≤q∧p+q≤9223372036854775807→InR .i64 (iAdd p q)∧InR .i64 (iSub (iAdd p q) 1)∧(pNe q 0∧InR .i64 (iQuo (iSub (iAdd p q) 1) q))∧iQuo (iSub (iAdd p q) 1) q=Sp.up p q:=by
 intro hw hp
 simp only[iAdd,iSub,iQuo,InR,pNe,Sp.up,and_true]
 have e:(p+q-1).tdiv q=(p+q-1)/q:=Int.tdiv_eq_ediv_of_nonneg (by omega)
 rw[e]
 have h0:0≤(p+q-1)/q:=Int.ediv_nonneg (by omega) (by omega)
 have h1:(p+q-1)/q≤p+q-1:=Int.ediv_le_self _ (by omega)
 omega
def r170:Cr PR:=K [] 170 6 {ps:=[(false,hI),(false,hI)],rs:=[(false,hI)],pre:=fun a=>0≤(I a 0 0)∧1≤(I a 1 0)∧(I a 0 0)+(I a 1 0)≤9223372036854775807,out:=fun a=>[[.i (Sp.up (I a 0 0) (I a 1 0))]]} U fun a=>Y (v170 (I a 0 0) (I a 1 0))
end Go.Sx
namespace Go.Sx
theorem v162 (n:Int) (d:Int) (k:Int):InR .i64 n∧InR .i64 d∧InR .i64 k→1≤n∧1≤d∧d≤768000∧n≤d*64*8192∧0≤k∧k≤8192→InR .i64 (iMul 2 k)∧InR .i64 (iMul (iMul 2 k) n)∧InR .i64 (iMul 65536 d)∧(0≤iMul (iMul 2 k) n∧1≤iMul 65536 d∧iMul (iMul 2 k) n+iMul 65536 d≤9223372036854775807)∧(InR .i64 (Sp.up (iMul (iMul 2 k) n) (iMul 65536 d))→Sp.up (iMul (iMul 2 k) n) (iMul 65536 d)=Sp.wob n d k):=by
 intro hw hp
 simp only[iMul,InR,Sp.wob,and_true]
 have hb:=mul_bd (x:=2*k) (X:=16384) (y:=n) (Y:=402653184000) (by omega) (by omega) (by omega) (by omega)
 exact⟨by omega,by omega,by omega,by omega,fun _=>by first|trivial|rfl⟩
def r162:Cr PR:=K [r161] 162 6 {ps:=[(true,hII),(false,hI)],rs:=[(false,hI)],pre:=fun a=>1≤(I a 0 0)∧1≤(I a 0 1)∧(I a 0 1)≤768000∧(I a 0 0)≤(I a 0 1)*64*8192∧0≤(I a 1 0)∧(I a 1 0)≤8192,out:=fun a=>[[.i (Sp.wob (I a 0 0) (I a 0 1) (I a 1 0))]]} U fun a=>Y (v162 (I a 0 0) (I a 0 1) (I a 1 0))
end Go.Sx
namespace Go.Sx
theorem v223 (n:Int) (d:Int) (k:Int):InR .i64 n∧InR .i64 d∧InR .i64 k→1≤n∧1≤d∧d≤768000∧n≤d*64*8192∧0≤k∧k≤8192→InR .i64 (iMul 2 n)∧InR .i64 (iMul (iMul 2 n) k)∧InR .i64 (iMul d 65536)∧(0≤iMul (iMul 2 n) k∧1≤iMul d 65536∧iMul (iMul 2 n) k+iMul d 65536≤9223372036854775807)∧(InR .i64 (Sp.up (iMul (iMul 2 n) k) (iMul d 65536))→Sp.up (iMul (iMul 2 n) k) (iMul d 65536)=Sp.wob n d k):=by
 intro hw hp
 simp only[iMul,InR,Sp.wob,and_true]
 have hb:=mul_bd (x:=2*k) (X:=16384) (y:=n) (Y:=402653184000) (by omega) (by omega) (by omega) (by omega)
 rw[Int.mul_right_comm 2 n k,Int.mul_comm d 65536]
 exact⟨by omega,by omega,by omega,by omega,fun _=>by first|trivial|rfl⟩
def r223:Cr PR:=K [r170] 223 6 {ps:=[(true,hII),(false,hI)],rs:=[(false,hI)],pre:=fun a=>1≤(I a 0 0)∧1≤(I a 0 1)∧(I a 0 1)≤768000∧(I a 0 0)≤(I a 0 1)*64*8192∧0≤(I a 1 0)∧(I a 1 0)≤8192,out:=fun a=>[[.i (Sp.wob (I a 0 0) (I a 0 1) (I a 1 0))]]} U fun a=>Y (v223 (I a 0 0) (I a 0 1) (I a 1 0))
end Go.Sx
namespace Go
open Go.Sx
def Sp.boundE (t d g m n e k j s:Int):Int:=if Sp.valid t d g m=false∨Sp.decl n e k j=false∨s<0∨65536<s then 1 else if m*(65536-k)<65536*k then 11 else 0
def Sp.boundV (t d g m n e k j s:Int):Int:=if Sp.boundE t d g m n e k j s≠0 then 0 else max s (d+Sp.up m g)+Sp.wob n e (k+m)+2*j+2
def Sp.demV (t d g m n e k j:Int):Int:=if Sp.boundE t d g m n e k j 0≠0 then 0 else Sp.up n e+Sp.wob n e (k+m)+2*j+3
end Go
namespace Go
open Go.Sx
theorem Sp.decl_of {n e k j:Int} (h:Sp.decl n e k j=true):1≤n∧1≤e∧n≤68719476736∧e≤768000∧n≤e*64*8192∧0≤k∧k≤4096∧0≤j∧j≤65536:=by
 simp only[Sp.decl,Sp.poss,Sp.rvalid,Bool.and_eq_true,decide_eq_true_eq]at h
 omega
theorem Sp.up_bd {a b:Int} (h0:0≤a) (h1:1≤b):0≤Sp.up a b∧Sp.up a b≤a+b-1:=
 ⟨Int.ediv_nonneg (by omega) (by omega),Int.ediv_le_self _ (by omega)⟩
theorem Sp.wob_bd {n d k:Int} (h0:1≤n) (h1:1≤d) (h2:d≤768000) (h3:n≤d*64*8192) (h4:0≤k) (h5:k≤8192):0≤Sp.wob n d k∧Sp.wob n d k≤10000000000000000:=by
 have hb:=mul_bd (x:=2*k) (X:=16384) (y:=n) (Y:=402653184000) (by omega) (by omega) (by omega) (by omega)
 have:=Sp.up_bd (a:=2*k*n) (b:=65536*d) (by omega) (by omega)
 unfold Sp.wob; omega
end Go
namespace Go.Sx
theorem v163 (t:Int) (d:Int) (g:Int) (m:Int) (n:Int) (e:Int) (k:Int) (j:Int) (s:Int):InR .i64 t∧InR .i64 d∧InR .i64 g∧InR .i64 m∧InR .i64 n∧InR .i64 e∧InR .i64 k∧InR .i64 j∧InR .i64 s→True∧True∧Cn (bNot (Sp.valid t d g m)) (0=Sp.boundV t d g m n e k j s∧1=Sp.boundE t d g m n e k j s) (True∧True∧Cn (bNot (Sp.decl n e k j)) (0=Sp.boundV t d g m n e k j s∧1=Sp.boundE t d g m n e k j s) (Cn (bLt s 0) (0=Sp.boundV t d g m n e k j s∧1=Sp.boundE t d g m n e k j s) (Cn (bLt 65536 s) (0=Sp.boundV t d g m n e k j s∧1=Sp.boundE t d g m n e k j s) (InR .i64 (iSub 65536 k)∧InR .i64 (iMul m (iSub 65536 k))∧InR .i64 (iMul 65536 k)∧Cn (bLt (iMul m (iSub 65536 k)) (iMul 65536 k)) (0=Sp.boundV t d g m n e k j s∧11=Sp.boundE t d g m n e k j s) ((0≤m∧1≤g∧m+g≤9223372036854775807)∧(InR .i64 (Sp.up m g)→InR .i64 (iAdd d (Sp.up m g))∧InR .i64 (iAdd k m)∧(1≤n∧1≤e∧e≤768000∧n≤e*64*8192∧0≤iAdd k m∧iAdd k m≤8192)∧(InR .i64 (Sp.wob n e (iAdd k m))→InR .i64 (iAdd (iMax s (iAdd d (Sp.up m g))) (Sp.wob n e (iAdd k m)))∧InR .i64 (iMul 2 j)∧InR .i64 (iAdd (iAdd (iMax s (iAdd d (Sp.up m g))) (Sp.wob n e (iAdd k m))) (iMul 2 j))∧InR .i64 (iAdd (iAdd (iAdd (iMax s (iAdd d (Sp.up m g))) (Sp.wob n e (iAdd k m))) (iMul 2 j)) 2)∧iAdd (iAdd (iAdd (iMax s (iAdd d (Sp.up m g))) (Sp.wob n e (iAdd k m))) (iMul 2 j)) 2=Sp.boundV t d g m n e k j s∧0=Sp.boundE t d g m n e k j s))))))):=by
 intro hw
 simp only[Cn_iff,Sm_iff,true_and]
 simp only[iAdd,iSub,iMul,iMax,bNot,bLt,InR,decide_eq_true_eq,decide_eq_false_iff_not,Bool.not_eq_true',Bool.not_eq_false',and_true,true_and,true_implies]
 by_cases hv:Sp.valid t d g m=true
 · by_cases hd:Sp.decl n e k j=true
   · have hv':=(Sp.valid_iff t d g m).1 hv
     have hd':=Sp.decl_of hd
     have u1:=Sp.up_bd (a:=m) (b:=g) (by omega) (by omega)
     have u2:=Sp.wob_bd (n:=n) (d:=e) (k:=k+m) (by omega) (by omega) (by omega) (by omega) (by omega) (by omega)
     have u3:=mul_bd (x:=m) (X:=4096) (y:=65536-k) (Y:=65536) (by omega) (by omega) (by omega) (by omega)
     have e1:Sp.boundE t d g m n e k j s=if s<0∨65536<s then 1 else if m*(65536-k)<65536*k then 11 else 0:=by unfold Sp.boundE; simp[hv,hd]
     have e2:Sp.boundV t d g m n e k j s=if Sp.boundE t d g m n e k j s≠0 then 0 else max s (d+Sp.up m g)+Sp.wob n e (k+m)+2*j+2:=rfl
     simp only[hv,hd,e2,e1,Bool.true_eq_false,false_implies,true_implies,and_true,true_and]
     clear hv hd hw e1 e2
     generalize Sp.up m g=uu at*
     generalize Sp.wob n e (k+m)=ww at*
     generalize m*(65536-k)=pp at*
     repeat' (first|apply And.intro|intro _)
     all_goals (first|omega|(split<;>omega))
   · have hd:Sp.decl n e k j=false:=by simpa using hd
     have e1:Sp.boundE t d g m n e k j s=1:=by unfold Sp.boundE; simp[hd]
     have e2:Sp.boundV t d g m n e k j s=0:=by unfold Sp.boundV; simp[e1]
     simp[hv,hd,e1,e2]
 · have hv:Sp.valid t d g m=false:=by simpa using hv
   have e1:Sp.boundE t d g m n e k j s=1:=by unfold Sp.boundE; simp[hv]
   have e2:Sp.boundV t d g m n e k j s=0:=by unfold Sp.boundV; simp[e1]
   simp[hv,e1,e2]
def r163:Cr PR:=K0 [r166,r160,r161,r162] 163 6 {ps:=[(true,[.int .i64,.int .i64,.int .i64,.int .i64]),(true,hII),(false,hI),(false,hI),(false,hI)],rs:=[(false,hI),(false,hI)],pre:=fun _=>True,out:=fun a=>[[.i (Sp.boundV (I a 0 0) (I a 0 1) (I a 0 2) (I a 0 3) (I a 1 0) (I a 1 1) (I a 2 0) (I a 3 0) (I a 4 0))],[.i (Sp.boundE (I a 0 0) (I a 0 1) (I a 0 2) (I a 0 3) (I a 1 0) (I a 1 1) (I a 2 0) (I a 3 0) (I a 4 0))]]} U fun a=>Y (v163 (I a 0 0) (I a 0 1) (I a 0 2) (I a 0 3) (I a 1 0) (I a 1 1) (I a 2 0) (I a 3 0) (I a 4 0))
end Go.Sx
namespace Go.Sx
theorem v172 (t:Int) (d:Int) (g:Int) (m:Int) (n:Int) (e:Int) (k:Int) (j:Int) (s:Int):InR .i64 t∧InR .i64 d∧InR .i64 g∧InR .i64 m∧InR .i64 n∧InR .i64 e∧InR .i64 k∧InR .i64 j∧InR .i64 s→True∧True∧Cn (bNot (Sp.valid t d g m)) (0=Sp.boundV t d g m n e k j s∧1=Sp.boundE t d g m n e k j s) (True∧True∧Cn (bNot (Sp.decl n e k j)) (0=Sp.boundV t d g m n e k j s∧1=Sp.boundE t d g m n e k j s) (Cn (bLt s 0) (0=Sp.boundV t d g m n e k j s∧1=Sp.boundE t d g m n e k j s) (Cn (bLt 65536 s) (0=Sp.boundV t d g m n e k j s∧1=Sp.boundE t d g m n e k j s) (InR .i64 (iSub 65536 k)∧InR .i64 (iMul m (iSub 65536 k))∧InR .i64 (iMul 65536 k)∧Cn (bLt (iMul m (iSub 65536 k)) (iMul 65536 k)) (0=Sp.boundV t d g m n e k j s∧11=Sp.boundE t d g m n e k j s) ((0≤m∧1≤g∧m+g≤9223372036854775807)∧(InR .i64 (Sp.up m g)→InR .i64 (iAdd d (Sp.up m g))∧InR .i64 (iAdd k m)∧(1≤n∧1≤e∧e≤768000∧n≤e*64*8192∧0≤iAdd k m∧iAdd k m≤8192)∧(InR .i64 (Sp.wob n e (iAdd k m))→InR .i64 (iAdd (iMax s (iAdd d (Sp.up m g))) (Sp.wob n e (iAdd k m)))∧InR .i64 (iMul 2 j)∧InR .i64 (iAdd (iAdd (iMax s (iAdd d (Sp.up m g))) (Sp.wob n e (iAdd k m))) (iMul 2 j))∧InR .i64 (iAdd (iAdd (iAdd (iMax s (iAdd d (Sp.up m g))) (Sp.wob n e (iAdd k m))) (iMul 2 j)) 2)∧iAdd (iAdd (iAdd (iMax s (iAdd d (Sp.up m g))) (Sp.wob n e (iAdd k m))) (iMul 2 j)) 2=Sp.boundV t d g m n e k j s∧0=Sp.boundE t d g m n e k j s))))))):=by
 intro hw
 simp only[Cn_iff,Sm_iff,true_and]
 simp only[iAdd,iSub,iMul,iMax,bNot,bLt,InR,decide_eq_true_eq,decide_eq_false_iff_not,Bool.not_eq_true',Bool.not_eq_false',and_true,true_and,true_implies]
 by_cases hv:Sp.valid t d g m=true
 · by_cases hd:Sp.decl n e k j=true
   · have hv':=(Sp.valid_iff t d g m).1 hv
     have hd':=Sp.decl_of hd
     have u1:=Sp.up_bd (a:=m) (b:=g) (by omega) (by omega)
     have u2:=Sp.wob_bd (n:=n) (d:=e) (k:=k+m) (by omega) (by omega) (by omega) (by omega) (by omega) (by omega)
     have u3:=mul_bd (x:=m) (X:=4096) (y:=65536-k) (Y:=65536) (by omega) (by omega) (by omega) (by omega)
     have e1:Sp.boundE t d g m n e k j s=if s<0∨65536<s then 1 else if m*(65536-k)<65536*k then 11 else 0:=by unfold Sp.boundE; simp[hv,hd]
     have e2:Sp.boundV t d g m n e k j s=if Sp.boundE t d g m n e k j s≠0 then 0 else max s (d+Sp.up m g)+Sp.wob n e (k+m)+2*j+2:=rfl
     simp only[hv,hd,e2,e1,Bool.true_eq_false,false_implies,true_implies,and_true,true_and]
     clear hv hd hw e1 e2
     generalize Sp.up m g=uu at*
     generalize Sp.wob n e (k+m)=ww at*
     generalize m*(65536-k)=pp at*
     repeat' (first|apply And.intro|intro _)
     all_goals (first|omega|(split<;>omega))
   · have hd:Sp.decl n e k j=false:=by simpa using hd
     have e1:Sp.boundE t d g m n e k j s=1:=by unfold Sp.boundE; simp[hd]
     have e2:Sp.boundV t d g m n e k j s=0:=by unfold Sp.boundV; simp[e1]
     simp[hv,hd,e1,e2]
 · have hv:Sp.valid t d g m=false:=by simpa using hv
   have e1:Sp.boundE t d g m n e k j s=1:=by unfold Sp.boundE; simp[hv]
   have e2:Sp.boundV t d g m n e k j s=0:=by unfold Sp.boundV; simp[e1]
   simp[hv,e1,e2]
def r172:Cr PR:=K0 [r119,r169,r170,r223] 172 6 {ps:=[(true,[.int .i64,.int .i64,.int .i64,.int .i64]),(true,hII),(false,hI),(false,hI),(false,hI)],rs:=[(false,hI),(false,hI)],pre:=fun _=>True,out:=fun a=>[[.i (Sp.boundV (I a 0 0) (I a 0 1) (I a 0 2) (I a 0 3) (I a 1 0) (I a 1 1) (I a 2 0) (I a 3 0) (I a 4 0))],[.i (Sp.boundE (I a 0 0) (I a 0 1) (I a 0 2) (I a 0 3) (I a 1 0) (I a 1 1) (I a 2 0) (I a 3 0) (I a 4 0))]]} U fun a=>Y (v172 (I a 0 0) (I a 0 1) (I a 0 2) (I a 0 3) (I a 1 0) (I a 1 1) (I a 2 0) (I a 3 0) (I a 4 0))
end Go.Sx
namespace Go.Sx
theorem v164 (t:Int) (d:Int) (g:Int) (m:Int) (n:Int) (e:Int) (k:Int) (j:Int):InR .i64 t∧InR .i64 d∧InR .i64 g∧InR .i64 m∧InR .i64 n∧InR .i64 e∧InR .i64 k∧InR .i64 j→True∧(InR .i64 (Sp.boundV t d g m n e k j 0)∧InR .i64 (Sp.boundE t d g m n e k j 0)→Cn (bNe (Sp.boundE t d g m n e k j 0) 0) (0=Sp.demV t d g m n e k j∧Sm (Sp.boundE t d g m n e k j 0)) ((0≤n∧1≤e∧n+e≤9223372036854775807)∧(InR .i64 (Sp.up n e)→InR .i64 (iAdd k m)∧(1≤n∧1≤e∧e≤768000∧n≤e*64*8192∧0≤iAdd k m∧iAdd k m≤8192)∧(InR .i64 (Sp.wob n e (iAdd k m))→InR .i64 (iAdd (Sp.up n e) (Sp.wob n e (iAdd k m)))∧InR .i64 (iMul 2 j)∧InR .i64 (iAdd (iAdd (Sp.up n e) (Sp.wob n e (iAdd k m))) (iMul 2 j))∧InR .i64 (iAdd (iAdd (iAdd (Sp.up n e) (Sp.wob n e (iAdd k m))) (iMul 2 j)) 3)∧iAdd (iAdd (iAdd (Sp.up n e) (Sp.wob n e (iAdd k m))) (iMul 2 j)) 3=Sp.demV t d g m n e k j∧0=Sp.boundE t d g m n e k j 0)))):=by
 intro hw
 simp only[Cn_iff,Sm_iff,true_and]
 simp only[iAdd,iSub,iMul,iMax,bNe,InR,decide_eq_true_eq,Bool.not_eq_true',decide_eq_false_iff_not,Bool.not_eq_false',Sp.demV,and_true,true_and,true_implies]
 have hE:Sp.boundE t d g m n e k j 0=0→Sp.valid t d g m=true∧Sp.decl n e k j=true:=fun h=>by
  unfold Sp.boundE at h
  split at h
  · cases h
  · rename_i hc
    constructor
    · cases hx:Sp.valid t d g m
      · exact(hc (.inl hx)).elim
      · rfl
    · cases hx:Sp.decl n e k j
      · exact(hc (.inr (.inl hx))).elim
      · rfl
 refine fun hr=>⟨fun h=> ?_,fun h=> ?_⟩
 · rw[if_pos h]
 · have h':=hE h
   have hv':=(Sp.valid_iff t d g m).1 h'.1
   have hd':=Sp.decl_of h'.2
   have u1:=Sp.up_bd (a:=n) (b:=e) (by omega) (by omega)
   have u2:=Sp.wob_bd (n:=n) (d:=e) (k:=k+m) (by omega) (by omega) (by omega) (by omega) (by omega) (by omega)
   rw[if_neg (show¬(Sp.boundE t d g m n e k j 0≠0) by omega)]
   repeat' (first|apply And.intro|intro _)
   all_goals omega
def r164:Cr PR:=K0 [r163,r161,r162] 164 6 {ps:=[(true,[.int .i64,.int .i64,.int .i64,.int .i64]),(true,hII),(false,hI),(false,hI)],rs:=[(false,hI),(false,hI)],pre:=fun _=>True,out:=fun a=>[[.i (Sp.demV (I a 0 0) (I a 0 1) (I a 0 2) (I a 0 3) (I a 1 0) (I a 1 1) (I a 2 0) (I a 3 0))],[.i (Sp.boundE (I a 0 0) (I a 0 1) (I a 0 2) (I a 0 3) (I a 1 0) (I a 1 1) (I a 2 0) (I a 3 0) 0)]]} U fun a=>Y (v164 (I a 0 0) (I a 0 1) (I a 0 2) (I a 0 3) (I a 1 0) (I a 1 1) (I a 2 0) (I a 3 0))
end Go.Sx
namespace Go.Sx
theorem v173 (t:Int) (d:Int) (g:Int) (m:Int) (n:Int) (e:Int) (k:Int) (j:Int):InR .i64 t∧InR .i64 d∧InR .i64 g∧InR .i64 m∧InR .i64 n∧InR .i64 e∧InR .i64 k∧InR .i64 j→True∧(InR .i64 (Sp.boundV t d g m n e k j 0)∧InR .i64 (Sp.boundE t d g m n e k j 0)→Cn (bNe (Sp.boundE t d g m n e k j 0) 0) (0=Sp.demV t d g m n e k j∧Sm (Sp.boundE t d g m n e k j 0)) ((0≤n∧1≤e∧n+e≤9223372036854775807)∧(InR .i64 (Sp.up n e)→InR .i64 (iAdd k m)∧(1≤n∧1≤e∧e≤768000∧n≤e*64*8192∧0≤iAdd k m∧iAdd k m≤8192)∧(InR .i64 (Sp.wob n e (iAdd k m))→InR .i64 (iAdd (Sp.up n e) (Sp.wob n e (iAdd k m)))∧InR .i64 (iMul 2 j)∧InR .i64 (iAdd (iAdd (Sp.up n e) (Sp.wob n e (iAdd k m))) (iMul 2 j))∧InR .i64 (iAdd (iAdd (iAdd (Sp.up n e) (Sp.wob n e (iAdd k m))) (iMul 2 j)) 3)∧iAdd (iAdd (iAdd (Sp.up n e) (Sp.wob n e (iAdd k m))) (iMul 2 j)) 3=Sp.demV t d g m n e k j∧0=Sp.boundE t d g m n e k j 0)))):=by
 intro hw
 simp only[Cn_iff,Sm_iff,true_and]
 simp only[iAdd,iSub,iMul,iMax,bNe,InR,decide_eq_true_eq,Bool.not_eq_true',decide_eq_false_iff_not,Bool.not_eq_false',Sp.demV,and_true,true_and,true_implies]
 have hE:Sp.boundE t d g m n e k j 0=0→Sp.valid t d g m=true∧Sp.decl n e k j=true:=fun h=>by
  unfold Sp.boundE at h
  split at h
  · cases h
  · rename_i hc
    constructor
    · cases hx:Sp.valid t d g m
      · exact(hc (.inl hx)).elim
      · rfl
    · cases hx:Sp.decl n e k j
      · exact(hc (.inr (.inl hx))).elim
      · rfl
 refine fun hr=>⟨fun h=> ?_,fun h=> ?_⟩
 · rw[if_pos h]
 · have h':=hE h
   have hv':=(Sp.valid_iff t d g m).1 h'.1
   have hd':=Sp.decl_of h'.2
   have u1:=Sp.up_bd (a:=n) (b:=e) (by omega) (by omega)
   have u2:=Sp.wob_bd (n:=n) (d:=e) (k:=k+m) (by omega) (by omega) (by omega) (by omega) (by omega) (by omega)
   rw[if_neg (show¬(Sp.boundE t d g m n e k j 0≠0) by omega)]
   repeat' (first|apply And.intro|intro _)
   all_goals omega
def r173:Cr PR:=K0 [r172,r170,r223] 173 6 {ps:=[(true,[.int .i64,.int .i64,.int .i64,.int .i64]),(true,hII),(false,hI),(false,hI)],rs:=[(false,hI),(false,hI)],pre:=fun _=>True,out:=fun a=>[[.i (Sp.demV (I a 0 0) (I a 0 1) (I a 0 2) (I a 0 3) (I a 1 0) (I a 1 1) (I a 2 0) (I a 3 0))],[.i (Sp.boundE (I a 0 0) (I a 0 1) (I a 0 2) (I a 0 3) (I a 1 0) (I a 1 1) (I a 2 0) (I a 3 0) 0)]]} U fun a=>Y (v173 (I a 0 0) (I a 0 1) (I a 0 2) (I a 0 3) (I a 1 0) (I a 1 1) (I a 2 0) (I a 3 0))
end Go.Sx

set_option linter.unusedVariables false
set_option linter.unusedSimpArgs false
set_option maxRecDepth 100000
set_option maxHeartbeats 4000000
namespace Go
open Go.Sx
def Sp.planM (k:Int):Int:=Sp.up (65536*k) (65536-k)
def Sp.planS (n e k j:Int):Int:=Sp.wob n e k+j+1
def Sp.planB (n e k j d g:Int):Int:=Sp.boundV 0 d g (Sp.planM k) n e k j (Sp.planS n e k j)
def Sp.planQ (n e k j d g:Int):Int:=Sp.demV 0 d g (Sp.planM k) n e k j+Sp.planB n e k j d g
def Sp.planE (n e k j d g:Int):Int:=if Sp.decl n e k j=false∨d<0∨65536<d∨g<1∨4096<g then 1 else if 4096<Sp.planM k then 2 else if 65536<Sp.planS n e k j∨65536<Sp.planQ n e k j d g+Sp.planB n e k j d g then 3 else 0
def Sp.planV (n e k j d g v:Int):Int:=if Sp.planE n e k j d g=0 then v else 0
end Go
namespace Go
open Go.Sx
theorem Sp.up_ge {a b:Int} (h1:1≤b):a≤Sp.up a b*b∧Sp.up a b*b≤a+b-1:=by
 unfold Sp.up
 have e:=Int.emod_add_mul_ediv (a+b-1) b
 have l:=Int.emod_lt_of_pos (a+b-1) (show 0<b by omega)
 have z:=Int.emod_nonneg (a+b-1) (show b≠0 by omega)
 rw[Int.mul_comm b]at e
 omega
theorem Sp.planM_bd {k:Int} (h0:0≤k) (h1:k≤4096):0≤Sp.planM k∧Sp.planM k≤300000000∧65536*k≤Sp.planM k*(65536-k):=by
 have a:=Sp.up_bd (a:=65536*k) (b:=65536-k) (by omega) (by omega)
 have b:=Sp.up_ge (a:=65536*k) (b:=65536-k) (by omega)
 unfold Sp.planM
 exact⟨a.1,by omega,b.1⟩
theorem Sp.planV_or (n e k j d g v:Int):(Sp.planE n e k j d g=0→Sp.planV n e k j d g v=v)∧(Sp.planE n e k j d g≠0→Sp.planV n e k j d g v=0):=by
 unfold Sp.planV
 constructor<;>intro h<;>simp[h]
theorem Sp.plan_in {n e k j d g:Int} (hd:Sp.decl n e k j=true) (h0:0≤d) (h1:d≤65536) (h2:1≤g) (h3:g≤4096):(4096<Sp.planM k→Sp.planE n e k j d g=2)∧
 (Sp.planM k≤4096→(65536<Sp.planS n e k j∨65536<Sp.planQ n e k j d g+Sp.planB n e k j d g→Sp.planE n e k j d g=3)∧(Sp.planS n e k j≤65536→Sp.planQ n e k j d g+Sp.planB n e k j d g≤65536→Sp.planE n e k j d g=0)∧
  (65536<Sp.planS n e k j→Sp.boundE 0 d g (Sp.planM k) n e k j (Sp.planS n e k j)=1∧Sp.planB n e k j d g=0)∧
  (Sp.planS n e k j≤65536→Sp.boundE 0 d g (Sp.planM k) n e k j (Sp.planS n e k j)=0)∧
  Sp.boundE 0 d g (Sp.planM k) n e k j 0=0∧0≤Sp.planB n e k j d g∧Sp.planB n e k j d g≤30000000000000000∧0≤Sp.planQ n e k j d g-Sp.planB n e k j d g∧Sp.planQ n e k j d g-Sp.planB n e k j d g≤30000000000000000)∧
 0≤Sp.planS n e k j∧Sp.planS n e k j≤20000000000000000∧0≤Sp.wob n e k∧Sp.wob n e k≤10000000000000000:=by
 have hd':=Sp.decl_of hd
 have m:=Sp.planM_bd (k:=k) (by omega) (by omega)
 have w:=Sp.wob_bd (n:=n) (d:=e) (k:=k) (by omega) (by omega) (by omega) (by omega) (by omega) (by omega)
 have hS:Sp.planS n e k j=Sp.wob n e k+j+1:=rfl
 refine⟨fun hM=> ?_,fun hM=> ?_,by omega,by omega,w.1,w.2⟩
 · unfold Sp.planE
   rw[if_neg (by simp only[hd]; simp; omega),if_pos hM]
 · have hv:Sp.valid 0 d g (Sp.planM k)=true:=by rw[Sp.valid_iff]; omega
   have w2:=Sp.wob_bd (n:=n) (d:=e) (k:=k+Sp.planM k) (by omega) (by omega) (by omega) (by omega) (by omega) (by omega)
   have u1:=Sp.up_bd (a:=Sp.planM k) (b:=g) (by omega) (by omega)
   have u2:=Sp.up_bd (a:=n) (b:=e) (by omega) (by omega)
   have b0:∀s,0≤s→s≤65536→Sp.boundE 0 d g (Sp.planM k) n e k j s=0:=fun s hs hs'=>by
    unfold Sp.boundE
    rw[if_neg (by simp only[hv,hd]; simp; omega),if_neg (by omega)]
   have b1:65536<Sp.planS n e k j→Sp.boundE 0 d g (Sp.planM k) n e k j (Sp.planS n e k j)=1:=fun hs=>by
    unfold Sp.boundE
    rw[if_pos (.inr (.inr (.inr hs)))]
   have hB1:65536<Sp.planS n e k j→Sp.planB n e k j d g=0:=fun hs=>by
    unfold Sp.planB Sp.boundV
    rw[if_pos (by rw[b1 hs]; omega)]
   have hB2:Sp.planS n e k j≤65536→Sp.planB n e k j d g=max (Sp.planS n e k j) (d+Sp.up (Sp.planM k) g)+Sp.wob n e (k+Sp.planM k)+2*j+2:=fun hs=>by
    unfold Sp.planB Sp.boundV
    rw[if_neg (by rw[b0 _ (by omega) hs]; omega)]
   have hQ:Sp.planQ n e k j d g-Sp.planB n e k j d g=Sp.up n e+Sp.wob n e (k+Sp.planM k)+2*j+3:=by
    unfold Sp.planQ Sp.demV
    rw[if_neg (by rw[b0 _ (by omega) (by omega)]; omega)]
    omega
   have hE:Sp.planE n e k j d g=if 65536<Sp.planS n e k j∨65536<Sp.planQ n e k j d g+Sp.planB n e k j d g then 3 else 0:=by
    unfold Sp.planE
    rw[if_neg (by simp only[hd]; simp; omega),if_neg (by omega)]
   refine⟨fun h=>by rw[hE,if_pos h],fun h h'=>by rw[hE,if_neg (by omega)],fun h=>⟨b1 h,hB1 h⟩,fun h=>b0 _ (by omega) h,b0 0 (by omega) (by omega),?_,?_,by omega,by omega⟩
   · omega
   · omega
theorem Sp.plan_out {n e k j d g:Int} (h:Sp.decl n e k j=false∨d<0∨65536<d∨g<1∨4096<g):Sp.planE n e k j d g=1:=by
 unfold Sp.planE
 rw[if_pos h]
end Go
namespace Go.Sx
def m100_0 (n:Int) (e:Int) (k:Int) (j:Int) (d:Int) (g:Int):Prop:=0=Sp.planV n e k j d g (Sp.planQ n e k j d g)∧0=Sp.planV n e k j d g d∧0=Sp.planV n e k j d g g∧0=Sp.planV n e k j d g (Sp.planM k)∧0=Sp.planV n e k j d g (Sp.planQ n e k j d g+Sp.planB n e k j d g)∧1=Sp.planE n e k j d g
def m100_1 (n:Int) (e:Int) (k:Int) (j:Int) (d:Int) (g:Int):Int:=(Sp.boundV 0 d g (Sp.up (iMul 65536 k) (iSub 65536 k)) n e k j (iAdd (iAdd (Sp.wob n e k) j) 1))
def m100_2 (k:Int):Int:=(Sp.up (iMul 65536 k) (iSub 65536 k))
def m100_3 (n:Int) (e:Int) (k:Int) (j:Int) (d:Int) (g:Int):Prop:=0=Sp.planV n e k j d g (Sp.planQ n e k j d g)∧0=Sp.planV n e k j d g d∧0=Sp.planV n e k j d g g∧0=Sp.planV n e k j d g (Sp.planM k)∧0=Sp.planV n e k j d g (Sp.planQ n e k j d g+Sp.planB n e k j d g)∧3=Sp.planE n e k j d g
theorem v100 (n:Int) (e:Int) (k:Int) (j:Int) (d:Int) (g:Int):InR .i64 n∧InR .i64 e∧InR .i64 k∧InR .i64 j∧InR .i64 d∧InR .i64 g→True∧True∧Cn (bNot (Sp.decl n e k j)) ((m100_0 n e k j d g)) (Cn (bLt d 0) ((m100_0 n e k j d g)) (Cn (bLt 65536 d) ((m100_0 n e k j d g)) (Cn (bLt g 1) ((m100_0 n e k j d g)) (Cn (bLt 4096 g) ((m100_0 n e k j d g)) (InR .i64 (iMul 65536 k)∧InR .i64 (iSub 65536 k)∧(0≤iMul 65536 k∧1≤iSub 65536 k∧iMul 65536 k+iSub 65536 k≤9223372036854775807)∧(InR .i64 (m100_2 k)→Cn (bLt 4096 (m100_2 k)) (0=Sp.planV n e k j d g (Sp.planQ n e k j d g)∧0=Sp.planV n e k j d g d∧0=Sp.planV n e k j d g g∧0=Sp.planV n e k j d g (Sp.planM k)∧0=Sp.planV n e k j d g (Sp.planQ n e k j d g+Sp.planB n e k j d g)∧2=Sp.planE n e k j d g) ((1≤n∧1≤e∧e≤768000∧n≤e*64*8192∧0≤k∧k≤8192)∧(InR .i64 (Sp.wob n e k)→InR .i64 (iAdd (Sp.wob n e k) j)∧InR .i64 (iAdd (iAdd (Sp.wob n e k) j) 1)∧True∧(InR .i64 (m100_1 n e k j d g)∧InR .i64 (Sp.boundE 0 d g (m100_2 k) n e k j (iAdd (iAdd (Sp.wob n e k) j) 1))→True∧(InR .i64 (Sp.demV 0 d g (m100_2 k) n e k j)∧InR .i64 (Sp.boundE 0 d g (m100_2 k) n e k j 0)→InR .i64 (iAdd (Sp.demV 0 d g (m100_2 k) n e k j) (m100_1 n e k j d g))∧Cn (bNe (Sp.boundE 0 d g (m100_2 k) n e k j (iAdd (iAdd (Sp.wob n e k) j) 1)) 0) ((m100_3 n e k j d g)) (Cn (bNe (Sp.boundE 0 d g (m100_2 k) n e k j 0) 0) ((m100_3 n e k j d g)) (InR .i64 (iAdd (iAdd (Sp.demV 0 d g (m100_2 k) n e k j) (m100_1 n e k j d g)) (m100_1 n e k j d g))∧Cn (bLt 65536 (iAdd (iAdd (Sp.demV 0 d g (m100_2 k) n e k j) (m100_1 n e k j d g)) (m100_1 n e k j d g))) ((m100_3 n e k j d g)) (InR .i64 (iAdd (iAdd (Sp.demV 0 d g (m100_2 k) n e k j) (m100_1 n e k j d g)) (m100_1 n e k j d g))∧iAdd (Sp.demV 0 d g (m100_2 k) n e k j) (m100_1 n e k j d g)=Sp.planV n e k j d g (Sp.planQ n e k j d g)∧d=Sp.planV n e k j d g d∧g=Sp.planV n e k j d g g∧Sp.up (iMul 65536 k) (iSub 65536 k)=Sp.planV n e k j d g (Sp.planM k)∧iAdd (iAdd (Sp.demV 0 d g (m100_2 k) n e k j) (m100_1 n e k j d g)) (m100_1 n e k j d g)=Sp.planV n e k j d g (Sp.planQ n e k j d g+Sp.planB n e k j d g)∧0=Sp.planE n e k j d g))))))))))))):=by
 intro hw
 simp only[Cn_iff,Sm_iff,true_and]
 have hp:True:=trivial
 delta m100_0 m100_1 m100_2 m100_3
 simp only[iAdd,iSub,iMul,bNot,bLt,bNe,decide_eq_true_eq,Bool.not_eq_true',decide_eq_false_iff_not,Bool.not_eq_false',and_true,true_and,true_implies]
 rw[show Sp.up (65536*k) (65536-k)=Sp.planM k from rfl,show Sp.wob n e k+j+1=Sp.planS n e k j from rfl,show Sp.boundV 0 d g (Sp.planM k) n e k j (Sp.planS n e k j)=Sp.planB n e k j d g from rfl]
 have q1:Sp.planQ n e k j d g=Sp.demV 0 d g (Sp.planM k) n e k j+Sp.planB n e k j d g:=rfl
 have o1:=Sp.planV_or n e k j d g (Sp.planQ n e k j d g)
 have o2:=Sp.planV_or n e k j d g d
 have o3:=Sp.planV_or n e k j d g g
 have o4:=Sp.planV_or n e k j d g (Sp.planM k)
 have o5:=Sp.planV_or n e k j d g (Sp.planQ n e k j d g+Sp.planB n e k j d g)
 have out:=Sp.plan_out (n:=n) (e:=e) (k:=k) (j:=j) (d:=d) (g:=g)
 have inn:=fun h=>Sp.plan_in (n:=n) (e:=e) (k:=k) (j:=j) (d:=d) (g:=g) h
 have dd:=Sp.decl_of (n:=n) (e:=e) (k:=k) (j:=j)
 have mm:=fun h0 h1=>Sp.planM_bd (k:=k) h0 h1
 generalize Sp.planV n e k j d g (Sp.planQ n e k j d g)=z1 at*
 generalize Sp.planV n e k j d g d=z2 at*
 generalize Sp.planV n e k j d g g=z3 at*
 generalize Sp.planV n e k j d g (Sp.planM k)=z4 at*
 generalize Sp.planV n e k j d g (Sp.planQ n e k j d g+Sp.planB n e k j d g)=z5 at*
 generalize Sp.planE n e k j d g=z6 at*
 generalize Sp.demV 0 d g (Sp.planM k) n e k j=z7 at*
 generalize Sp.boundE 0 d g (Sp.planM k) n e k j (Sp.planS n e k j)=z8 at*
 generalize Sp.boundE 0 d g (Sp.planM k) n e k j 0=z9 at*
 generalize Sp.planQ n e k j d g=y1 at*
 generalize Sp.planB n e k j d g=y2 at*
 have wS:Sp.planS n e k j=Sp.wob n e k+j+1:=rfl
 generalize Sp.planS n e k j=y3 at*
 generalize Sp.wob n e k=y4 at*
 generalize Sp.planM k=y5 at*
 clear hw hp
 simp only[InR]
 cases hd:Sp.decl n e k j
 · have out:=out (.inl hd)
   simp only[Bool.false_eq_true,Bool.true_eq_false,reduceCtorEq,false_implies,true_implies,and_true,true_and]
   omega
 · have dd:=dd hd
   have mm:=mm (by omega) (by omega)
   have hp:0≤d→d≤65536→1≤g→g≤4096→_:=inn hd
   simp only[hd,Bool.false_eq_true,Bool.true_eq_false,reduceCtorEq,false_or,false_implies,true_implies,and_true,true_and]at*
   repeat' (first|apply And.intro|intro _)
   all_goals (first|omega|(have:=hp (by omega) (by omega) (by omega) (by omega); omega))
def r100:Cr PR:=K0 [r163,r164,r160,r161,r162] 100 6 {ps:=[(true,hII),(false,hI),(false,hI),(false,hI),(false,hI)],rs:=[(true,[.int .i64,.int .i64,.int .i64,.int .i64]),(false,hI),(false,hI)],pre:=fun _=>True,out:=fun a=>[[.i (Sp.planV (I a 0 0) (I a 0 1) (I a 1 0) (I a 2 0) (I a 3 0) (I a 4 0) (Sp.planQ (I a 0 0) (I a 0 1) (I a 1 0) (I a 2 0) (I a 3 0) (I a 4 0))),.i (Sp.planV (I a 0 0) (I a 0 1) (I a 1 0) (I a 2 0) (I a 3 0) (I a 4 0) (I a 3 0)),.i (Sp.planV (I a 0 0) (I a 0 1) (I a 1 0) (I a 2 0) (I a 3 0) (I a 4 0) (I a 4 0)),.i (Sp.planV (I a 0 0) (I a 0 1) (I a 1 0) (I a 2 0) (I a 3 0) (I a 4 0) (Sp.planM (I a 1 0)))],[.i (Sp.planV (I a 0 0) (I a 0 1) (I a 1 0) (I a 2 0) (I a 3 0) (I a 4 0) (Sp.planQ (I a 0 0) (I a 0 1) (I a 1 0) (I a 2 0) (I a 3 0) (I a 4 0)+Sp.planB (I a 0 0) (I a 0 1) (I a 1 0) (I a 2 0) (I a 3 0) (I a 4 0)))],[.i (Sp.planE (I a 0 0) (I a 0 1) (I a 1 0) (I a 2 0) (I a 3 0) (I a 4 0))]]} U fun a=>Y (v100 (I a 0 0) (I a 0 1) (I a 1 0) (I a 2 0) (I a 3 0) (I a 4 0))
end Go.Sx
namespace Go.Sx
def m107_0 (n:Int) (e:Int) (k:Int) (j:Int) (d:Int) (g:Int):Prop:=0=Sp.planV n e k j d g (Sp.planQ n e k j d g)∧0=Sp.planV n e k j d g d∧0=Sp.planV n e k j d g g∧0=Sp.planV n e k j d g (Sp.planM k)∧0=Sp.planV n e k j d g (Sp.planQ n e k j d g+Sp.planB n e k j d g)∧1=Sp.planE n e k j d g
def m107_1 (n:Int) (e:Int) (k:Int) (j:Int) (d:Int) (g:Int):Int:=(Sp.boundV 0 d g (Sp.up (iMul 65536 k) (iSub 65536 k)) n e k j (iAdd (iAdd (Sp.wob n e k) j) 1))
def m107_2 (k:Int):Int:=(Sp.up (iMul 65536 k) (iSub 65536 k))
def m107_3 (n:Int) (e:Int) (k:Int) (j:Int) (d:Int) (g:Int):Prop:=0=Sp.planV n e k j d g (Sp.planQ n e k j d g)∧0=Sp.planV n e k j d g d∧0=Sp.planV n e k j d g g∧0=Sp.planV n e k j d g (Sp.planM k)∧0=Sp.planV n e k j d g (Sp.planQ n e k j d g+Sp.planB n e k j d g)∧3=Sp.planE n e k j d g
theorem v107 (n:Int) (e:Int) (k:Int) (j:Int) (d:Int) (g:Int):InR .i64 n∧InR .i64 e∧InR .i64 k∧InR .i64 j∧InR .i64 d∧InR .i64 g→True∧True∧Cn (bNot (Sp.decl n e k j)) ((m107_0 n e k j d g)) (Cn (bLt d 0) ((m107_0 n e k j d g)) (Cn (bLt 65536 d) ((m107_0 n e k j d g)) (Cn (bLt g 1) ((m107_0 n e k j d g)) (Cn (bLt 4096 g) ((m107_0 n e k j d g)) (InR .i64 (iMul 65536 k)∧InR .i64 (iSub 65536 k)∧(0≤iMul 65536 k∧1≤iSub 65536 k∧iMul 65536 k+iSub 65536 k≤9223372036854775807)∧(InR .i64 (m107_2 k)→Cn (bLt 4096 (m107_2 k)) (0=Sp.planV n e k j d g (Sp.planQ n e k j d g)∧0=Sp.planV n e k j d g d∧0=Sp.planV n e k j d g g∧0=Sp.planV n e k j d g (Sp.planM k)∧0=Sp.planV n e k j d g (Sp.planQ n e k j d g+Sp.planB n e k j d g)∧2=Sp.planE n e k j d g) ((1≤n∧1≤e∧e≤768000∧n≤e*64*8192∧0≤k∧k≤8192)∧(InR .i64 (Sp.wob n e k)→InR .i64 (iAdd (Sp.wob n e k) j)∧InR .i64 (iAdd (iAdd (Sp.wob n e k) j) 1)∧Cn (bLt 65536 (iAdd (iAdd (Sp.wob n e k) j) 1)) ((m107_3 n e k j d g)) (True∧(InR .i64 (m107_1 n e k j d g)∧InR .i64 (Sp.boundE 0 d g (m107_2 k) n e k j (iAdd (iAdd (Sp.wob n e k) j) 1))→True∧(InR .i64 (Sp.demV 0 d g (m107_2 k) n e k j)∧InR .i64 (Sp.boundE 0 d g (m107_2 k) n e k j 0)→InR .i64 (iMul 2 (m107_1 n e k j d g))∧InR .i64 (iAdd (Sp.demV 0 d g (m107_2 k) n e k j) (iMul 2 (m107_1 n e k j d g)))∧Cn (bLt 65536 (iAdd (Sp.demV 0 d g (m107_2 k) n e k j) (iMul 2 (m107_1 n e k j d g)))) ((m107_3 n e k j d g)) (InR .i64 (iAdd (Sp.demV 0 d g (m107_2 k) n e k j) (m107_1 n e k j d g))∧InR .i64 (iAdd (iAdd (Sp.demV 0 d g (m107_2 k) n e k j) (m107_1 n e k j d g)) (m107_1 n e k j d g))∧iAdd (Sp.demV 0 d g (m107_2 k) n e k j) (m107_1 n e k j d g)=Sp.planV n e k j d g (Sp.planQ n e k j d g)∧d=Sp.planV n e k j d g d∧g=Sp.planV n e k j d g g∧Sp.up (iMul 65536 k) (iSub 65536 k)=Sp.planV n e k j d g (Sp.planM k)∧iAdd (iAdd (Sp.demV 0 d g (m107_2 k) n e k j) (m107_1 n e k j d g)) (m107_1 n e k j d g)=Sp.planV n e k j d g (Sp.planQ n e k j d g+Sp.planB n e k j d g)∧0=Sp.planE n e k j d g)))))))))))):=by
 intro hw
 simp only[Cn_iff,Sm_iff,true_and]
 have hp:True:=trivial
 delta m107_0 m107_1 m107_2 m107_3
 simp only[iAdd,iSub,iMul,bNot,bLt,bNe,decide_eq_true_eq,Bool.not_eq_true',decide_eq_false_iff_not,Bool.not_eq_false',and_true,true_and,true_implies]
 rw[show Sp.up (65536*k) (65536-k)=Sp.planM k from rfl,show Sp.wob n e k+j+1=Sp.planS n e k j from rfl,show Sp.boundV 0 d g (Sp.planM k) n e k j (Sp.planS n e k j)=Sp.planB n e k j d g from rfl]
 have q1:Sp.planQ n e k j d g=Sp.demV 0 d g (Sp.planM k) n e k j+Sp.planB n e k j d g:=rfl
 have o1:=Sp.planV_or n e k j d g (Sp.planQ n e k j d g)
 have o2:=Sp.planV_or n e k j d g d
 have o3:=Sp.planV_or n e k j d g g
 have o4:=Sp.planV_or n e k j d g (Sp.planM k)
 have o5:=Sp.planV_or n e k j d g (Sp.planQ n e k j d g+Sp.planB n e k j d g)
 have out:=Sp.plan_out (n:=n) (e:=e) (k:=k) (j:=j) (d:=d) (g:=g)
 have inn:=fun h=>Sp.plan_in (n:=n) (e:=e) (k:=k) (j:=j) (d:=d) (g:=g) h
 have dd:=Sp.decl_of (n:=n) (e:=e) (k:=k) (j:=j)
 have mm:=fun h0 h1=>Sp.planM_bd (k:=k) h0 h1
 generalize Sp.planV n e k j d g (Sp.planQ n e k j d g)=z1 at*
 generalize Sp.planV n e k j d g d=z2 at*
 generalize Sp.planV n e k j d g g=z3 at*
 generalize Sp.planV n e k j d g (Sp.planM k)=z4 at*
 generalize Sp.planV n e k j d g (Sp.planQ n e k j d g+Sp.planB n e k j d g)=z5 at*
 generalize Sp.planE n e k j d g=z6 at*
 generalize Sp.demV 0 d g (Sp.planM k) n e k j=z7 at*
 generalize Sp.boundE 0 d g (Sp.planM k) n e k j (Sp.planS n e k j)=z8 at*
 generalize Sp.boundE 0 d g (Sp.planM k) n e k j 0=z9 at*
 generalize Sp.planQ n e k j d g=y1 at*
 generalize Sp.planB n e k j d g=y2 at*
 have wS:Sp.planS n e k j=Sp.wob n e k+j+1:=rfl
 generalize Sp.planS n e k j=y3 at*
 generalize Sp.wob n e k=y4 at*
 generalize Sp.planM k=y5 at*
 clear hw hp
 simp only[InR]
 cases hd:Sp.decl n e k j
 · have out:=out (.inl hd)
   simp only[Bool.false_eq_true,Bool.true_eq_false,reduceCtorEq,false_implies,true_implies,and_true,true_and]
   omega
 · have dd:=dd hd
   have mm:=mm (by omega) (by omega)
   have hp:0≤d→d≤65536→1≤g→g≤4096→_:=inn hd
   simp only[hd,Bool.false_eq_true,Bool.true_eq_false,reduceCtorEq,false_or,false_implies,true_implies,and_true,true_and]at*
   repeat' (first|apply And.intro|intro _)
   all_goals (first|omega|(have:=hp (by omega) (by omega) (by omega) (by omega); omega))
def r107:Cr PR:=K0 [r172,r173,r169,r170,r223] 107 6 {ps:=[(true,hII),(false,hI),(false,hI),(false,hI),(false,hI)],rs:=[(true,[.int .i64,.int .i64,.int .i64,.int .i64]),(false,hI),(false,hI)],pre:=fun _=>True,out:=fun a=>[[.i (Sp.planV (I a 0 0) (I a 0 1) (I a 1 0) (I a 2 0) (I a 3 0) (I a 4 0) (Sp.planQ (I a 0 0) (I a 0 1) (I a 1 0) (I a 2 0) (I a 3 0) (I a 4 0))),.i (Sp.planV (I a 0 0) (I a 0 1) (I a 1 0) (I a 2 0) (I a 3 0) (I a 4 0) (I a 3 0)),.i (Sp.planV (I a 0 0) (I a 0 1) (I a 1 0) (I a 2 0) (I a 3 0) (I a 4 0) (I a 4 0)),.i (Sp.planV (I a 0 0) (I a 0 1) (I a 1 0) (I a 2 0) (I a 3 0) (I a 4 0) (Sp.planM (I a 1 0)))],[.i (Sp.planV (I a 0 0) (I a 0 1) (I a 1 0) (I a 2 0) (I a 3 0) (I a 4 0) (Sp.planQ (I a 0 0) (I a 0 1) (I a 1 0) (I a 2 0) (I a 3 0) (I a 4 0)+Sp.planB (I a 0 0) (I a 0 1) (I a 1 0) (I a 2 0) (I a 3 0) (I a 4 0)))],[.i (Sp.planE (I a 0 0) (I a 0 1) (I a 1 0) (I a 2 0) (I a 3 0) (I a 4 0))]]} U fun a=>Y (v107 (I a 0 0) (I a 0 1) (I a 1 0) (I a 2 0) (I a 3 0) (I a 4 0))
end Go.Sx

