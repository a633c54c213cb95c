import Derived.Test.YthflbgeplmecoaaGreatSxUse
import Derived.Test.YthflbgeplmecoaaGreatM13
import Derived.Test.YthflbgeplmecoaaGreatSxBits
set_option linter.unusedVariables false
set_option linter.unusedSimpArgs false
set_option maxRecDepth 100000
set_option maxHeartbeats 4000000
namespace Go
open Go.Sx
def Sp.valid (t d g m:Int):Bool:=decide (0≤t∧t≤65536∧0≤d∧d≤65536∧1≤g∧g≤4096∧0≤m∧m≤4096)
def Sp.adjust (t d g m n:Int):Int:=if Sp.valid t d g m=false∨n<0∨2147483647<n then 0 else if n<t then-(min m (max 0 (t-n-d)*g))else min m (max 0 (n-t-d)*g)
end Go
namespace Go.Sx
theorem v166 (t:Int) (d:Int) (g:Int) (m:Int):InR .i64 t∧InR .i64 d∧InR .i64 g∧InR .i64 m→Cn (bLe 0 t) (Cn (bLe t 65536) (Cn (bLe 0 d) (Cn (bLe d 65536) (Cn (bLe 1 g) (Cn (bLe g 4096) (Cn (bLe 0 m) (bLe m 4096=Sp.valid t d g m) (false=Sp.valid t d g m)) (false=Sp.valid t d g m)) (false=Sp.valid t d g m)) (false=Sp.valid t d g m)) (false=Sp.valid t d g m)) (false=Sp.valid t d g m)) (false=Sp.valid t d g m):=by
 intro hw
 simp only[Cn_iff,Sm_iff,true_and]
 simp only[bLe,decide_eq_true_eq,decide_eq_false_iff_not,Sp.valid,and_true]
 repeat' (first|apply And.intro|intro _)
 all_goals (first|(simp only[decide_eq_decide]; omega)|(symm; simp only[decide_eq_false_iff_not]; omega))
def r166:Cr PR:=K0 [] 166 6 {ps:=[(true,[.int .i64,.int .i64,.int .i64,.int .i64])],rs:=[(false,[.bool])],pre:=fun _=>True,out:=fun a=>[[.b (Sp.valid (I a 0 0) (I a 0 1) (I a 0 2) (I a 0 3))]]} U fun a=>Y (v166 (I a 0 0) (I a 0 1) (I a 0 2) (I a 0 3))
end Go.Sx
namespace Go.Sx
theorem v119 (t:Int) (d:Int) (g:Int) (m:Int):InR .i64 t∧InR .i64 d∧InR .i64 g∧InR .i64 m→Cn (bLe 0 t) (Cn (bLe t 65536) (Cn (bLe 0 d) (Cn (bLe d 65536) (Cn (bLe 1 g) (Cn (bLe g 4096) (Cn (bLe 0 m) (bLe m 4096=Sp.valid t d g m) (false=Sp.valid t d g m)) (false=Sp.valid t d g m)) (false=Sp.valid t d g m)) (false=Sp.valid t d g m)) (false=Sp.valid t d g m)) (false=Sp.valid t d g m)) (false=Sp.valid t d g m):=by
 intro hw
 simp only[Cn_iff,Sm_iff,true_and]
 simp only[bLe,decide_eq_true_eq,decide_eq_false_iff_not,Sp.valid,and_true]
 repeat' (first|apply And.intro|intro _)
 all_goals (first|(simp only[decide_eq_decide]; omega)|(symm; simp only[decide_eq_false_iff_not]; omega))
def r119:Cr PR:=K0 [] 119 6 {ps:=[(true,[.int .i64,.int .i64,.int .i64,.int .i64])],rs:=[(false,[.bool])],pre:=fun _=>True,out:=fun a=>[[.b (Sp.valid (I a 0 0) (I a 0 1) (I a 0 2) (I a 0 3))]]} U fun a=>Y (v119 (I a 0 0) (I a 0 1) (I a 0 2) (I a 0 3))
end Go.Sx
namespace Go
theorem Sp.valid_iff (t d g m:Int):Sp.valid t d g m=true↔0≤t∧t≤65536∧0≤d∧d≤65536∧1≤g∧g≤4096∧0≤m∧m≤4096:=by simp[Sp.valid]
theorem Sp.gain {t d g m x:Int} (h:Sp.valid t d g m=true) (h1:0≤x) (h2:x≤4294967296):0≤x*g∧x*g≤4294967296*4096:=by
 rw[Sp.valid_iff]at h
 exact Go.Sx.mul_bd h1 h2 (by omega) (by omega)
end Go
namespace Go.Sx
theorem v187 (t:Int) (d:Int) (g:Int) (m:Int) (n:Int):InR .i64 t∧InR .i64 d∧InR .i64 g∧InR .i64 m∧InR .i64 n→True∧True∧Cn (bNot (Sp.valid t d g m)) (0=Sp.adjust t d g m n) (Cn (bLt n 0) (0=Sp.adjust t d g m n) (Cn (bLt 2147483647 n) (0=Sp.adjust t d g m n) (Cn (bLt n t) (InR .i64 (iSub t n)∧InR .i64 (iSub (iSub t n) d)∧InR .i64 (iMul (iMax 0 (iSub (iSub t n) d)) g)∧InR .i64 (iSub 0 (iMin m (iMul (iMax 0 (iSub (iSub t n) d)) g)))∧iSub 0 (iMin m (iMul (iMax 0 (iSub (iSub t n) d)) g))=Sp.adjust t d g m n) (InR .i64 (iSub n t)∧InR .i64 (iSub (iSub n t) d)∧InR .i64 (iMul (iMax 0 (iSub (iSub n t) d)) g)∧iMin m (iMul (iMax 0 (iSub (iSub n t) d)) g)=Sp.adjust t d g m n)))):=by
 intro hw
 simp only[Cn_iff,Sm_iff,true_and]
 simp only[iAdd,iSub,iMul,iQuo,iRem,iMin,iMax,bEq,bNe,bLt,bLe,bNot,InR,pIn,pNe,pLe,decide_eq_true_eq,decide_eq_false_iff_not,Bool.not_eq_true',Bool.not_eq_false',true_and,and_true]at*
 skip
 simp only[true_implies,Sp.adjust]
 refine⟨fun hv=> ?_,fun hv=>⟨fun h1=> ?_,fun h1=>⟨fun h2=> ?_,fun h2=>⟨fun h3=> ?_,fun h3=> ?_⟩⟩⟩⟩
 · rw[if_pos (by simp[hv])]
 · rw[if_pos (by simp[hv]; omega)]
 · rw[if_pos (by simp[hv]; omega)]
 · have hb:=Sp.gain (x:=max 0 (t-n-d)) hv (by omega) (by rw[Sp.valid_iff]at hv; omega)
   have hf:¬(Sp.valid t d g m=false∨n<0∨2147483647<n):=by simp only[hv]; simp; omega
   rw[if_neg hf,if_pos h3]
   rw[Sp.valid_iff]at hv
   omega
 · have hb:=Sp.gain (x:=max 0 (n-t-d)) hv (by omega) (by rw[Sp.valid_iff]at hv; omega)
   have hf:¬(Sp.valid t d g m=false∨n<0∨2147483647<n):=by simp only[hv]; simp; omega
   rw[if_neg hf,if_neg (by omega)]
   rw[Sp.valid_iff]at hv
   omega
def r187:Cr PR:=K0 [r166] 187 6 {ps:=[(true,[.int .i64,.int .i64,.int .i64,.int .i64]),(false,hI)],rs:=[(false,hI)],pre:=fun _=>True,out:=fun a=>[[.i (Sp.adjust (I a 0 0) (I a 0 1) (I a 0 2) (I a 0 3) (I a 1 0))]]} U fun a=>Y (v187 (I a 0 0) (I a 0 1) (I a 0 2) (I a 0 3) (I a 1 0))
end Go.Sx
namespace Go.Sx
end Go.Sx

set_option linter.unusedVariables false
set_option linter.unusedSimpArgs false
set_option maxRecDepth 100000
set_option maxHeartbeats 4000000
namespace Go
open Go.Sx
def Sp.poss (n d:Int):Bool:=Sp.rvalid n d&&decide (d≤768000∧d≤n*64∧n≤d*64*8192)
def Sp.decl (n d k j:Int):Bool:=Sp.poss n d&&decide (0≤k∧k≤4096∧0≤j∧j≤65536)
def Sp.up (a b:Int):Int:=(a+b-1)/b
def Sp.wob (n d k:Int):Int:=Sp.up (2*k*n) (65536*d)
end Go
namespace Go.Sx
theorem v220 (n:Int) (d:Int):InR .i64 n∧InR .i64 d→True∧Cn (Sp.rvalid n d) (Cn (bLe d 768000) (InR .i64 (iMul n 64)∧Cn (bLe d (iMul n 64)) (InR .i64 (iMul d 64)∧InR .i64 (iMul (iMul d 64) 8192)∧bLe n (iMul (iMul d 64) 8192)=Sp.poss n d) (false=Sp.poss n d)) (false=Sp.poss n d)) (false=Sp.poss n d):=by
 intro hw
 simp only[Cn_iff,Sm_iff,true_and]
 simp only[bLe,bEq,iMul,InR,decide_eq_true_eq,decide_eq_false_iff_not,Sp.poss,and_true]
 have hv:Sp.rvalid n d=true→1≤n∧1≤d∧n≤68719476736∧d≤68719476736:=fun h=>by simp[Sp.rvalid]at h; omega
 cases hr:Sp.rvalid n d
 · simp
 · have hv:=hv hr
   simp only[Bool.true_and,Bool.true_eq_false,false_implies,true_implies,and_true,true_and]
   repeat' (first|apply And.intro|intro _)
   all_goals (first|omega|(simp only[decide_eq_decide]; omega)|(symm; simp only[decide_eq_false_iff_not]; omega))
def r220:Cr PR:=K0 [r144] 220 6 {ps:=[(true,hII)],rs:=[(false,[.bool])],pre:=fun _=>True,out:=fun a=>[[.b (Sp.poss (I a 0 0) (I a 0 1))]]} U fun a=>Y (v220 (I a 0 0) (I a 0 1))
end Go.Sx
namespace Go.Sx
theorem v178 (n:Int) (d:Int):InR .i64 n∧InR .i64 d→True∧Cn (Sp.rvalid n d) (Cn (bLe d 768000) (InR .i64 (iMul 64 n)∧Cn (bLe d (iMul 64 n)) (InR .i64 (iMul 524288 d)∧bLe n (iMul 524288 d)=Sp.poss n d) (false=Sp.poss n d)) (false=Sp.poss n d)) (false=Sp.poss n d):=by
 intro hw
 simp only[Cn_iff,Sm_iff,true_and]
 simp only[bLe,bEq,iMul,InR,decide_eq_true_eq,decide_eq_false_iff_not,Sp.poss,and_true]
 have hv:Sp.rvalid n d=true→1≤n∧1≤d∧n≤68719476736∧d≤68719476736:=fun h=>by simp[Sp.rvalid]at h; omega
 cases hr:Sp.rvalid n d
 · simp
 · have hv:=hv hr
   simp only[Bool.true_and,Bool.true_eq_false,false_implies,true_implies,and_true,true_and]
   repeat' (first|apply And.intro|intro _)
   all_goals (first|omega|(simp only[decide_eq_decide]; omega)|(symm; simp only[decide_eq_false_iff_not]; omega))
def r178:Cr PR:=K0 [r76] 178 6 {ps:=[(true,hII)],rs:=[(false,[.bool])],pre:=fun _=>True,out:=fun a=>[[.b (Sp.poss (I a 0 0) (I a 0 1))]]} U fun a=>Y (v178 (I a 0 0) (I a 0 1))
end Go.Sx
namespace Go.Sx
theorem v160 (n:Int) (d:Int) (k:Int) (j:Int):InR .i64 n∧InR .i64 d∧InR .i64 k∧InR .i64 j→True∧Cn (Sp.poss n d) (Cn (bLe 0 k) (Cn (bLe k 4096) (Cn (bLe 0 j) (bLe j 65536=Sp.decl n d k j) (false=Sp.decl n d k j)) (false=Sp.decl n d k j)) (false=Sp.decl n d k j)) (false=Sp.decl n d k j):=by
 intro hw
 simp only[Cn_iff,Sm_iff,true_and]
 simp only[bLe,bEq,decide_eq_true_eq,decide_eq_false_iff_not,Sp.decl,and_true]
 cases hr:Sp.poss n d
 · simp
 · simp only[Bool.true_and,Bool.true_eq_false,false_implies,true_implies,and_true,true_and]
   repeat' (first|apply And.intro|intro _)
   all_goals (first|omega|(simp only[decide_eq_decide]; omega)|(symm; simp only[decide_eq_false_iff_not]; omega))
def r160:Cr PR:=K0 [r220] 160 6 {ps:=[(true,hII),(false,hI),(false,hI)],rs:=[(false,[.bool])],pre:=fun _=>True,out:=fun a=>[[.b (Sp.decl (I a 0 0) (I a 0 1) (I a 1 0) (I a 2 0))]]} U fun a=>Y (v160 (I a 0 0) (I a 0 1) (I a 1 0) (I a 2 0))
end Go.Sx
namespace Go.Sx
theorem v169 (n:Int) (d:Int) (k:Int) (j:Int):InR .i64 n∧InR .i64 d∧InR .i64 k∧InR .i64 j→True∧Cn (Sp.poss n d) (Cn (bLe 0 k) (Cn (bLe k 4096) (Cn (bLe 0 j) (bLe j 65536=Sp.decl n d k j) (false=Sp.decl n d k j)) (false=Sp.decl n d k j)) (false=Sp.decl n d k j)) (false=Sp.decl n d k j):=by
 intro hw
 simp only[Cn_iff,Sm_iff,true_and]
 simp only[bLe,bEq,decide_eq_true_eq,decide_eq_false_iff_not,Sp.decl,and_true]
 cases hr:Sp.poss n d
 · simp
 · simp only[Bool.true_and,Bool.true_eq_false,false_implies,true_implies,and_true,true_and]
   repeat' (first|apply And.intro|intro _)
   all_goals (first|omega|(simp only[decide_eq_decide]; omega)|(symm; simp only[decide_eq_false_iff_not]; omega))
def r169:Cr PR:=K0 [r178] 169 6 {ps:=[(true,hII),(false,hI),(false,hI)],rs:=[(false,[.bool])],pre:=fun _=>True,out:=fun a=>[[.b (Sp.decl (I a 0 0) (I a 0 1) (I a 1 0) (I a 2 0))]]} U fun a=>Y (v169 (I a 0 0) (I a 0 1) (I a 1 0) (I a 2 0))
end Go.Sx
namespace Go.Sx
theorem v161 (p:Int) (q:Int):InR .i64 p∧InR .i64 q→0≤p∧1≤q∧p+q≤9223372036854775807→InR .i64 (iAdd p q)∧InR .i64 (iSub (iAdd p q) 1)∧(pNe q 0∧InR .i64 (iQuo (iSub (iAdd p q) 1) q))∧iQuo (iSub (iAdd p q) 1) q=Sp.up p q:=by
 intro hw hp
 simp only[iAdd,iSub,iQuo,InR,pNe,Sp.up,and_true]
 have e:(p+q-1).tdiv q=(p+q-1)/q:=Int.tdiv_eq_ediv_of_nonneg (by omega)
 rw[e]
 have h0:0≤(p+q-1)/q:=Int.ediv_nonneg (by omega) (by omega)
 have h1:(p+q-1)/q≤p+q-1:=Int.ediv_le_self _ (by omega)
 omega
def r161:Cr PR:=K [] 161 6 {ps:=[(false,hI),(false,hI)],rs:=[(false,hI)],pre:=fun a=>0≤(I a 0 0)∧1≤(I a 1 0)∧(I a 0 0)+(I a 1 0)≤9223372036854775807,out:=fun a=>[[.i (Sp.up (I a 0 0) (I a 1 0))]]} U fun a=>Y (v161 (I a 0 0) (I a 1 0))
end Go.Sx
namespace Go.Sx
theorem v170 (p:Int) (q:Int):InR .i64 p∧InR .i64 q→0≤p∧1≤q∧p+q≤9223372036854775807→InR .i64 (iAdd p q)∧InR .i64 (iSub (iAdd p q) 1)∧(pNe q 0∧InR .i64 (iQuo (iSub (iAdd p q) 1) q))∧iQuo (iSub (iAdd p q) 1) q=Sp.up p q:=by
 intro hw hp
 simp only[iAdd,iSub,iQuo,InR,pNe,Sp.up,and_true]
 have e:(p+q-1).tdiv q=(p+q-1)/q:=Int.tdiv_eq_ediv_of_nonneg (by omega)
 rw[e]
 have h0:0≤(p+q-1)/q:=Int.ediv_nonneg (by omega) (by omega)
 have h1:(p+q-1)/q≤p+q-1:=Int.ediv_le_self _ (by omega)
 omega
def r170:Cr PR:=K [] 170 6 {ps:=[(false,hI),(false,hI)],rs:=[(false,hI)],pre:=fun a=>0≤(I a 0 0)∧1≤(I a 1 0)∧(I a 0 0)+(I a 1 0)≤9223372036854775807,out:=fun a=>[[.i (Sp.up (I a 0 0) (I a 1 0))]]} U fun a=>Y (v170 (I a 0 0) (I a 1 0))
end Go.Sx
namespace Go.Sx
theorem v162 (n:Int) (d:Int) (k:Int):InR .i64 n∧InR .i64 d∧InR .i64 k→1≤n∧1≤d∧d≤768000∧n≤d*64*8192∧0≤k∧k≤8192→InR .i64 (iMul 2 k)∧InR .i64 (iMul (iMul 2 k) n)∧InR .i64 (iMul 65536 d)∧(0≤iMul (iMul 2 k) n∧1≤iMul 65536 d∧iMul (iMul 2 k) n+iMul 65536 d≤9223372036854775807)∧(InR .i64 (Sp.up (iMul (iMul 2 k) n) (iMul 65536 d))→Sp.up (iMul (iMul 2 k) n) (iMul 65536 d)=Sp.wob n d k):=by
 intro hw hp
 simp only[iMul,InR,Sp.wob,and_true]
 have hb:=mul_bd (x:=2*k) (X:=16384) (y:=n) (Y:=402653184000) (by omega) (by omega) (by omega) (by omega)
 exact⟨by omega,by omega,by omega,by omega,fun _=>by first|trivial|rfl⟩
def r162:Cr PR:=K [r161] 162 6 {ps:=[(true,hII),(false,hI)],rs:=[(false,hI)],pre:=fun a=>1≤(I a 0 0)∧1≤(I a 0 1)∧(I a 0 1)≤768000∧(I a 0 0)≤(I a 0 1)*64*8192∧0≤(I a 1 0)∧(I a 1 0)≤8192,out:=fun a=>[[.i (Sp.wob (I a 0 0) (I a 0 1) (I a 1 0))]]} U fun a=>Y (v162 (I a 0 0) (I a 0 1) (I a 1 0))
end Go.Sx
namespace Go.Sx
theorem v223 (n:Int) (d:Int) (k:Int):InR .i64 n∧InR .i64 d∧InR .i64 k→1≤n∧1≤d∧d≤768000∧n≤d*64*8192∧0≤k∧k≤8192→InR .i64 (iMul 2 n)∧InR .i64 (iMul (iMul 2 n) k)∧InR .i64 (iMul d 65536)∧(0≤iMul (iMul 2 n) k∧1≤iMul d 65536∧iMul (iMul 2 n) k+iMul d 65536≤9223372036854775807)∧(InR .i64 (Sp.up (iMul (iMul 2 n) k) (iMul d 65536))→Sp.up (iMul (iMul 2 n) k) (iMul d 65536)=Sp.wob n d k):=by
 intro hw hp
 simp only[iMul,InR,Sp.wob,and_true]
 have hb:=mul_bd (x:=2*k) (X:=16384) (y:=n) (Y:=402653184000) (by omega) (by omega) (by omega) (by omega)
 rw[Int.mul_right_comm 2 n k,Int.mul_comm d 65536]
 exact⟨by omega,by omega,by omega,by omega,fun _=>by first|trivial|rfl⟩
def r223:Cr PR:=K [r170] 223 6 {ps:=[(true,hII),(false,hI)],rs:=[(false,hI)],pre:=fun a=>1≤(I a 0 0)∧1≤(I a 0 1)∧(I a 0 1)≤768000∧(I a 0 0)≤(I a 0 1)*64*8192∧0≤(I a 1 0)∧(I a 1 0)≤8192,out:=fun a=>[[.i (Sp.wob (I a 0 0) (I a 0 1) (I a 1 0))]]} U fun a=>Y (v223 (I a 0 0) (I a 0 1) (I a 1 0))
end Go.Sx
namespace Go
open Go.Sx
def Sp.boundE (t d g m n e k j s:Int):Int:=if Sp.valid t d g m=false∨Sp.decl n e k j=false∨s<0∨65536<s then 1 else if m*(65536-k)<65536*k then 11 else 0
def Sp.boundV (t d g m n e k j s:Int):Int:=if Sp.boundE t d g m n e k j s≠0 then 0 else max s (d+Sp.up m g)+Sp.wob n e (k+m)+2*j+2
def Sp.demV (t d g m n e k j:Int):Int:=if Sp.boundE t d g m n e k j 0≠0 then 0 else Sp.up n e+Sp.wob n e (k+m)+2*j+3
end Go
namespace Go
open Go.Sx
theorem Sp.decl_of {n e k j:Int} (h:Sp.decl n e k j=true):1≤n∧1≤e∧n≤68719476736∧e≤768000∧n≤e*64*8192∧0≤k∧k≤4096∧0≤j∧j≤65536:=by
 simp only[Sp.decl,Sp.poss,Sp.rvalid,Bool.and_eq_true,decide_eq_true_eq]at h
 omega
theorem Sp.up_bd {a b:Int} (h0:0≤a) (h1:1≤b):0≤Sp.up a b∧Sp.up a b≤a+b-1:=
 ⟨Int.ediv_nonneg (by omega) (by omega),Int.ediv_le_self _ (by omega)⟩
theorem Sp.wob_bd {n d k:Int} (h0:1≤n) (h1:1≤d) (h2:d≤768000) (h3:n≤d*64*8192) (h4:0≤k) (h5:k≤8192):0≤Sp.wob n d k∧Sp.wob n d k≤10000000000000000:=by
 have hb:=mul_bd (x:=2*k) (X:=16384) (y:=n) (Y:=402653184000) (by omega) (by omega) (by omega) (by omega)
 have:=Sp.up_bd (a:=2*k*n) (b:=65536*d) (by omega) (by omega)
 unfold Sp.wob; omega
end Go
namespace Go.Sx
theorem v163 (t:Int) (d:Int) (g:Int) (m:Int) (n:Int) (e:Int) (k:Int) (j:Int) (s:Int):InR .i64 t∧InR .i64 d∧InR .i64 g∧InR .i64 m∧InR .i64 n∧InR .i64 e∧InR .i64 k∧InR .i64 j∧InR .i64 s→True∧True∧Cn (bNot (Sp.valid t d g m)) (0=Sp.boundV t d g m n e k j s∧1=Sp.boundE t d g m n e k j s) (True∧True∧Cn (bNot (Sp.decl n e k j)) (0=Sp.boundV t d g m n e k j s∧1=Sp.boundE t d g m n e k j s) (Cn (bLt s 0) (0=Sp.boundV t d g m n e k j s∧1=Sp.boundE t d g m n e k j s) (Cn (bLt 65536 s) (0=Sp.boundV t d g m n e k j s∧1=Sp.boundE t d g m n e k j s) (InR .i64 (iSub 65536 k)∧InR .i64 (iMul m (iSub 65536 k))∧InR .i64 (iMul 65536 k)∧Cn (bLt (iMul m (iSub 65536 k)) (iMul 65536 k)) (0=Sp.boundV t d g m n e k j s∧11=Sp.boundE t d g m n e k j s) ((0≤m∧1≤g∧m+g≤9223372036854775807)∧(InR .i64 (Sp.up m g)→InR .i64 (iAdd d (Sp.up m g))∧InR .i64 (iAdd k m)∧(1≤n∧1≤e∧e≤768000∧n≤e*64*8192∧0≤iAdd k m∧iAdd k m≤8192)∧(InR .i64 (Sp.wob n e (iAdd k m))→InR .i64 (iAdd (iMax s (iAdd d (Sp.up m g))) (Sp.wob n e (iAdd k m)))∧InR .i64 (iMul 2 j)∧InR .i64 (iAdd (iAdd (iMax s (iAdd d (Sp.up m g))) (Sp.wob n e (iAdd k m))) (iMul 2 j))∧InR .i64 (iAdd (iAdd (iAdd (iMax s (iAdd d (Sp.up m g))) (Sp.wob n e (iAdd k m))) (iMul 2 j)) 2)∧iAdd (iAdd (iAdd (iMax s (iAdd d (Sp.up m g))) (Sp.wob n e (iAdd k m))) (iMul 2 j)) 2=Sp.boundV t d g m n e k j s∧0=Sp.boundE t d g m n e k j s))))))):=by
 intro hw
 simp only[Cn_iff,Sm_iff,true_and]
 simp only[iAdd,iSub,iMul,iMax,bNot,bLt,InR,decide_eq_true_eq,decide_eq_false_iff_not,Bool.not_eq_true',Bool.not_eq_false',and_true,true_and,true_implies]
 by_cases hv:Sp.valid t d g m=true
 · by_cases hd:Sp.decl n e k j=true
   · have hv':=(Sp.valid_iff t d g m).1 hv
     have hd':=Sp.decl_of hd
     have u1:=Sp.up_bd (a:=m) (b:=g) (by omega) (by omega)
     have u2:=Sp.wob_bd (n:=n) (d:=e) (k:=k+m) (by omega) (by omega) (by omega) (by omega) (by omega) (by omega)
     have u3:=mul_bd (x:=m) (X:=4096) (y:=65536-k) (Y:=65536) (by omega) (by omega) (by omega) (by omega)
     have e1:Sp.boundE t d g m n e k j s=if s<0∨65536<s then 1 else if m*(65536-k)<65536*k then 11 else 0:=by unfold Sp.boundE; simp[hv,hd]
     have e2:Sp.boundV t d g m n e k j s=if Sp.boundE t d g m n e k j s≠0 then 0 else max s (d+Sp.up m g)+Sp.wob n e (k+m)+2*j+2:=rfl
     simp only[hv,hd,e2,e1,Bool.true_eq_false,false_implies,true_implies,and_true,true_and]
     clear hv hd hw e1 e2
     generalize Sp.up m g=uu at*
     generalize Sp.wob n e (k+m)=ww at*
     generalize m*(65536-k)=pp at*
     repeat' (first|apply And.intro|intro _)
     all_goals (first|omega|(split<;>omega))
   · have hd:Sp.decl n e k j=false:=by simpa using hd
     have e1:Sp.boundE t d g m n e k j s=1:=by unfold Sp.boundE; simp[hd]
     have e2:Sp.boundV t d g m n e k j s=0:=by unfold Sp.boundV; simp[e1]
     simp[hv,hd,e1,e2]
 · have hv:Sp.valid t d g m=false:=by simpa using hv
   have e1:Sp.boundE t d g m n e k j s=1:=by unfold Sp.boundE; simp[hv]
   have e2:Sp.boundV t d g m n e k j s=0:=by unfold Sp.boundV; simp[e1]
   simp[hv,e1,e2]
def r163:Cr PR:=K0 [r166,r160,r161,r162] 163 6 {ps:=[(true,[.int .i64,.int .i64,.int .i64,.int .i64]),(true,hII),(false,hI),(false,hI),(false,hI)],rs:=[(false,hI),(false,hI)],pre:=fun _=>True,out:=fun a=>[[.i (Sp.boundV (I a 0 0) (I a 0 1) (I a 0 2) (I a 0 3) (I a 1 0) (I a 1 1) (I a 2 0) (I a 3 0) (I a 4 0))],[.i (Sp.boundE (I a 0 0) (I a 0 1) (I a 0 2) (I a 0 3) (I a 1 0) (I a 1 1) (I a 2 0) (I a 3 0) (I a 4 0))]]} U fun a=>Y (v163 (I a 0 0) (I a 0 1) (I a 0 2) (I a 0 3) (I a 1 0) (I a 1 1) (I a 2 0) (I a 3 0) (I a 4 0))
end Go.Sx
namespace Go.Sx
theorem v172 (t:Int) (d:Int) (g:Int) (m:Int) (n:Int) (e:Int) (k:Int) (j:Int) (s:Int):InR .i64 t∧InR .i64 d∧InR .i64 g∧InR .i64 m∧InR .i64 n∧InR .i64 e∧InR .i64 k∧InR .i64 j∧InR .i64 s→True∧True∧Cn (bNot (Sp.valid t d g m)) (0=Sp.boundV t d g m n e k j s∧1=Sp.boundE t d g m n e k j s) (True∧True∧Cn (bNot (Sp.decl n e k j)) (0=Sp.boundV t d g m n e k j s∧1=Sp.boundE t d g m n e k j s) (Cn (bLt s 0) (0=Sp.boundV t d g m n e k j s∧1=Sp.boundE t d g m n e k j s) (Cn (bLt 65536 s) (0=Sp.boundV t d g m n e k j s∧1=Sp.boundE t d g m n e k j s) (InR .i64 (iSub 65536 k)∧InR .i64 (iMul m (iSub 65536 k))∧InR .i64 (iMul 65536 k)∧Cn (bLt (iMul m (iSub 65536 k)) (iMul 65536 k)) (0=Sp.boundV t d g m n e k j s∧11=Sp.boundE t d g m n e k j s) ((0≤m∧1≤g∧m+g≤9223372036854775807)∧(InR .i64 (Sp.up m g)→InR .i64 (iAdd d (Sp.up m g))∧InR .i64 (iAdd k m)∧(1≤n∧1≤e∧e≤768000∧n≤e*64*8192∧0≤iAdd k m∧iAdd k m≤8192)∧(InR .i64 (Sp.wob n e (iAdd k m))→InR .i64 (iAdd (iMax s (iAdd d (Sp.up m g))) (Sp.wob n e (iAdd k m)))∧InR .i64 (iMul 2 j)∧InR .i64 (iAdd (iAdd (iMax s (iAdd d (Sp.up m g))) (Sp.wob n e (iAdd k m))) (iMul 2 j))∧InR .i64 (iAdd (iAdd (iAdd (iMax s (iAdd d (Sp.up m g))) (Sp.wob n e (iAdd k m))) (iMul 2 j)) 2)∧iAdd (iAdd (iAdd (iMax s (iAdd d (Sp.up m g))) (Sp.wob n e (iAdd k m))) (iMul 2 j)) 2=Sp.boundV t d g m n e k j s∧0=Sp.boundE t d g m n e k j s))))))):=by
 intro hw
 simp only[Cn_iff,Sm_iff,true_and]
 simp only[iAdd,iSub,iMul,iMax,bNot,bLt,InR,decide_eq_true_eq,decide_eq_false_iff_not,Bool.not_eq_true',Bool.not_eq_false',and_true,true_and,true_implies]
 by_cases hv:Sp.valid t d g m=true
 · by_cases hd:Sp.decl n e k j=true
   · have hv':=(Sp.valid_iff t d g m).1 hv
     have hd':=Sp.decl_of hd
     have u1:=Sp.up_bd (a:=m) (b:=g) (by omega) (by omega)
     have u2:=Sp.wob_bd (n:=n) (d:=e) (k:=k+m) (by omega) (by omega) (by omega) (by omega) (by omega) (by omega)
     have u3:=mul_bd (x:=m) (X:=4096) (y:=65536-k) (Y:=65536) (by omega) (by omega) (by omega) (by omega)
     have e1:Sp.boundE t d g m n e k j s=if s<0∨65536<s then 1 else if m*(65536-k)<65536*k then 11 else 0:=by unfold Sp.boundE; simp[hv,hd]
     have e2:Sp.boundV t d g m n e k j s=if Sp.boundE t d g m n e k j s≠0 then 0 else max s (d+Sp.up m g)+Sp.wob n e (k+m)+2*j+2:=rfl
     simp only[hv,hd,e2,e1,Bool.true_eq_false,false_implies,true_implies,and_true,true_and]
     clear hv hd hw e1 e2
     generalize Sp.up m g=uu at*
     generalize Sp.wob n e (k+m)=ww at*
     generalize m*(65536-k)=pp at*
     repeat' (first|apply And.intro|intro _)
     all_goals (first|omega|(split<;>omega))
   · have hd:Sp.decl n e k j=false:=by simpa using hd
     have e1:Sp.boundE t d g m n e k j s=1:=by unfold Sp.boundE; simp[hd]
     have e2:Sp.boundV t d g m n e k j s=0:=by unfold Sp.boundV; simp[e1]
     simp[hv,hd,e1,e2]
 · have hv:Sp.valid t d g m=false:=by simpa using hv
   have e1:Sp.boundE t d g m n e k j s=1:=by unfold Sp.boundE; simp[hv]
   have e2:Sp.boundV t d g m n e k j s=0:=by unfold Sp.boundV; simp[e1]
   simp[hv,e1,e2]
def r172:Cr PR:=K0 [r119,r169,r170,r223] 172 6 {ps:=[(true,[.int .i64,.int .i64,.int .i64,.int .i64]),(true,hII),(false,hI),(false,hI),(false,hI)],rs:=[(false,hI),(false,hI)],pre:=fun _=>True,out:=fun a=>[[.i (Sp.boundV (I a 0 0) (I a 0 1) (I a 0 2) (I a 0 3) (I a 1 0) (I a 1 1) (I a 2 0) (I a 3 0) (I a 4 0))],[.i (Sp.boundE (I a 0 0) (I a 0 1) (I a 0 2) (I a 0 3) (I a 1 0) (I a 1 1) (I a 2 0) (I a 3 0) (I a 4 0))]]} U fun a=>Y (v172 (I a 0 0) (I a 0 1) (I a 0 2) (I a 0 3) (I a 1 0) (I a 1 1) (I a 2 0) (I a 3 0) (I a 4 0))
end Go.Sx
namespace Go.Sx
theorem v164 (t:Int) (d:Int) (g:Int) (m:Int) (n:Int) (e:Int) (k:Int) (j:Int):InR .i64 t∧InR .i64 d∧InR .i64 g∧InR .i64 m∧InR .i64 n∧InR .i64 e∧InR .i64 k∧InR .i64 j→True∧(InR .i64 (Sp.boundV t d g m n e k j 0)∧InR .i64 (Sp.boundE t d g m n e k j 0)→Cn (bNe (Sp.boundE t d g m n e k j 0) 0) (0=Sp.demV t d g m n e k j∧Sm (Sp.boundE t d g m n e k j 0)) ((0≤n∧1≤e∧n+e≤9223372036854775807)∧(InR .i64 (Sp.up n e)→InR .i64 (iAdd k m)∧(1≤n∧1≤e∧e≤768000∧n≤e*64*8192∧0≤iAdd k m∧iAdd k m≤8192)∧(InR .i64 (Sp.wob n e (iAdd k m))→InR .i64 (iAdd (Sp.up n e) (Sp.wob n e (iAdd k m)))∧InR .i64 (iMul 2 j)∧InR .i64 (iAdd (iAdd (Sp.up n e) (Sp.wob n e (iAdd k m))) (iMul 2 j))∧InR .i64 (iAdd (iAdd (iAdd (Sp.up n e) (Sp.wob n e (iAdd k m))) (iMul 2 j)) 3)∧iAdd (iAdd (iAdd (Sp.up n e) (Sp.wob n e (iAdd k m))) (iMul 2 j)) 3=Sp.demV t d g m n e k j∧0=Sp.boundE t d g m n e k j 0)))):=by
 intro hw
 simp only[Cn_iff,Sm_iff,true_and]
 simp only[iAdd,iSub,iMul,iMax,bNe,InR,decide_eq_true_eq,Bool.not_eq_true',decide_eq_false_iff_not,Bool.not_eq_false',Sp.demV,and_true,true_and,true_implies]
 have hE:Sp.boundE t d g m n e k j 0=0→Sp.valid t d g m=true∧Sp.decl n e k j=true:=fun h=>by
  unfold Sp.boundE at h
  split at h
  · cases h
  · rename_i hc
    constructor
    · cases hx:Sp.valid t d g m
      · exact(hc (.inl hx)).elim
      · rfl
    · cases hx:Sp.decl n e k j
      · exact(hc (.inr (.inl hx))).elim
      · rfl
 refine fun hr=>⟨fun h=> ?_,fun h=> ?_⟩
 · rw[if_pos h]
 · have h':=hE h
   have hv':=(Sp.valid_iff t d g m).1 h'.1
   have hd':=Sp.decl_of h'.2
   have u1:=Sp.up_bd (a:=n) (b:=e) (by omega) (by omega)
   have u2:=Sp.wob_bd (n:=n) (d:=e) (k:=k+m) (by omega) (by omega) (by omega) (by omega) (by omega) (by omega)
   rw[if_neg (show¬(Sp.boundE t d g m n e k j 0≠0) by omega)]
   repeat' (first|apply And.intro|intro _)
   all_goals omega
def r164:Cr PR:=K0 [r163,r161,r162] 164 6 {ps:=[(true,[.int .i64,.int .i64,.int .i64,.int .i64]),(true,hII),(false,hI),(false,hI)],rs:=[(false,hI),(false,hI)],pre:=fun _=>True,out:=fun a=>[[.i (Sp.demV (I a 0 0) (I a 0 1) (I a 0 2) (I a 0 3) (I a 1 0) (I a 1 1) (I a 2 0) (I a 3 0))],[.i (Sp.boundE (I a 0 0) (I a 0 1) (I a 0 2) (I a 0 3) (I a 1 0) (I a 1 1) (I a 2 0) (I a 3 0) 0)]]} U fun a=>Y (v164 (I a 0 0) (I a 0 1) (I a 0 2) (I a 0 3) (I a 1 0) (I a 1 1) (I a 2 0) (I a 3 0))
end Go.Sx
namespace Go.Sx
theorem v173 (t:Int) (d:Int) (g:Int) (m:Int) (n:Int) (e:Int) (k:Int) (j:Int):InR .i64 t∧InR .i64 d∧InR .i64 g∧InR .i64 m∧InR .i64 n∧InR .i64 e∧InR .i64 k∧InR .i64 j→True∧(InR .i64 (Sp.boundV t d g m n e k j 0)∧InR .i64 (Sp.boundE t d g m n e k j 0)→Cn (bNe (Sp.boundE t d g m n e k j 0) 0) (0=Sp.demV t d g m n e k j∧Sm (Sp.boundE t d g m n e k j 0)) ((0≤n∧1≤e∧n+e≤9223372036854775807)∧(InR .i64 (Sp.up n e)→InR .i64 (iAdd k m)∧(1≤n∧1≤e∧e≤768000∧n≤e*64*8192∧0≤iAdd k m∧iAdd k m≤8192)∧(InR .i64 (Sp.wob n e (iAdd k m))→InR .i64 (iAdd (Sp.up n e) (Sp.wob n e (iAdd k m)))∧InR .i64 (iMul 2 j)∧InR .i64 (iAdd (iAdd (Sp.up n e) (Sp.wob n e (iAdd k m))) (iMul 2 j))∧InR .i64 (iAdd (iAdd (iAdd (Sp.up n e) (Sp.wob n e (iAdd k m))) (iMul 2 j)) 3)∧iAdd (iAdd (iAdd (Sp.up n e) (Sp.wob n e (iAdd k m))) (iMul 2 j)) 3=Sp.demV t d g m n e k j∧0=Sp.boundE t d g m n e k j 0)))):=by
 intro hw
 simp only[Cn_iff,Sm_iff,true_and]
 simp only[iAdd,iSub,iMul,iMax,bNe,InR,decide_eq_true_eq,Bool.not_eq_true',decide_eq_false_iff_not,Bool.not_eq_false',Sp.demV,and_true,true_and,true_implies]
 have hE:Sp.boundE t d g m n e k j 0=0→Sp.valid t d g m=true∧Sp.decl n e k j=true:=fun h=>by
  unfold Sp.boundE at h
  split at h
  · cases h
  · rename_i hc
    constructor
    · cases hx:Sp.valid t d g m
      · exact(hc (.inl hx)).elim
      · rfl
    · cases hx:Sp.decl n e k j
      · exact(hc (.inr (.inl hx))).elim
      · rfl
 refine fun hr=>⟨fun h=> ?_,fun h=> ?_⟩
 · rw[if_pos h]
 · have h':=hE h
   have hv':=(Sp.valid_iff t d g m).1 h'.1
   have hd':=Sp.decl_of h'.2
   have u1:=Sp.up_bd (a:=n) (b:=e) (by omega) (by omega)
   have u2:=Sp.wob_bd (n:=n) (d:=e) (k:=k+m) (by omega) (by omega) (by omega) (by omega) (by omega) (by omega)
   rw[if_neg (show¬(Sp.boundE t d g m n e k j 0≠0) by omega)]
   repeat' (first|apply And.intro|intro _)
   all_goals omega
def r173:Cr PR:=K0 [r172,r170,r223] 173 6 {ps:=[(true,[.int .i64,.int .i64,.int .i64,.int .i64]),(true,hII),(false,hI),(false,hI)],rs:=[(false,hI),(false,hI)],pre:=fun _=>True,out:=fun a=>[[.i (Sp.demV (I a 0 0) (I a 0 1) (I a 0 2) (I a 0 3) (I a 1 0) (I a 1 1) (I a 2 0) (I a 3 0))],[.i (Sp.boundE (I a 0 0) (I a 0 1) (I a 0 2) (I a 0 3) (I a 1 0) (I a 1 1) (I a 2 0) (I a 3 0) 0)]]} U fun a=>Y (v173 (I a 0 0) (I a 0 1) (I a 0 2) (I a 0 3) (I a 1 0) (I a 1 1) (I a 2 0) (I a 3 0))
end Go.Sx

set_option linter.unusedVariables false
set_option linter.unusedSimpArgs false
set_option maxRecDepth 100000
set_option maxHeartbeats 4000000
namespace Go
open Go.Sx
def Sp.planM (k:Int):Int:=Sp.up (65536*k) (65536-k)
def Sp.planS (n e k j:Int):Int:=Sp.wob n e k+j+1
def Sp.planB (n e k j d g:Int):Int:=Sp.boundV 0 d g (Sp.planM k) n e k j (Sp.planS n e k j)
def Sp.planQ (n e k j d g:Int):Int:=Sp.demV 0 d g (Sp.planM k) n e k j+Sp.planB n e k j d g
def Sp.planE (n e k j d g:Int):Int:=if Sp.decl n e k j=false∨d<0∨65536<d∨g<1∨4096<g then 1 else if 4096<Sp.planM k then 2 else if 65536<Sp.planS n e k j∨65536<Sp.planQ n e k j d g+Sp.planB n e k j d g then 3 else 0
def Sp.planV (n e k j d g v:Int):Int:=if Sp.planE n e k j d g=0 then v else 0
end Go
namespace Go
open Go.Sx
theorem Sp.up_ge {a b:Int} (h1:1≤b):a≤Sp.up a b*b∧Sp.up a b*b≤a+b-1:=by
 unfold Sp.up
 have e:=Int.emod_add_mul_ediv (a+b-1) b
 have l:=Int.emod_lt_of_pos (a+b-1) (show 0<b by omega)
 have z:=Int.emod_nonneg (a+b-1) (show b≠0 by omega)
 rw[Int.mul_comm b]at e
 omega
theorem Sp.planM_bd {k:Int} (h0:0≤k) (h1:k≤4096):0≤Sp.planM k∧Sp.planM k≤300000000∧65536*k≤Sp.planM k*(65536-k):=by
 have a:=Sp.up_bd (a:=65536*k) (b:=65536-k) (by omega) (by omega)
 have b:=Sp.up_ge (a:=65536*k) (b:=65536-k) (by omega)
 unfold Sp.planM
 exact⟨a.1,by omega,b.1⟩
theorem Sp.planV_or (n e k j d g v:Int):(Sp.planE n e k j d g=0→Sp.planV n e k j d g v=v)∧(Sp.planE n e k j d g≠0→Sp.planV n e k j d g v=0):=by
 unfold Sp.planV
 constructor<;>intro h<;>simp[h]
theorem Sp.plan_in {n e k j d g:Int} (hd:Sp.decl n e k j=true) (h0:0≤d) (h1:d≤65536) (h2:1≤g) (h3:g≤4096):(4096<Sp.planM k→Sp.planE n e k j d g=2)∧
 (Sp.planM k≤4096→(65536<Sp.planS n e k j∨65536<Sp.planQ n e k j d g+Sp.planB n e k j d g→Sp.planE n e k j d g=3)∧(Sp.planS n e k j≤65536→Sp.planQ n e k j d g+Sp.planB n e k j d g≤65536→Sp.planE n e k j d g=0)∧
  (65536<Sp.planS n e k j→Sp.boundE 0 d g (Sp.planM k) n e k j (Sp.planS n e k j)=1∧Sp.planB n e k j d g=0)∧
  (Sp.planS n e k j≤65536→Sp.boundE 0 d g (Sp.planM k) n e k j (Sp.planS n e k j)=0)∧
  Sp.boundE 0 d g (Sp.planM k) n e k j 0=0∧0≤Sp.planB n e k j d g∧Sp.planB n e k j d g≤30000000000000000∧0≤Sp.planQ n e k j d g-Sp.planB n e k j d g∧Sp.planQ n e k j d g-Sp.planB n e k j d g≤30000000000000000)∧
 0≤Sp.planS n e k j∧Sp.planS n e k j≤20000000000000000∧0≤Sp.wob n e k∧Sp.wob n e k≤10000000000000000:=by
 have hd':=Sp.decl_of hd
 have m:=Sp.planM_bd (k:=k) (by omega) (by omega)
 have w:=Sp.wob_bd (n:=n) (d:=e) (k:=k) (by omega) (by omega) (by omega) (by omega) (by omega) (by omega)
 have hS:Sp.planS n e k j=Sp.wob n e k+j+1:=rfl
 refine⟨fun hM=> ?_,fun hM=> ?_,by omega,by omega,w.1,w.2⟩
 · unfold Sp.planE
   rw[if_neg (by simp only[hd]; simp; omega),if_pos hM]
 · have hv:Sp.valid 0 d g (Sp.planM k)=true:=by rw[Sp.valid_iff]; omega
   have w2:=Sp.wob_bd (n:=n) (d:=e) (k:=k+Sp.planM k) (by omega) (by omega) (by omega) (by omega) (by omega) (by omega)
   have u1:=Sp.up_bd (a:=Sp.planM k) (b:=g) (by omega) (by omega)
   have u2:=Sp.up_bd (a:=n) (b:=e) (by omega) (by omega)
   have b0:∀s,0≤s→s≤65536→Sp.boundE 0 d g (Sp.planM k) n e k j s=0:=fun s hs hs'=>by
    unfold Sp.boundE
    rw[if_neg (by simp only[hv,hd]; simp; omega),if_neg (by omega)]
   have b1:65536<Sp.planS n e k j→Sp.boundE 0 d g (Sp.planM k) n e k j (Sp.planS n e k j)=1:=fun hs=>by
    unfold Sp.boundE
    rw[if_pos (.inr (.inr (.inr hs)))]
   have hB1:65536<Sp.planS n e k j→Sp.planB n e k j d g=0:=fun hs=>by
    unfold Sp.planB Sp.boundV
    rw[if_pos (by rw[b1 hs]; omega)]
   have hB2:Sp.planS n e k j≤65536→Sp.planB n e k j d g=max (Sp.planS n e k j) (d+Sp.up (Sp.planM k) g)+Sp.wob n e (k+Sp.planM k)+2*j+2:=fun hs=>by
    unfold Sp.planB Sp.boundV
    rw[if_neg (by rw[b0 _ (by omega) hs]; omega)]
   have hQ:Sp.planQ n e k j d g-Sp.planB n e k j d g=Sp.up n e+Sp.wob n e (k+Sp.planM k)+2*j+3:=by
    unfold Sp.planQ Sp.demV
    rw[if_neg (by rw[b0 _ (by omega) (by omega)]; omega)]
    omega
   have hE:Sp.planE n e k j d g=if 65536<Sp.planS n e k j∨65536<Sp.planQ n e k j d g+Sp.planB n e k j d g then 3 else 0:=by
    unfold Sp.planE
    rw[if_neg (by simp only[hd]; simp; omega),if_neg (by omega)]
   refine⟨fun h=>by rw[hE,if_pos h],fun h h'=>by rw[hE,if_neg (by omega)],fun h=>⟨b1 h,hB1 h⟩,fun h=>b0 _ (by omega) h,b0 0 (by omega) (by omega),?_,?_,by omega,by omega⟩
   · omega
   · omega
theorem Sp.plan_out {n e k j d g:Int} (h:Sp.decl n e k j=false∨d<0∨65536<d∨g<1∨4096<g):Sp.planE n e k j d g=1:=by
 unfold Sp.planE
 rw[if_pos h]
end Go
namespace Go.Sx
def m100_0 (n:Int) (e:Int) (k:Int) (j:Int) (d:Int) (g:Int):Prop:=0=Sp.planV n e k j d g (Sp.planQ n e k j d g)∧0=Sp.planV n e k j d g d∧0=Sp.planV n e k j d g g∧0=Sp.planV n e k j d g (Sp.planM k)∧0=Sp.planV n e k j d g (Sp.planQ n e k j d g+Sp.planB n e k j d g)∧1=Sp.planE n e k j d g
def m100_1 (n:Int) (e:Int) (k:Int) (j:Int) (d:Int) (g:Int):Int:=(Sp.boundV 0 d g (Sp.up (iMul 65536 k) (iSub 65536 k)) n e k j (iAdd (iAdd (Sp.wob n e k) j) 1))
def m100_2 (k:Int):Int:=(Sp.up (iMul 65536 k) (iSub 65536 k))
def m100_3 (n:Int) (e:Int) (k:Int) (j:Int) (d:Int) (g:Int):Prop:=0=Sp.planV n e k j d g (Sp.planQ n e k j d g)∧0=Sp.planV n e k j d g d∧0=Sp.planV n e k j d g g∧0=Sp.planV n e k j d g (Sp.planM k)∧0=Sp.planV n e k j d g (Sp.planQ n e k j d g+Sp.planB n e k j d g)∧3=Sp.planE n e k j d g
theorem v100 (n:Int) (e:Int) (k:Int) (j:Int) (d:Int) (g:Int):InR .i64 n∧InR .i64 e∧InR .i64 k∧InR .i64 j∧InR .i64 d∧InR .i64 g→True∧True∧Cn (bNot (Sp.decl n e k j)) ((m100_0 n e k j d g)) (Cn (bLt d 0) ((m100_0 n e k j d g)) (Cn (bLt 65536 d) ((m100_0 n e k j d g)) (Cn (bLt g 1) ((m100_0 n e k j d g)) (Cn (bLt 4096 g) ((m100_0 n e k j d g)) (InR .i64 (iMul 65536 k)∧InR .i64 (iSub 65536 k)∧(0≤iMul 65536 k∧1≤iSub 65536 k∧iMul 65536 k+iSub 65536 k≤9223372036854775807)∧(InR .i64 (m100_2 k)→Cn (bLt 4096 (m100_2 k)) (0=Sp.planV n e k j d g (Sp.planQ n e k j d g)∧0=Sp.planV n e k j d g d∧0=Sp.planV n e k j d g g∧0=Sp.planV n e k j d g (Sp.planM k)∧0=Sp.planV n e k j d g (Sp.planQ n e k j d g+Sp.planB n e k j d g)∧2=Sp.planE n e k j d g) ((1≤n∧1≤e∧e≤768000∧n≤e*64*8192∧0≤k∧k≤8192)∧(InR .i64 (Sp.wob n e k)→InR .i64 (iAdd (Sp.wob n e k) j)∧InR .i64 (iAdd (iAdd (Sp.wob n e k) j) 1)∧True∧(InR .i64 (m100_1 n e k j d g)∧InR .i64 (Sp.boundE 0 d g (m100_2 k) n e k j (iAdd (iAdd (Sp.wob n e k) j) 1))→True∧(InR .i64 (Sp.demV 0 d g (m100_2 k) n e k j)∧InR .i64 (Sp.boundE 0 d g (m100_2 k) n e k j 0)→InR .i64 (iAdd (Sp.demV 0 d g (m100_2 k) n e k j) (m100_1 n e k j d g))∧Cn (bNe (Sp.boundE 0 d g (m100_2 k) n e k j (iAdd (iAdd (Sp.wob n e k) j) 1)) 0) ((m100_3 n e k j d g)) (Cn (bNe (Sp.boundE 0 d g (m100_2 k) n e k j 0) 0) ((m100_3 n e k j d g)) (InR .i64 (iAdd (iAdd (Sp.demV 0 d g (m100_2 k) n e k j) (m100_1 n e k j d g)) (m100_1 n e k j d g))∧Cn (bLt 65536 (iAdd (iAdd (Sp.demV 0 d g (m100_2 k) n e k j) (m100_1 n e k j d g)) (m100_1 n e k j d g))) ((m100_3 n e k j d g)) (InR .i64 (iAdd (iAdd (Sp.demV 0 d g (m100_2 k) n e k j) (m100_1 n e k j d g)) (m100_1 n e k j d g))∧iAdd (Sp.demV 0 d g (m100_2 k) n e k j) (m100_1 n e k j d g)=Sp.planV n e k j d g (Sp.planQ n e k j d g)∧d=Sp.planV n e k j d g d∧g=Sp.planV n e k j d g g∧Sp.up (iMul 65536 k) (iSub 65536 k)=Sp.planV n e k j d g (Sp.planM k)∧iAdd (iAdd (Sp.demV 0 d g (m100_2 k) n e k j) (m100_1 n e k j d g)) (m100_1 n e k j d g)=Sp.planV n e k j d g (Sp.planQ n e k j d g+Sp.planB n e k j d g)∧0=Sp.planE n e k j d g))))))))))))):=by
 intro hw
 simp only[Cn_iff,Sm_iff,true_and]
 have hp:True:=trivial
 delta m100_0 m100_1 m100_2 m100_3
 simp only[iAdd,iSub,iMul,bNot,bLt,bNe,decide_eq_true_eq,Bool.not_eq_true',decide_eq_false_iff_not,Bool.not_eq_false',and_true,true_and,true_implies]
 rw[show Sp.up (65536*k) (65536-k)=Sp.planM k from rfl,show Sp.wob n e k+j+1=Sp.planS n e k j from rfl,show Sp.boundV 0 d g (Sp.planM k) n e k j (Sp.planS n e k j)=Sp.planB n e k j d g from rfl]
 have q1:Sp.planQ n e k j d g=Sp.demV 0 d g (Sp.planM k) n e k j+Sp.planB n e k j d g:=rfl
 have o1:=Sp.planV_or n e k j d g (Sp.planQ n e k j d g)
 have o2:=Sp.planV_or n e k j d g d
 have o3:=Sp.planV_or n e k j d g g
 have o4:=Sp.planV_or n e k j d g (Sp.planM k)
 have o5:=Sp.planV_or n e k j d g (Sp.planQ n e k j d g+Sp.planB n e k j d g)
 have out:=Sp.plan_out (n:=n) (e:=e) (k:=k) (j:=j) (d:=d) (g:=g)
 have inn:=fun h=>Sp.plan_in (n:=n) (e:=e) (k:=k) (j:=j) (d:=d) (g:=g) h
 have dd:=Sp.decl_of (n:=n) (e:=e) (k:=k) (j:=j)
 have mm:=fun h0 h1=>Sp.planM_bd (k:=k) h0 h1
 generalize Sp.planV n e k j d g (Sp.planQ n e k j d g)=z1 at*
 generalize Sp.planV n e k j d g d=z2 at*
 generalize Sp.planV n e k j d g g=z3 at*
 generalize Sp.planV n e k j d g (Sp.planM k)=z4 at*
 generalize Sp.planV n e k j d g (Sp.planQ n e k j d g+Sp.planB n e k j d g)=z5 at*
 generalize Sp.planE n e k j d g=z6 at*
 generalize Sp.demV 0 d g (Sp.planM k) n e k j=z7 at*
 generalize Sp.boundE 0 d g (Sp.planM k) n e k j (Sp.planS n e k j)=z8 at*
 generalize Sp.boundE 0 d g (Sp.planM k) n e k j 0=z9 at*
 generalize Sp.planQ n e k j d g=y1 at*
 generalize Sp.planB n e k j d g=y2 at*
 have wS:Sp.planS n e k j=Sp.wob n e k+j+1:=rfl
 generalize Sp.planS n e k j=y3 at*
 generalize Sp.wob n e k=y4 at*
 generalize Sp.planM k=y5 at*
 clear hw hp
 simp only[InR]
 cases hd:Sp.decl n e k j
 · have out:=out (.inl hd)
   simp only[Bool.false_eq_true,Bool.true_eq_false,reduceCtorEq,false_implies,true_implies,and_true,true_and]
   omega
 · have dd:=dd hd
   have mm:=mm (by omega) (by omega)
   have hp:0≤d→d≤65536→1≤g→g≤4096→_:=inn hd
   simp only[hd,Bool.false_eq_true,Bool.true_eq_false,reduceCtorEq,false_or,false_implies,true_implies,and_true,true_and]at*
   repeat' (first|apply And.intro|intro _)
   all_goals (first|omega|(have:=hp (by omega) (by omega) (by omega) (by omega); omega))
def r100:Cr PR:=K0 [r163,r164,r160,r161,r162] 100 6 {ps:=[(true,hII),(false,hI),(false,hI),(false,hI),(false,hI)],rs:=[(true,[.int .i64,.int .i64,.int .i64,.int .i64]),(false,hI),(false,hI)],pre:=fun _=>True,out:=fun a=>[[.i (Sp.planV (I a 0 0) (I a 0 1) (I a 1 0) (I a 2 0) (I a 3 0) (I a 4 0) (Sp.planQ (I a 0 0) (I a 0 1) (I a 1 0) (I a 2 0) (I a 3 0) (I a 4 0))),.i (Sp.planV (I a 0 0) (I a 0 1) (I a 1 0) (I a 2 0) (I a 3 0) (I a 4 0) (I a 3 0)),.i (Sp.planV (I a 0 0) (I a 0 1) (I a 1 0) (I a 2 0) (I a 3 0) (I a 4 0) (I a 4 0)),.i (Sp.planV (I a 0 0) (I a 0 1) (I a 1 0) (I a 2 0) (I a 3 0) (I a 4 0) (Sp.planM (I a 1 0)))],[.i (Sp.planV (I a 0 0) (I a 0 1) (I a 1 0) (I a 2 0) (I a 3 0) (I a 4 0) (Sp.planQ (I a 0 0) (I a 0 1) (I a 1 0) (I a 2 0) (I a 3 0) (I a 4 0)+Sp.planB (I a 0 0) (I a 0 1) (I a 1 0) (I a 2 0) (I a 3 0) (I a 4 0)))],[.i (Sp.planE (I a 0 0) (I a 0 1) (I a 1 0) (I a 2 0) (I a 3 0) (I a 4 0))]]} U fun a=>Y (v100 (I a 0 0) (I a 0 1) (I a 1 0) (I a 2 0) (I a 3 0) (I a 4 0))
end Go.Sx
namespace Go.Sx
def m107_0 (n:Int) (e:Int) (k:Int) (j:Int) (d:Int) (g:Int):Prop:=0=Sp.planV n e k j d g (Sp.planQ n e k j d g)∧0=Sp.planV n e k j d g d∧0=Sp.planV n e k j d g g∧0=Sp.planV n e k j d g (Sp.planM k)∧0=Sp.planV n e k j d g (Sp.planQ n e k j d g+Sp.planB n e k j d g)∧1=Sp.planE n e k j d g
def m107_1 (n:Int) (e:Int) (k:Int) (j:Int) (d:Int) (g:Int):Int:=(Sp.boundV 0 d g (Sp.up (iMul 65536 k) (iSub 65536 k)) n e k j (iAdd (iAdd (Sp.wob n e k) j) 1))
def m107_2 (k:Int):Int:=(Sp.up (iMul 65536 k) (iSub 65536 k))
def m107_3 (n:Int) (e:Int) (k:Int) (j:Int) (d:Int) (g:Int):Prop:=0=Sp.planV n e k j d g (Sp.planQ n e k j d g)∧0=Sp.planV n e k j d g d∧0=Sp.planV n e k j d g g∧0=Sp.planV n e k j d g (Sp.planM k)∧0=Sp.planV n e k j d g (Sp.planQ n e k j d g+Sp.planB n e k j d g)∧3=Sp.planE n e k j d g
theorem v107 (n:Int) (e:Int) (k:Int) (j:Int) (d:Int) (g:Int):InR .i64 n∧InR .i64 e∧InR .i64 k∧InR .i64 j∧InR .i64 d∧InR .i64 g→True∧True∧Cn (bNot (Sp.decl n e k j)) ((m107_0 n e k j d g)) (Cn (bLt d 0) ((m107_0 n e k j d g)) (Cn (bLt 65536 d) ((m107_0 n e k j d g)) (Cn (bLt g 1) ((m107_0 n e k j d g)) (Cn (bLt 4096 g) ((m107_0 n e k j d g)) (InR .i64 (iMul 65536 k)∧InR .i64 (iSub 65536 k)∧(0≤iMul 65536 k∧1≤iSub 65536 k∧iMul 65536 k+iSub 65536 k≤9223372036854775807)∧(InR .i64 (m107_2 k)→Cn (bLt 4096 (m107_2 k)) (0=Sp.planV n e k j d g (Sp.planQ n e k j d g)∧0=Sp.planV n e k j d g d∧0=Sp.planV n e k j d g g∧0=Sp.planV n e k j d g (Sp.planM k)∧0=Sp.planV n e k j d g (Sp.planQ n e k j d g+Sp.planB n e k j d g)∧2=Sp.planE n e k j d g) ((1≤n∧1≤e∧e≤768000∧n≤e*64*8192∧0≤k∧k≤8192)∧(InR .i64 (Sp.wob n e k)→InR .i64 (iAdd (Sp.wob n e k) j)∧InR .i64 (iAdd (iAdd (Sp.wob n e k) j) 1)∧Cn (bLt 65536 (iAdd (iAdd (Sp.wob n e k) j) 1)) ((m107_3 n e k j d g)) (True∧(InR .i64 (m107_1 n e k j d g)∧InR .i64 (Sp.boundE 0 d g (m107_2 k) n e k j (iAdd (iAdd (Sp.wob n e k) j) 1))→True∧(InR .i64 (Sp.demV 0 d g (m107_2 k) n e k j)∧InR .i64 (Sp.boundE 0 d g (m107_2 k) n e k j 0)→InR .i64 (iMul 2 (m107_1 n e k j d g))∧InR .i64 (iAdd (Sp.demV 0 d g (m107_2 k) n e k j) (iMul 2 (m107_1 n e k j d g)))∧Cn (bLt 65536 (iAdd (Sp.demV 0 d g (m107_2 k) n e k j) (iMul 2 (m107_1 n e k j d g)))) ((m107_3 n e k j d g)) (InR .i64 (iAdd (Sp.demV 0 d g (m107_2 k) n e k j) (m107_1 n e k j d g))∧InR .i64 (iAdd (iAdd (Sp.demV 0 d g (m107_2 k) n e k j) (m107_1 n e k j d g)) (m107_1 n e k j d g))∧iAdd (Sp.demV 0 d g (m107_2 k) n e k j) (m107_1 n e k j d g)=Sp.planV n e k j d g (Sp.planQ n e k j d g)∧d=Sp.planV n e k j d g d∧g=Sp.planV n e k j d g g∧Sp.up (iMul 65536 k) (iSub 65536 k)=Sp.planV n e k j d g (Sp.planM k)∧iAdd (iAdd (Sp.demV 0 d g (m107_2 k) n e k j) (m107_1 n e k j d g)) (m107_1 n e k j d g)=Sp.planV n e k j d g (Sp.planQ n e k j d g+Sp.planB n e k j d g)∧0=Sp.planE n e k j d g)))))))))))):=by
 intro hw
 simp only[Cn_iff,Sm_iff,true_and]
 have hp:True:=trivial
 delta m107_0 m107_1 m107_2 m107_3
 simp only[iAdd,iSub,iMul,bNot,bLt,bNe,decide_eq_true_eq,Bool.not_eq_true',decide_eq_false_iff_not,Bool.not_eq_false',and_true,true_and,true_implies]
 rw[show Sp.up (65536*k) (65536-k)=Sp.planM k from rfl,show Sp.wob n e k+j+1=Sp.planS n e k j from rfl,show Sp.boundV 0 d g (Sp.planM k) n e k j (Sp.planS n e k j)=Sp.planB n e k j d g from rfl]
 have q1:Sp.planQ n e k j d g=Sp.demV 0 d g (Sp.planM k) n e k j+Sp.planB n e k j d g:=rfl
 have o1:=Sp.planV_or n e k j d g (Sp.planQ n e k j d g)
 have o2:=Sp.planV_or n e k j d g d
 have o3:=Sp.planV_or n e k j d g g
 have o4:=Sp.planV_or n e k j d g (Sp.planM k)
 have o5:=Sp.planV_or n e k j d g (Sp.planQ n e k j d g+Sp.planB n e k j d g)
 have out:=Sp.plan_out (n:=n) (e:=e) (k:=k) (j:=j) (d:=d) (g:=g)
 have inn:=fun h=>Sp.plan_in (n:=n) (e:=e) (k:=k) (j:=j) (d:=d) (g:=g) h
 have dd:=Sp.decl_of (n:=n) (e:=e) (k:=k) (j:=j)
 have mm:=fun h0 h1=>Sp.planM_bd (k:=k) h0 h1
 generalize Sp.planV n e k j d g (Sp.planQ n e k j d g)=z1 at*
 generalize Sp.planV n e k j d g d=z2 at*
 generalize Sp.planV n e k j d g g=z3 at*
 generalize Sp.planV n e k j d g (Sp.planM k)=z4 at*
 generalize Sp.planV n e k j d g (Sp.planQ n e k j d g+Sp.planB n e k j d g)=z5 at*
 generalize Sp.planE n e k j d g=z6 at*
 generalize Sp.demV 0 d g (Sp.planM k) n e k j=z7 at*
 generalize Sp.boundE 0 d g (Sp.planM k) n e k j (Sp.planS n e k j)=z8 at*
 generalize Sp.boundE 0 d g (Sp.planM k) n e k j 0=z9 at*
 generalize Sp.planQ n e k j d g=y1 at*
 generalize Sp.planB n e k j d g=y2 at*
 have wS:Sp.planS n e k j=Sp.wob n e k+j+1:=rfl
 generalize Sp.planS n e k j=y3 at*
 generalize Sp.wob n e k=y4 at*
 generalize Sp.planM k=y5 at*
 clear hw hp
 simp only[InR]
 cases hd:Sp.decl n e k j
 · have out:=out (.inl hd)
   simp only[Bool.false_eq_true,Bool.true_eq_false,reduceCtorEq,false_implies,true_implies,and_true,true_and]
   omega
 · have dd:=dd hd
   have mm:=mm (by omega) (by omega)
   have hp:0≤d→d≤65536→1≤g→g≤4096→_:=inn hd
   simp only[hd,Bool.false_eq_true,Bool.true_eq_false,reduceCtorEq,false_or,false_implies,true_implies,and_true,true_and]at*
   repeat' (first|apply And.intro|intro _)
   all_goals (first|omega|(have:=hp (by omega) (by omega) (by omega) (by omega); omega))
def r107:Cr PR:=K0 [r172,r173,r169,r170,r223] 107 6 {ps:=[(true,hII),(false,hI),(false,hI),(false,hI),(false,hI)],rs:=[(true,[.int .i64,.int .i64,.int .i64,.int .i64]),(false,hI),(false,hI)],pre:=fun _=>True,out:=fun a=>[[.i (Sp.planV (I a 0 0) (I a 0 1) (I a 1 0) (I a 2 0) (I a 3 0) (I a 4 0) (Sp.planQ (I a 0 0) (I a 0 1) (I a 1 0) (I a 2 0) (I a 3 0) (I a 4 0))),.i (Sp.planV (I a 0 0) (I a 0 1) (I a 1 0) (I a 2 0) (I a 3 0) (I a 4 0) (I a 3 0)),.i (Sp.planV (I a 0 0) (I a 0 1) (I a 1 0) (I a 2 0) (I a 3 0) (I a 4 0) (I a 4 0)),.i (Sp.planV (I a 0 0) (I a 0 1) (I a 1 0) (I a 2 0) (I a 3 0) (I a 4 0) (Sp.planM (I a 1 0)))],[.i (Sp.planV (I a 0 0) (I a 0 1) (I a 1 0) (I a 2 0) (I a 3 0) (I a 4 0) (Sp.planQ (I a 0 0) (I a 0 1) (I a 1 0) (I a 2 0) (I a 3 0) (I a 4 0)+Sp.planB (I a 0 0) (I a 0 1) (I a 1 0) (I a 2 0) (I a 3 0) (I a 4 0)))],[.i (Sp.planE (I a 0 0) (I a 0 1) (I a 1 0) (I a 2 0) (I a 3 0) (I a 4 0))]]} U fun a=>Y (v107 (I a 0 0) (I a 0 1) (I a 1 0) (I a 2 0) (I a 3 0) (I a 4 0))
end Go.Sx

set_option linter.unusedVariables false
set_option linter.unusedSimpArgs false
set_option maxRecDepth 100000
set_option maxHeartbeats 4000000
noncomputable section
namespace Go.Sx
def ct224:Ct:= {ps:=[(false,[.int .u64]),(false,[.int .u64]),(false,[.int .u64])],rs:=[(false,[.int .u64]),(false,[.int .u64])],pre:=fun a=>pLe (I a 2 0) 1∧True,out:=fun a=>[[.i (Sp.subD (I a 0 0) (I a 1 0) (I a 2 0))],[.i (Sp.subB (I a 0 0) (I a 1 0) (I a 2 0))]]}
theorem s224:SoundCt Go.Proofs.Tryz.prog 224 ct224:=sub64_sound (fn:=Go.Proofs.Tryz.f224) (by kernel_rfl) (by kernel_rfl) (by kernel_rfl) (by kernel_rfl) (by kernel_rfl)
def r224:Cr PR:=⟨224,ct224,s224⟩
end Go.Sx
namespace Go.Sx
def ct226:Ct:= {ps:=[(false,[.int .u64]),(false,[.int .u64]),(false,[.int .u64])],rs:=[(false,[.int .u64]),(false,[.int .u64])],pre:=fun a=>pLe (I a 2 0) 1∧True,out:=fun a=>[[.i (Sp.addD (I a 0 0) (I a 1 0) (I a 2 0))],[.i (Sp.addB (I a 0 0) (I a 1 0) (I a 2 0))]]}
theorem s226:SoundCt Go.Proofs.Tryz.prog 226 ct226:=add64_sound (fn:=Go.Proofs.Tryz.f226) (by kernel_rfl) (by kernel_rfl) (by kernel_rfl) (by kernel_rfl) (by kernel_rfl)
def r226:Cr PR:=⟨226,ct226,s226⟩
end Go.Sx
namespace Go
open Go.Sx
def Sp.zw1 (n:Int):Int:=n/18446744073709551616 % 18446744073709551616
def Sp.zw0 (n:Int):Int:=n % 18446744073709551616
def Sp.zun (h l:Int):Int:=h*18446744073709551616+l
def Sp.zsg (h l:Int):Int:=if h<9223372036854775808 then h*18446744073709551616+l else h*18446744073709551616+l-340282366920938463463374607431768211456
end Go
namespace Go.Sx
theorem v175 (p:Int) (q:Int):InR .i64 p∧InR .i64 q→0≤p∧0≤q→True∧(InR .u64 (Sp.mhi (iWrap .u64 p) (iWrap .u64 q))∧InR .u64 (Sp.mlo (iWrap .u64 p) (iWrap .u64 q))→Sp.mhi (iWrap .u64 p) (iWrap .u64 q)=Sp.zw1 (p*q)∧Sp.mlo (iWrap .u64 p) (iWrap .u64 q)=Sp.zw0 (p*q)):=by
 intro hw hp
 simp only[Wfs,Wf,InR,and_true]at hw
 rw[Sp.wrap64 (x:=p) (by omega) (by omega),Sp.wrap64 (x:=q) (by omega) (by omega)]
 have m:=mul_bd (x:=p) (X:=9223372036854775807) (y:=q) (Y:=9223372036854775807) (by omega) (by omega) (by omega) (by omega)
 simp only[Sp.mhi,Sp.mlo,Sp.zw1,Sp.zw0]
 generalize p*q=z at*
 repeat' (first|apply And.intro|intro _)
 all_goals (first|trivial|omega)
def r175:Cr PR:=Kw (fun _=>true) [r139] 175 6 {ps:=[(false,hI),(false,hI)],rs:=[(true,[.int .u64,.int .u64])],pre:=fun a=>0≤(I a 0 0)∧0≤(I a 1 0),out:=fun a=>[[.i (Sp.zw1 ((I a 0 0)*(I a 1 0))),.i (Sp.zw0 ((I a 0 0)*(I a 1 0)))]]} U fun a=>Y (v175 (I a 0 0) (I a 1 0))
end Go.Sx
namespace Go.Sx
theorem v176 (a:Int) (b:Int) (c:Int) (d:Int):InR .u64 a∧InR .u64 b∧InR .u64 c∧InR .u64 d→(pLe 0 1∧True)∧(InR .u64 (Sp.subD b d 0)∧InR .u64 (Sp.subB b d 0)→(pLe (Sp.subB b d 0) 1∧True)∧(InR .u64 (Sp.subD a c (Sp.subB b d 0))∧InR .u64 (Sp.subB a c (Sp.subB b d 0))→Sp.subD a c (Sp.subB b d 0)=Sp.zw1 (Sp.zun a b-Sp.zun c d)∧Sp.subD b d 0=Sp.zw0 (Sp.zun a b-Sp.zun c d))):=by
 intro hw
 simp only[Wfs,Wf,InR,and_true]at hw
 simp only[Sp.subD,Sp.subB,Sp.zw1,Sp.zw0,Sp.zun,InR,pLe]
 repeat' (first|apply And.intro|intro _)
 all_goals (first|trivial|omega|(split<;>omega)|(split<;>split<;>omega))
def r176:Cr PR:=K0 [r224] 176 6 {ps:=[(true,[.int .u64,.int .u64]),(true,[.int .u64,.int .u64])],rs:=[(true,[.int .u64,.int .u64])],pre:=fun _=>True,out:=fun a=>[[.i (Sp.zw1 (Sp.zun (I a 0 0) (I a 0 1)-Sp.zun (I a 1 0) (I a 1 1))),.i (Sp.zw0 (Sp.zun (I a 0 0) (I a 0 1)-Sp.zun (I a 1 0) (I a 1 1)))]]} U fun a=>Y (v176 (I a 0 0) (I a 0 1) (I a 1 0) (I a 1 1))
end Go.Sx
namespace Go.Sx
theorem v225 (a:Int) (b:Int) (c:Int) (d:Int):InR .u64 a∧InR .u64 b∧InR .u64 c∧InR .u64 d→True→Cn (bLt (iWrap .i64 a) (iWrap .i64 c)) (true=decide (Sp.zsg a b<Sp.zsg c d)) (Cn (bEq a c) (bLt b d=decide (Sp.zsg a b<Sp.zsg c d)) (false=decide (Sp.zsg a b<Sp.zsg c d))):=by
 intro hw hp
 simp only[Cn_iff,Sm_iff,true_and]
 simp only[Wfs,Wf,InR,and_true]at hw
 have wa:iWrap .i64 a=if a<9223372036854775808 then a else a-18446744073709551616:=by
  show IntKind.i64.wrap a=_
  rw[IntKind.wrap_i64]; split<;>omega
 have wc:iWrap .i64 c=if c<9223372036854775808 then c else c-18446744073709551616:=by
  show IntKind.i64.wrap c=_
  rw[IntKind.wrap_i64]; split<;>omega
 rw[wa,wc]
 clear wa wc
 unfold Sp.zsg
 by_cases hA:a<9223372036854775808<;>by_cases hC:c<9223372036854775808<;>simp only[hA,hC,if_true,if_false]
 all_goals simp only[bLt,bEq,Sp.zsg,decide_eq_true_eq,decide_eq_false_iff_not,true_and,and_true,eq_comm (a:=true),eq_comm (a:=false),decide_eq_decide]
 all_goals repeat' (first|apply And.intro|intro _)
 all_goals (first|trivial|omega)
def r225:Cr PR:=Kw (fun _=>true) [] 225 6 {ps:=[(true,[.int .u64,.int .u64]),(true,[.int .u64,.int .u64])],rs:=[(false,[.bool])],pre:=fun _=>True,out:=fun a=>[[.b (decide (Sp.zsg (I a 0 0) (I a 0 1)<Sp.zsg (I a 1 0) (I a 1 1)))]]} U fun a=>Y (v225 (I a 0 0) (I a 0 1) (I a 1 0) (I a 1 1))
end Go.Sx
namespace Go.Sx
theorem v179 (a:Int) (b:Int) (c:Int):InR .u64 a∧InR .u64 b∧InR .u64 c→pLe (a*b*c) 340282366920938463463374607431768211455∧True→True∧(InR .u64 (Sp.mhi a b)∧InR .u64 (Sp.mlo a b)→True∧(InR .u64 (Sp.mhi (Sp.mlo a b) c)∧InR .u64 (Sp.mlo (Sp.mlo a b) c)→iWrap .u64 (iAdd (iWrap .u64 (iMul (Sp.mhi a b) c)) (Sp.mhi (Sp.mlo a b) c))=Sp.zw1 (a*b*c)∧Sp.mlo (Sp.mlo a b) c=Sp.zw0 (a*b*c))):=by
 intro hw hp
 simp only[Wfs,Wf,InR,and_true]at hw
 have h0:0≤a*b:=Int.mul_nonneg (by omega) (by omega)
 have hp:=hp.1
 simp only[pLe]at hp
 simp only[Sp.mhi,Sp.mlo,Sp.zw1,Sp.zw0,iMul,iAdd,Sp.wrap64m,InR]
 generalize a*b=z at*
 have e:z*c=z/18446744073709551616*c*18446744073709551616+z % 18446744073709551616*c:=by
  have h:=Int.ediv_mul_add_emod z 18446744073709551616
  calc z*c=(z/18446744073709551616*18446744073709551616+z % 18446744073709551616)*c:=by rw[h]
   _=_:=by rw[Int.add_mul]; congr 1; ac_rfl
 have p1:0≤z/18446744073709551616*c:=Int.mul_nonneg (by omega) (by omega)
 have p2:0≤z % 18446744073709551616*c:=Int.mul_nonneg (by omega) (by omega)
 rw[e]at hp ⊢
 clear e
 generalize z/18446744073709551616*c=P at*
 generalize z % 18446744073709551616*c=Q at*
 repeat' (first|apply And.intro|intro _)
 all_goals (first|trivial|omega)
def r179:Cr PR:=Kw (fun _=>true) [r139] 179 6 {ps:=[(false,[.int .u64]),(false,[.int .u64]),(false,[.int .u64])],rs:=[(true,[.int .u64,.int .u64])],pre:=fun a=>pLe ((I a 0 0)*(I a 1 0)*(I a 2 0)) 340282366920938463463374607431768211455∧True,out:=fun a=>[[.i (Sp.zw1 ((I a 0 0)*(I a 1 0)*(I a 2 0))),.i (Sp.zw0 ((I a 0 0)*(I a 1 0)*(I a 2 0)))]]} U fun a=>Y (v179 (I a 0 0) (I a 1 0) (I a 2 0))
end Go.Sx
namespace Go.Sx
theorem v180 (a:Int) (b:Int) (c:Int) (d:Int):InR .u64 a∧InR .u64 b∧InR .u64 c∧InR .u64 d→(pLe 0 1∧True)∧(InR .u64 (Sp.addD b d 0)∧InR .u64 (Sp.addB b d 0)→(pLe (Sp.addB b d 0) 1∧True)∧(InR .u64 (Sp.addD a c (Sp.addB b d 0))∧InR .u64 (Sp.addB a c (Sp.addB b d 0))→Sp.addD a c (Sp.addB b d 0)=Sp.zw1 (Sp.zun a b+Sp.zun c d)∧Sp.addD b d 0=Sp.zw0 (Sp.zun a b+Sp.zun c d))):=by
 intro hw
 simp only[Wfs,Wf,InR,and_true]at hw
 simp only[Sp.addD,Sp.addB,Sp.zw1,Sp.zw0,Sp.zun,InR,pLe]
 repeat' (first|apply And.intro|intro _)
 all_goals (first|trivial|omega|(split<;>omega)|(split<;>split<;>omega))
def r180:Cr PR:=K0 [r226] 180 6 {ps:=[(true,[.int .u64,.int .u64]),(true,[.int .u64,.int .u64])],rs:=[(true,[.int .u64,.int .u64])],pre:=fun _=>True,out:=fun a=>[[.i (Sp.zw1 (Sp.zun (I a 0 0) (I a 0 1)+Sp.zun (I a 1 0) (I a 1 1))),.i (Sp.zw0 (Sp.zun (I a 0 0) (I a 0 1)+Sp.zun (I a 1 0) (I a 1 1)))]]} U fun a=>Y (v180 (I a 0 0) (I a 0 1) (I a 1 0) (I a 1 1))
end Go.Sx
namespace Go.Sx
theorem v227 (a:Int) (b:Int) (c:Int) (d:Int):InR .u64 a∧InR .u64 b∧InR .u64 c∧InR .u64 d→Cn (bLt c a) (true=decide (Sp.zun c d<Sp.zun a b)) (Cn (bEq a c) (bLt d b=decide (Sp.zun c d<Sp.zun a b)) (false=decide (Sp.zun c d<Sp.zun a b))):=by
 intro hw
 simp only[Cn_iff,Sm_iff,true_and]
 simp only[Wfs,Wf,InR,and_true]at hw
 have e1:Sp.zun a b=a*18446744073709551616+b:=rfl
 have e2:Sp.zun c d=c*18446744073709551616+d:=rfl
 generalize Sp.zun a b=X at*
 generalize Sp.zun c d=Y at*
 simp only[bLt,bEq,decide_eq_true_eq,decide_eq_false_iff_not,true_and,and_true]
 repeat' (first|apply And.intro|intro _)
 all_goals (first|trivial|(rw[decide_eq_decide]; omega)|(symm; rw[decide_eq_true_eq]; omega)|(symm; rw[decide_eq_false_iff_not]; omega))
def r227:Cr PR:=K0 [] 227 6 {ps:=[(true,[.int .u64,.int .u64]),(true,[.int .u64,.int .u64])],rs:=[(false,[.bool])],pre:=fun _=>True,out:=fun a=>[[.b (decide (Sp.zun (I a 1 0) (I a 1 1)<Sp.zun (I a 0 0) (I a 0 1)))]]} U fun a=>Y (v227 (I a 0 0) (I a 0 1) (I a 1 0) (I a 1 1))
end Go.Sx
namespace Go
open Go.Sx
def Sp.zm28 (n:Int):Int:=n % 340282366920938463463374607431768211456
def Sp.znearB (x y z:Int):Bool:= !decide (Sp.zm28 (y+z)<x)&& !decide (Sp.zm28 (x+z)<y)
end Go
theorem Go.Sp.un_m (n:Int):Sp.zun (Sp.zw1 n) (Sp.zw0 n)=Sp.zm28 n:=by
 unfold Go.Sp.zun Go.Sp.zw1 Go.Sp.zw0 Go.Sp.zm28; omega
namespace Go.Sx
theorem v181 (a:Int) (b:Int) (c:Int) (d:Int) (e:Int) (f:Int):InR .u64 a∧InR .u64 b∧InR .u64 c∧InR .u64 d∧InR .u64 e∧InR .u64 f→True∧(InR .u64 (Sp.zw1 (Sp.zun c d+Sp.zun e f))∧InR .u64 (Sp.zw0 (Sp.zun c d+Sp.zun e f))→True∧True∧Cn (bNot (decide (Sp.zun (Sp.zw1 (Sp.zun c d+Sp.zun e f)) (Sp.zw0 (Sp.zun c d+Sp.zun e f))<Sp.zun a b))) (True∧(InR .u64 (Sp.zw1 (Sp.zun a b+Sp.zun e f))∧InR .u64 (Sp.zw0 (Sp.zun a b+Sp.zun e f))→True∧True∧bNot (decide (Sp.zun (Sp.zw1 (Sp.zun a b+Sp.zun e f)) (Sp.zw0 (Sp.zun a b+Sp.zun e f))<Sp.zun c d))=Sp.znearB (Sp.zun a b) (Sp.zun c d) (Sp.zun e f))) (false=Sp.znearB (Sp.zun a b) (Sp.zun c d) (Sp.zun e f))):=by
 intro hw
 simp only[Cn_iff,Sm_iff,true_and]
 simp only[Sp.un_m]
 generalize Sp.zun a b=x at*
 generalize Sp.zun c d=y at*
 generalize Sp.zun e f=z at*
 have e:Sp.znearB x y z=(!decide (Sp.zm28 (y+z)<x)&& !decide (Sp.zm28 (x+z)<y)):=rfl
 rw[e]
 generalize decide (Sp.zm28 (y+z)<x)=p
 generalize decide (Sp.zm28 (x+z)<y)=q
 cases p<;>cases q<;>simp[bNot]
def r181:Cr PR:=K0 [r180,r227] 181 6 {ps:=[(true,[.int .u64,.int .u64]),(true,[.int .u64,.int .u64]),(true,[.int .u64,.int .u64])],rs:=[(false,[.bool])],pre:=fun _=>True,out:=fun a=>[[.b (Sp.znearB (Sp.zun (I a 0 0) (I a 0 1)) (Sp.zun (I a 1 0) (I a 1 1)) (Sp.zun (I a 2 0) (I a 2 1)))]]} U fun a=>Y (v181 (I a 0 0) (I a 0 1) (I a 1 0) (I a 1 1) (I a 2 0) (I a 2 1))
end Go.Sx

set_option linter.unusedVariables false
set_option linter.unusedSimpArgs false
set_option maxRecDepth 100000
set_option maxHeartbeats 4000000
noncomputable section
namespace Go
open Go.Sx
def Sp.ztPull (x:List C):Int:=(qi 0 x)
def Sp.ztPush (x:List C):Int:=(qi 1 x)
def Sp.ztval (x:List C):Bool:=decide (0≤Sp.ztPull x∧Sp.ztPull x≤65536∧0≤Sp.ztPush x∧Sp.ztPush x≤65536)
def Sp.zmv (bn bd pn pd dr:Int) (g:Nat) (x:List C):Int:=
 match g with
 |0=>Sp.ztPull x*bn*(pd*65536)-pn*bd*(65536+dr)
 |1=>pn*bd*(65536-dr)-Sp.ztPull x*bn*(pd*65536)
 |2=>Sp.ztPush x*bd*(pd*65536)-pn*bd*(65536+dr)
 |3=>pn*bd*(65536-dr)-Sp.ztPush x*bd*(pd*65536)
 |4=>Sp.ztPull x*bn*(pd*65536)-Sp.ztPush x*bd*(pd*65536)-pn*bd*dr
 |_=>Sp.ztPush x*bd*(pd*65536)-Sp.ztPull x*bn*(pd*65536)-pn*bd*dr
def Sp.zstp (s:Int×Int) (a:Int):Int×Int:=(s.1+a,min s.2 (s.1+a))
def Sp.zstOk (J:Int) (s:Int×Int):Bool:=decide (s.1-s.2≤J)
def Sp.zdf (J:Int) (m:Nat→List C→Int) (st:List (Int×Int)) (xs:List (List C)):Bool:=
 match xs with
 |[]=>true
 |x::r=>Sp.ztval x&&(Sp.zstOk J (Sp.zstp (st.getD 0 (0,0)) (m 0 x))&&(Sp.zstOk J (Sp.zstp (st.getD 1 (0,0)) (m 1 x))&&(Sp.zstOk J (Sp.zstp (st.getD 2 (0,0)) (m 2 x))&&(Sp.zstOk J (Sp.zstp (st.getD 3 (0,0)) (m 3 x))&&(Sp.zstOk J (Sp.zstp (st.getD 4 (0,0)) (m 4 x))&&(Sp.zstOk J (Sp.zstp (st.getD 5 (0,0)) (m 5 x))&&
  Sp.zdf J m [Sp.zstp (st.getD 0 (0,0)) (m 0 x),Sp.zstp (st.getD 1 (0,0)) (m 1 x),Sp.zstp (st.getD 2 (0,0)) (m 2 x),Sp.zstp (st.getD 3 (0,0)) (m 3 x),Sp.zstp (st.getD 4 (0,0)) (m 4 x),Sp.zstp (st.getD 5 (0,0)) (m 5 x)] r))))))
def Sp.zlv (s:Int×Int):List C:=[.i (Sp.zw1 s.1),.i (Sp.zw0 s.1),.i (Sp.zw1 s.2),.i (Sp.zw0 s.2)]
def Sp.zlvs (z:List (Int×Int)):List (List C):=z.map Sp.zlv
def Sp.zunlv (y:List C):Int×Int:=(Sp.zsg (qi 0 y) (qi 1 y),Sp.zsg (qi 2 y) (qi 3 y))
def Sp.zadd1 (ys:List (List C)) (i b c:Int):List (Int×Int):=(ys.map Sp.zunlv).set i.toNat ((Sp.zunlv (rGet ys i)).1+Sp.zsg b c,(Sp.zunlv (rGet ys i)).2)
def Sp.zlow1 (ys:List (List C)) (i:Int):List (Int×Int):=(ys.map Sp.zunlv).set i.toNat ((Sp.zunlv (rGet ys i)).1,min (Sp.zunlv (rGet ys i)).2 (Sp.zunlv (rGet ys i)).1)
def Sp.zz6:List (Int×Int):=[(0,0),(0,0),(0,0),(0,0),(0,0),(0,0)]
def Sp.zdecld (bn bd pn pd dr ji:Int) (xs:List (List C)):Bool:=
 Sp.rvalid bn bd&&(decide (bn≤768000∧bd≤768000)&&(Sp.decl pn pd dr ji&&(decide ((xs.length:Int)≤256)&&Sp.zdf (bd*(pd*65536)*ji) (Sp.zmv bn bd pn pd dr) Sp.zz6 xs)))
def Sp.zbnd (kk:Int) (st:List (Int×Int)):Prop:=st.length=6∧∀s∈st,-(kk*10000000000000000000000)≤s.1∧s.1≤kk*10000000000000000000000∧-(kk*10000000000000000000000)≤s.2∧s.2≤kk*10000000000000000000000
def Sp.zdInv (bn bd pn pd dr ji:Int) (xs:List (List C)) (kk:Int) (st:List (Int×Int)):Prop:=
 0≤kk∧kk≤(xs.length:Int)∧Sp.zbnd kk st∧Sp.zdf (bd*(pd*65536)*ji) (Sp.zmv bn bd pn pd dr) st (xs.drop kk.toNat)=Sp.zdf (bd*(pd*65536)*ji) (Sp.zmv bn bd pn pd dr) Sp.zz6 xs
def Sp.zdMov (bn bd pn pd dr:Int) (x:List C) (mm:Nat→Int):Prop:=mm=fun g=>Sp.zmv bn bd pn pd dr g x
end Go
namespace Go
open Go.Sx
theorem Sp.zw_sub1 (a b:Int):Sp.zw1 (Sp.zun (Sp.zw1 a) (Sp.zw0 a)-Sp.zun (Sp.zw1 b) (Sp.zw0 b))=Sp.zw1 (a-b):=by
 unfold Sp.zun Sp.zw1 Sp.zw0; omega
theorem Sp.zw_sub0 (a b:Int):Sp.zw0 (Sp.zun (Sp.zw1 a) (Sp.zw0 a)-Sp.zun (Sp.zw1 b) (Sp.zw0 b))=Sp.zw0 (a-b):=by
 unfold Sp.zun Sp.zw1 Sp.zw0; omega
theorem Sp.zun00:Sp.zun 0 0=Sp.zun (Sp.zw1 0) (Sp.zw0 0):=rfl
end Go
namespace Go
open Go.Sx
def Sp.zbp (M:Int) (s:Int×Int):Prop:= -M≤s.1∧s.1≤M∧-M≤s.2∧s.2≤M
def Sp.zbq (z:List (Int×Int)):Prop:=z.length=6∧∀s∈z,Sp.zbp 1000000000000000000000000000000 s
theorem Sp.zsg_w {n:Int} (h0: -1000000000000000000000000000000000000≤n) (h1:n≤1000000000000000000000000000000000000):Sp.zsg (Sp.zw1 n) (Sp.zw0 n)=n:=by
 unfold Sp.zsg Sp.zw1 Sp.zw0
 split<;>omega
theorem Sp.zrGet_lvs {z:List (Int×Int)} {i:Int} {g:Nat} (hi:i.toNat=g) (hg:g<z.length):rGet (Sp.zlvs z) i=Sp.zlv (z.getD g (0,0)):=by
 subst hi
 simp[rGet,Sp.zlvs,List.getD_eq_getElem?_getD,hg]
theorem Sp.zunlv_lv {s:Int×Int} (h:Sp.zbp 1000000000000000000000000000000 s):Sp.zunlv (Sp.zlv s)=s:=by
 obtain⟨a,b⟩:=s
 simp only[Sp.zbp]at h
 simp only[Sp.zunlv,Sp.zlv,qi,cel,List.headD_cons,List.tail_cons,C.int]
 rw[Sp.zsg_w (by omega) (by omega),Sp.zsg_w (by omega) (by omega)]
theorem Sp.zmap_unlv {z:List (Int×Int)} (hz:Sp.zbq z):(Sp.zlvs z).map Sp.zunlv=z:=by
 unfold Sp.zlvs
 rw[List.map_map]
 conv=>rhs; rw[←List.map_id z]
 exact List.map_congr_left fun s hs=>Sp.zunlv_lv (hz.2 s hs)
theorem Sp.zbq_get {z:List (Int×Int)} (hz:Sp.zbq z) {g:Nat} (hg:g<6):Sp.zbp 1000000000000000000000000000000 (z.getD g (0,0)):=by
 have h:g<z.length:=by rw[hz.1]; exact hg
 rw[List.getD_eq_getElem?_getD,List.getElem?_eq_getElem h]
 exact hz.2 _ (List.getElem_mem h)
theorem Sp.zadd1_eq {z:List (Int×Int)} {i a:Int} {g:Nat} (hz:Sp.zbq z) (hi:i.toNat=g) (hg:g<6) (h0: -1000000000000000000000000000000≤a) (h1:a≤1000000000000000000000000000000):
 Sp.zadd1 (Sp.zlvs z) i (Sp.zw1 a) (Sp.zw0 a)=z.set g ((z.getD g (0,0)).1+a,(z.getD g (0,0)).2):=by
 unfold Sp.zadd1
 rw[Sp.zmap_unlv hz,Sp.zrGet_lvs hi (by rw[hz.1]; exact hg),Sp.zunlv_lv (Sp.zbq_get hz hg),Sp.zsg_w (by omega) (by omega),hi]
theorem Sp.zlow1_eq {z:List (Int×Int)} {i:Int} {g:Nat} (hz:Sp.zbq z) (hi:i.toNat=g) (hg:g<6):
 Sp.zlow1 (Sp.zlvs z) i=z.set g ((z.getD g (0,0)).1,min (z.getD g (0,0)).2 (z.getD g (0,0)).1):=by
 unfold Sp.zlow1
 rw[Sp.zmap_unlv hz,Sp.zrGet_lvs hi (by rw[hz.1]; exact hg),Sp.zunlv_lv (Sp.zbq_get hz hg),hi]
theorem Sp.zrSet_lvs {z:List (Int×Int)} {i:Int} {g:Nat} (hi:i.toNat=g) (s:Int×Int) {c:List C} (hc:c=Sp.zlv s):rSet (Sp.zlvs z) i c=Sp.zlvs (z.set g s):=by
 subst hi; subst hc
 unfold rSet Sp.zlvs
 rw[List.map_set]
theorem Sp.zmvA {z:List (Int×Int)} {i a:Int} {g:Nat} (hz:Sp.zbq z) (hi:i.toNat=g) (hg:g<6) (h0: -1000000000000000000000000000000≤a) (h1:a≤1000000000000000000000000000000):
 rSet (Sp.zlvs z) i [C.i (Sp.zw1 (Sp.zun (qi 0 (rGet (Sp.zlvs z) i)) (qi 1 (rGet (Sp.zlvs z) i))-Sp.zun (Sp.zw1 (0-a)) (Sp.zw0 (0-a)))),
  C.i (Sp.zw0 (Sp.zun (qi 0 (rGet (Sp.zlvs z) i)) (qi 1 (rGet (Sp.zlvs z) i))-Sp.zun (Sp.zw1 (0-a)) (Sp.zw0 (0-a)))),
  C.i (qi 2 (rGet (Sp.zlvs z) i)),C.i (qi 3 (rGet (Sp.zlvs z) i))]=Sp.zlvs (Sp.zadd1 (Sp.zlvs z) i (Sp.zw1 a) (Sp.zw0 a)):=by
 rw[Sp.zadd1_eq hz hi hg h0 h1]
 refine Sp.zrSet_lvs hi _ ?_
 rw[Sp.zrGet_lvs hi (by rw[hz.1]; exact hg)]
 generalize z.getD g (0,0)=s
 simp only[Sp.zlv,qi,cel,List.headD_cons,List.tail_cons,C.int,Sp.zw_sub1,Sp.zw_sub0]
 rw[show s.1- (0-a)=s.1+a by omega]
theorem Sp.zmvB1 {z:List (Int×Int)} {i:Int} {g:Nat} (hz:Sp.zbq z) (hi:i.toNat=g) (hg:g<6)
 (h:decide (Sp.zsg (qi 0 (rGet (Sp.zlvs z) i)) (qi 1 (rGet (Sp.zlvs z) i))<Sp.zsg (qi 2 (rGet (Sp.zlvs z) i)) (qi 3 (rGet (Sp.zlvs z) i)))=true):
 rSet (Sp.zlvs z) i [C.i (qi 0 (rGet (Sp.zlvs z) i)),C.i (qi 1 (rGet (Sp.zlvs z) i)),C.i (qi 0 (rGet (Sp.zlvs z) i)),C.i (qi 1 (rGet (Sp.zlvs z) i))]=Sp.zlvs (Sp.zlow1 (Sp.zlvs z) i):=by
 rw[Sp.zlow1_eq hz hi hg]
 refine Sp.zrSet_lvs hi _ ?_
 rw[Sp.zrGet_lvs hi (by rw[hz.1]; exact hg)]at h ⊢
 have hb:=Sp.zbq_get hz hg
 revert h hb
 generalize z.getD g (0,0)=s
 intro h hb
 simp only[Sp.zbp]at hb
 replace h:=of_decide_eq_true h
 simp only[Sp.zlv,qi,cel,List.headD_cons,List.tail_cons,C.int]at h ⊢
 rw[Sp.zsg_w (by omega) (by omega),Sp.zsg_w (by omega) (by omega)]at h
 rw[show min s.2 s.1=s.1 by omega]
theorem Sp.zmvB2 {z:List (Int×Int)} {i:Int} {g:Nat} (hz:Sp.zbq z) (hi:i.toNat=g) (hg:g<6)
 (h:decide (Sp.zsg (qi 0 (rGet (Sp.zlvs z) i)) (qi 1 (rGet (Sp.zlvs z) i))<Sp.zsg (qi 2 (rGet (Sp.zlvs z) i)) (qi 3 (rGet (Sp.zlvs z) i)))=false):
 Sp.zlvs z=Sp.zlvs (Sp.zlow1 (Sp.zlvs z) i):=by
 rw[Sp.zlow1_eq hz hi hg]
 rw[Sp.zrGet_lvs hi (by rw[hz.1]; exact hg)]at h
 have hb:=Sp.zbq_get hz hg
 have hset:z.set g (z.getD g (0,0))=z:=by
  have hl:g<z.length:=by rw[hz.1]; exact hg
  rw[List.getD_eq_getElem?_getD,List.getElem?_eq_getElem hl]
  exact List.set_getElem_self hl
 have e:((z.getD g (0,0)).1,min (z.getD g (0,0)).2 (z.getD g (0,0)).1)=z.getD g (0,0):=by
  revert h hb
  generalize z.getD g (0,0)=s
  intro h hb
  simp only[Sp.zbp]at hb
  replace h:=of_decide_eq_false h
  simp only[Sp.zlv,qi,cel,List.headD_cons,List.tail_cons,C.int]at h
  rw[Sp.zsg_w (by omega) (by omega),Sp.zsg_w (by omega) (by omega)]at h
  rw[show min s.2 s.1=s.2 by omega]
 rw[e,hset]
theorem Sp.zmvC {z:List (Int×Int)} {i L:Int} {g:Nat} (hz:Sp.zbq z) (hi:i.toNat=g) (hg:g<6) (h0:0≤L) (h1:L≤1000000000000000000000000000000):
 decide (Sp.zsg (Sp.zw1 L) (Sp.zw0 L)<Sp.zsg (Sp.zw1 (Sp.zun (qi 0 (rGet (Sp.zlvs z) i)) (qi 1 (rGet (Sp.zlvs z) i))-Sp.zun (qi 2 (rGet (Sp.zlvs z) i)) (qi 3 (rGet (Sp.zlvs z) i))))
  (Sp.zw0 (Sp.zun (qi 0 (rGet (Sp.zlvs z) i)) (qi 1 (rGet (Sp.zlvs z) i))-Sp.zun (qi 2 (rGet (Sp.zlvs z) i)) (qi 3 (rGet (Sp.zlvs z) i)))))= !Sp.zstOk L (z.getD g (0,0)):=by
 rw[Sp.zrGet_lvs hi (by rw[hz.1]; exact hg)]
 have hb:=Sp.zbq_get hz hg
 revert hb
 generalize z.getD g (0,0)=s
 intro hb
 simp only[Sp.zbp]at hb
 unfold Sp.zstOk
 rw[←decide_not,decide_eq_decide]
 simp only[Sp.zlv,qi,cel,List.headD_cons,List.tail_cons,C.int,Sp.zw_sub1,Sp.zw_sub0]
 rw[Sp.zsg_w (by omega) (by omega),Sp.zsg_w (by omega) (by omega)]
 omega
theorem Sp.zlen6 {z:List (Int×Int)} (h:z.length=6):∃a b c d e f,z=[a,b,c,d,e,f]:=by
 match z,h with
 |[a,b,c,d,e,f],_=>exact⟨a,b,c,d,e,f,rfl⟩
theorem Sp.zbq6 {a b c d e f:Int×Int} (ha:Sp.zbp 1000000000000000000000000000000 a) (hb:Sp.zbp 1000000000000000000000000000000 b) (hc:Sp.zbp 1000000000000000000000000000000 c) (hd:Sp.zbp 1000000000000000000000000000000 d) (he:Sp.zbp 1000000000000000000000000000000 e) (hf:Sp.zbp 1000000000000000000000000000000 f):Sp.zbq [a,b,c,d,e,f]:=by
 refine⟨rfl,fun s hs=> ?_⟩
 simp only[List.mem_cons,List.not_mem_nil,or_false]at hs
 rcases hs with rfl|rfl|rfl|rfl|rfl|rfl<;>assumption
theorem Sp.zbp_mono {M N:Int} {s:Int×Int} (h:Sp.zbp M s) (hm:M≤N):Sp.zbp N s:=by
 simp only[Sp.zbp]at h ⊢; omega
theorem Sp.zbp_add {M E a:Int} {s:Int×Int} (h:Sp.zbp M s) (h0: -E≤a) (h1:a≤E):Sp.zbp (M+E) (s.1+a,s.2):=by
 simp only[Sp.zbp]at h ⊢; omega
theorem Sp.zbp_stp {M E a:Int} {s:Int×Int} (h:Sp.zbp M s) (h0: -E≤a) (h1:a≤E):Sp.zbp (M+E) (Sp.zstp s a):=by
 simp only[Sp.zbp,Sp.zstp]at h ⊢; omega
theorem Sp.zdecld_no {bn bd pn pd dr ji:Int} {xs:List (List C)} (h:Sp.rvalid bn bd=false∨768000<bn∨768000<bd∨Sp.decl pn pd dr ji=false∨256<(xs.length:Int)):false=Sp.zdecld bn bd pn pd dr ji xs:=by
 symm
 unfold Sp.zdecld
 rcases h with h|h|h|h|h
 · simp[h]
 · have:decide (bn≤768000∧bd≤768000)=false:=by simp; omega
   simp[this]
 · have:decide (bn≤768000∧bd≤768000)=false:=by simp; omega
   simp[this]
 · simp[h]
 · have:decide ((xs.length:Int)≤256)=false:=by simp; omega
   simp[this]
theorem Sp.zdecld_df {bn bd pn pd dr ji:Int} {xs:List (List C)} (h1:Sp.rvalid bn bd=true) (h2:bn≤768000) (h3:bd≤768000) (h4:Sp.decl pn pd dr ji=true) (h5:(xs.length:Int)≤256):
 Sp.zdecld bn bd pn pd dr ji xs=Sp.zdf (bd*(pd*65536)*ji) (Sp.zmv bn bd pn pd dr) Sp.zz6 xs:=by
 unfold Sp.zdecld
 simp[h1,h2,h3,h4,h5]
theorem Sp.zdecl_nums {bn bd pn pd dr ji:Int} (h1:Sp.rvalid bn bd=true) (h2:bn≤768000) (h3:bd≤768000) (h4:Sp.decl pn pd dr ji=true):
 1≤bn∧1≤bd∧1≤pd∧pd≤768000∧0≤dr∧dr≤4096∧0≤ji∧ji≤65536∧0≤pn*bd∧pn*bd≤68719476736*768000∧0≤bd*(pd*65536)∧bd*(pd*65536)≤768000*(768000*65536)∧
 0≤pn*bd*(65536+dr)∧pn*bd*(65536+dr)≤4000000000000000000000∧0≤pn*bd*(65536-dr)∧pn*bd*(65536-dr)≤4000000000000000000000∧0≤pn*bd*dr∧pn*bd*dr≤4000000000000000000000∧
 0≤bd*(pd*65536)*ji∧bd*(pd*65536)*ji≤4000000000000000000000:=by
 have hd:=Sp.decl_of h4
 have hb:1≤bn∧1≤bd:=by
  simp only[Sp.rvalid,decide_eq_true_eq]at h1; omega
 have a:=mul_bd (x:=pn) (X:=68719476736) (y:=bd) (Y:=768000) (by omega) (by omega) (by omega) (by omega)
 have b:=mul_bd (x:=bd) (X:=768000) (y:=pd*65536) (Y:=768000*65536) (by omega) (by omega) (by omega) (by omega)
 have c:=mul_bd (x:=pn*bd) (X:=68719476736*768000) (y:=65536+dr) (Y:=69632) (by omega) (by omega) (by omega) (by omega)
 have d:=mul_bd (x:=pn*bd) (X:=68719476736*768000) (y:=65536-dr) (Y:=69632) (by omega) (by omega) (by omega) (by omega)
 have e:=mul_bd (x:=pn*bd) (X:=68719476736*768000) (y:=dr) (Y:=69632) (by omega) (by omega) (by omega) (by omega)
 have f:=mul_bd (x:=bd*(pd*65536)) (X:=768000*(768000*65536)) (y:=ji) (Y:=65536) (by omega) (by omega) (by omega) (by omega)
 omega
theorem Sp.ztr_nums {bn bd pd u v:Int} (h1:1≤bn) (h2:bn≤768000) (h3:1≤bd) (h4:bd≤768000) (h5:1≤pd) (h6:pd≤768000) (u0:0≤u) (u1:u≤65536) (v0:0≤v) (v1:v≤65536):
 0≤u*bn∧u*bn≤65536*768000∧0≤v*bd∧v*bd≤65536*768000∧0≤u*bn*(pd*65536)∧u*bn*(pd*65536)≤4000000000000000000000∧0≤v*bd*(pd*65536)∧v*bd*(pd*65536)≤4000000000000000000000:=by
 have a:=mul_bd (x:=u) (X:=65536) (y:=bn) (Y:=768000) (by omega) (by omega) (by omega) (by omega)
 have b:=mul_bd (x:=v) (X:=65536) (y:=bd) (Y:=768000) (by omega) (by omega) (by omega) (by omega)
 have c:=mul_bd (x:=u*bn) (X:=65536*768000) (y:=pd*65536) (Y:=768000*65536) (by omega) (by omega) (by omega) (by omega)
 have d:=mul_bd (x:=v*bd) (X:=65536*768000) (y:=pd*65536) (Y:=768000*65536) (by omega) (by omega) (by omega) (by omega)
 omega
theorem Sp.zbnd_all {M:Int} {a b c d e f:Int×Int} (h:∀s∈[a,b,c,d,e,f],Sp.zbp M s):Sp.zbp M a∧Sp.zbp M b∧Sp.zbp M c∧Sp.zbp M d∧Sp.zbp M e∧Sp.zbp M f:=by
 simp only[List.mem_cons,List.not_mem_nil,or_false,forall_eq_or_imp,forall_eq]at h
 exact h
end Go
namespace Go.Sx
def A110 (bn:Int) (bd:Int) (pn:Int) (pd:Int) (dr:Int) (ji:Int) (xs:List (List C)):FuncId→Nat→LoopAnn:=fun ff ii=>bif Nat.beq ff 177 then(bif Nat.beq ii 1000002 then .on (fun sv0=>match sv0.tmps with| .rref kk cc sz i0 of:: .agg [.int _ b1,.int _ b0]::_=>(match sv0.heap[kk]? with|some (.row ee ty vv ys)=> .cut (List (Int×Int)) (fun y0=>y0=Sp.zadd1 ys i0 b1 b0) (fun _=>[]) (fun y0=>[(kk,.row ee ty vv (Sp.zlvs y0))]) [kk] ([0,1,2,4,5,6,26]++[1000000+kk])|_=> .unroll 0)|_=> .unroll 0)else bif Nat.beq ii 1000004 then .on (fun sv0=>match sv0.tmps with| .rref kk cc sz i0 of::_=>(match sv0.heap[kk]? with|some (.row ee ty vv ys)=> .cut (List (Int×Int)) (fun y0=>y0=Sp.zlow1 ys i0) (fun _=>[]) (fun y0=>[(kk,.row ee ty vv (Sp.zlvs y0))]) [kk] ([0,1,2,4,5,6,26]++[1000000+kk])|_=> .unroll 0)|_=> .unroll 0)else .unroll 9)else bif Nat.beq ii 10 then .inv (Int×List (Int×Int)) (fun z=>Sp.zdInv bn bd pn pd dr ji xs z.1 z.2) (fun z=>[(78,.int .i64 z.1)]) (fun z=>[(6,.row [.int .u64,.int .u64,.int .u64,.int .u64] 218 0 (Sp.zlvs z.2))]) [6] ([0,1,2,3,4,5,6,10,11,12,13,14,15,16,17,19,20,21,22,23,24,49,76,77,78,79,99,137,138,139,140,150]++[1000006]) (fun z=>xs.length-z.1.toNat)else bif Nat.beq ii 1000017 then .on (fun sv0=>match sv0.tmps.getD 78 .undef with| .int _ kk=> .cut (Nat→Int) (fun mm=>Sp.zdMov bn bd pn pd dr (rGet xs kk) mm) (fun mm=>[(22,.slit 6 2 [.int .u64 (Sp.zw1 (mm 0)),.int .u64 (Sp.zw0 (mm 0)),.int .u64 (Sp.zw1 (mm 1)),.int .u64 (Sp.zw0 (mm 1)),.int .u64 (Sp.zw1 (mm 2)),.int .u64 (Sp.zw0 (mm 2)),.int .u64 (Sp.zw1 (mm 3)),.int .u64 (Sp.zw0 (mm 3)),.int .u64 (Sp.zw1 (mm 4)),.int .u64 (Sp.zw0 (mm 4)),.int .u64 (Sp.zw1 (mm 5)),.int .u64 (Sp.zw0 (mm 5))])]) (fun _=>[]) [] [0,1,2,3,4,5,6,10,11,12,13,14,15,16,17,19,20,21,22,23,24,49,76,77,78,79,99,137,138,139,140,150]|_=> .unroll 0)else .unroll 9
def m110_0 (bd:Int) (pd:Int) (ji:Int):Int:=(Sp.zw1 (iMul bd (iMul pd 65536)*ji))
def m110_1 (bd:Int) (pd:Int) (ji:Int):Int:=(Sp.zw0 (iMul bd (iMul pd 65536)*ji))
def m110_2 (bn:Int) (pd:Int) (xs:List (List C)) (x:Int×List (Int×Int)):Int:=(Sp.zw1 (iMul (qi 0 (rGet xs x.1)) bn*iMul pd 65536))
def m110_3 (bn:Int) (pd:Int) (xs:List (List C)) (x:Int×List (Int×Int)):Int:=(Sp.zw0 (iMul (qi 0 (rGet xs x.1)) bn*iMul pd 65536))
def m110_4 (bd:Int) (pd:Int) (xs:List (List C)) (x:Int×List (Int×Int)):Int:=(Sp.zw1 (iMul (qi 1 (rGet xs x.1)) bd*iMul pd 65536))
def m110_5 (bd:Int) (pd:Int) (xs:List (List C)) (x:Int×List (Int×Int)):Int:=(Sp.zw0 (iMul (qi 1 (rGet xs x.1)) bd*iMul pd 65536))
def m110_6 (x_13:List (Int×Int)):List C:=(rGet (Sp.zlvs x_13) (0+1+1+1+1+1))
def m110_7 (bd:Int) (pn:Int) (dr:Int):Int:=(Sp.zw1 (iMul pn bd*iAdd 65536 dr))
def m110_8 (bd:Int) (pn:Int) (dr:Int):Int:=(Sp.zw0 (iMul pn bd*iAdd 65536 dr))
def m110_9 (bd:Int) (pn:Int) (dr:Int):Int:=(Sp.zw1 (iMul pn bd*iSub 65536 dr))
def m110_10 (bd:Int) (pn:Int) (dr:Int):Int:=(Sp.zw0 (iMul pn bd*iSub 65536 dr))
def m110_11 (x_11:List (Int×Int)):List C:=(rGet (Sp.zlvs x_11) (0+1+1+1+1))
def m110_12:List Sh:=[.int .u64,.int .u64,.int .u64,.int .u64]
def m110_13 (x_9:List (Int×Int)):List C:=(rGet (Sp.zlvs x_9) (0+1+1+1))
def m110_14 (x_12:List (Int×Int)):List C:=(rGet (Sp.zlvs x_12) (0+1+1+1+1+1))
def m110_15 (x_7:List (Int×Int)):List C:=(rGet (Sp.zlvs x_7) (0+1+1))
def m110_16 (x_10:List (Int×Int)):List C:=(rGet (Sp.zlvs x_10) (0+1+1+1+1))
def m110_17 (x_11:List (Int×Int)):List C:=(rGet (Sp.zlvs x_11) (0+1+1+1+1+1))
def m110_18 (x_5:List (Int×Int)):List C:=(rGet (Sp.zlvs x_5) (0+1))
def m110_19 (x_8:List (Int×Int)):List C:=(rGet (Sp.zlvs x_8) (0+1+1+1))
def m110_20 (x_9:List (Int×Int)):List C:=(rGet (Sp.zlvs x_9) (0+1+1+1+1))
def m110_21 (bn:Int) (bd:Int) (pd:Int) (xs:List (List C)) (x:Int×List (Int×Int)):Int:=(Sp.zw1 (Sp.zun (m110_2 bn pd xs x) (m110_3 bn pd xs x)-Sp.zun (m110_4 bd pd xs x) (m110_5 bd pd xs x)))
def m110_22 (bn:Int) (bd:Int) (pd:Int) (xs:List (List C)) (x:Int×List (Int×Int)):Int:=(Sp.zw0 (Sp.zun (m110_2 bn pd xs x) (m110_3 bn pd xs x)-Sp.zun (m110_4 bd pd xs x) (m110_5 bd pd xs x)))
def m110_23 (bn:Int) (bd:Int) (pd:Int) (xs:List (List C)) (x:Int×List (Int×Int)):Int:=(Sp.zw1 (Sp.zun (m110_4 bd pd xs x) (m110_5 bd pd xs x)-Sp.zun (m110_2 bn pd xs x) (m110_3 bn pd xs x)))
def m110_24 (bn:Int) (bd:Int) (pd:Int) (xs:List (List C)) (x:Int×List (Int×Int)):Int:=(Sp.zw0 (Sp.zun (m110_4 bd pd xs x) (m110_5 bd pd xs x)-Sp.zun (m110_2 bn pd xs x) (m110_3 bn pd xs x)))
def m110_25 (x_7:List (Int×Int)):List C:=(rGet (Sp.zlvs x_7) (0+1+1+1))
def m110_26 (x_6:List (Int×Int)):List C:=(rGet (Sp.zlvs x_6) (0+1+1))
def m110_27 (bd:Int) (pn:Int) (dr:Int):Int:=(Sp.zw1 (iMul pn bd*dr))
def m110_28 (bd:Int) (pn:Int) (dr:Int):Int:=(Sp.zw0 (iMul pn bd*dr))
def m110_29 (x_1:Nat→Int):Int:=(Sp.zw1 (Sp.zun 0 0-Sp.zun (Sp.zw1 (x_1 0)) (Sp.zw0 (x_1 0))))
def m110_30 (x_1:Nat→Int):Int:=(Sp.zw0 (Sp.zun 0 0-Sp.zun (Sp.zw1 (x_1 0)) (Sp.zw0 (x_1 0))))
def m110_31 (x_1:Nat→Int):Int:=(Sp.zw1 (Sp.zun 0 0-Sp.zun (Sp.zw1 (x_1 1)) (Sp.zw0 (x_1 1))))
def m110_32 (x_1:Nat→Int):Int:=(Sp.zw0 (Sp.zun 0 0-Sp.zun (Sp.zw1 (x_1 1)) (Sp.zw0 (x_1 1))))
def m110_33 (x_1:Nat→Int):Int:=(Sp.zw1 (Sp.zun 0 0-Sp.zun (Sp.zw1 (x_1 2)) (Sp.zw0 (x_1 2))))
def m110_34 (x_1:Nat→Int):Int:=(Sp.zw0 (Sp.zun 0 0-Sp.zun (Sp.zw1 (x_1 2)) (Sp.zw0 (x_1 2))))
def m110_35 (x_1:Nat→Int):Int:=(Sp.zw1 (Sp.zun 0 0-Sp.zun (Sp.zw1 (x_1 3)) (Sp.zw0 (x_1 3))))
def m110_36 (x_1:Nat→Int):Int:=(Sp.zw0 (Sp.zun 0 0-Sp.zun (Sp.zw1 (x_1 3)) (Sp.zw0 (x_1 3))))
def m110_37 (x_1:Nat→Int):Int:=(Sp.zw1 (Sp.zun 0 0-Sp.zun (Sp.zw1 (x_1 4)) (Sp.zw0 (x_1 4))))
def m110_38 (x_1:Nat→Int):Int:=(Sp.zw0 (Sp.zun 0 0-Sp.zun (Sp.zw1 (x_1 4)) (Sp.zw0 (x_1 4))))
def m110_39 (x_1:Nat→Int):Int:=(Sp.zw1 (Sp.zun 0 0-Sp.zun (Sp.zw1 (x_1 5)) (Sp.zw0 (x_1 5))))
def m110_40 (x_1:Nat→Int):Int:=(Sp.zw0 (Sp.zun 0 0-Sp.zun (Sp.zw1 (x_1 5)) (Sp.zw0 (x_1 5))))
def m110_41 (x_5:List (Int×Int)):List C:=(rGet (Sp.zlvs x_5) (0+1+1))
def m110_42 (x_4:List (Int×Int)):List C:=(rGet (Sp.zlvs x_4) (0+1))
def m110_43 (x_3:List (Int×Int)):List C:=(rGet (Sp.zlvs x_3) 0)
def m110_44 (x_3:List (Int×Int)):List C:=(rGet (Sp.zlvs x_3) (0+1))
theorem v110 (bn:Int) (bd:Int) (pn:Int) (pd:Int) (dr:Int) (ji:Int) (xs:List (List C)):InR .i64 bn∧InR .i64 bd∧InR .i64 pn∧InR .i64 pd∧InR .i64 dr∧InR .i64 ji∧WL hII xs→True∧True∧Cn (bNot (Sp.rvalid bn bd)) (false=Sp.zdecld bn bd pn pd dr ji xs) (Cn (bLt 768000 bn) (false=Sp.zdecld bn bd pn pd dr ji xs) (Cn (bLt 768000 bd) (false=Sp.zdecld bn bd pn pd dr ji xs) (True∧True∧Cn (bNot (Sp.decl pn pd dr ji)) (false=Sp.zdecld bn bd pn pd dr ji xs) (pLe (iLen xs) 9223372036854775807→Cn (bLt 256 (iLen xs)) (false=Sp.zdecld bn bd pn pd dr ji xs) (InR .i64 (iMul pd 65536)∧InR .i64 (iMul pn bd)∧InR .i64 (iMul bd (iMul pd 65536))∧(0≤iMul bd (iMul pd 65536)∧0≤ji)∧(InR .u64 (m110_0 bd pd ji)∧InR .u64 (m110_1 bd pd ji)→InR .i64 (iAdd 65536 dr)∧(0≤iMul pn bd∧0≤iAdd 65536 dr)∧(InR .u64 (m110_7 bd pn dr)∧InR .u64 (m110_8 bd pn dr)→InR .i64 (iSub 65536 dr)∧(0≤iMul pn bd∧0≤iSub 65536 dr)∧(InR .u64 (m110_9 bd pn dr)∧InR .u64 (m110_10 bd pn dr)→(0≤iMul pn bd∧0≤dr)∧(InR .u64 (m110_27 bd pn dr)∧InR .u64 (m110_28 bd pn dr)→(pLe 0 6∧pLe 6 6∧pRoom 32 6)∧(pLe (iLen xs) 9223372036854775807→(∃(x:Int×List (Int×Int)),Sp.zdInv bn bd pn pd dr ji xs x.1 x.2∧0=x.1∧List.replicate (Int.toNat 6) [C.i 0,C.i 0,C.i 0,C.i 0]=Sp.zlvs x.2)∧∀(x:Int×List (Int×Int)),Sp.zdInv bn bd pn pd dr ji xs x.1 x.2→InR .i64 x.1∧WL m110_12 (Sp.zlvs x.2)→Cn (bLt x.1 (iLen xs)) (pIn 0 (iLen xs) x.1∧(InR .i64 (qi 0 (rGet xs x.1))∧InR .i64 (qi 1 (rGet xs x.1))→Cn (bLt (qi 0 (rGet xs x.1)) 0) (false=Sp.zdecld bn bd pn pd dr ji xs) (Cn (bLt 65536 (qi 0 (rGet xs x.1))) (false=Sp.zdecld bn bd pn pd dr ji xs) (Cn (bLt (qi 1 (rGet xs x.1)) 0) (false=Sp.zdecld bn bd pn pd dr ji xs) (Cn (bLt 65536 (qi 1 (rGet xs x.1))) (false=Sp.zdecld bn bd pn pd dr ji xs) (InR .i64 (iMul (qi 0 (rGet xs x.1)) bn)∧(0≤iMul (qi 0 (rGet xs x.1)) bn∧0≤iMul pd 65536)∧(InR .u64 (m110_2 bn pd xs x)∧InR .u64 (m110_3 bn pd xs x)→InR .i64 (iMul (qi 1 (rGet xs x.1)) bd)∧(0≤iMul (qi 1 (rGet xs x.1)) bd∧0≤iMul pd 65536)∧(InR .u64 (m110_4 bd pd xs x)∧InR .u64 (m110_5 bd pd xs x)→(True∧(InR .u64 (Sp.zw1 (Sp.zun (m110_2 bn pd xs x) (m110_3 bn pd xs x)-Sp.zun (m110_7 bd pn dr) (m110_8 bd pn dr)))∧InR .u64 (Sp.zw0 (Sp.zun (m110_2 bn pd xs x) (m110_3 bn pd xs x)-Sp.zun (m110_7 bd pn dr) (m110_8 bd pn dr)))→True∧(InR .u64 (Sp.zw1 (Sp.zun (m110_9 bd pn dr) (m110_10 bd pn dr)-Sp.zun (m110_2 bn pd xs x) (m110_3 bn pd xs x)))∧InR .u64 (Sp.zw0 (Sp.zun (m110_9 bd pn dr) (m110_10 bd pn dr)-Sp.zun (m110_2 bn pd xs x) (m110_3 bn pd xs x)))→True∧(InR .u64 (Sp.zw1 (Sp.zun (m110_4 bd pd xs x) (m110_5 bd pd xs x)-Sp.zun (m110_7 bd pn dr) (m110_8 bd pn dr)))∧InR .u64 (Sp.zw0 (Sp.zun (m110_4 bd pd xs x) (m110_5 bd pd xs x)-Sp.zun (m110_7 bd pn dr) (m110_8 bd pn dr)))→True∧(InR .u64 (Sp.zw1 (Sp.zun (m110_9 bd pn dr) (m110_10 bd pn dr)-Sp.zun (m110_4 bd pd xs x) (m110_5 bd pd xs x)))∧InR .u64 (Sp.zw0 (Sp.zun (m110_9 bd pn dr) (m110_10 bd pn dr)-Sp.zun (m110_4 bd pd xs x) (m110_5 bd pd xs x)))→True∧(InR .u64 (m110_21 bn bd pd xs x)∧InR .u64 (m110_22 bn bd pd xs x)→True∧(InR .u64 (Sp.zw1 (Sp.zun (m110_21 bn bd pd xs x) (m110_22 bn bd pd xs x)-Sp.zun (m110_27 bd pn dr) (m110_28 bd pn dr)))∧InR .u64 (Sp.zw0 (Sp.zun (m110_21 bn bd pd xs x) (m110_22 bn bd pd xs x)-Sp.zun (m110_27 bd pn dr) (m110_28 bd pn dr)))→True∧(InR .u64 (m110_23 bn bd pd xs x)∧InR .u64 (m110_24 bn bd pd xs x)→True∧(InR .u64 (Sp.zw1 (Sp.zun (m110_23 bn bd pd xs x) (m110_24 bn bd pd xs x)-Sp.zun (m110_27 bd pn dr) (m110_28 bd pn dr)))∧InR .u64 (Sp.zw0 (Sp.zun (m110_23 bn bd pd xs x) (m110_24 bn bd pd xs x)-Sp.zun (m110_27 bd pn dr) (m110_28 bd pn dr)))→Sm [C.i bn,C.i bd]∧Sm [C.i pn,C.i pd]∧Sm dr∧Sm ji∧Sm xs∧Sm (iMul pd 65536)∧Sm (iMul pn bd)∧Sm xs∧Sm (iLen xs)∧Sm x.1∧Sm [C.i bn,C.i bd]∧Sm [C.i pn,C.i pd]∧Sm [C.i (m110_0 bd pd ji),C.i (m110_1 bd pd ji)]∧Sm [C.i (m110_7 bd pn dr),C.i (m110_8 bd pn dr)]∧Sm [C.i (m110_9 bd pn dr),C.i (m110_10 bd pn dr)]∧Sm [C.i (m110_27 bd pn dr),C.i (m110_28 bd pn dr)]∧Sm (Sp.zlvs x.2)∧Sm (sg 0 [0,0] (rGet xs x.1))∧Sm [C.i (m110_2 bn pd xs x),C.i (m110_3 bn pd xs x)]∧Sm [C.i (m110_4 bd pd xs x),C.i (m110_5 bd pd xs x)]∧∃(y:Nat→Int),Sp.zdMov bn bd pn pd dr (rGet xs x.1) y∧Sp.zw1 (Sp.zun (m110_2 bn pd xs x) (m110_3 bn pd xs x)-Sp.zun (m110_7 bd pn dr) (m110_8 bd pn dr))=Sp.zw1 (y 0)∧Sp.zw0 (Sp.zun (m110_2 bn pd xs x) (m110_3 bn pd xs x)-Sp.zun (m110_7 bd pn dr) (m110_8 bd pn dr))=Sp.zw0 (y 0)∧Sp.zw1 (Sp.zun (m110_9 bd pn dr) (m110_10 bd pn dr)-Sp.zun (m110_2 bn pd xs x) (m110_3 bn pd xs x))=Sp.zw1 (y 1)∧Sp.zw0 (Sp.zun (m110_9 bd pn dr) (m110_10 bd pn dr)-Sp.zun (m110_2 bn pd xs x) (m110_3 bn pd xs x))=Sp.zw0 (y 1)∧Sp.zw1 (Sp.zun (m110_4 bd pd xs x) (m110_5 bd pd xs x)-Sp.zun (m110_7 bd pn dr) (m110_8 bd pn dr))=Sp.zw1 (y 2)∧Sp.zw0 (Sp.zun (m110_4 bd pd xs x) (m110_5 bd pd xs x)-Sp.zun (m110_7 bd pn dr) (m110_8 bd pn dr))=Sp.zw0 (y 2)∧Sp.zw1 (Sp.zun (m110_9 bd pn dr) (m110_10 bd pn dr)-Sp.zun (m110_4 bd pd xs x) (m110_5 bd pd xs x))=Sp.zw1 (y 3)∧Sp.zw0 (Sp.zun (m110_9 bd pn dr) (m110_10 bd pn dr)-Sp.zun (m110_4 bd pd xs x) (m110_5 bd pd xs x))=Sp.zw0 (y 3)∧Sp.zw1 (Sp.zun (m110_21 bn bd pd xs x) (m110_22 bn bd pd xs x)-Sp.zun (m110_27 bd pn dr) (m110_28 bd pn dr))=Sp.zw1 (y 4)∧Sp.zw0 (Sp.zun (m110_21 bn bd pd xs x) (m110_22 bn bd pd xs x)-Sp.zun (m110_27 bd pn dr) (m110_28 bd pn dr))=Sp.zw0 (y 4)∧Sp.zw1 (Sp.zun (m110_23 bn bd pd xs x) (m110_24 bn bd pd xs x)-Sp.zun (m110_27 bd pn dr) (m110_28 bd pn dr))=Sp.zw1 (y 5)∧Sp.zw0 (Sp.zun (m110_23 bn bd pd xs x) (m110_24 bn bd pd xs x)-Sp.zun (m110_27 bd pn dr) (m110_28 bd pn dr))=Sp.zw0 (y 5))))))))))∧∀(x_1:Nat→Int),Sp.zdMov bn bd pn pd dr (rGet xs x.1) x_1→6≤16777216∧InR .u64 (Sp.zw1 (x_1 0))∧InR .u64 (Sp.zw0 (x_1 0))∧InR .u64 (Sp.zw1 (x_1 1))∧InR .u64 (Sp.zw0 (x_1 1))∧InR .u64 (Sp.zw1 (x_1 2))∧InR .u64 (Sp.zw0 (x_1 2))∧InR .u64 (Sp.zw1 (x_1 3))∧InR .u64 (Sp.zw0 (x_1 3))∧InR .u64 (Sp.zw1 (x_1 4))∧InR .u64 (Sp.zw0 (x_1 4))∧InR .u64 (Sp.zw1 (x_1 5))∧InR .u64 (Sp.zw0 (x_1 5))→InR .u64 (Sp.zw1 (x_1 0))∧InR .u64 (Sp.zw0 (x_1 0))→pIn 0 (iLen (Sp.zlvs x.2)) 0∧(InR .u64 (qi 0 (rGet (Sp.zlvs x.2) 0))∧InR .u64 (qi 1 (rGet (Sp.zlvs x.2) 0))→True∧(InR .u64 (m110_29 x_1)∧InR .u64 (m110_30 x_1)→True∧(InR .u64 (Sp.zw1 (Sp.zun (qi 0 (rGet (Sp.zlvs x.2) 0)) (qi 1 (rGet (Sp.zlvs x.2) 0))-Sp.zun (m110_29 x_1) (m110_30 x_1)))∧InR .u64 (Sp.zw0 (Sp.zun (qi 0 (rGet (Sp.zlvs x.2) 0)) (qi 1 (rGet (Sp.zlvs x.2) 0))-Sp.zun (m110_29 x_1) (m110_30 x_1)))→Sm (SV.rref 6 0 4 0 0)∧Sm [C.i (Sp.zw1 (x_1 0)),C.i (Sp.zw0 (x_1 0))]∧Sm [C.i (m110_0 bd pd ji),C.i (m110_1 bd pd ji)]∧Sm [C.i bn,C.i bd]∧Sm [C.i pn,C.i pd]∧Sm [C.i (m110_0 bd pd ji),C.i (m110_1 bd pd ji)]∧Sm [C.i (m110_7 bd pn dr),C.i (m110_8 bd pn dr)]∧Sm [C.i (m110_9 bd pn dr),C.i (m110_10 bd pn dr)]∧Sm [C.i (m110_27 bd pn dr),C.i (m110_28 bd pn dr)]∧Sm (sg 0 [0,0] (rGet xs x.1))∧Sm [C.i (m110_2 bn pd xs x),C.i (m110_3 bn pd xs x)]∧Sm [C.i (m110_4 bd pd xs x),C.i (m110_5 bd pd xs x)]∧Sm [C.i (Sp.zw1 (x_1 0)),C.i (Sp.zw0 (x_1 0))]∧Sm [C.i (Sp.zw1 (x_1 0)),C.i (Sp.zw0 (x_1 0))]∧Sm [C.i (m110_0 bd pd ji),C.i (m110_1 bd pd ji)]∧∃(y:List (Int×Int)),y=Sp.zadd1 (Sp.zlvs x.2) 0 (Sp.zw1 (x_1 0)) (Sp.zw0 (x_1 0))∧rSet (Sp.zlvs x.2) 0 (C.i (Sp.zw1 (Sp.zun (qi 0 (rGet (Sp.zlvs x.2) 0)) (qi 1 (rGet (Sp.zlvs x.2) 0))-Sp.zun (m110_29 x_1) (m110_30 x_1)))::C.i (Sp.zw0 (Sp.zun (qi 0 (rGet (Sp.zlvs x.2) 0)) (qi 1 (rGet (Sp.zlvs x.2) 0))-Sp.zun (m110_29 x_1) (m110_30 x_1)))::sg 2 [0,0] (rGet (Sp.zlvs x.2) 0))=Sp.zlvs y)))∧∀(x_2:List (Int×Int)),x_2=Sp.zadd1 (Sp.zlvs x.2) 0 (Sp.zw1 (x_1 0)) (Sp.zw0 (x_1 0))→WL m110_12 (Sp.zlvs x_2)→(InR .u64 (qi 0 (rGet (Sp.zlvs x_2) 0))∧InR .u64 (qi 1 (rGet (Sp.zlvs x_2) 0))→InR .u64 (qi 2 (rGet (Sp.zlvs x_2) 0))∧InR .u64 (qi 3 (rGet (Sp.zlvs x_2) 0))→True∧Cn (decide (Sp.zsg (qi 0 (rGet (Sp.zlvs x_2) 0)) (qi 1 (rGet (Sp.zlvs x_2) 0))<Sp.zsg (qi 2 (rGet (Sp.zlvs x_2) 0)) (qi 3 (rGet (Sp.zlvs x_2) 0)))) (InR .u64 (qi 0 (rGet (Sp.zlvs x_2) 0))∧InR .u64 (qi 1 (rGet (Sp.zlvs x_2) 0))→Sm (SV.rref 6 0 4 0 0)∧Sm [C.i (Sp.zw1 (x_1 0)),C.i (Sp.zw0 (x_1 0))]∧Sm [C.i (m110_0 bd pd ji),C.i (m110_1 bd pd ji)]∧Sm [C.i bn,C.i bd]∧Sm [C.i pn,C.i pd]∧Sm [C.i (m110_0 bd pd ji),C.i (m110_1 bd pd ji)]∧Sm [C.i (m110_7 bd pn dr),C.i (m110_8 bd pn dr)]∧Sm [C.i (m110_9 bd pn dr),C.i (m110_10 bd pn dr)]∧Sm [C.i (m110_27 bd pn dr),C.i (m110_28 bd pn dr)]∧Sm (sg 0 [0,0] (rGet xs x.1))∧Sm [C.i (m110_2 bn pd xs x),C.i (m110_3 bn pd xs x)]∧Sm [C.i (m110_4 bd pd xs x),C.i (m110_5 bd pd xs x)]∧Sm [C.i (Sp.zw1 (x_1 0)),C.i (Sp.zw0 (x_1 0))]∧Sm [C.i (Sp.zw1 (x_1 0)),C.i (Sp.zw0 (x_1 0))]∧Sm [C.i (m110_0 bd pd ji),C.i (m110_1 bd pd ji)]∧∃(y:List (Int×Int)),y=Sp.zlow1 (Sp.zlvs x_2) 0∧rSet (Sp.zlvs x_2) 0 (C.i (qi 0 (rGet (Sp.zlvs x_2) 0))::C.i (qi 1 (rGet (Sp.zlvs x_2) 0))::sg 0 [0,0] (rGet (Sp.zlvs x_2) 0))=Sp.zlvs y) (Sm (SV.rref 6 0 4 0 0)∧Sm [C.i (Sp.zw1 (x_1 0)),C.i (Sp.zw0 (x_1 0))]∧Sm [C.i (m110_0 bd pd ji),C.i (m110_1 bd pd ji)]∧Sm [C.i bn,C.i bd]∧Sm [C.i pn,C.i pd]∧Sm [C.i (m110_0 bd pd ji),C.i (m110_1 bd pd ji)]∧Sm [C.i (m110_7 bd pn dr),C.i (m110_8 bd pn dr)]∧Sm [C.i (m110_9 bd pn dr),C.i (m110_10 bd pn dr)]∧Sm [C.i (m110_27 bd pn dr),C.i (m110_28 bd pn dr)]∧Sm (sg 0 [0,0] (rGet xs x.1))∧Sm [C.i (m110_2 bn pd xs x),C.i (m110_3 bn pd xs x)]∧Sm [C.i (m110_4 bd pd xs x),C.i (m110_5 bd pd xs x)]∧Sm [C.i (Sp.zw1 (x_1 0)),C.i (Sp.zw0 (x_1 0))]∧Sm [C.i (Sp.zw1 (x_1 0)),C.i (Sp.zw0 (x_1 0))]∧Sm [C.i (m110_0 bd pd ji),C.i (m110_1 bd pd ji)]∧∃(y:List (Int×Int)),y=Sp.zlow1 (Sp.zlvs x_2) 0∧Sp.zlvs x_2=Sp.zlvs y))∧∀(x_3:List (Int×Int)),x_3=Sp.zlow1 (Sp.zlvs x_2) 0→WL m110_12 (Sp.zlvs x_3)→InR .u64 (qi 0 (m110_43 x_3))∧InR .u64 (qi 1 (m110_43 x_3))→InR .u64 (qi 2 (m110_43 x_3))∧InR .u64 (qi 3 (m110_43 x_3))→True∧(InR .u64 (Sp.zw1 (Sp.zun (qi 0 (m110_43 x_3)) (qi 1 (m110_43 x_3))-Sp.zun (qi 2 (m110_43 x_3)) (qi 3 (m110_43 x_3))))∧InR .u64 (Sp.zw0 (Sp.zun (qi 0 (m110_43 x_3)) (qi 1 (m110_43 x_3))-Sp.zun (qi 2 (m110_43 x_3)) (qi 3 (m110_43 x_3))))→True∧True∧True∧Cn (bNot (bNot (decide (Sp.zsg (m110_0 bd pd ji) (m110_1 bd pd ji)<Sp.zsg (Sp.zw1 (Sp.zun (qi 0 (m110_43 x_3)) (qi 1 (m110_43 x_3))-Sp.zun (qi 2 (m110_43 x_3)) (qi 3 (m110_43 x_3)))) (Sp.zw0 (Sp.zun (qi 0 (m110_43 x_3)) (qi 1 (m110_43 x_3))-Sp.zun (qi 2 (m110_43 x_3)) (qi 3 (m110_43 x_3)))))))) (false=Sp.zdecld bn bd pn pd dr ji xs) (InR .u64 (Sp.zw1 (x_1 1))∧InR .u64 (Sp.zw0 (x_1 1))→pIn 0 (iLen (Sp.zlvs x_3)) (0+1)∧(InR .u64 (qi 0 (m110_44 x_3))∧InR .u64 (qi 1 (m110_44 x_3))→True∧(InR .u64 (m110_31 x_1)∧InR .u64 (m110_32 x_1)→True∧(InR .u64 (Sp.zw1 (Sp.zun (qi 0 (m110_44 x_3)) (qi 1 (m110_44 x_3))-Sp.zun (m110_31 x_1) (m110_32 x_1)))∧InR .u64 (Sp.zw0 (Sp.zun (qi 0 (m110_44 x_3)) (qi 1 (m110_44 x_3))-Sp.zun (m110_31 x_1) (m110_32 x_1)))→Sm (SV.rref 6 0 4 (0+1) 0)∧Sm [C.i (Sp.zw1 (x_1 1)),C.i (Sp.zw0 (x_1 1))]∧Sm [C.i (m110_0 bd pd ji),C.i (m110_1 bd pd ji)]∧Sm [C.i bn,C.i bd]∧Sm [C.i pn,C.i pd]∧Sm [C.i (m110_0 bd pd ji),C.i (m110_1 bd pd ji)]∧Sm [C.i (m110_7 bd pn dr),C.i (m110_8 bd pn dr)]∧Sm [C.i (m110_9 bd pn dr),C.i (m110_10 bd pn dr)]∧Sm [C.i (m110_27 bd pn dr),C.i (m110_28 bd pn dr)]∧Sm (sg 0 [0,0] (rGet xs x.1))∧Sm [C.i (m110_2 bn pd xs x),C.i (m110_3 bn pd xs x)]∧Sm [C.i (m110_4 bd pd xs x),C.i (m110_5 bd pd xs x)]∧Sm [C.i (Sp.zw1 (x_1 0)),C.i (Sp.zw0 (x_1 0))]∧Sm [C.i (Sp.zw1 (x_1 0)),C.i (Sp.zw0 (x_1 0))]∧Sm [C.i (m110_0 bd pd ji),C.i (m110_1 bd pd ji)]∧Sm [C.i (Sp.zw1 (x_1 1)),C.i (Sp.zw0 (x_1 1))]∧Sm [C.i (Sp.zw1 (x_1 1)),C.i (Sp.zw0 (x_1 1))]∧Sm [C.i (m110_0 bd pd ji),C.i (m110_1 bd pd ji)]∧∃(y:List (Int×Int)),y=Sp.zadd1 (Sp.zlvs x_3) (0+1) (Sp.zw1 (x_1 1)) (Sp.zw0 (x_1 1))∧rSet (Sp.zlvs x_3) (0+1) (C.i (Sp.zw1 (Sp.zun (qi 0 (m110_44 x_3)) (qi 1 (m110_44 x_3))-Sp.zun (m110_31 x_1) (m110_32 x_1)))::C.i (Sp.zw0 (Sp.zun (qi 0 (m110_44 x_3)) (qi 1 (m110_44 x_3))-Sp.zun (m110_31 x_1) (m110_32 x_1)))::sg 2 [0,0] (m110_44 x_3))=Sp.zlvs y)))∧∀(x_4:List (Int×Int)),x_4=Sp.zadd1 (Sp.zlvs x_3) (0+1) (Sp.zw1 (x_1 1)) (Sp.zw0 (x_1 1))→WL m110_12 (Sp.zlvs x_4)→(InR .u64 (qi 0 (m110_42 x_4))∧InR .u64 (qi 1 (m110_42 x_4))→InR .u64 (qi 2 (m110_42 x_4))∧InR .u64 (qi 3 (m110_42 x_4))→True∧Cn (decide (Sp.zsg (qi 0 (m110_42 x_4)) (qi 1 (m110_42 x_4))<Sp.zsg (qi 2 (m110_42 x_4)) (qi 3 (m110_42 x_4)))) (InR .u64 (qi 0 (m110_42 x_4))∧InR .u64 (qi 1 (m110_42 x_4))→Sm (SV.rref 6 0 4 (0+1) 0)∧Sm [C.i (Sp.zw1 (x_1 1)),C.i (Sp.zw0 (x_1 1))]∧Sm [C.i (m110_0 bd pd ji),C.i (m110_1 bd pd ji)]∧Sm [C.i bn,C.i bd]∧Sm [C.i pn,C.i pd]∧Sm [C.i (m110_0 bd pd ji),C.i (m110_1 bd pd ji)]∧Sm [C.i (m110_7 bd pn dr),C.i (m110_8 bd pn dr)]∧Sm [C.i (m110_9 bd pn dr),C.i (m110_10 bd pn dr)]∧Sm [C.i (m110_27 bd pn dr),C.i (m110_28 bd pn dr)]∧Sm (sg 0 [0,0] (rGet xs x.1))∧Sm [C.i (m110_2 bn pd xs x),C.i (m110_3 bn pd xs x)]∧Sm [C.i (m110_4 bd pd xs x),C.i (m110_5 bd pd xs x)]∧Sm [C.i (Sp.zw1 (x_1 0)),C.i (Sp.zw0 (x_1 0))]∧Sm [C.i (Sp.zw1 (x_1 0)),C.i (Sp.zw0 (x_1 0))]∧Sm [C.i (m110_0 bd pd ji),C.i (m110_1 bd pd ji)]∧Sm [C.i (Sp.zw1 (x_1 1)),C.i (Sp.zw0 (x_1 1))]∧Sm [C.i (Sp.zw1 (x_1 1)),C.i (Sp.zw0 (x_1 1))]∧Sm [C.i (m110_0 bd pd ji),C.i (m110_1 bd pd ji)]∧∃(y:List (Int×Int)),y=Sp.zlow1 (Sp.zlvs x_4) (0+1)∧rSet (Sp.zlvs x_4) (0+1) (C.i (qi 0 (m110_42 x_4))::C.i (qi 1 (m110_42 x_4))::sg 0 [0,0] (m110_42 x_4))=Sp.zlvs y) (Sm (SV.rref 6 0 4 (0+1) 0)∧Sm [C.i (Sp.zw1 (x_1 1)),C.i (Sp.zw0 (x_1 1))]∧Sm [C.i (m110_0 bd pd ji),C.i (m110_1 bd pd ji)]∧Sm [C.i bn,C.i bd]∧Sm [C.i pn,C.i pd]∧Sm [C.i (m110_0 bd pd ji),C.i (m110_1 bd pd ji)]∧Sm [C.i (m110_7 bd pn dr),C.i (m110_8 bd pn dr)]∧Sm [C.i (m110_9 bd pn dr),C.i (m110_10 bd pn dr)]∧Sm [C.i (m110_27 bd pn dr),C.i (m110_28 bd pn dr)]∧Sm (sg 0 [0,0] (rGet xs x.1))∧Sm [C.i (m110_2 bn pd xs x),C.i (m110_3 bn pd xs x)]∧Sm [C.i (m110_4 bd pd xs x),C.i (m110_5 bd pd xs x)]∧Sm [C.i (Sp.zw1 (x_1 0)),C.i (Sp.zw0 (x_1 0))]∧Sm [C.i (Sp.zw1 (x_1 0)),C.i (Sp.zw0 (x_1 0))]∧Sm [C.i (m110_0 bd pd ji),C.i (m110_1 bd pd ji)]∧Sm [C.i (Sp.zw1 (x_1 1)),C.i (Sp.zw0 (x_1 1))]∧Sm [C.i (Sp.zw1 (x_1 1)),C.i (Sp.zw0 (x_1 1))]∧Sm [C.i (m110_0 bd pd ji),C.i (m110_1 bd pd ji)]∧∃(y:List (Int×Int)),y=Sp.zlow1 (Sp.zlvs x_4) (0+1)∧Sp.zlvs x_4=Sp.zlvs y))∧∀(x_5:List (Int×Int)),x_5=Sp.zlow1 (Sp.zlvs x_4) (0+1)→WL m110_12 (Sp.zlvs x_5)→InR .u64 (qi 0 (m110_18 x_5))∧InR .u64 (qi 1 (m110_18 x_5))→InR .u64 (qi 2 (m110_18 x_5))∧InR .u64 (qi 3 (m110_18 x_5))→True∧(InR .u64 (Sp.zw1 (Sp.zun (qi 0 (m110_18 x_5)) (qi 1 (m110_18 x_5))-Sp.zun (qi 2 (m110_18 x_5)) (qi 3 (m110_18 x_5))))∧InR .u64 (Sp.zw0 (Sp.zun (qi 0 (m110_18 x_5)) (qi 1 (m110_18 x_5))-Sp.zun (qi 2 (m110_18 x_5)) (qi 3 (m110_18 x_5))))→True∧True∧True∧Cn (bNot (bNot (decide (Sp.zsg (m110_0 bd pd ji) (m110_1 bd pd ji)<Sp.zsg (Sp.zw1 (Sp.zun (qi 0 (m110_18 x_5)) (qi 1 (m110_18 x_5))-Sp.zun (qi 2 (m110_18 x_5)) (qi 3 (m110_18 x_5)))) (Sp.zw0 (Sp.zun (qi 0 (m110_18 x_5)) (qi 1 (m110_18 x_5))-Sp.zun (qi 2 (m110_18 x_5)) (qi 3 (m110_18 x_5)))))))) (false=Sp.zdecld bn bd pn pd dr ji xs) (InR .u64 (Sp.zw1 (x_1 2))∧InR .u64 (Sp.zw0 (x_1 2))→pIn 0 (iLen (Sp.zlvs x_5)) (0+1+1)∧(InR .u64 (qi 0 (m110_41 x_5))∧InR .u64 (qi 1 (m110_41 x_5))→True∧(InR .u64 (m110_33 x_1)∧InR .u64 (m110_34 x_1)→True∧(InR .u64 (Sp.zw1 (Sp.zun (qi 0 (m110_41 x_5)) (qi 1 (m110_41 x_5))-Sp.zun (m110_33 x_1) (m110_34 x_1)))∧InR .u64 (Sp.zw0 (Sp.zun (qi 0 (m110_41 x_5)) (qi 1 (m110_41 x_5))-Sp.zun (m110_33 x_1) (m110_34 x_1)))→Sm (SV.rref 6 0 4 (0+1+1) 0)∧Sm [C.i (Sp.zw1 (x_1 2)),C.i (Sp.zw0 (x_1 2))]∧Sm [C.i (m110_0 bd pd ji),C.i (m110_1 bd pd ji)]∧Sm [C.i bn,C.i bd]∧Sm [C.i pn,C.i pd]∧Sm [C.i (m110_0 bd pd ji),C.i (m110_1 bd pd ji)]∧Sm [C.i (m110_7 bd pn dr),C.i (m110_8 bd pn dr)]∧Sm [C.i (m110_9 bd pn dr),C.i (m110_10 bd pn dr)]∧Sm [C.i (m110_27 bd pn dr),C.i (m110_28 bd pn dr)]∧Sm (sg 0 [0,0] (rGet xs x.1))∧Sm [C.i (m110_2 bn pd xs x),C.i (m110_3 bn pd xs x)]∧Sm [C.i (m110_4 bd pd xs x),C.i (m110_5 bd pd xs x)]∧Sm [C.i (Sp.zw1 (x_1 0)),C.i (Sp.zw0 (x_1 0))]∧Sm [C.i (Sp.zw1 (x_1 0)),C.i (Sp.zw0 (x_1 0))]∧Sm [C.i (m110_0 bd pd ji),C.i (m110_1 bd pd ji)]∧Sm [C.i (Sp.zw1 (x_1 1)),C.i (Sp.zw0 (x_1 1))]∧Sm [C.i (Sp.zw1 (x_1 1)),C.i (Sp.zw0 (x_1 1))]∧Sm [C.i (m110_0 bd pd ji),C.i (m110_1 bd pd ji)]∧Sm [C.i (Sp.zw1 (x_1 2)),C.i (Sp.zw0 (x_1 2))]∧Sm [C.i (Sp.zw1 (x_1 2)),C.i (Sp.zw0 (x_1 2))]∧Sm [C.i (m110_0 bd pd ji),C.i (m110_1 bd pd ji)]∧∃(y:List (Int×Int)),y=Sp.zadd1 (Sp.zlvs x_5) (0+1+1) (Sp.zw1 (x_1 2)) (Sp.zw0 (x_1 2))∧rSet (Sp.zlvs x_5) (0+1+1) (C.i (Sp.zw1 (Sp.zun (qi 0 (m110_41 x_5)) (qi 1 (m110_41 x_5))-Sp.zun (m110_33 x_1) (m110_34 x_1)))::C.i (Sp.zw0 (Sp.zun (qi 0 (m110_41 x_5)) (qi 1 (m110_41 x_5))-Sp.zun (m110_33 x_1) (m110_34 x_1)))::sg 2 [0,0] (m110_41 x_5))=Sp.zlvs y)))∧∀(x_6:List (Int×Int)),x_6=Sp.zadd1 (Sp.zlvs x_5) (0+1+1) (Sp.zw1 (x_1 2)) (Sp.zw0 (x_1 2))→WL m110_12 (Sp.zlvs x_6)→(InR .u64 (qi 0 (m110_26 x_6))∧InR .u64 (qi 1 (m110_26 x_6))→InR .u64 (qi 2 (m110_26 x_6))∧InR .u64 (qi 3 (m110_26 x_6))→True∧Cn (decide (Sp.zsg (qi 0 (m110_26 x_6)) (qi 1 (m110_26 x_6))<Sp.zsg (qi 2 (m110_26 x_6)) (qi 3 (m110_26 x_6)))) (InR .u64 (qi 0 (m110_26 x_6))∧InR .u64 (qi 1 (m110_26 x_6))→Sm (SV.rref 6 0 4 (0+1+1) 0)∧Sm [C.i (Sp.zw1 (x_1 2)),C.i (Sp.zw0 (x_1 2))]∧Sm [C.i (m110_0 bd pd ji),C.i (m110_1 bd pd ji)]∧Sm [C.i bn,C.i bd]∧Sm [C.i pn,C.i pd]∧Sm [C.i (m110_0 bd pd ji),C.i (m110_1 bd pd ji)]∧Sm [C.i (m110_7 bd pn dr),C.i (m110_8 bd pn dr)]∧Sm [C.i (m110_9 bd pn dr),C.i (m110_10 bd pn dr)]∧Sm [C.i (m110_27 bd pn dr),C.i (m110_28 bd pn dr)]∧Sm (sg 0 [0,0] (rGet xs x.1))∧Sm [C.i (m110_2 bn pd xs x),C.i (m110_3 bn pd xs x)]∧Sm [C.i (m110_4 bd pd xs x),C.i (m110_5 bd pd xs x)]∧Sm [C.i (Sp.zw1 (x_1 0)),C.i (Sp.zw0 (x_1 0))]∧Sm [C.i (Sp.zw1 (x_1 0)),C.i (Sp.zw0 (x_1 0))]∧Sm [C.i (m110_0 bd pd ji),C.i (m110_1 bd pd ji)]∧Sm [C.i (Sp.zw1 (x_1 1)),C.i (Sp.zw0 (x_1 1))]∧Sm [C.i (Sp.zw1 (x_1 1)),C.i (Sp.zw0 (x_1 1))]∧Sm [C.i (m110_0 bd pd ji),C.i (m110_1 bd pd ji)]∧Sm [C.i (Sp.zw1 (x_1 2)),C.i (Sp.zw0 (x_1 2))]∧Sm [C.i (Sp.zw1 (x_1 2)),C.i (Sp.zw0 (x_1 2))]∧Sm [C.i (m110_0 bd pd ji),C.i (m110_1 bd pd ji)]∧∃(y:List (Int×Int)),y=Sp.zlow1 (Sp.zlvs x_6) (0+1+1)∧rSet (Sp.zlvs x_6) (0+1+1) (C.i (qi 0 (m110_26 x_6))::C.i (qi 1 (m110_26 x_6))::sg 0 [0,0] (m110_26 x_6))=Sp.zlvs y) (Sm (SV.rref 6 0 4 (0+1+1) 0)∧Sm [C.i (Sp.zw1 (x_1 2)),C.i (Sp.zw0 (x_1 2))]∧Sm [C.i (m110_0 bd pd ji),C.i (m110_1 bd pd ji)]∧Sm [C.i bn,C.i bd]∧Sm [C.i pn,C.i pd]∧Sm [C.i (m110_0 bd pd ji),C.i (m110_1 bd pd ji)]∧Sm [C.i (m110_7 bd pn dr),C.i (m110_8 bd pn dr)]∧Sm [C.i (m110_9 bd pn dr),C.i (m110_10 bd pn dr)]∧Sm [C.i (m110_27 bd pn dr),C.i (m110_28 bd pn dr)]∧Sm (sg 0 [0,0] (rGet xs x.1))∧Sm [C.i (m110_2 bn pd xs x),C.i (m110_3 bn pd xs x)]∧Sm [C.i (m110_4 bd pd xs x),C.i (m110_5 bd pd xs x)]∧Sm [C.i (Sp.zw1 (x_1 0)),C.i (Sp.zw0 (x_1 0))]∧Sm [C.i (Sp.zw1 (x_1 0)),C.i (Sp.zw0 (x_1 0))]∧Sm [C.i (m110_0 bd pd ji),C.i (m110_1 bd pd ji)]∧Sm [C.i (Sp.zw1 (x_1 1)),C.i (Sp.zw0 (x_1 1))]∧Sm [C.i (Sp.zw1 (x_1 1)),C.i (Sp.zw0 (x_1 1))]∧Sm [C.i (m110_0 bd pd ji),C.i (m110_1 bd pd ji)]∧Sm [C.i (Sp.zw1 (x_1 2)),C.i (Sp.zw0 (x_1 2))]∧Sm [C.i (Sp.zw1 (x_1 2)),C.i (Sp.zw0 (x_1 2))]∧Sm [C.i (m110_0 bd pd ji),C.i (m110_1 bd pd ji)]∧∃(y:List (Int×Int)),y=Sp.zlow1 (Sp.zlvs x_6) (0+1+1)∧Sp.zlvs x_6=Sp.zlvs y))∧∀(x_7:List (Int×Int)),x_7=Sp.zlow1 (Sp.zlvs x_6) (0+1+1)→WL m110_12 (Sp.zlvs x_7)→InR .u64 (qi 0 (m110_15 x_7))∧InR .u64 (qi 1 (m110_15 x_7))→InR .u64 (qi 2 (m110_15 x_7))∧InR .u64 (qi 3 (m110_15 x_7))→True∧(InR .u64 (Sp.zw1 (Sp.zun (qi 0 (m110_15 x_7)) (qi 1 (m110_15 x_7))-Sp.zun (qi 2 (m110_15 x_7)) (qi 3 (m110_15 x_7))))∧InR .u64 (Sp.zw0 (Sp.zun (qi 0 (m110_15 x_7)) (qi 1 (m110_15 x_7))-Sp.zun (qi 2 (m110_15 x_7)) (qi 3 (m110_15 x_7))))→True∧True∧True∧Cn (bNot (bNot (decide (Sp.zsg (m110_0 bd pd ji) (m110_1 bd pd ji)<Sp.zsg (Sp.zw1 (Sp.zun (qi 0 (m110_15 x_7)) (qi 1 (m110_15 x_7))-Sp.zun (qi 2 (m110_15 x_7)) (qi 3 (m110_15 x_7)))) (Sp.zw0 (Sp.zun (qi 0 (m110_15 x_7)) (qi 1 (m110_15 x_7))-Sp.zun (qi 2 (m110_15 x_7)) (qi 3 (m110_15 x_7)))))))) (false=Sp.zdecld bn bd pn pd dr ji xs) (InR .u64 (Sp.zw1 (x_1 3))∧InR .u64 (Sp.zw0 (x_1 3))→pIn 0 (iLen (Sp.zlvs x_7)) (0+1+1+1)∧(InR .u64 (qi 0 (m110_25 x_7))∧InR .u64 (qi 1 (m110_25 x_7))→True∧(InR .u64 (m110_35 x_1)∧InR .u64 (m110_36 x_1)→True∧(InR .u64 (Sp.zw1 (Sp.zun (qi 0 (m110_25 x_7)) (qi 1 (m110_25 x_7))-Sp.zun (m110_35 x_1) (m110_36 x_1)))∧InR .u64 (Sp.zw0 (Sp.zun (qi 0 (m110_25 x_7)) (qi 1 (m110_25 x_7))-Sp.zun (m110_35 x_1) (m110_36 x_1)))→Sm (SV.rref 6 0 4 (0+1+1+1) 0)∧Sm [C.i (Sp.zw1 (x_1 3)),C.i (Sp.zw0 (x_1 3))]∧Sm [C.i (m110_0 bd pd ji),C.i (m110_1 bd pd ji)]∧Sm [C.i bn,C.i bd]∧Sm [C.i pn,C.i pd]∧Sm [C.i (m110_0 bd pd ji),C.i (m110_1 bd pd ji)]∧Sm [C.i (m110_7 bd pn dr),C.i (m110_8 bd pn dr)]∧Sm [C.i (m110_9 bd pn dr),C.i (m110_10 bd pn dr)]∧Sm [C.i (m110_27 bd pn dr),C.i (m110_28 bd pn dr)]∧Sm (sg 0 [0,0] (rGet xs x.1))∧Sm [C.i (m110_2 bn pd xs x),C.i (m110_3 bn pd xs x)]∧Sm [C.i (m110_4 bd pd xs x),C.i (m110_5 bd pd xs x)]∧Sm [C.i (Sp.zw1 (x_1 0)),C.i (Sp.zw0 (x_1 0))]∧Sm [C.i (Sp.zw1 (x_1 0)),C.i (Sp.zw0 (x_1 0))]∧Sm [C.i (m110_0 bd pd ji),C.i (m110_1 bd pd ji)]∧Sm [C.i (Sp.zw1 (x_1 1)),C.i (Sp.zw0 (x_1 1))]∧Sm [C.i (Sp.zw1 (x_1 1)),C.i (Sp.zw0 (x_1 1))]∧Sm [C.i (m110_0 bd pd ji),C.i (m110_1 bd pd ji)]∧Sm [C.i (Sp.zw1 (x_1 2)),C.i (Sp.zw0 (x_1 2))]∧Sm [C.i (Sp.zw1 (x_1 2)),C.i (Sp.zw0 (x_1 2))]∧Sm [C.i (m110_0 bd pd ji),C.i (m110_1 bd pd ji)]∧Sm [C.i (Sp.zw1 (x_1 3)),C.i (Sp.zw0 (x_1 3))]∧Sm [C.i (Sp.zw1 (x_1 3)),C.i (Sp.zw0 (x_1 3))]∧Sm [C.i (m110_0 bd pd ji),C.i (m110_1 bd pd ji)]∧∃(y:List (Int×Int)),y=Sp.zadd1 (Sp.zlvs x_7) (0+1+1+1) (Sp.zw1 (x_1 3)) (Sp.zw0 (x_1 3))∧rSet (Sp.zlvs x_7) (0+1+1+1) (C.i (Sp.zw1 (Sp.zun (qi 0 (m110_25 x_7)) (qi 1 (m110_25 x_7))-Sp.zun (m110_35 x_1) (m110_36 x_1)))::C.i (Sp.zw0 (Sp.zun (qi 0 (m110_25 x_7)) (qi 1 (m110_25 x_7))-Sp.zun (m110_35 x_1) (m110_36 x_1)))::sg 2 [0,0] (m110_25 x_7))=Sp.zlvs y)))∧∀(x_8:List (Int×Int)),x_8=Sp.zadd1 (Sp.zlvs x_7) (0+1+1+1) (Sp.zw1 (x_1 3)) (Sp.zw0 (x_1 3))→WL m110_12 (Sp.zlvs x_8)→(InR .u64 (qi 0 (m110_19 x_8))∧InR .u64 (qi 1 (m110_19 x_8))→InR .u64 (qi 2 (m110_19 x_8))∧InR .u64 (qi 3 (m110_19 x_8))→True∧Cn (decide (Sp.zsg (qi 0 (m110_19 x_8)) (qi 1 (m110_19 x_8))<Sp.zsg (qi 2 (m110_19 x_8)) (qi 3 (m110_19 x_8)))) (InR .u64 (qi 0 (m110_19 x_8))∧InR .u64 (qi 1 (m110_19 x_8))→Sm (SV.rref 6 0 4 (0+1+1+1) 0)∧Sm [C.i (Sp.zw1 (x_1 3)),C.i (Sp.zw0 (x_1 3))]∧Sm [C.i (m110_0 bd pd ji),C.i (m110_1 bd pd ji)]∧Sm [C.i bn,C.i bd]∧Sm [C.i pn,C.i pd]∧Sm [C.i (m110_0 bd pd ji),C.i (m110_1 bd pd ji)]∧Sm [C.i (m110_7 bd pn dr),C.i (m110_8 bd pn dr)]∧Sm [C.i (m110_9 bd pn dr),C.i (m110_10 bd pn dr)]∧Sm [C.i (m110_27 bd pn dr),C.i (m110_28 bd pn dr)]∧Sm (sg 0 [0,0] (rGet xs x.1))∧Sm [C.i (m110_2 bn pd xs x),C.i (m110_3 bn pd xs x)]∧Sm [C.i (m110_4 bd pd xs x),C.i (m110_5 bd pd xs x)]∧Sm [C.i (Sp.zw1 (x_1 0)),C.i (Sp.zw0 (x_1 0))]∧Sm [C.i (Sp.zw1 (x_1 0)),C.i (Sp.zw0 (x_1 0))]∧Sm [C.i (m110_0 bd pd ji),C.i (m110_1 bd pd ji)]∧Sm [C.i (Sp.zw1 (x_1 1)),C.i (Sp.zw0 (x_1 1))]∧Sm [C.i (Sp.zw1 (x_1 1)),C.i (Sp.zw0 (x_1 1))]∧Sm [C.i (m110_0 bd pd ji),C.i (m110_1 bd pd ji)]∧Sm [C.i (Sp.zw1 (x_1 2)),C.i (Sp.zw0 (x_1 2))]∧Sm [C.i (Sp.zw1 (x_1 2)),C.i (Sp.zw0 (x_1 2))]∧Sm [C.i (m110_0 bd pd ji),C.i (m110_1 bd pd ji)]∧Sm [C.i (Sp.zw1 (x_1 3)),C.i (Sp.zw0 (x_1 3))]∧Sm [C.i (Sp.zw1 (x_1 3)),C.i (Sp.zw0 (x_1 3))]∧Sm [C.i (m110_0 bd pd ji),C.i (m110_1 bd pd ji)]∧∃(y:List (Int×Int)),y=Sp.zlow1 (Sp.zlvs x_8) (0+1+1+1)∧rSet (Sp.zlvs x_8) (0+1+1+1) (C.i (qi 0 (m110_19 x_8))::C.i (qi 1 (m110_19 x_8))::sg 0 [0,0] (m110_19 x_8))=Sp.zlvs y) (Sm (SV.rref 6 0 4 (0+1+1+1) 0)∧Sm [C.i (Sp.zw1 (x_1 3)),C.i (Sp.zw0 (x_1 3))]∧Sm [C.i (m110_0 bd pd ji),C.i (m110_1 bd pd ji)]∧Sm [C.i bn,C.i bd]∧Sm [C.i pn,C.i pd]∧Sm [C.i (m110_0 bd pd ji),C.i (m110_1 bd pd ji)]∧Sm [C.i (m110_7 bd pn dr),C.i (m110_8 bd pn dr)]∧Sm [C.i (m110_9 bd pn dr),C.i (m110_10 bd pn dr)]∧Sm [C.i (m110_27 bd pn dr),C.i (m110_28 bd pn dr)]∧Sm (sg 0 [0,0] (rGet xs x.1))∧Sm [C.i (m110_2 bn pd xs x),C.i (m110_3 bn pd xs x)]∧Sm [C.i (m110_4 bd pd xs x),C.i (m110_5 bd pd xs x)]∧Sm [C.i (Sp.zw1 (x_1 0)),C.i (Sp.zw0 (x_1 0))]∧Sm [C.i (Sp.zw1 (x_1 0)),C.i (Sp.zw0 (x_1 0))]∧Sm [C.i (m110_0 bd pd ji),C.i (m110_1 bd pd ji)]∧Sm [C.i (Sp.zw1 (x_1 1)),C.i (Sp.zw0 (x_1 1))]∧Sm [C.i (Sp.zw1 (x_1 1)),C.i (Sp.zw0 (x_1 1))]∧Sm [C.i (m110_0 bd pd ji),C.i (m110_1 bd pd ji)]∧Sm [C.i (Sp.zw1 (x_1 2)),C.i (Sp.zw0 (x_1 2))]∧Sm [C.i (Sp.zw1 (x_1 2)),C.i (Sp.zw0 (x_1 2))]∧Sm [C.i (m110_0 bd pd ji),C.i (m110_1 bd pd ji)]∧Sm [C.i (Sp.zw1 (x_1 3)),C.i (Sp.zw0 (x_1 3))]∧Sm [C.i (Sp.zw1 (x_1 3)),C.i (Sp.zw0 (x_1 3))]∧Sm [C.i (m110_0 bd pd ji),C.i (m110_1 bd pd ji)]∧∃(y:List (Int×Int)),y=Sp.zlow1 (Sp.zlvs x_8) (0+1+1+1)∧Sp.zlvs x_8=Sp.zlvs y))∧∀(x_9:List (Int×Int)),x_9=Sp.zlow1 (Sp.zlvs x_8) (0+1+1+1)→WL m110_12 (Sp.zlvs x_9)→InR .u64 (qi 0 (m110_13 x_9))∧InR .u64 (qi 1 (m110_13 x_9))→InR .u64 (qi 2 (m110_13 x_9))∧InR .u64 (qi 3 (m110_13 x_9))→True∧(InR .u64 (Sp.zw1 (Sp.zun (qi 0 (m110_13 x_9)) (qi 1 (m110_13 x_9))-Sp.zun (qi 2 (m110_13 x_9)) (qi 3 (m110_13 x_9))))∧InR .u64 (Sp.zw0 (Sp.zun (qi 0 (m110_13 x_9)) (qi 1 (m110_13 x_9))-Sp.zun (qi 2 (m110_13 x_9)) (qi 3 (m110_13 x_9))))→True∧True∧True∧Cn (bNot (bNot (decide (Sp.zsg (m110_0 bd pd ji) (m110_1 bd pd ji)<Sp.zsg (Sp.zw1 (Sp.zun (qi 0 (m110_13 x_9)) (qi 1 (m110_13 x_9))-Sp.zun (qi 2 (m110_13 x_9)) (qi 3 (m110_13 x_9)))) (Sp.zw0 (Sp.zun (qi 0 (m110_13 x_9)) (qi 1 (m110_13 x_9))-Sp.zun (qi 2 (m110_13 x_9)) (qi 3 (m110_13 x_9)))))))) (false=Sp.zdecld bn bd pn pd dr ji xs) (InR .u64 (Sp.zw1 (x_1 4))∧InR .u64 (Sp.zw0 (x_1 4))→pIn 0 (iLen (Sp.zlvs x_9)) (0+1+1+1+1)∧(InR .u64 (qi 0 (m110_20 x_9))∧InR .u64 (qi 1 (m110_20 x_9))→True∧(InR .u64 (m110_37 x_1)∧InR .u64 (m110_38 x_1)→True∧(InR .u64 (Sp.zw1 (Sp.zun (qi 0 (m110_20 x_9)) (qi 1 (m110_20 x_9))-Sp.zun (m110_37 x_1) (m110_38 x_1)))∧InR .u64 (Sp.zw0 (Sp.zun (qi 0 (m110_20 x_9)) (qi 1 (m110_20 x_9))-Sp.zun (m110_37 x_1) (m110_38 x_1)))→Sm (SV.rref 6 0 4 (0+1+1+1+1) 0)∧Sm [C.i (Sp.zw1 (x_1 4)),C.i (Sp.zw0 (x_1 4))]∧Sm [C.i (m110_0 bd pd ji),C.i (m110_1 bd pd ji)]∧Sm [C.i bn,C.i bd]∧Sm [C.i pn,C.i pd]∧Sm [C.i (m110_0 bd pd ji),C.i (m110_1 bd pd ji)]∧Sm [C.i (m110_7 bd pn dr),C.i (m110_8 bd pn dr)]∧Sm [C.i (m110_9 bd pn dr),C.i (m110_10 bd pn dr)]∧Sm [C.i (m110_27 bd pn dr),C.i (m110_28 bd pn dr)]∧Sm (sg 0 [0,0] (rGet xs x.1))∧Sm [C.i (m110_2 bn pd xs x),C.i (m110_3 bn pd xs x)]∧Sm [C.i (m110_4 bd pd xs x),C.i (m110_5 bd pd xs x)]∧Sm [C.i (Sp.zw1 (x_1 0)),C.i (Sp.zw0 (x_1 0))]∧Sm [C.i (Sp.zw1 (x_1 0)),C.i (Sp.zw0 (x_1 0))]∧Sm [C.i (m110_0 bd pd ji),C.i (m110_1 bd pd ji)]∧Sm [C.i (Sp.zw1 (x_1 1)),C.i (Sp.zw0 (x_1 1))]∧Sm [C.i (Sp.zw1 (x_1 1)),C.i (Sp.zw0 (x_1 1))]∧Sm [C.i (m110_0 bd pd ji),C.i (m110_1 bd pd ji)]∧Sm [C.i (Sp.zw1 (x_1 2)),C.i (Sp.zw0 (x_1 2))]∧Sm [C.i (Sp.zw1 (x_1 2)),C.i (Sp.zw0 (x_1 2))]∧Sm [C.i (m110_0 bd pd ji),C.i (m110_1 bd pd ji)]∧Sm [C.i (Sp.zw1 (x_1 3)),C.i (Sp.zw0 (x_1 3))]∧Sm [C.i (Sp.zw1 (x_1 3)),C.i (Sp.zw0 (x_1 3))]∧Sm [C.i (m110_0 bd pd ji),C.i (m110_1 bd pd ji)]∧Sm [C.i (Sp.zw1 (x_1 4)),C.i (Sp.zw0 (x_1 4))]∧Sm [C.i (Sp.zw1 (x_1 4)),C.i (Sp.zw0 (x_1 4))]∧Sm [C.i (m110_0 bd pd ji),C.i (m110_1 bd pd ji)]∧∃(y:List (Int×Int)),y=Sp.zadd1 (Sp.zlvs x_9) (0+1+1+1+1) (Sp.zw1 (x_1 4)) (Sp.zw0 (x_1 4))∧rSet (Sp.zlvs x_9) (0+1+1+1+1) (C.i (Sp.zw1 (Sp.zun (qi 0 (m110_20 x_9)) (qi 1 (m110_20 x_9))-Sp.zun (m110_37 x_1) (m110_38 x_1)))::C.i (Sp.zw0 (Sp.zun (qi 0 (m110_20 x_9)) (qi 1 (m110_20 x_9))-Sp.zun (m110_37 x_1) (m110_38 x_1)))::sg 2 [0,0] (m110_20 x_9))=Sp.zlvs y)))∧∀(x_10:List (Int×Int)),x_10=Sp.zadd1 (Sp.zlvs x_9) (0+1+1+1+1) (Sp.zw1 (x_1 4)) (Sp.zw0 (x_1 4))→WL m110_12 (Sp.zlvs x_10)→(InR .u64 (qi 0 (m110_16 x_10))∧InR .u64 (qi 1 (m110_16 x_10))→InR .u64 (qi 2 (m110_16 x_10))∧InR .u64 (qi 3 (m110_16 x_10))→True∧Cn (decide (Sp.zsg (qi 0 (m110_16 x_10)) (qi 1 (m110_16 x_10))<Sp.zsg (qi 2 (m110_16 x_10)) (qi 3 (m110_16 x_10)))) (InR .u64 (qi 0 (m110_16 x_10))∧InR .u64 (qi 1 (m110_16 x_10))→Sm (SV.rref 6 0 4 (0+1+1+1+1) 0)∧Sm [C.i (Sp.zw1 (x_1 4)),C.i (Sp.zw0 (x_1 4))]∧Sm [C.i (m110_0 bd pd ji),C.i (m110_1 bd pd ji)]∧Sm [C.i bn,C.i bd]∧Sm [C.i pn,C.i pd]∧Sm [C.i (m110_0 bd pd ji),C.i (m110_1 bd pd ji)]∧Sm [C.i (m110_7 bd pn dr),C.i (m110_8 bd pn dr)]∧Sm [C.i (m110_9 bd pn dr),C.i (m110_10 bd pn dr)]∧Sm [C.i (m110_27 bd pn dr),C.i (m110_28 bd pn dr)]∧Sm (sg 0 [0,0] (rGet xs x.1))∧Sm [C.i (m110_2 bn pd xs x),C.i (m110_3 bn pd xs x)]∧Sm [C.i (m110_4 bd pd xs x),C.i (m110_5 bd pd xs x)]∧Sm [C.i (Sp.zw1 (x_1 0)),C.i (Sp.zw0 (x_1 0))]∧Sm [C.i (Sp.zw1 (x_1 0)),C.i (Sp.zw0 (x_1 0))]∧Sm [C.i (m110_0 bd pd ji),C.i (m110_1 bd pd ji)]∧Sm [C.i (Sp.zw1 (x_1 1)),C.i (Sp.zw0 (x_1 1))]∧Sm [C.i (Sp.zw1 (x_1 1)),C.i (Sp.zw0 (x_1 1))]∧Sm [C.i (m110_0 bd pd ji),C.i (m110_1 bd pd ji)]∧Sm [C.i (Sp.zw1 (x_1 2)),C.i (Sp.zw0 (x_1 2))]∧Sm [C.i (Sp.zw1 (x_1 2)),C.i (Sp.zw0 (x_1 2))]∧Sm [C.i (m110_0 bd pd ji),C.i (m110_1 bd pd ji)]∧Sm [C.i (Sp.zw1 (x_1 3)),C.i (Sp.zw0 (x_1 3))]∧Sm [C.i (Sp.zw1 (x_1 3)),C.i (Sp.zw0 (x_1 3))]∧Sm [C.i (m110_0 bd pd ji),C.i (m110_1 bd pd ji)]∧Sm [C.i (Sp.zw1 (x_1 4)),C.i (Sp.zw0 (x_1 4))]∧Sm [C.i (Sp.zw1 (x_1 4)),C.i (Sp.zw0 (x_1 4))]∧Sm [C.i (m110_0 bd pd ji),C.i (m110_1 bd pd ji)]∧∃(y:List (Int×Int)),y=Sp.zlow1 (Sp.zlvs x_10) (0+1+1+1+1)∧rSet (Sp.zlvs x_10) (0+1+1+1+1) (C.i (qi 0 (m110_16 x_10))::C.i (qi 1 (m110_16 x_10))::sg 0 [0,0] (m110_16 x_10))=Sp.zlvs y) (Sm (SV.rref 6 0 4 (0+1+1+1+1) 0)∧Sm [C.i (Sp.zw1 (x_1 4)),C.i (Sp.zw0 (x_1 4))]∧Sm [C.i (m110_0 bd pd ji),C.i (m110_1 bd pd ji)]∧Sm [C.i bn,C.i bd]∧Sm [C.i pn,C.i pd]∧Sm [C.i (m110_0 bd pd ji),C.i (m110_1 bd pd ji)]∧Sm [C.i (m110_7 bd pn dr),C.i (m110_8 bd pn dr)]∧Sm [C.i (m110_9 bd pn dr),C.i (m110_10 bd pn dr)]∧Sm [C.i (m110_27 bd pn dr),C.i (m110_28 bd pn dr)]∧Sm (sg 0 [0,0] (rGet xs x.1))∧Sm [C.i (m110_2 bn pd xs x),C.i (m110_3 bn pd xs x)]∧Sm [C.i (m110_4 bd pd xs x),C.i (m110_5 bd pd xs x)]∧Sm [C.i (Sp.zw1 (x_1 0)),C.i (Sp.zw0 (x_1 0))]∧Sm [C.i (Sp.zw1 (x_1 0)),C.i (Sp.zw0 (x_1 0))]∧Sm [C.i (m110_0 bd pd ji),C.i (m110_1 bd pd ji)]∧Sm [C.i (Sp.zw1 (x_1 1)),C.i (Sp.zw0 (x_1 1))]∧Sm [C.i (Sp.zw1 (x_1 1)),C.i (Sp.zw0 (x_1 1))]∧Sm [C.i (m110_0 bd pd ji),C.i (m110_1 bd pd ji)]∧Sm [C.i (Sp.zw1 (x_1 2)),C.i (Sp.zw0 (x_1 2))]∧Sm [C.i (Sp.zw1 (x_1 2)),C.i (Sp.zw0 (x_1 2))]∧Sm [C.i (m110_0 bd pd ji),C.i (m110_1 bd pd ji)]∧Sm [C.i (Sp.zw1 (x_1 3)),C.i (Sp.zw0 (x_1 3))]∧Sm [C.i (Sp.zw1 (x_1 3)),C.i (Sp.zw0 (x_1 3))]∧Sm [C.i (m110_0 bd pd ji),C.i (m110_1 bd pd ji)]∧Sm [C.i (Sp.zw1 (x_1 4)),C.i (Sp.zw0 (x_1 4))]∧Sm [C.i (Sp.zw1 (x_1 4)),C.i (Sp.zw0 (x_1 4))]∧Sm [C.i (m110_0 bd pd ji),C.i (m110_1 bd pd ji)]∧∃(y:List (Int×Int)),y=Sp.zlow1 (Sp.zlvs x_10) (0+1+1+1+1)∧Sp.zlvs x_10=Sp.zlvs y))∧∀(x_11:List (Int×Int)),x_11=Sp.zlow1 (Sp.zlvs x_10) (0+1+1+1+1)→WL m110_12 (Sp.zlvs x_11)→InR .u64 (qi 0 (m110_11 x_11))∧InR .u64 (qi 1 (m110_11 x_11))→InR .u64 (qi 2 (m110_11 x_11))∧InR .u64 (qi 3 (m110_11 x_11))→True∧(InR .u64 (Sp.zw1 (Sp.zun (qi 0 (m110_11 x_11)) (qi 1 (m110_11 x_11))-Sp.zun (qi 2 (m110_11 x_11)) (qi 3 (m110_11 x_11))))∧InR .u64 (Sp.zw0 (Sp.zun (qi 0 (m110_11 x_11)) (qi 1 (m110_11 x_11))-Sp.zun (qi 2 (m110_11 x_11)) (qi 3 (m110_11 x_11))))→True∧True∧True∧Cn (bNot (bNot (decide (Sp.zsg (m110_0 bd pd ji) (m110_1 bd pd ji)<Sp.zsg (Sp.zw1 (Sp.zun (qi 0 (m110_11 x_11)) (qi 1 (m110_11 x_11))-Sp.zun (qi 2 (m110_11 x_11)) (qi 3 (m110_11 x_11)))) (Sp.zw0 (Sp.zun (qi 0 (m110_11 x_11)) (qi 1 (m110_11 x_11))-Sp.zun (qi 2 (m110_11 x_11)) (qi 3 (m110_11 x_11)))))))) (false=Sp.zdecld bn bd pn pd dr ji xs) (InR .u64 (Sp.zw1 (x_1 5))∧InR .u64 (Sp.zw0 (x_1 5))→pIn 0 (iLen (Sp.zlvs x_11)) (0+1+1+1+1+1)∧(InR .u64 (qi 0 (m110_17 x_11))∧InR .u64 (qi 1 (m110_17 x_11))→True∧(InR .u64 (m110_39 x_1)∧InR .u64 (m110_40 x_1)→True∧(InR .u64 (Sp.zw1 (Sp.zun (qi 0 (m110_17 x_11)) (qi 1 (m110_17 x_11))-Sp.zun (m110_39 x_1) (m110_40 x_1)))∧InR .u64 (Sp.zw0 (Sp.zun (qi 0 (m110_17 x_11)) (qi 1 (m110_17 x_11))-Sp.zun (m110_39 x_1) (m110_40 x_1)))→Sm (SV.rref 6 0 4 (0+1+1+1+1+1) 0)∧Sm [C.i (Sp.zw1 (x_1 5)),C.i (Sp.zw0 (x_1 5))]∧Sm [C.i (m110_0 bd pd ji),C.i (m110_1 bd pd ji)]∧Sm [C.i bn,C.i bd]∧Sm [C.i pn,C.i pd]∧Sm [C.i (m110_0 bd pd ji),C.i (m110_1 bd pd ji)]∧Sm [C.i (m110_7 bd pn dr),C.i (m110_8 bd pn dr)]∧Sm [C.i (m110_9 bd pn dr),C.i (m110_10 bd pn dr)]∧Sm [C.i (m110_27 bd pn dr),C.i (m110_28 bd pn dr)]∧Sm (sg 0 [0,0] (rGet xs x.1))∧Sm [C.i (m110_2 bn pd xs x),C.i (m110_3 bn pd xs x)]∧Sm [C.i (m110_4 bd pd xs x),C.i (m110_5 bd pd xs x)]∧Sm [C.i (Sp.zw1 (x_1 0)),C.i (Sp.zw0 (x_1 0))]∧Sm [C.i (Sp.zw1 (x_1 0)),C.i (Sp.zw0 (x_1 0))]∧Sm [C.i (m110_0 bd pd ji),C.i (m110_1 bd pd ji)]∧Sm [C.i (Sp.zw1 (x_1 1)),C.i (Sp.zw0 (x_1 1))]∧Sm [C.i (Sp.zw1 (x_1 1)),C.i (Sp.zw0 (x_1 1))]∧Sm [C.i (m110_0 bd pd ji),C.i (m110_1 bd pd ji)]∧Sm [C.i (Sp.zw1 (x_1 2)),C.i (Sp.zw0 (x_1 2))]∧Sm [C.i (Sp.zw1 (x_1 2)),C.i (Sp.zw0 (x_1 2))]∧Sm [C.i (m110_0 bd pd ji),C.i (m110_1 bd pd ji)]∧Sm [C.i (Sp.zw1 (x_1 3)),C.i (Sp.zw0 (x_1 3))]∧Sm [C.i (Sp.zw1 (x_1 3)),C.i (Sp.zw0 (x_1 3))]∧Sm [C.i (m110_0 bd pd ji),C.i (m110_1 bd pd ji)]∧Sm [C.i (Sp.zw1 (x_1 4)),C.i (Sp.zw0 (x_1 4))]∧Sm [C.i (Sp.zw1 (x_1 4)),C.i (Sp.zw0 (x_1 4))]∧Sm [C.i (m110_0 bd pd ji),C.i (m110_1 bd pd ji)]∧Sm [C.i (Sp.zw1 (x_1 5)),C.i (Sp.zw0 (x_1 5))]∧Sm [C.i (Sp.zw1 (x_1 5)),C.i (Sp.zw0 (x_1 5))]∧Sm [C.i (m110_0 bd pd ji),C.i (m110_1 bd pd ji)]∧∃(y:List (Int×Int)),y=Sp.zadd1 (Sp.zlvs x_11) (0+1+1+1+1+1) (Sp.zw1 (x_1 5)) (Sp.zw0 (x_1 5))∧rSet (Sp.zlvs x_11) (0+1+1+1+1+1) (C.i (Sp.zw1 (Sp.zun (qi 0 (m110_17 x_11)) (qi 1 (m110_17 x_11))-Sp.zun (m110_39 x_1) (m110_40 x_1)))::C.i (Sp.zw0 (Sp.zun (qi 0 (m110_17 x_11)) (qi 1 (m110_17 x_11))-Sp.zun (m110_39 x_1) (m110_40 x_1)))::sg 2 [0,0] (m110_17 x_11))=Sp.zlvs y)))∧∀(x_12:List (Int×Int)),x_12=Sp.zadd1 (Sp.zlvs x_11) (0+1+1+1+1+1) (Sp.zw1 (x_1 5)) (Sp.zw0 (x_1 5))→WL m110_12 (Sp.zlvs x_12)→(InR .u64 (qi 0 (m110_14 x_12))∧InR .u64 (qi 1 (m110_14 x_12))→InR .u64 (qi 2 (m110_14 x_12))∧InR .u64 (qi 3 (m110_14 x_12))→True∧Cn (decide (Sp.zsg (qi 0 (m110_14 x_12)) (qi 1 (m110_14 x_12))<Sp.zsg (qi 2 (m110_14 x_12)) (qi 3 (m110_14 x_12)))) (InR .u64 (qi 0 (m110_14 x_12))∧InR .u64 (qi 1 (m110_14 x_12))→Sm (SV.rref 6 0 4 (0+1+1+1+1+1) 0)∧Sm [C.i (Sp.zw1 (x_1 5)),C.i (Sp.zw0 (x_1 5))]∧Sm [C.i (m110_0 bd pd ji),C.i (m110_1 bd pd ji)]∧Sm [C.i bn,C.i bd]∧Sm [C.i pn,C.i pd]∧Sm [C.i (m110_0 bd pd ji),C.i (m110_1 bd pd ji)]∧Sm [C.i (m110_7 bd pn dr),C.i (m110_8 bd pn dr)]∧Sm [C.i (m110_9 bd pn dr),C.i (m110_10 bd pn dr)]∧Sm [C.i (m110_27 bd pn dr),C.i (m110_28 bd pn dr)]∧Sm (sg 0 [0,0] (rGet xs x.1))∧Sm [C.i (m110_2 bn pd xs x),C.i (m110_3 bn pd xs x)]∧Sm [C.i (m110_4 bd pd xs x),C.i (m110_5 bd pd xs x)]∧Sm [C.i (Sp.zw1 (x_1 0)),C.i (Sp.zw0 (x_1 0))]∧Sm [C.i (Sp.zw1 (x_1 0)),C.i (Sp.zw0 (x_1 0))]∧Sm [C.i (m110_0 bd pd ji),C.i (m110_1 bd pd ji)]∧Sm [C.i (Sp.zw1 (x_1 1)),C.i (Sp.zw0 (x_1 1))]∧Sm [C.i (Sp.zw1 (x_1 1)),C.i (Sp.zw0 (x_1 1))]∧Sm [C.i (m110_0 bd pd ji),C.i (m110_1 bd pd ji)]∧Sm [C.i (Sp.zw1 (x_1 2)),C.i (Sp.zw0 (x_1 2))]∧Sm [C.i (Sp.zw1 (x_1 2)),C.i (Sp.zw0 (x_1 2))]∧Sm [C.i (m110_0 bd pd ji),C.i (m110_1 bd pd ji)]∧Sm [C.i (Sp.zw1 (x_1 3)),C.i (Sp.zw0 (x_1 3))]∧Sm [C.i (Sp.zw1 (x_1 3)),C.i (Sp.zw0 (x_1 3))]∧Sm [C.i (m110_0 bd pd ji),C.i (m110_1 bd pd ji)]∧Sm [C.i (Sp.zw1 (x_1 4)),C.i (Sp.zw0 (x_1 4))]∧Sm [C.i (Sp.zw1 (x_1 4)),C.i (Sp.zw0 (x_1 4))]∧Sm [C.i (m110_0 bd pd ji),C.i (m110_1 bd pd ji)]∧Sm [C.i (Sp.zw1 (x_1 5)),C.i (Sp.zw0 (x_1 5))]∧Sm [C.i (Sp.zw1 (x_1 5)),C.i (Sp.zw0 (x_1 5))]∧Sm [C.i (m110_0 bd pd ji),C.i (m110_1 bd pd ji)]∧∃(y:List (Int×Int)),y=Sp.zlow1 (Sp.zlvs x_12) (0+1+1+1+1+1)∧rSet (Sp.zlvs x_12) (0+1+1+1+1+1) (C.i (qi 0 (m110_14 x_12))::C.i (qi 1 (m110_14 x_12))::sg 0 [0,0] (m110_14 x_12))=Sp.zlvs y) (Sm (SV.rref 6 0 4 (0+1+1+1+1+1) 0)∧Sm [C.i (Sp.zw1 (x_1 5)),C.i (Sp.zw0 (x_1 5))]∧Sm [C.i (m110_0 bd pd ji),C.i (m110_1 bd pd ji)]∧Sm [C.i bn,C.i bd]∧Sm [C.i pn,C.i pd]∧Sm [C.i (m110_0 bd pd ji),C.i (m110_1 bd pd ji)]∧Sm [C.i (m110_7 bd pn dr),C.i (m110_8 bd pn dr)]∧Sm [C.i (m110_9 bd pn dr),C.i (m110_10 bd pn dr)]∧Sm [C.i (m110_27 bd pn dr),C.i (m110_28 bd pn dr)]∧Sm (sg 0 [0,0] (rGet xs x.1))∧Sm [C.i (m110_2 bn pd xs x),C.i (m110_3 bn pd xs x)]∧Sm [C.i (m110_4 bd pd xs x),C.i (m110_5 bd pd xs x)]∧Sm [C.i (Sp.zw1 (x_1 0)),C.i (Sp.zw0 (x_1 0))]∧Sm [C.i (Sp.zw1 (x_1 0)),C.i (Sp.zw0 (x_1 0))]∧Sm [C.i (m110_0 bd pd ji),C.i (m110_1 bd pd ji)]∧Sm [C.i (Sp.zw1 (x_1 1)),C.i (Sp.zw0 (x_1 1))]∧Sm [C.i (Sp.zw1 (x_1 1)),C.i (Sp.zw0 (x_1 1))]∧Sm [C.i (m110_0 bd pd ji),C.i (m110_1 bd pd ji)]∧Sm [C.i (Sp.zw1 (x_1 2)),C.i (Sp.zw0 (x_1 2))]∧Sm [C.i (Sp.zw1 (x_1 2)),C.i (Sp.zw0 (x_1 2))]∧Sm [C.i (m110_0 bd pd ji),C.i (m110_1 bd pd ji)]∧Sm [C.i (Sp.zw1 (x_1 3)),C.i (Sp.zw0 (x_1 3))]∧Sm [C.i (Sp.zw1 (x_1 3)),C.i (Sp.zw0 (x_1 3))]∧Sm [C.i (m110_0 bd pd ji),C.i (m110_1 bd pd ji)]∧Sm [C.i (Sp.zw1 (x_1 4)),C.i (Sp.zw0 (x_1 4))]∧Sm [C.i (Sp.zw1 (x_1 4)),C.i (Sp.zw0 (x_1 4))]∧Sm [C.i (m110_0 bd pd ji),C.i (m110_1 bd pd ji)]∧Sm [C.i (Sp.zw1 (x_1 5)),C.i (Sp.zw0 (x_1 5))]∧Sm [C.i (Sp.zw1 (x_1 5)),C.i (Sp.zw0 (x_1 5))]∧Sm [C.i (m110_0 bd pd ji),C.i (m110_1 bd pd ji)]∧∃(y:List (Int×Int)),y=Sp.zlow1 (Sp.zlvs x_12) (0+1+1+1+1+1)∧Sp.zlvs x_12=Sp.zlvs y))∧∀(x_13:List (Int×Int)),x_13=Sp.zlow1 (Sp.zlvs x_12) (0+1+1+1+1+1)→WL m110_12 (Sp.zlvs x_13)→InR .u64 (qi 0 (m110_6 x_13))∧InR .u64 (qi 1 (m110_6 x_13))→InR .u64 (qi 2 (m110_6 x_13))∧InR .u64 (qi 3 (m110_6 x_13))→True∧(InR .u64 (Sp.zw1 (Sp.zun (qi 0 (m110_6 x_13)) (qi 1 (m110_6 x_13))-Sp.zun (qi 2 (m110_6 x_13)) (qi 3 (m110_6 x_13))))∧InR .u64 (Sp.zw0 (Sp.zun (qi 0 (m110_6 x_13)) (qi 1 (m110_6 x_13))-Sp.zun (qi 2 (m110_6 x_13)) (qi 3 (m110_6 x_13))))→True∧True∧True∧Cn (bNot (bNot (decide (Sp.zsg (m110_0 bd pd ji) (m110_1 bd pd ji)<Sp.zsg (Sp.zw1 (Sp.zun (qi 0 (m110_6 x_13)) (qi 1 (m110_6 x_13))-Sp.zun (qi 2 (m110_6 x_13)) (qi 3 (m110_6 x_13)))) (Sp.zw0 (Sp.zun (qi 0 (m110_6 x_13)) (qi 1 (m110_6 x_13))-Sp.zun (qi 2 (m110_6 x_13)) (qi 3 (m110_6 x_13)))))))) (false=Sp.zdecld bn bd pn pd dr ji xs) (InR .i64 (iAdd x.1 1)∧Sm [C.i bn,C.i bd]∧Sm [C.i pn,C.i pd]∧Sm dr∧Sm ji∧Sm xs∧Sm (iMul pd 65536)∧Sm (iMul pn bd)∧Sm xs∧Sm (iLen xs)∧Sm [C.i bn,C.i bd]∧Sm [C.i pn,C.i pd]∧Sm [C.i (m110_0 bd pd ji),C.i (m110_1 bd pd ji)]∧Sm [C.i (m110_7 bd pn dr),C.i (m110_8 bd pn dr)]∧Sm [C.i (m110_9 bd pn dr),C.i (m110_10 bd pn dr)]∧Sm [C.i (m110_27 bd pn dr),C.i (m110_28 bd pn dr)]∧∃(y:Int×List (Int×Int)),Sp.zdInv bn bd pn pd dr ji xs y.1 y.2∧iAdd x.1 1=y.1∧Sp.zlvs x_13=Sp.zlvs y.2∧nLt (xs.length-y.1.toNat) (xs.length-x.1.toNat))))))))))))))))))))) (true=Sp.zdecld bn bd pn pd dr ji xs))))))))))):=by
 intro hw
 delta m110_0 m110_1 m110_2 m110_3 m110_4 m110_5 m110_6 m110_7 m110_8 m110_9 m110_10 m110_11 m110_12 m110_13 m110_14 m110_15 m110_16 m110_17 m110_18 m110_19 m110_20 m110_21 m110_22 m110_23 m110_24 m110_25 m110_26 m110_27 m110_28 m110_29 m110_30 m110_31 m110_32 m110_33 m110_34 m110_35 m110_36 m110_37 m110_38 m110_39 m110_40 m110_41 m110_42 m110_43 m110_44
 simp only[Cn_iff,Sm_iff,true_and]
 simp only[iMul,iAdd,iSub,Sp.zun00,Sp.zw_sub1,Sp.zw_sub0,eq_self,true_and,and_true,implies_true,true_implies]
 refine⟨fun h1=> ?_,fun h1=>⟨fun h2=> ?_,fun h2=>⟨fun h3=> ?_,fun h3=>⟨fun h4=> ?_,fun h4 _=>⟨fun h5=> ?_,fun h5=> ?_⟩⟩⟩⟩⟩
 · exact Sp.zdecld_no (.inl (by simpa using h1))
 · exact Sp.zdecld_no (.inr (.inl (by simpa[bLt]using h2)))
 · exact Sp.zdecld_no (.inr (.inr (.inl (by simpa[bLt]using h3))))
 · exact Sp.zdecld_no (.inr (.inr (.inr (.inl (by simpa using h4)))))
 · exact Sp.zdecld_no (.inr (.inr (.inr (.inr (by simpa[bLt,iLen]using h5)))))
 have v1:Sp.rvalid bn bd=true:=by simpa using h1
 have v2:bn≤768000:=by simpa[bLt]using h2
 have v3:bd≤768000:=by simpa[bLt]using h3
 have v4:Sp.decl pn pd dr ji=true:=by simpa using h4
 have v5:(xs.length:Int)≤256:=by simpa[bLt,iLen]using h5
 obtain⟨n1,n2,n3,n4,n5,n6,n7,n8,n9,n10,n11,n12,n13,n14,n15,n16,n17,n18,n19,n20⟩:=Sp.zdecl_nums v1 v2 v3 v4
 rw[Sp.zdecld_df v1 v2 v3 v4 v5]
 clear h1 h2 h3 h4 h5
 simp only[pLe,pRoom]
 refine⟨by simp only[InR]; omega,by simp only[InR]; omega,by simp only[InR]; omega,⟨by omega,by omega⟩,fun _=>⟨by simp only[InR]; omega,⟨by omega,by omega⟩,fun _=>⟨by simp only[InR]; omega,⟨by omega,by omega⟩,fun _=>⟨⟨by omega,by omega⟩,fun _=>⟨by omega,fun _=>⟨⟨(0,Sp.zz6),⟨by omega,by omega,⟨rfl,?_⟩,rfl⟩,rfl,rfl⟩,?_⟩⟩⟩⟩⟩⟩
 · intro s hs
   simp only[Sp.zz6,List.mem_cons,List.not_mem_nil,or_false,or_self]at hs
   subst hs; simp
 rintro⟨kk,Z⟩ ⟨k0,k1,⟨hl6,hbd⟩,hdf⟩ _
 simp only at k0 k1 hl6 hbd hdf ⊢
 obtain⟨s0,s1,s2,s3,s4,s5,rfl⟩:=Sp.zlen6 hl6
 refine⟨fun hk=> ?_,fun hk=> ?_⟩
 rotate_left
 · simp only[bLt,iLen,decide_eq_false_iff_not]at hk
   rw[←hdf,List.drop_eq_nil_of_le (by omega)]; rfl
 simp only[bLt,iLen,decide_eq_true_eq]at hk
 have hx:xs.drop kk.toNat=rGet xs kk::xs.drop (kk+1).toNat:=by
  rw[List.drop_eq_getElem_cons (show kk.toNat<xs.length by omega),show(kk+1).toNat=kk.toNat+1 by omega]
  congr 1
  simp[rGet,List.getD_eq_getElem?_getD,show kk.toNat<xs.length by omega]
 rw[hx]at hdf
 generalize rGet xs kk=x at*
 have e1:(qi 0 x)=Sp.ztPull x:=rfl
 have e2:(qi 1 x)=Sp.ztPush x:=rfl
 simp only[e1,e2]
 simp only[Sp.zdf,List.getD_cons_zero,List.getD_cons_succ]at hdf
 rw[←hdf]
 refine⟨⟨k0,hk⟩,fun hr=>⟨fun q1=> ?_,fun q1=>⟨fun q2=> ?_,fun q2=>⟨fun q3=> ?_,fun q3=>⟨fun q4=> ?_,fun q4=> ?_⟩⟩⟩⟩⟩
 all_goals simp only[bLt,decide_eq_true_eq,decide_eq_false_iff_not]at q1
 · have t:Sp.ztval x=false:=by simp only[Sp.ztval,decide_eq_false_iff_not]; omega
   rw[t]; rfl
 · simp only[bLt,decide_eq_true_eq,decide_eq_false_iff_not]at q2
   have t:Sp.ztval x=false:=by simp only[Sp.ztval,decide_eq_false_iff_not]; omega
   rw[t]; rfl
 · simp only[bLt,decide_eq_true_eq,decide_eq_false_iff_not]at q2 q3
   have t:Sp.ztval x=false:=by simp only[Sp.ztval,decide_eq_false_iff_not]; omega
   rw[t]; rfl
 · simp only[bLt,decide_eq_true_eq,decide_eq_false_iff_not]at q2 q3 q4
   have t:Sp.ztval x=false:=by simp only[Sp.ztval,decide_eq_false_iff_not]; omega
   rw[t]; rfl
 simp only[bLt,decide_eq_true_eq,decide_eq_false_iff_not]at q2 q3 q4
 have t:Sp.ztval x=true:=by simp only[Sp.ztval,decide_eq_true_eq]; omega
 rw[t]
 obtain⟨m1,m2,m3,m4,m5,m6,m7,m8⟩:=Sp.ztr_nums (u:=Sp.ztPull x) (v:=Sp.ztPush x) n1 v2 n2 v3 n3 n4 (by omega) (by omega) (by omega) (by omega)
 refine⟨by simp only[InR]; omega,⟨by omega,by omega⟩,fun _=>⟨by simp only[InR]; omega,⟨by omega,by omega⟩,fun _=>⟨fun _ _ _ _ _ _ _ _=>⟨fun g=>Sp.zmv bn bd pn pd dr g x,rfl,rfl,rfl,rfl,rfl,rfl,rfl,rfl,rfl,rfl,rfl,rfl,rfl⟩,?_⟩⟩⟩
 rintro mm hmm _ _
 have d0: -10000000000000000000000≤mm 0∧mm 0≤10000000000000000000000∧Sp.zmv bn bd pn pd dr 0 x=mm 0:=by
  rw[hmm]; refine⟨?_,?_,rfl⟩<;>simp only[Sp.zmv]<;>omega
 have d1: -10000000000000000000000≤mm 1∧mm 1≤10000000000000000000000∧Sp.zmv bn bd pn pd dr 1 x=mm 1:=by
  rw[hmm]; refine⟨?_,?_,rfl⟩<;>simp only[Sp.zmv]<;>omega
 have d2: -10000000000000000000000≤mm 2∧mm 2≤10000000000000000000000∧Sp.zmv bn bd pn pd dr 2 x=mm 2:=by
  rw[hmm]; refine⟨?_,?_,rfl⟩<;>simp only[Sp.zmv]<;>omega
 have d3: -10000000000000000000000≤mm 3∧mm 3≤10000000000000000000000∧Sp.zmv bn bd pn pd dr 3 x=mm 3:=by
  rw[hmm]; refine⟨?_,?_,rfl⟩<;>simp only[Sp.zmv]<;>omega
 have d4: -10000000000000000000000≤mm 4∧mm 4≤10000000000000000000000∧Sp.zmv bn bd pn pd dr 4 x=mm 4:=by
  rw[hmm]; refine⟨?_,?_,rfl⟩<;>simp only[Sp.zmv]<;>omega
 have d5: -10000000000000000000000≤mm 5∧mm 5≤10000000000000000000000∧Sp.zmv bn bd pn pd dr 5 x=mm 5:=by
  rw[hmm]; refine⟨?_,?_,rfl⟩<;>simp only[Sp.zmv]<;>omega
 rw[d0.2.2,d1.2.2,d2.2.2,d3.2.2,d4.2.2,d5.2.2]
 obtain⟨b0,b1,b2,b3,b4,b5⟩:=Sp.zbnd_all hbd
 obtain⟨c0,c1,c2,c3,c4,c5⟩:Sp.zbp 1000000000000000000000000000000 s0∧Sp.zbp 1000000000000000000000000000000 s1∧Sp.zbp 1000000000000000000000000000000 s2∧Sp.zbp 1000000000000000000000000000000 s3∧Sp.zbp 1000000000000000000000000000000 s4∧Sp.zbp 1000000000000000000000000000000 s5:=by
  simp only[Sp.zbp]at b0 b1 b2 b3 b4 b5 ⊢; omega
 clear hmm
 have zq0:Sp.zbq [s0,s1,s2,s3,s4,s5]:=Sp.zbq6 c0 c1 c2 c3 c4 c5
 refine⟨⟨by decide,by simp only[iLen,Sp.zlvs,List.length_map,List.length_cons,List.length_nil]; omega⟩,fun _ _ _=>⟨_,rfl,Sp.zmvA (g:=0) zq0 rfl (by omega) (by omega) (by omega)⟩,?_⟩
 intro y1 hy1 _
 rw[Sp.zadd1_eq (i:=0) (g:=0) zq0 rfl (by omega) (by omega) (by omega)]at hy1
 simp only[List.set_cons_succ,List.set_cons_zero,List.getD_cons_succ,List.getD_cons_zero]at hy1
 subst hy1
 have zr0:Sp.zbq [(s0.1+mm 0,s0.2),s1,s2,s3,s4,s5]:=Sp.zbq6 (Sp.zbp_mono (Sp.zbp_add b0 d0.1 d0.2.1) (by omega)) c1 c2 c3 c4 c5
 refine⟨fun _ _=>⟨fun hb _=>⟨_,rfl,Sp.zmvB1 (g:=0) zr0 rfl (by omega) hb⟩,fun hb=>⟨_,rfl,Sp.zmvB2 (g:=0) zr0 rfl (by omega) hb⟩⟩,?_⟩
 intro y2 hy2 _ _ _ _
 rw[Sp.zlow1_eq (i:=0) (g:=0) zr0 rfl (by omega)]at hy2
 simp only[List.set_cons_succ,List.set_cons_zero,List.getD_cons_succ,List.getD_cons_zero]at hy2
 replace hy2:y2=[Sp.zstp s0 (mm 0),s1,s2,s3,s4,s5]:=hy2
 subst hy2
 have zs0:Sp.zbq [Sp.zstp s0 (mm 0),s1,s2,s3,s4,s5]:=Sp.zbq6 (Sp.zbp_mono (Sp.zbp_stp b0 d0.1 d0.2.1) (by omega)) c1 c2 c3 c4 c5
 rw[Sp.zmvC (i:=0) (g:=0) zs0 rfl (by omega) n19 (by omega)]
 simp only[List.getD_cons_succ,List.getD_cons_zero]
 cases kq0:Sp.zstOk (bd*(pd*65536)*ji) (Sp.zstp s0 (mm 0))
 · exact⟨fun _=>rfl,fun h=>by simp at h⟩
 refine⟨fun h=>by simp at h,fun _ _=> ?_⟩
 have zq1:Sp.zbq [Sp.zstp s0 (mm 0),s1,s2,s3,s4,s5]:=Sp.zbq6 (Sp.zbp_mono (Sp.zbp_stp b0 d0.1 d0.2.1) (by omega)) c1 c2 c3 c4 c5
 refine⟨⟨by decide,by simp only[iLen,Sp.zlvs,List.length_map,List.length_cons,List.length_nil]; omega⟩,fun _ _ _=>⟨_,rfl,Sp.zmvA (g:=1) zq1 rfl (by omega) (by omega) (by omega)⟩,?_⟩
 intro y1 hy1 _
 rw[Sp.zadd1_eq (i:=0+1) (g:=1) zq1 rfl (by omega) (by omega) (by omega)]at hy1
 simp only[List.set_cons_succ,List.set_cons_zero,List.getD_cons_succ,List.getD_cons_zero]at hy1
 subst hy1
 have zr1:Sp.zbq [Sp.zstp s0 (mm 0),(s1.1+mm 1,s1.2),s2,s3,s4,s5]:=Sp.zbq6 (Sp.zbp_mono (Sp.zbp_stp b0 d0.1 d0.2.1) (by omega)) (Sp.zbp_mono (Sp.zbp_add b1 d1.1 d1.2.1) (by omega)) c2 c3 c4 c5
 refine⟨fun _ _=>⟨fun hb _=>⟨_,rfl,Sp.zmvB1 (g:=1) zr1 rfl (by omega) hb⟩,fun hb=>⟨_,rfl,Sp.zmvB2 (g:=1) zr1 rfl (by omega) hb⟩⟩,?_⟩
 intro y2 hy2 _ _ _ _
 rw[Sp.zlow1_eq (i:=0+1) (g:=1) zr1 rfl (by omega)]at hy2
 simp only[List.set_cons_succ,List.set_cons_zero,List.getD_cons_succ,List.getD_cons_zero]at hy2
 replace hy2:y2=[Sp.zstp s0 (mm 0),Sp.zstp s1 (mm 1),s2,s3,s4,s5]:=hy2
 subst hy2
 have zs1:Sp.zbq [Sp.zstp s0 (mm 0),Sp.zstp s1 (mm 1),s2,s3,s4,s5]:=Sp.zbq6 (Sp.zbp_mono (Sp.zbp_stp b0 d0.1 d0.2.1) (by omega)) (Sp.zbp_mono (Sp.zbp_stp b1 d1.1 d1.2.1) (by omega)) c2 c3 c4 c5
 rw[Sp.zmvC (i:=0+1) (g:=1) zs1 rfl (by omega) n19 (by omega)]
 simp only[List.getD_cons_succ,List.getD_cons_zero]
 cases kq1:Sp.zstOk (bd*(pd*65536)*ji) (Sp.zstp s1 (mm 1))
 · exact⟨fun _=>rfl,fun h=>by simp at h⟩
 refine⟨fun h=>by simp at h,fun _ _=> ?_⟩
 have zq2:Sp.zbq [Sp.zstp s0 (mm 0),Sp.zstp s1 (mm 1),s2,s3,s4,s5]:=Sp.zbq6 (Sp.zbp_mono (Sp.zbp_stp b0 d0.1 d0.2.1) (by omega)) (Sp.zbp_mono (Sp.zbp_stp b1 d1.1 d1.2.1) (by omega)) c2 c3 c4 c5
 refine⟨⟨by decide,by simp only[iLen,Sp.zlvs,List.length_map,List.length_cons,List.length_nil]; omega⟩,fun _ _ _=>⟨_,rfl,Sp.zmvA (g:=2) zq2 rfl (by omega) (by omega) (by omega)⟩,?_⟩
 intro y1 hy1 _
 rw[Sp.zadd1_eq (i:=0+1+1) (g:=2) zq2 rfl (by omega) (by omega) (by omega)]at hy1
 simp only[List.set_cons_succ,List.set_cons_zero,List.getD_cons_succ,List.getD_cons_zero]at hy1
 subst hy1
 have zr2:Sp.zbq [Sp.zstp s0 (mm 0),Sp.zstp s1 (mm 1),(s2.1+mm 2,s2.2),s3,s4,s5]:=Sp.zbq6 (Sp.zbp_mono (Sp.zbp_stp b0 d0.1 d0.2.1) (by omega)) (Sp.zbp_mono (Sp.zbp_stp b1 d1.1 d1.2.1) (by omega)) (Sp.zbp_mono (Sp.zbp_add b2 d2.1 d2.2.1) (by omega)) c3 c4 c5
 refine⟨fun _ _=>⟨fun hb _=>⟨_,rfl,Sp.zmvB1 (g:=2) zr2 rfl (by omega) hb⟩,fun hb=>⟨_,rfl,Sp.zmvB2 (g:=2) zr2 rfl (by omega) hb⟩⟩,?_⟩
 intro y2 hy2 _ _ _ _
 rw[Sp.zlow1_eq (i:=0+1+1) (g:=2) zr2 rfl (by omega)]at hy2
 simp only[List.set_cons_succ,List.set_cons_zero,List.getD_cons_succ,List.getD_cons_zero]at hy2
 replace hy2:y2=[Sp.zstp s0 (mm 0),Sp.zstp s1 (mm 1),Sp.zstp s2 (mm 2),s3,s4,s5]:=hy2
 subst hy2
 have zs2:Sp.zbq [Sp.zstp s0 (mm 0),Sp.zstp s1 (mm 1),Sp.zstp s2 (mm 2),s3,s4,s5]:=Sp.zbq6 (Sp.zbp_mono (Sp.zbp_stp b0 d0.1 d0.2.1) (by omega)) (Sp.zbp_mono (Sp.zbp_stp b1 d1.1 d1.2.1) (by omega)) (Sp.zbp_mono (Sp.zbp_stp b2 d2.1 d2.2.1) (by omega)) c3 c4 c5
 rw[Sp.zmvC (i:=0+1+1) (g:=2) zs2 rfl (by omega) n19 (by omega)]
 simp only[List.getD_cons_succ,List.getD_cons_zero]
 cases kq2:Sp.zstOk (bd*(pd*65536)*ji) (Sp.zstp s2 (mm 2))
 · exact⟨fun _=>rfl,fun h=>by simp at h⟩
 refine⟨fun h=>by simp at h,fun _ _=> ?_⟩
 have zq3:Sp.zbq [Sp.zstp s0 (mm 0),Sp.zstp s1 (mm 1),Sp.zstp s2 (mm 2),s3,s4,s5]:=Sp.zbq6 (Sp.zbp_mono (Sp.zbp_stp b0 d0.1 d0.2.1) (by omega)) (Sp.zbp_mono (Sp.zbp_stp b1 d1.1 d1.2.1) (by omega)) (Sp.zbp_mono (Sp.zbp_stp b2 d2.1 d2.2.1) (by omega)) c3 c4 c5
 refine⟨⟨by decide,by simp only[iLen,Sp.zlvs,List.length_map,List.length_cons,List.length_nil]; omega⟩,fun _ _ _=>⟨_,rfl,Sp.zmvA (g:=3) zq3 rfl (by omega) (by omega) (by omega)⟩,?_⟩
 intro y1 hy1 _
 rw[Sp.zadd1_eq (i:=0+1+1+1) (g:=3) zq3 rfl (by omega) (by omega) (by omega)]at hy1
 simp only[List.set_cons_succ,List.set_cons_zero,List.getD_cons_succ,List.getD_cons_zero]at hy1
 subst hy1
 have zr3:Sp.zbq [Sp.zstp s0 (mm 0),Sp.zstp s1 (mm 1),Sp.zstp s2 (mm 2),(s3.1+mm 3,s3.2),s4,s5]:=Sp.zbq6 (Sp.zbp_mono (Sp.zbp_stp b0 d0.1 d0.2.1) (by omega)) (Sp.zbp_mono (Sp.zbp_stp b1 d1.1 d1.2.1) (by omega)) (Sp.zbp_mono (Sp.zbp_stp b2 d2.1 d2.2.1) (by omega)) (Sp.zbp_mono (Sp.zbp_add b3 d3.1 d3.2.1) (by omega)) c4 c5
 refine⟨fun _ _=>⟨fun hb _=>⟨_,rfl,Sp.zmvB1 (g:=3) zr3 rfl (by omega) hb⟩,fun hb=>⟨_,rfl,Sp.zmvB2 (g:=3) zr3 rfl (by omega) hb⟩⟩,?_⟩
 intro y2 hy2 _ _ _ _
 rw[Sp.zlow1_eq (i:=0+1+1+1) (g:=3) zr3 rfl (by omega)]at hy2
 simp only[List.set_cons_succ,List.set_cons_zero,List.getD_cons_succ,List.getD_cons_zero]at hy2
 replace hy2:y2=[Sp.zstp s0 (mm 0),Sp.zstp s1 (mm 1),Sp.zstp s2 (mm 2),Sp.zstp s3 (mm 3),s4,s5]:=hy2
 subst hy2
 have zs3:Sp.zbq [Sp.zstp s0 (mm 0),Sp.zstp s1 (mm 1),Sp.zstp s2 (mm 2),Sp.zstp s3 (mm 3),s4,s5]:=Sp.zbq6 (Sp.zbp_mono (Sp.zbp_stp b0 d0.1 d0.2.1) (by omega)) (Sp.zbp_mono (Sp.zbp_stp b1 d1.1 d1.2.1) (by omega)) (Sp.zbp_mono (Sp.zbp_stp b2 d2.1 d2.2.1) (by omega)) (Sp.zbp_mono (Sp.zbp_stp b3 d3.1 d3.2.1) (by omega)) c4 c5
 rw[Sp.zmvC (i:=0+1+1+1) (g:=3) zs3 rfl (by omega) n19 (by omega)]
 simp only[List.getD_cons_succ,List.getD_cons_zero]
 cases kq3:Sp.zstOk (bd*(pd*65536)*ji) (Sp.zstp s3 (mm 3))
 · exact⟨fun _=>rfl,fun h=>by simp at h⟩
 refine⟨fun h=>by simp at h,fun _ _=> ?_⟩
 have zq4:Sp.zbq [Sp.zstp s0 (mm 0),Sp.zstp s1 (mm 1),Sp.zstp s2 (mm 2),Sp.zstp s3 (mm 3),s4,s5]:=Sp.zbq6 (Sp.zbp_mono (Sp.zbp_stp b0 d0.1 d0.2.1) (by omega)) (Sp.zbp_mono (Sp.zbp_stp b1 d1.1 d1.2.1) (by omega)) (Sp.zbp_mono (Sp.zbp_stp b2 d2.1 d2.2.1) (by omega)) (Sp.zbp_mono (Sp.zbp_stp b3 d3.1 d3.2.1) (by omega)) c4 c5
 refine⟨⟨by decide,by simp only[iLen,Sp.zlvs,List.length_map,List.length_cons,List.length_nil]; omega⟩,fun _ _ _=>⟨_,rfl,Sp.zmvA (g:=4) zq4 rfl (by omega) (by omega) (by omega)⟩,?_⟩
 intro y1 hy1 _
 rw[Sp.zadd1_eq (i:=0+1+1+1+1) (g:=4) zq4 rfl (by omega) (by omega) (by omega)]at hy1
 simp only[List.set_cons_succ,List.set_cons_zero,List.getD_cons_succ,List.getD_cons_zero]at hy1
 subst hy1
 have zr4:Sp.zbq [Sp.zstp s0 (mm 0),Sp.zstp s1 (mm 1),Sp.zstp s2 (mm 2),Sp.zstp s3 (mm 3),(s4.1+mm 4,s4.2),s5]:=Sp.zbq6 (Sp.zbp_mono (Sp.zbp_stp b0 d0.1 d0.2.1) (by omega)) (Sp.zbp_mono (Sp.zbp_stp b1 d1.1 d1.2.1) (by omega)) (Sp.zbp_mono (Sp.zbp_stp b2 d2.1 d2.2.1) (by omega)) (Sp.zbp_mono (Sp.zbp_stp b3 d3.1 d3.2.1) (by omega)) (Sp.zbp_mono (Sp.zbp_add b4 d4.1 d4.2.1) (by omega)) c5
 refine⟨fun _ _=>⟨fun hb _=>⟨_,rfl,Sp.zmvB1 (g:=4) zr4 rfl (by omega) hb⟩,fun hb=>⟨_,rfl,Sp.zmvB2 (g:=4) zr4 rfl (by omega) hb⟩⟩,?_⟩
 intro y2 hy2 _ _ _ _
 rw[Sp.zlow1_eq (i:=0+1+1+1+1) (g:=4) zr4 rfl (by omega)]at hy2
 simp only[List.set_cons_succ,List.set_cons_zero,List.getD_cons_succ,List.getD_cons_zero]at hy2
 replace hy2:y2=[Sp.zstp s0 (mm 0),Sp.zstp s1 (mm 1),Sp.zstp s2 (mm 2),Sp.zstp s3 (mm 3),Sp.zstp s4 (mm 4),s5]:=hy2
 subst hy2
 have zs4:Sp.zbq [Sp.zstp s0 (mm 0),Sp.zstp s1 (mm 1),Sp.zstp s2 (mm 2),Sp.zstp s3 (mm 3),Sp.zstp s4 (mm 4),s5]:=Sp.zbq6 (Sp.zbp_mono (Sp.zbp_stp b0 d0.1 d0.2.1) (by omega)) (Sp.zbp_mono (Sp.zbp_stp b1 d1.1 d1.2.1) (by omega)) (Sp.zbp_mono (Sp.zbp_stp b2 d2.1 d2.2.1) (by omega)) (Sp.zbp_mono (Sp.zbp_stp b3 d3.1 d3.2.1) (by omega)) (Sp.zbp_mono (Sp.zbp_stp b4 d4.1 d4.2.1) (by omega)) c5
 rw[Sp.zmvC (i:=0+1+1+1+1) (g:=4) zs4 rfl (by omega) n19 (by omega)]
 simp only[List.getD_cons_succ,List.getD_cons_zero]
 cases kq4:Sp.zstOk (bd*(pd*65536)*ji) (Sp.zstp s4 (mm 4))
 · exact⟨fun _=>rfl,fun h=>by simp at h⟩
 refine⟨fun h=>by simp at h,fun _ _=> ?_⟩
 have zq5:Sp.zbq [Sp.zstp s0 (mm 0),Sp.zstp s1 (mm 1),Sp.zstp s2 (mm 2),Sp.zstp s3 (mm 3),Sp.zstp s4 (mm 4),s5]:=Sp.zbq6 (Sp.zbp_mono (Sp.zbp_stp b0 d0.1 d0.2.1) (by omega)) (Sp.zbp_mono (Sp.zbp_stp b1 d1.1 d1.2.1) (by omega)) (Sp.zbp_mono (Sp.zbp_stp b2 d2.1 d2.2.1) (by omega)) (Sp.zbp_mono (Sp.zbp_stp b3 d3.1 d3.2.1) (by omega)) (Sp.zbp_mono (Sp.zbp_stp b4 d4.1 d4.2.1) (by omega)) c5
 refine⟨⟨by decide,by simp only[iLen,Sp.zlvs,List.length_map,List.length_cons,List.length_nil]; omega⟩,fun _ _ _=>⟨_,rfl,Sp.zmvA (g:=5) zq5 rfl (by omega) (by omega) (by omega)⟩,?_⟩
 intro y1 hy1 _
 rw[Sp.zadd1_eq (i:=0+1+1+1+1+1) (g:=5) zq5 rfl (by omega) (by omega) (by omega)]at hy1
 simp only[List.set_cons_succ,List.set_cons_zero,List.getD_cons_succ,List.getD_cons_zero]at hy1
 subst hy1
 have zr5:Sp.zbq [Sp.zstp s0 (mm 0),Sp.zstp s1 (mm 1),Sp.zstp s2 (mm 2),Sp.zstp s3 (mm 3),Sp.zstp s4 (mm 4),(s5.1+mm 5,s5.2)]:=Sp.zbq6 (Sp.zbp_mono (Sp.zbp_stp b0 d0.1 d0.2.1) (by omega)) (Sp.zbp_mono (Sp.zbp_stp b1 d1.1 d1.2.1) (by omega)) (Sp.zbp_mono (Sp.zbp_stp b2 d2.1 d2.2.1) (by omega)) (Sp.zbp_mono (Sp.zbp_stp b3 d3.1 d3.2.1) (by omega)) (Sp.zbp_mono (Sp.zbp_stp b4 d4.1 d4.2.1) (by omega)) (Sp.zbp_mono (Sp.zbp_add b5 d5.1 d5.2.1) (by omega))
 refine⟨fun _ _=>⟨fun hb _=>⟨_,rfl,Sp.zmvB1 (g:=5) zr5 rfl (by omega) hb⟩,fun hb=>⟨_,rfl,Sp.zmvB2 (g:=5) zr5 rfl (by omega) hb⟩⟩,?_⟩
 intro y2 hy2 _ _ _ _
 rw[Sp.zlow1_eq (i:=0+1+1+1+1+1) (g:=5) zr5 rfl (by omega)]at hy2
 simp only[List.set_cons_succ,List.set_cons_zero,List.getD_cons_succ,List.getD_cons_zero]at hy2
 replace hy2:y2=[Sp.zstp s0 (mm 0),Sp.zstp s1 (mm 1),Sp.zstp s2 (mm 2),Sp.zstp s3 (mm 3),Sp.zstp s4 (mm 4),Sp.zstp s5 (mm 5)]:=hy2
 subst hy2
 have zs5:Sp.zbq [Sp.zstp s0 (mm 0),Sp.zstp s1 (mm 1),Sp.zstp s2 (mm 2),Sp.zstp s3 (mm 3),Sp.zstp s4 (mm 4),Sp.zstp s5 (mm 5)]:=Sp.zbq6 (Sp.zbp_mono (Sp.zbp_stp b0 d0.1 d0.2.1) (by omega)) (Sp.zbp_mono (Sp.zbp_stp b1 d1.1 d1.2.1) (by omega)) (Sp.zbp_mono (Sp.zbp_stp b2 d2.1 d2.2.1) (by omega)) (Sp.zbp_mono (Sp.zbp_stp b3 d3.1 d3.2.1) (by omega)) (Sp.zbp_mono (Sp.zbp_stp b4 d4.1 d4.2.1) (by omega)) (Sp.zbp_mono (Sp.zbp_stp b5 d5.1 d5.2.1) (by omega))
 rw[Sp.zmvC (i:=0+1+1+1+1+1) (g:=5) zs5 rfl (by omega) n19 (by omega)]
 simp only[List.getD_cons_succ,List.getD_cons_zero]
 cases kq5:Sp.zstOk (bd*(pd*65536)*ji) (Sp.zstp s5 (mm 5))
 · exact⟨fun _=>rfl,fun h=>by simp at h⟩
 refine⟨fun h=>by simp at h,fun _=> ?_⟩
 refine⟨by simp only[InR]; omega,(kk+1,[Sp.zstp s0 (mm 0),Sp.zstp s1 (mm 1),Sp.zstp s2 (mm 2),Sp.zstp s3 (mm 3),Sp.zstp s4 (mm 4),Sp.zstp s5 (mm 5)]),⟨by omega,by omega,⟨rfl,?_⟩,?_⟩,rfl,rfl,by simp only; omega⟩
 · intro s hs
   simp only[List.mem_cons,List.not_mem_nil,or_false]at hs
   rcases hs with rfl|rfl|rfl|rfl|rfl|rfl
   · have:=Sp.zbp_stp b0 d0.1 d0.2.1
     simp only[Sp.zbp]at this
     omega
   · have:=Sp.zbp_stp b1 d1.1 d1.2.1
     simp only[Sp.zbp]at this
     omega
   · have:=Sp.zbp_stp b2 d2.1 d2.2.1
     simp only[Sp.zbp]at this
     omega
   · have:=Sp.zbp_stp b3 d3.1 d3.2.1
     simp only[Sp.zbp]at this
     omega
   · have:=Sp.zbp_stp b4 d4.1 d4.2.1
     simp only[Sp.zbp]at this
     omega
   · have:=Sp.zbp_stp b5 d5.1 d5.2.1
     simp only[Sp.zbp]at this
     omega
 · simp only
   rw[←hdf,t,d0.2.2,d1.2.2,d2.2.2,d3.2.2,d4.2.2,d5.2.2,kq0,kq1,kq2,kq3,kq4,kq5]
   rfl
def r110:Cr PR:=K0 [r144,r160,r175,r176,r225] 110 6 {ps:=[(true,hII),(true,hII),(false,hI),(false,hI),(false,[.sl hII])],rs:=[(false,[.bool])],pre:=fun _=>True,out:=fun a=>[[.b (Sp.zdecld (I a 0 0) (I a 0 1) (I a 1 0) (I a 1 1) (I a 2 0) (I a 3 0) (L a 4 0))]]} (fun a=>A110 (I a 0 0) (I a 0 1) (I a 1 0) (I a 1 1) (I a 2 0) (I a 3 0) (L a 4 0)) fun a=>Y (v110 (I a 0 0) (I a 0 1) (I a 1 0) (I a 1 1) (I a 2 0) (I a 3 0) (L a 4 0))
end Go.Sx

set_option linter.unusedVariables false
set_option linter.unusedSimpArgs false
set_option maxRecDepth 100000
set_option maxHeartbeats 4000000
noncomputable section
namespace Go
open Go.Sx
def Sp.znearM (x y z:Int):Bool:=decide (x≤y+z)&&decide (y≤x+z)
def Sp.zrok (bn bd pn pd dr ji m u v:Int):Bool:=
 Sp.znearM (u*bn*pd*65536) (m*pn*bd*65536) (m*pn*bd*dr+ji*bd*pd*65536)&&(Sp.znearM (v*bd*pd*65536) (m*pn*bd*65536) (m*pn*bd*dr+ji*bd*pd*65536)&&
  Sp.znearM (u*bn*pd*65536) (v*bd*pd*65536) (m*pn*bd*dr+ji*bd*pd*65536))
def Sp.zrin (bn bd pn pd dr ji m u v:Int) (xs:List (List C)):Bool:=
 match xs with
 |[]=>true
 |x::r=>Sp.zrok bn bd pn pd dr ji (m+1) (u+Sp.ztPull x) (v+Sp.ztPush x)&&Sp.zrin bn bd pn pd dr ji (m+1) (u+Sp.ztPull x) (v+Sp.ztPush x) r
def Sp.zrout (bn bd pn pd dr ji:Int) (xs:List (List C)):Bool:=
 match xs with
 |[]=>true
 |x::r=>Sp.zrin bn bd pn pd dr ji 0 0 0 (x::r)&&Sp.zrout bn bd pn pd dr ji r
def Sp.zrdecl (bn bd pn pd dr ji:Int) (xs:List (List C)):Bool:=
 Sp.rvalid bn bd&&(decide (bn≤768000∧bd≤768000)&&(Sp.decl pn pd dr ji&&(decide ((xs.length:Int)≤256)&&(xs.all Sp.ztval&&Sp.zrout bn bd pn pd dr ji xs))))
def Sp.zr1 (xs:List (List C)) (kk:Int):Prop:=0≤kk∧kk≤(xs.length:Int)∧(xs.drop kk.toNat).all Sp.ztval=xs.all Sp.ztval
def Sp.zr2 (bn bd pn pd dr ji:Int) (xs:List (List C)) (kk:Int):Prop:=0≤kk∧kk≤(xs.length:Int)∧Sp.zrout bn bd pn pd dr ji (xs.drop kk.toNat)=Sp.zrout bn bd pn pd dr ji xs
def Sp.zr3 (bn bd pn pd dr ji:Int) (xs:List (List C)) (k0 kk u v:Int):Prop:=
 0≤kk∧kk≤(xs.length:Int)-k0∧0≤u∧u≤kk*65536∧0≤v∧v≤kk*65536∧Sp.zrin bn bd pn pd dr ji kk u v ((xs.drop k0.toNat).drop kk.toNat)=Sp.zrin bn bd pn pd dr ji 0 0 0 (xs.drop k0.toNat)
end Go
namespace Go
open Go.Sx
theorem Sp.zun_s {n:Int} (h0:0≤n) (h1:n≤1000000000000000000000000000000):Sp.zun (Sp.zw1 n) (Sp.zw0 n)=n:=by
 unfold Sp.zun Sp.zw1 Sp.zw0; omega
theorem Sp.znearB_M {x y z:Int} (x0:0≤x) (x1:x≤1000000000000000000000000000000) (y0:0≤y) (y1:y≤1000000000000000000000000000000) (z0:0≤z) (z1:z≤1000000000000000000000000000000):Sp.znearB x y z=Sp.znearM x y z:=by
 unfold Sp.znearB Sp.znearM Sp.zm28
 rw[←decide_not,←decide_not]
 congr 1<;>(rw[decide_eq_decide]; omega)
theorem Sp.zdrop_cons {xs:List (List C)} {k:Int} (h0:0≤k) (h1:k<(xs.length:Int)):xs.drop k.toNat=rGet xs k::xs.drop (k+1).toNat:=by
 rw[List.drop_eq_getElem_cons (show k.toNat<xs.length by omega),show(k+1).toNat=k.toNat+1 by omega]
 congr 1
 simp[rGet,List.getD_eq_getElem?_getD,show k.toNat<xs.length by omega]
theorem Sp.zrdecl_no {bn bd pn pd dr ji:Int} {xs:List (List C)} (h:Sp.rvalid bn bd=false∨768000<bn∨768000<bd∨Sp.decl pn pd dr ji=false∨256<(xs.length:Int)∨xs.all Sp.ztval=false):false=Sp.zrdecl bn bd pn pd dr ji xs:=by
 symm
 unfold Sp.zrdecl
 rcases h with h|h|h|h|h|h
 · simp[h]
 · have:decide (bn≤768000∧bd≤768000)=false:=by simp; omega
   simp[this]
 · have:decide (bn≤768000∧bd≤768000)=false:=by simp; omega
   simp[this]
 · simp[h]
 · have:decide ((xs.length:Int)≤256)=false:=by simp; omega
   simp[this]
 · simp only[h,Bool.false_and,Bool.and_false]
theorem Sp.zrdecl_df {bn bd pn pd dr ji:Int} {xs:List (List C)} (h1:Sp.rvalid bn bd=true) (h2:bn≤768000) (h3:bd≤768000) (h4:Sp.decl pn pd dr ji=true) (h5:(xs.length:Int)≤256) (h6:xs.all Sp.ztval=true):
 Sp.zrdecl bn bd pn pd dr ji xs=Sp.zrout bn bd pn pd dr ji xs:=by
 unfold Sp.zrdecl
 rw[h1,h4,h6]
 simp[h2,h3,h5]
theorem Sp.zdecl_no {n d k j:Int} (h:Sp.poss n d=false∨k<0∨4096<k∨j<0∨65536<j):Sp.decl n d k j=false:=by
 unfold Sp.decl
 rcases h with h|h|h|h|h
 · simp[h]
 all_goals
  have:decide (0≤k∧k≤4096∧0≤j∧j≤65536)=false:=by simp; omega
  simp[this]
theorem Sp.zr_nums {bn bd pn pd dr ji m u v:Int} (h1:1≤bn) (h2:bn≤768000) (h3:1≤bd) (h4:bd≤768000) (h5:1≤pd) (h6:pd≤768000) (p0:1≤pn) (p1:pn≤68719476736) (d0:0≤dr) (d1:dr≤4096) (j0:0≤ji) (j1:ji≤65536)
 (m0:0≤m) (m1:m≤257) (u0:0≤u) (u1:u≤257*65536) (v0:0≤v) (v1:v≤257*65536):
 0≤u*bn∧u*bn≤100000000000000000∧0≤u*bn*pd*65536∧u*bn*pd*65536≤100000000000000000000000000∧0≤v*bd∧v*bd≤100000000000000000∧0≤v*bd*pd*65536∧v*bd*pd*65536≤100000000000000000000000000∧
 0≤m*pn∧m*pn≤100000000000000000∧0≤m*pn*bd*65536∧m*pn*bd*65536≤100000000000000000000000000∧0≤m*pn*bd*dr∧m*pn*bd*dr≤100000000000000000000000000∧
 0≤ji*bd∧ji*bd≤100000000000000000∧0≤ji*bd*pd*65536∧ji*bd*pd*65536≤100000000000000000000000000:=by
 have a1:=mul_bd (x:=u) (X:=257*65536) (y:=bn) (Y:=768000) (by omega) (by omega) (by omega) (by omega)
 have a2:=mul_bd (x:=u*bn) (X:=257*65536*768000) (y:=pd) (Y:=768000) (by omega) (by omega) (by omega) (by omega)
 have b1:=mul_bd (x:=v) (X:=257*65536) (y:=bd) (Y:=768000) (by omega) (by omega) (by omega) (by omega)
 have b2:=mul_bd (x:=v*bd) (X:=257*65536*768000) (y:=pd) (Y:=768000) (by omega) (by omega) (by omega) (by omega)
 have c1:=mul_bd (x:=m) (X:=257) (y:=pn) (Y:=68719476736) (by omega) (by omega) (by omega) (by omega)
 have c2:=mul_bd (x:=m*pn) (X:=257*68719476736) (y:=bd) (Y:=768000) (by omega) (by omega) (by omega) (by omega)
 have c3:=mul_bd (x:=m*pn*bd) (X:=257*68719476736*768000) (y:=dr) (Y:=4096) (by omega) (by omega) (by omega) (by omega)
 have e1:=mul_bd (x:=ji) (X:=65536) (y:=bd) (Y:=768000) (by omega) (by omega) (by omega) (by omega)
 have e2:=mul_bd (x:=ji*bd) (X:=65536*768000) (y:=pd) (Y:=768000) (by omega) (by omega) (by omega) (by omega)
 omega
end Go
namespace Go.Sx
def A111 (bn:Int) (bd:Int) (pn:Int) (pd:Int) (dr:Int) (ji:Int) (xs:List (List C)):FuncId→Nat→LoopAnn:=fun _ ii=>bif Nat.beq ii 4 then .inv Int (fun z=>Sp.zr1 xs z) (fun z=>[(67,.int .i64 z)]) (fun _=>[]) [] [0,1,2,3,4,5,6,10,12,13,14,15,16,17,18,19,20,21,22,23,24,25,64,65,66,67,68,88,100,101,102,106,107,108,109,175] (fun z=>xs.length-z.toNat)else bif Nat.beq ii 11 then .inv Int (fun z=>Sp.zr2 bn bd pn pd dr ji xs z) (fun z=>[(101,.int .i64 z)]) (fun _=>[]) [] [0,1,2,3,4,5,6,10,12,13,14,15,16,17,18,19,20,21,22,23,24,25,64,65,66,67,68,88,100,101,102,106,107,108,109,175] (fun z=>xs.length-z.toNat)else bif Nat.beq ii 15 then .on (fun sv0=>match sv0.tmps.getD 101 .undef with| .int _ kk=> .inv (Int×Int×Int) (fun z=>Sp.zr3 bn bd pn pd dr ji xs kk z.1 z.2.1 z.2.2) (fun z=>[(108,.int .i64 z.1),(17,.int .u64 z.2.1),(18,.int .u64 z.2.2)]) (fun _=>[]) [] [0,1,2,3,4,5,6,10,12,13,14,15,16,17,18,19,20,21,22,23,24,25,64,65,66,67,68,88,100,101,102,106,107,108,109,175] (fun z=>xs.length-z.1.toNat)|_=> .unroll 0)else .unroll 0
def m111_1 (xs:List (List C)) (x_1:Int) (x_2:Int×Int×Int):List C:=(rGet (cutRows xs (some x_1) none) x_2.1)
def m111_2 (bd:Int) (pn:Int) (pd:Int) (dr:Int) (ji:Int) (x_2:Int×Int×Int):Int:=(Sp.zw1 (Sp.zun (Sp.zw1 (iMul (iWrap .u64 (iAdd x_2.1 1)) (iWrap .u64 pn)*iWrap .u64 bd*iWrap .u64 dr)) (Sp.zw0 (iMul (iWrap .u64 (iAdd x_2.1 1)) (iWrap .u64 pn)*iWrap .u64 bd*iWrap .u64 dr))+Sp.zun (Sp.zw1 (iMul (iWrap .u64 ji) (iWrap .u64 bd)*iWrap .u64 pd*65536)) (Sp.zw0 (iMul (iWrap .u64 ji) (iWrap .u64 bd)*iWrap .u64 pd*65536))))
def m111_3 (bd:Int) (pn:Int) (pd:Int) (dr:Int) (ji:Int) (x_2:Int×Int×Int):Int:=(Sp.zw0 (Sp.zun (Sp.zw1 (iMul (iWrap .u64 (iAdd x_2.1 1)) (iWrap .u64 pn)*iWrap .u64 bd*iWrap .u64 dr)) (Sp.zw0 (iMul (iWrap .u64 (iAdd x_2.1 1)) (iWrap .u64 pn)*iWrap .u64 bd*iWrap .u64 dr))+Sp.zun (Sp.zw1 (iMul (iWrap .u64 ji) (iWrap .u64 bd)*iWrap .u64 pd*65536)) (Sp.zw0 (iMul (iWrap .u64 ji) (iWrap .u64 bd)*iWrap .u64 pd*65536))))
def m111_0 (bd:Int) (pn:Int) (pd:Int) (dr:Int) (ji:Int) (x_2:Int×Int×Int):Int:=(Sp.zun (m111_2 bd pn pd dr ji x_2) (m111_3 bd pn pd dr ji x_2))
def m111_4 (bn:Int) (pd:Int) (xs:List (List C)) (x_1:Int) (x_2:Int×Int×Int):Int:=(Sp.zun (Sp.zw1 (iMul (iAdd x_2.2.1 (iWrap .u64 (qi 0 (m111_1 xs x_1 x_2)))) (iWrap .u64 bn)*iWrap .u64 pd*65536)) (Sp.zw0 (iMul (iAdd x_2.2.1 (iWrap .u64 (qi 0 (m111_1 xs x_1 x_2)))) (iWrap .u64 bn)*iWrap .u64 pd*65536)))
def m111_5 (bd:Int) (pd:Int) (xs:List (List C)) (x_1:Int) (x_2:Int×Int×Int):Int:=(Sp.zun (Sp.zw1 (iMul (iAdd x_2.2.2 (iWrap .u64 (qi 1 (m111_1 xs x_1 x_2)))) (iWrap .u64 bd)*iWrap .u64 pd*65536)) (Sp.zw0 (iMul (iAdd x_2.2.2 (iWrap .u64 (qi 1 (m111_1 xs x_1 x_2)))) (iWrap .u64 bd)*iWrap .u64 pd*65536)))
def m111_6 (bd:Int) (pn:Int) (x_2:Int×Int×Int):Int:=(Sp.zun (Sp.zw1 (iMul (iWrap .u64 (iAdd x_2.1 1)) (iWrap .u64 pn)*iWrap .u64 bd*65536)) (Sp.zw0 (iMul (iWrap .u64 (iAdd x_2.1 1)) (iWrap .u64 pn)*iWrap .u64 bd*65536)))
theorem v111 (bn:Int) (bd:Int) (pn:Int) (pd:Int) (dr:Int) (ji:Int) (xs:List (List C)):InR .i64 bn∧InR .i64 bd∧InR .i64 pn∧InR .i64 pd∧InR .i64 dr∧InR .i64 ji∧WL hII xs→True∧True∧Cn (bNot (Sp.rvalid bn bd)) (false=Sp.zrdecl bn bd pn pd dr ji xs) (Cn (bLt 768000 bn) (false=Sp.zrdecl bn bd pn pd dr ji xs) (Cn (bLt 768000 bd) (false=Sp.zrdecl bn bd pn pd dr ji xs) (True∧True∧Cn (bNot (Sp.poss pn pd)) (false=Sp.zrdecl bn bd pn pd dr ji xs) (Cn (bLt dr 0) (false=Sp.zrdecl bn bd pn pd dr ji xs) (Cn (bLt 4096 dr) (false=Sp.zrdecl bn bd pn pd dr ji xs) (Cn (bLt ji 0) (false=Sp.zrdecl bn bd pn pd dr ji xs) (Cn (bLt 65536 ji) (false=Sp.zrdecl bn bd pn pd dr ji xs) (pLe (iLen xs) 9223372036854775807→Cn (bLt 256 (iLen xs)) (false=Sp.zrdecl bn bd pn pd dr ji xs) (pLe (iLen xs) 9223372036854775807→(∃(x:Int),Sp.zr1 xs x∧0=x)∧∀(x:Int),Sp.zr1 xs x→InR .i64 x→Cn (bLt x (iLen xs)) (pIn 0 (iLen xs) x∧(InR .i64 (qi 0 (rGet xs x))∧InR .i64 (qi 1 (rGet xs x))→Cn (bLt (qi 0 (rGet xs x)) 0) (false=Sp.zrdecl bn bd pn pd dr ji xs) (Cn (bLt 65536 (qi 0 (rGet xs x))) (false=Sp.zrdecl bn bd pn pd dr ji xs) (Cn (bLt (qi 1 (rGet xs x)) 0) (false=Sp.zrdecl bn bd pn pd dr ji xs) (Cn (bLt 65536 (qi 1 (rGet xs x))) (false=Sp.zrdecl bn bd pn pd dr ji xs) (InR .i64 (iAdd x 1)∧Sm [C.i bn,C.i bd]∧Sm [C.i pn,C.i pd]∧Sm dr∧Sm ji∧Sm xs∧Sm xs∧Sm (iLen xs)∧Sm [C.i bn,C.i bd]∧Sm [C.i pn,C.i pd]∧∃(y:Int),Sp.zr1 xs y∧iAdd x 1=y∧nLt (xs.length-y.toNat) (xs.length-x.toNat))))))) (pLe (iLen xs) 9223372036854775807→(∃(x:Int),Sp.zr2 bn bd pn pd dr ji xs x∧0=x)∧∀(x_1:Int),Sp.zr2 bn bd pn pd dr ji xs x_1→InR .i64 x_1→Cn (bLt x_1 (iLen xs)) (geB (some x_1) none (iLen xs)∧(pLe (iLen (cutRows xs (some x_1) none)) 9223372036854775807→(∃(x:Int×Int×Int),Sp.zr3 bn bd pn pd dr ji xs x_1 x.1 x.2.1 x.2.2∧0=x.1∧0=x.2.1∧0=x.2.2)∧∀(x_2:Int×Int×Int),Sp.zr3 bn bd pn pd dr ji xs x_1 x_2.1 x_2.2.1 x_2.2.2→InR .i64 x_2.1∧InR .u64 x_2.2.1∧InR .u64 x_2.2.2→Cn (bLt x_2.1 (iLen (cutRows xs (some x_1) none))) (pIn 0 (iLen (cutRows xs (some x_1) none)) x_2.1∧(InR .i64 (qi 0 (m111_1 xs x_1 x_2))∧InR .i64 (qi 1 (m111_1 xs x_1 x_2))→InR .i64 (iAdd x_2.1 1)∧InR .u64 (iAdd x_2.2.1 (iWrap .u64 (qi 0 (m111_1 xs x_1 x_2))))∧InR .u64 (iAdd x_2.2.2 (iWrap .u64 (qi 1 (m111_1 xs x_1 x_2))))∧InR .u64 (iMul (iAdd x_2.2.1 (iWrap .u64 (qi 0 (m111_1 xs x_1 x_2)))) (iWrap .u64 bn))∧(pLe (iMul (iAdd x_2.2.1 (iWrap .u64 (qi 0 (m111_1 xs x_1 x_2)))) (iWrap .u64 bn)*iWrap .u64 pd*65536) 340282366920938463463374607431768211455∧True)∧(InR .u64 (Sp.zw1 (iMul (iAdd x_2.2.1 (iWrap .u64 (qi 0 (m111_1 xs x_1 x_2)))) (iWrap .u64 bn)*iWrap .u64 pd*65536))∧InR .u64 (Sp.zw0 (iMul (iAdd x_2.2.1 (iWrap .u64 (qi 0 (m111_1 xs x_1 x_2)))) (iWrap .u64 bn)*iWrap .u64 pd*65536))→InR .u64 (iMul (iAdd x_2.2.2 (iWrap .u64 (qi 1 (m111_1 xs x_1 x_2)))) (iWrap .u64 bd))∧(pLe (iMul (iAdd x_2.2.2 (iWrap .u64 (qi 1 (m111_1 xs x_1 x_2)))) (iWrap .u64 bd)*iWrap .u64 pd*65536) 340282366920938463463374607431768211455∧True)∧(InR .u64 (Sp.zw1 (iMul (iAdd x_2.2.2 (iWrap .u64 (qi 1 (m111_1 xs x_1 x_2)))) (iWrap .u64 bd)*iWrap .u64 pd*65536))∧InR .u64 (Sp.zw0 (iMul (iAdd x_2.2.2 (iWrap .u64 (qi 1 (m111_1 xs x_1 x_2)))) (iWrap .u64 bd)*iWrap .u64 pd*65536))→InR .u64 (iMul (iWrap .u64 (iAdd x_2.1 1)) (iWrap .u64 pn))∧(pLe (iMul (iWrap .u64 (iAdd x_2.1 1)) (iWrap .u64 pn)*iWrap .u64 bd*65536) 340282366920938463463374607431768211455∧True)∧(InR .u64 (Sp.zw1 (iMul (iWrap .u64 (iAdd x_2.1 1)) (iWrap .u64 pn)*iWrap .u64 bd*65536))∧InR .u64 (Sp.zw0 (iMul (iWrap .u64 (iAdd x_2.1 1)) (iWrap .u64 pn)*iWrap .u64 bd*65536))→InR .u64 (iMul (iWrap .u64 (iAdd x_2.1 1)) (iWrap .u64 pn))∧(pLe (iMul (iWrap .u64 (iAdd x_2.1 1)) (iWrap .u64 pn)*iWrap .u64 bd*iWrap .u64 dr) 340282366920938463463374607431768211455∧True)∧(InR .u64 (Sp.zw1 (iMul (iWrap .u64 (iAdd x_2.1 1)) (iWrap .u64 pn)*iWrap .u64 bd*iWrap .u64 dr))∧InR .u64 (Sp.zw0 (iMul (iWrap .u64 (iAdd x_2.1 1)) (iWrap .u64 pn)*iWrap .u64 bd*iWrap .u64 dr))→InR .u64 (iMul (iWrap .u64 ji) (iWrap .u64 bd))∧(pLe (iMul (iWrap .u64 ji) (iWrap .u64 bd)*iWrap .u64 pd*65536) 340282366920938463463374607431768211455∧True)∧(InR .u64 (Sp.zw1 (iMul (iWrap .u64 ji) (iWrap .u64 bd)*iWrap .u64 pd*65536))∧InR .u64 (Sp.zw0 (iMul (iWrap .u64 ji) (iWrap .u64 bd)*iWrap .u64 pd*65536))→True∧(InR .u64 (m111_2 bd pn pd dr ji x_2)∧InR .u64 (m111_3 bd pn pd dr ji x_2)→True∧True∧Cn (bNot (Sp.znearB (m111_4 bn pd xs x_1 x_2) (m111_6 bd pn x_2) (m111_0 bd pn pd dr ji x_2))) (false=Sp.zrdecl bn bd pn pd dr ji xs) (True∧True∧Cn (bNot (Sp.znearB (m111_5 bd pd xs x_1 x_2) (m111_6 bd pn x_2) (m111_0 bd pn pd dr ji x_2))) (false=Sp.zrdecl bn bd pn pd dr ji xs) (True∧True∧Cn (bNot (Sp.znearB (m111_4 bn pd xs x_1 x_2) (m111_5 bd pd xs x_1 x_2) (m111_0 bd pn pd dr ji x_2))) (false=Sp.zrdecl bn bd pn pd dr ji xs) (InR .i64 (iAdd x_2.1 1)∧Sm [C.i bn,C.i bd]∧Sm [C.i pn,C.i pd]∧Sm dr∧Sm ji∧Sm xs∧Sm (iWrap .u64 bd)∧Sm (iWrap .u64 pn)∧Sm (iWrap .u64 pd)∧Sm x_1∧Sm xs∧Sm (iLen xs)∧Sm x∧Sm (iLen xs)∧Sm x_1∧Sm (cutRows xs (some x_1) none)∧Sm (iLen (cutRows xs (some x_1) none))∧Sm [C.i bn,C.i bd]∧Sm [C.i pn,C.i pd]∧∃(y:Int×Int×Int),Sp.zr3 bn bd pn pd dr ji xs x_1 y.1 y.2.1 y.2.2∧iAdd x_2.1 1=y.1∧iAdd x_2.2.1 (iWrap .u64 (qi 0 (m111_1 xs x_1 x_2)))=y.2.1∧iAdd x_2.2.2 (iWrap .u64 (qi 1 (m111_1 xs x_1 x_2)))=y.2.2∧nLt (xs.length-y.1.toNat) (xs.length-x_2.1.toNat)))))))))))) (InR .i64 (iAdd x_1 1)∧Sm [C.i bn,C.i bd]∧Sm [C.i pn,C.i pd]∧Sm dr∧Sm ji∧Sm xs∧Sm (iWrap .u64 bd)∧Sm (iWrap .u64 pn)∧Sm (iWrap .u64 pd)∧Sm xs∧Sm (iLen xs)∧Sm x∧Sm (iLen xs)∧Sm [C.i bn,C.i bd]∧Sm [C.i pn,C.i pd]∧∃(y:Int),Sp.zr2 bn bd pn pd dr ji xs y∧iAdd x_1 1=y∧nLt (xs.length-y.toNat) (xs.length-x_1.toNat)))) (true=Sp.zrdecl bn bd pn pd dr ji xs))))))))))):=by
 intro hw
 delta m111_1 m111_2 m111_3 m111_0 m111_4 m111_5 m111_6
 simp only[Cn_iff,Sm_iff,true_and]
 simp only[iMul,iAdd,iSub,eq_self,true_and,and_true,implies_true,true_implies]
 refine⟨fun h1=> ?_,fun h1=>⟨fun h2=> ?_,fun h2=>⟨fun h3=> ?_,fun h3=>⟨fun h4=> ?_,fun h4=>⟨fun g1=> ?_,fun g1=>⟨fun g2=> ?_,fun g2=>⟨fun g3=> ?_,fun g3=>⟨fun g4=> ?_,fun g4 _=>⟨fun h5=> ?_,fun h5=> ?_⟩⟩⟩⟩⟩⟩⟩⟩⟩
 · exact Sp.zrdecl_no (.inl (by simpa using h1))
 · exact Sp.zrdecl_no (.inr (.inl (by simpa[bLt]using h2)))
 · exact Sp.zrdecl_no (.inr (.inr (.inl (by simpa[bLt]using h3))))
 · exact Sp.zrdecl_no (.inr (.inr (.inr (.inl (Sp.zdecl_no (.inl (by simpa using h4)))))))
 · exact Sp.zrdecl_no (.inr (.inr (.inr (.inl (Sp.zdecl_no (.inr (.inl (by simpa[bLt]using g1))))))))
 · exact Sp.zrdecl_no (.inr (.inr (.inr (.inl (Sp.zdecl_no (.inr (.inr (.inl (by simpa[bLt]using g2)))))))))
 · exact Sp.zrdecl_no (.inr (.inr (.inr (.inl (Sp.zdecl_no (.inr (.inr (.inr (.inl (by simpa[bLt]using g3))))))))))
 · exact Sp.zrdecl_no (.inr (.inr (.inr (.inl (Sp.zdecl_no (.inr (.inr (.inr (.inr (by simpa[bLt]using g4))))))))))
 · exact Sp.zrdecl_no (.inr (.inr (.inr (.inr (.inl (by simpa[bLt,iLen]using h5))))))
 have v1:Sp.rvalid bn bd=true:=by simpa using h1
 simp only[bLt,iLen,decide_eq_false_iff_not]at h2 h3 h5 g1 g2 g3 g4
 have v4:Sp.decl pn pd dr ji=true:=by
  unfold Sp.decl
  have e:Sp.poss pn pd=true:=by simpa using h4
  rw[e]; simp; omega
 have hd:=Sp.decl_of v4
 have hb:1≤bn∧1≤bd:=by
  have h:=v1
  simp only[Sp.rvalid,decide_eq_true_eq]at h; omega
 clear h1 h4
 simp only[pLe,iLen]
 refine fun _=>⟨⟨0,⟨by omega,by omega,rfl⟩,rfl⟩,?_⟩
 rintro k ⟨k0,k1,hk⟩ _
 refine⟨fun hlt=> ?_,fun hge=> ?_⟩
 · simp only[bLt,decide_eq_true_eq]at hlt
   rw[Sp.zdrop_cons k0 hlt]at hk
   generalize rGet xs k=x at*
   have e1:(qi 0 x)=Sp.ztPull x:=rfl
   have e2:(qi 1 x)=Sp.ztPush x:=rfl
   simp only[e1,e2]
   have no:Sp.ztval x=false→false=Sp.zrdecl bn bd pn pd dr ji xs:=fun h=>Sp.zrdecl_no (.inr (.inr (.inr (.inr (.inr (by rw[←hk,List.all_cons,h]; rfl))))))
   refine⟨⟨k0,hlt⟩,fun _=>⟨fun q1=> ?_,fun q1=>⟨fun q2=> ?_,fun q2=>⟨fun q3=> ?_,fun q3=>⟨fun q4=> ?_,fun q4=> ?_⟩⟩⟩⟩⟩
   · simp only[bLt,decide_eq_true_eq]at q1
     exact no (by simp only[Sp.ztval,decide_eq_false_iff_not]; omega)
   · simp only[bLt,decide_eq_true_eq]at q2
     exact no (by simp only[Sp.ztval,decide_eq_false_iff_not]; omega)
   · simp only[bLt,decide_eq_true_eq]at q3
     exact no (by simp only[Sp.ztval,decide_eq_false_iff_not]; omega)
   · simp only[bLt,decide_eq_true_eq]at q4
     exact no (by simp only[Sp.ztval,decide_eq_false_iff_not]; omega)
   · simp only[bLt,decide_eq_false_iff_not]at q1 q2 q3 q4
     have t:Sp.ztval x=true:=by simp only[Sp.ztval,decide_eq_true_eq]; omega
     refine⟨by simp only[InR]; omega,k+1,⟨by omega,by omega,?_⟩,rfl,by omega⟩
     rw[←hk,List.all_cons,t]; rfl
 simp only[bLt,decide_eq_false_iff_not]at hge
 have hall:xs.all Sp.ztval=true:=by
  rw[←hk,List.drop_eq_nil_of_le (by omega)]; rfl
 rw[Sp.zrdecl_df v1 (by omega) (by omega) v4 (by omega) hall]
 refine fun _=>⟨⟨0,⟨by omega,by omega,rfl⟩,rfl⟩,?_⟩
 rintro i ⟨i0,i1,hi⟩ _
 refine⟨fun hlt=> ?_,fun hge=> ?_⟩
 rotate_left
 · simp only[bLt,decide_eq_false_iff_not]at hge
   rw[←hi,List.drop_eq_nil_of_le (by omega)]; rfl
 simp only[bLt,decide_eq_true_eq]at hlt
 rw[Sp.zdrop_cons i0 hlt,Sp.zrout,←Sp.zdrop_cons i0 hlt]at hi
 have hc:cutRows xs (some i) none=xs.drop i.toNat:=rfl
 have hlen:((xs.drop i.toNat).length:Int)=(xs.length:Int)-i:=by rw[List.length_drop]; omega
 simp only[hc,hlen,Sp.zr3]
 refine⟨⟨i0,by omega⟩,fun _=>⟨⟨(0,0,0),⟨by simp only; omega,by simp only; omega,by simp only; omega,by simp only; omega,by simp only; omega,by simp only; omega,rfl⟩,rfl,rfl,rfl⟩,?_⟩⟩
 have hin:∀y∈xs.drop i.toNat,Sp.ztval y=true:=fun y hy=>List.all_eq_true.1 hall y (List.mem_of_mem_drop hy)
 generalize xs.drop i.toNat=ys at*
 rintro⟨k,u,v⟩ ⟨k0,k1,u0,u1,w0,w1,hr⟩ _
 simp only at k0 k1 u0 u1 w0 w1 hr ⊢
 refine⟨fun hlt=> ?_,fun hge=> ?_⟩
 rotate_left
 · simp only[bLt,decide_eq_false_iff_not]at hge
   refine⟨by simp only[InR]; omega,i+1,⟨by omega,by omega,?_⟩,rfl,by omega⟩
   have e:ys.drop k.toNat=[]:=List.drop_eq_nil_of_le (by omega)
   rw[←hi,←hr,e]; rfl
 simp only[bLt,decide_eq_true_eq]at hlt
 rw[Sp.zdrop_cons k0 (by omega)]at hr
 have hx:Sp.ztval (rGet ys k)=true:=hin _ (by
  simp only[rGet,List.getD_eq_getElem?_getD]
  rw[List.getElem?_eq_getElem (show k.toNat<ys.length by omega)]
  exact List.getElem_mem _)
 generalize rGet ys k=x at*
 have e1:(qi 0 x)=Sp.ztPull x:=rfl
 have e2:(qi 1 x)=Sp.ztPush x:=rfl
 simp only[e1,e2]
 simp only[Sp.ztval,decide_eq_true_eq]at hx
 simp only[Sp.zrin]at hr
 rw[Sp.wrap64 (x:=Sp.ztPull x) (by omega) (by omega),Sp.wrap64 (x:=Sp.ztPush x) (by omega) (by omega),Sp.wrap64 (x:=bn) (by omega) (by omega),Sp.wrap64 (x:=bd) (by omega) (by omega),Sp.wrap64 (x:=pd) (by omega) (by omega),Sp.wrap64 (x:=pn) (by omega) (by omega),Sp.wrap64 (x:=dr) (by omega) (by omega),Sp.wrap64 (x:=ji) (by omega) (by omega),Sp.wrap64 (x:=k+1) (by omega) (by omega)]
 obtain⟨a1,a2,a3,a4,a5,a6,a7,a8,a9,a10,a11,a12,a13,a14,a15,a16,a17,a18⟩:=Sp.zr_nums (bn:=bn) (bd:=bd) (pn:=pn) (pd:=pd) (dr:=dr) (ji:=ji) (m:=k+1) (u:=u+Sp.ztPull x) (v:=v+Sp.ztPush x)
  hb.1 (by omega) hb.2 (by omega) (by omega) (by omega) (by omega) (by omega) (by omega) (by omega) (by omega) (by omega) (by omega) (by omega) (by omega) (by omega) (by omega) (by omega)
 have hok:Sp.zrok bn bd pn pd dr ji (k+1) (u+Sp.ztPull x) (v+Sp.ztPush x)=(Sp.znearM ((u+Sp.ztPull x)*bn*pd*65536) ((k+1)*pn*bd*65536) ((k+1)*pn*bd*dr+ji*bd*pd*65536)&&(Sp.znearM ((v+Sp.ztPush x)*bd*pd*65536) ((k+1)*pn*bd*65536) ((k+1)*pn*bd*dr+ji*bd*pd*65536)&&
  Sp.znearM ((u+Sp.ztPull x)*bn*pd*65536) ((v+Sp.ztPush x)*bd*pd*65536) ((k+1)*pn*bd*dr+ji*bd*pd*65536))):=rfl
 rw[hok]at hr
 clear hok
 generalize (u+Sp.ztPull x)*bn*pd*65536=U at*
 generalize (v+Sp.ztPush x)*bd*pd*65536=V at*
 generalize (k+1)*pn*bd*65536=N at*
 generalize (k+1)*pn*bd*dr=A at*
 generalize ji*bd*pd*65536=B at*
 generalize (u+Sp.ztPull x)*bn=U1 at*
 generalize (v+Sp.ztPush x)*bd=V1 at*
 generalize (k+1)*pn=N1 at*
 generalize ji*bd=B1 at*
 rw[Sp.zun_s (n:=A) (by omega) (by omega),Sp.zun_s (n:=B) (by omega) (by omega),Sp.zun_s (n:=A+B) (by omega) (by omega),Sp.zun_s (n:=U) (by omega) (by omega),Sp.zun_s (n:=V) (by omega) (by omega),Sp.zun_s (n:=N) (by omega) (by omega)]
 rw[Sp.znearB_M (x:=U) (y:=N) (z:=A+B) (by omega) (by omega) (by omega) (by omega) (by omega) (by omega),Sp.znearB_M (x:=V) (y:=N) (z:=A+B) (by omega) (by omega) (by omega) (by omega) (by omega) (by omega),Sp.znearB_M (x:=U) (y:=V) (z:=A+B) (by omega) (by omega) (by omega) (by omega) (by omega) (by omega)]
 generalize Sp.znearM U N (A+B)=p1 at*
 generalize Sp.znearM V N (A+B)=p2 at*
 generalize Sp.znearM U V (A+B)=p3 at*
 simp only[InR]
 refine⟨⟨k0,by omega⟩,fun _=>⟨by omega,by omega,by omega,by omega,by omega,fun _=>⟨by omega,by omega,fun _=>⟨by omega,by omega,fun _=>⟨by omega,by omega,fun _=>⟨by omega,by omega,fun _ _=> ?_⟩⟩⟩⟩⟩⟩
 have bad:(p1&&(p2&&p3))=false→false=Sp.zrout bn bd pn pd dr ji xs:=fun h=>by rw[←hi,←hr,h]; rfl
 have good:(p1&&(p2&&p3))=true→Sp.zrin bn bd pn pd dr ji (k+1) (u+Sp.ztPull x) (v+Sp.ztPush x) (ys.drop (k+1).toNat)=Sp.zrin bn bd pn pd dr ji 0 0 0 ys:=fun h=>by rw[←hr,h]; rfl
 refine⟨fun f1=>bad (by cases p1<;>simp_all),fun f1=>⟨fun f2=>bad (by cases p2<;>simp_all),fun f2=>⟨fun f3=>bad (by cases p3<;>simp_all),fun f3=>⟨by omega,(k+1,u+Sp.ztPull x,v+Sp.ztPush x),⟨by simp only; omega,by simp only; omega,by simp only; omega,by simp only; omega,by simp only; omega,by simp only; omega,good (by cases p1<;>cases p2<;>cases p3<;>simp_all)⟩,rfl,rfl,rfl,by simp only; omega⟩⟩⟩⟩
def r111:Cr PR:=K0 [r76,r178,r179,r180,r181] 111 6 {ps:=[(true,hII),(true,hII),(false,hI),(false,hI),(false,[.sl hII])],rs:=[(false,[.bool])],pre:=fun _=>True,out:=fun a=>[[.b (Sp.zrdecl (I a 0 0) (I a 0 1) (I a 1 0) (I a 1 1) (I a 2 0) (I a 3 0) (L a 4 0))]]} (fun a=>A111 (I a 0 0) (I a 0 1) (I a 1 0) (I a 1 1) (I a 2 0) (I a 3 0) (L a 4 0)) fun a=>Y (v111 (I a 0 0) (I a 0 1) (I a 1 0) (I a 1 1) (I a 2 0) (I a 3 0) (L a 4 0))
end Go.Sx
namespace Go
def Sp.zpre (L:Int):Int→List Int→Bool
 |_,[]=>true
 |s,a::bs=>decide (s+a≤L)&&Sp.zpre L (s+a) bs
def Sp.zwin (L:Int):List Int→Bool
 |[]=>true
 |a::bs=>Sp.zpre L 0 (a::bs)&&Sp.zwin L bs
def Sp.zkad (L:Int):Int→Int→List Int→Bool
 |_,_,[]=>true
 |n,l,a::bs=>decide (n+a-min l (n+a)≤L)&&Sp.zkad L (n+a) (min l (n+a)) bs
theorem Sp.zpre_anti {L:Int}:∀ {bs:List Int} {s t:Int},s≤t→Sp.zpre L t bs=true→Sp.zpre L s bs=true
 |[],_,_,_,_=>rfl
 |a::bs,s,t,h,p=>by
  simp only[Sp.zpre,Bool.and_eq_true,decide_eq_true_eq]at p ⊢
  exact⟨by omega,Sp.zpre_anti (by omega) p.2⟩
theorem Sp.zwin_pre {L:Int}:∀ {bs:List Int},Sp.zwin L bs=true→Sp.zpre L 0 bs=true
 |[],_=>rfl
 |a::bs,h=>by simp only[Sp.zwin,Bool.and_eq_true]at h; exact h.1
theorem Sp.zkad_iff {L:Int} (hL:0≤L):∀ {bs:List Int} {n l:Int},l≤n→(Sp.zkad L n l bs=true↔Sp.zpre L (n-l) bs=true∧Sp.zwin L bs=true)
 |[],_,_,_=>by simp[Sp.zkad,Sp.zpre,Sp.zwin]
 |a::bs,n,l,h=>by
  have ih:=Sp.zkad_iff hL (bs:=bs) (n:=n+a) (l:=min l (n+a)) (by omega)
  simp only[Sp.zkad,Sp.zpre,Sp.zwin,Bool.and_eq_true,decide_eq_true_eq,ih]
  constructor
  · rintro⟨h1,h2,h3⟩
    have b:Sp.zpre L (n-l+a) bs=true:=Sp.zpre_anti (by omega) h2
    exact⟨⟨by omega,b⟩,⟨by omega,Sp.zpre_anti (by omega) b⟩,h3⟩
  · rintro⟨⟨h1,h2⟩,⟨h3,h4⟩,h5⟩
    refine⟨by omega,?_,h5⟩
    rcases Int.le_total l (n+a)with h6|h6
    · rw[Int.min_eq_left h6]; exact Sp.zpre_anti (by omega) h2
    · rw[Int.min_eq_right h6]; exact Sp.zpre_anti (by omega) (Sp.zwin_pre h5)
theorem Sp.zkad_win {L:Int} (hL:0≤L) (bs:List Int):Sp.zkad L 0 0 bs=Sp.zwin L bs:=by
 rw[Bool.eq_iff_iff,Sp.zkad_iff hL (Int.le_refl 0)]
 exact⟨fun h=>h.2,fun h=>⟨Sp.zwin_pre h,h⟩⟩
end Go
namespace Go
open Go.Sx
def Sp.zS (bn bd pn pd dr:Int) (g:Nat) (m u v:Int):Int:=
 match g with
 |0=>u*(bn*(pd*65536))-m*(pn*bd)*65536-m*(pn*bd*dr)
 |1=>m*(pn*bd)*65536-m*(pn*bd*dr)-u*(bn*(pd*65536))
 |2=>v*(bd*(pd*65536))-m*(pn*bd)*65536-m*(pn*bd*dr)
 |3=>m*(pn*bd)*65536-m*(pn*bd*dr)-v*(bd*(pd*65536))
 |4=>u*(bn*(pd*65536))-v*(bd*(pd*65536))-m*(pn*bd*dr)
 |_=>v*(bd*(pd*65536))-u*(bn*(pd*65536))-m*(pn*bd*dr)
theorem Sp.zS_step (bn bd pn pd dr m u v:Int) (x:List C) (g:Nat):Sp.zS bn bd pn pd dr g (m+1) (u+Sp.ztPull x) (v+Sp.ztPush x)=Sp.zS bn bd pn pd dr g m u v+Sp.zmv bn bd pn pd dr g x:=by
 have e1:Sp.ztPull x*bn*(pd*65536)=Sp.ztPull x*(bn*(pd*65536)):=Int.mul_assoc _ _ _
 have e2:Sp.ztPush x*bd*(pd*65536)=Sp.ztPush x*(bd*(pd*65536)):=Int.mul_assoc _ _ _
 have e3:pn*bd*(65536+dr)=pn*bd*65536+pn*bd*dr:=Int.mul_add _ _ _
 have e4:pn*bd*(65536-dr)=pn*bd*65536-pn*bd*dr:=Int.mul_sub _ _ _
 unfold Sp.zS Sp.zmv
 rw[e1,e2,e3,e4]
 clear e1 e2 e3 e4
 generalize bn*(pd*65536)=c1
 generalize bd*(pd*65536)=c2
 generalize pn*bd*dr=e
 generalize pn*bd=W
 generalize Sp.ztPull x=p
 generalize Sp.ztPush x=q
 rw[Int.add_mul u p c1,Int.add_mul v q c2,Int.add_mul m 1 W,Int.add_mul m 1 e,Int.one_mul,Int.one_mul]
 rcases g with _|_|_|_|_|g<;>simp only<;>omega
theorem Sp.zrok_S (bn bd pn pd dr ji m u v:Int):Sp.zrok bn bd pn pd dr ji m u v=
 (decide (Sp.zS bn bd pn pd dr 0 m u v≤bd*(pd*65536)*ji)&&(decide (Sp.zS bn bd pn pd dr 1 m u v≤bd*(pd*65536)*ji)&&(decide (Sp.zS bn bd pn pd dr 2 m u v≤bd*(pd*65536)*ji)&&
 (decide (Sp.zS bn bd pn pd dr 3 m u v≤bd*(pd*65536)*ji)&&(decide (Sp.zS bn bd pn pd dr 4 m u v≤bd*(pd*65536)*ji)&&decide (Sp.zS bn bd pn pd dr 5 m u v≤bd*(pd*65536)*ji)))))):=by
 have e1:u*bn*pd*65536=u*(bn*(pd*65536)):=by simp only[Int.mul_assoc]
 have e2:v*bd*pd*65536=v*(bd*(pd*65536)):=by simp only[Int.mul_assoc]
 have e3:m*pn*bd*65536=m*(pn*bd)*65536:=by simp only[Int.mul_assoc]
 have e4:m*pn*bd*dr=m*(pn*bd*dr):=by simp only[Int.mul_assoc]
 have e5:ji*bd*pd*65536=bd*(pd*65536)*ji:=by rw[Int.mul_comm (bd*(pd*65536)) ji]; simp only[Int.mul_assoc]
 unfold Sp.zrok Sp.znearM
 rw[e1,e2,e3,e4,e5]
 simp only[Sp.zS]
 generalize bd*(pd*65536)*ji=J
 generalize u*(bn*(pd*65536))=U
 generalize v*(bd*(pd*65536))=V
 generalize m*(pn*bd*dr)=D
 generalize m*(pn*bd)*65536=N
 rw[Bool.eq_iff_iff]
 simp only[Bool.and_eq_true,decide_eq_true_eq]
 omega
theorem Sp.zrin_pre (bn bd pn pd dr ji:Int):∀(xs:List (List C)) (m u v:Int),Sp.zrin bn bd pn pd dr ji m u v xs=
 (Sp.zpre (bd*(pd*65536)*ji) (Sp.zS bn bd pn pd dr 0 m u v) (xs.map (Sp.zmv bn bd pn pd dr 0))&&(Sp.zpre (bd*(pd*65536)*ji) (Sp.zS bn bd pn pd dr 1 m u v) (xs.map (Sp.zmv bn bd pn pd dr 1))&&
 (Sp.zpre (bd*(pd*65536)*ji) (Sp.zS bn bd pn pd dr 2 m u v) (xs.map (Sp.zmv bn bd pn pd dr 2))&&(Sp.zpre (bd*(pd*65536)*ji) (Sp.zS bn bd pn pd dr 3 m u v) (xs.map (Sp.zmv bn bd pn pd dr 3))&&
 (Sp.zpre (bd*(pd*65536)*ji) (Sp.zS bn bd pn pd dr 4 m u v) (xs.map (Sp.zmv bn bd pn pd dr 4))&&Sp.zpre (bd*(pd*65536)*ji) (Sp.zS bn bd pn pd dr 5 m u v) (xs.map (Sp.zmv bn bd pn pd dr 5)))))))
 |[],m,u,v=>rfl
 |x::r,m,u,v=>by
  rw[Sp.zrin,Sp.zrin_pre bn bd pn pd dr ji r,Sp.zrok_S]
  simp only[List.map_cons,Sp.zpre,Sp.zS_step]
  ac_rfl
theorem Sp.zrout_win (bn bd pn pd dr ji:Int):∀(xs:List (List C)),Sp.zrout bn bd pn pd dr ji xs=
 (Sp.zwin (bd*(pd*65536)*ji) (xs.map (Sp.zmv bn bd pn pd dr 0))&&(Sp.zwin (bd*(pd*65536)*ji) (xs.map (Sp.zmv bn bd pn pd dr 1))&&(Sp.zwin (bd*(pd*65536)*ji) (xs.map (Sp.zmv bn bd pn pd dr 2))&&
 (Sp.zwin (bd*(pd*65536)*ji) (xs.map (Sp.zmv bn bd pn pd dr 3))&&(Sp.zwin (bd*(pd*65536)*ji) (xs.map (Sp.zmv bn bd pn pd dr 4))&&Sp.zwin (bd*(pd*65536)*ji) (xs.map (Sp.zmv bn bd pn pd dr 5)))))))
 |[]=>rfl
 |x::r=>by
  have z:∀g,Sp.zS bn bd pn pd dr g 0 0 0=0:=fun g=>by unfold Sp.zS; split<;>simp
  rw[Sp.zrout,Sp.zrout_win bn bd pn pd dr ji r,Sp.zrin_pre]
  simp only[z,List.map_cons,Sp.zwin]
  ac_rfl
theorem Sp.zdf_kad (J:Int) (m:Nat→List C→Int):∀(xs:List (List C)) (s0 s1 s2 s3 s4 s5:Int×Int),Sp.zdf J m [s0,s1,s2,s3,s4,s5] xs=
 (xs.all Sp.ztval&&(Sp.zkad J s0.1 s0.2 (xs.map (m 0))&&(Sp.zkad J s1.1 s1.2 (xs.map (m 1))&&(Sp.zkad J s2.1 s2.2 (xs.map (m 2))&&(Sp.zkad J s3.1 s3.2 (xs.map (m 3))&&(Sp.zkad J s4.1 s4.2 (xs.map (m 4))&&Sp.zkad J s5.1 s5.2 (xs.map (m 5))))))))
 |[],_,_,_,_,_,_=>rfl
 |x::r,s0,s1,s2,s3,s4,s5=>by
  simp only[Sp.zdf,List.getD_cons_zero,List.getD_cons_succ]
  rw[Sp.zdf_kad J m r]
  simp only[List.map_cons,List.all_cons,Sp.zkad,Sp.zstOk,Sp.zstp]
  ac_rfl
theorem Sp.zdecld_eq (bn bd pn pd dr ji:Int) (xs:List (List C)):Sp.zdecld bn bd pn pd dr ji xs=Sp.zrdecl bn bd pn pd dr ji xs:=by
 unfold Sp.zdecld Sp.zrdecl
 cases h1:Sp.rvalid bn bd
 · rfl
 cases h2:decide (bn≤768000∧bd≤768000)
 · rfl
 cases h3:Sp.decl pn pd dr ji
 · rfl
 simp only[decide_eq_true_eq]at h2
 obtain⟨n1,n2,n3,n4,n5,n6,n7,n8,n9,n10,n11,n12,n13,n14,n15,n16,n17,n18,n19,n20⟩:=Sp.zdecl_nums h1 h2.1 h2.2 h3
 congr 3
 congr 1
 unfold Sp.zz6
 rw[Sp.zdf_kad,Sp.zrout_win]
 simp only[Sp.zkad_win n19]
end Go

