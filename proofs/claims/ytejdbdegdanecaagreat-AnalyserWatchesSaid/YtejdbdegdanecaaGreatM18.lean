import Derived.Test.YtejdbdegdanecaaGreatSxUse
import Derived.Test.YtejdbdegdanecaaGreatM13
import Derived.Test.YtejdbdegdanecaaGreatSxBits
set_option linter.unusedVariables false
set_option linter.unusedSimpArgs false
set_option maxRecDepth 100000
set_option maxHeartbeats 4000000
namespace Go
open Go.Sx
def A7 (t d g m:Int):Bool:=decide (0<=t/\t<=65536/\0<=d/\d<=65536/\1<=g/\g<=4096/\0<=m/\m<=4096)
def Iq (t d g m n:Int):Int:=if A7 t d g m=false∨n<0∨2147483647<n then 0 else if n<t then-(min m (max 0 (t-n-d)*g))else min m (max 0 (n-t-d)*g)
end Go
namespace Go.Sx
theorem v198 (t:Int) (d:Int) (g:Int) (m:Int):InR .i64 t/\InR .i64 d/\InR .i64 g/\InR .i64 m->Cn (bLe 0 t) (Cn (bLe t 65536) (Cn (bLe 0 d) (Cn (bLe d 65536) (Cn (bLe 1 g) (Cn (bLe g 4096) (Cn (bLe 0 m) (bLe m 4096=A7 t d g m) (false=A7 t d g m)) (false=A7 t d g m)) (false=A7 t d g m)) (false=A7 t d g m)) (false=A7 t d g m)) (false=A7 t d g m)) (false=A7 t d g m):=by
 intro hw;simp only[Cn_iff,Aas,true_and];simp only[bLe,decide_eq_true_eq,decide_eq_false_iff_not,A7,and_true]
 repeat' (first|apply And.intro|intro _)
 all_goals (first|(simp only[decide_eq_decide]; omega)|(symm; simp only[decide_eq_false_iff_not]; omega))
def r198:Cr PR:=K0 [] 198 6 {ps:=[(true,hA)],rs:=[(false,[.bool])],pre:=λ_=>True,out:=λa=>[[.b (A7 (I a 0 0) (I a 0 1) (I a 0 2) (I a 0 3))]]} U λa=>Y (v198 (I a 0 0) (I a 0 1) (I a 0 2) (I a 0 3))
end Go.Sx
namespace Go.Sx
theorem v98 (t:Int) (d:Int) (g:Int) (m:Int):InR .i64 t/\InR .i64 d/\InR .i64 g/\InR .i64 m->Cn (bLe 0 t) (Cn (bLe t 65536) (Cn (bLe 0 d) (Cn (bLe d 65536) (Cn (bLe 1 g) (Cn (bLe g 4096) (Cn (bLe 0 m) (bLe m 4096=A7 t d g m) (false=A7 t d g m)) (false=A7 t d g m)) (false=A7 t d g m)) (false=A7 t d g m)) (false=A7 t d g m)) (false=A7 t d g m)) (false=A7 t d g m):=by
 intro hw;simp only[Cn_iff,Aas,true_and];simp only[bLe,decide_eq_true_eq,decide_eq_false_iff_not,A7,and_true]
 repeat' (first|apply And.intro|intro _)
 all_goals (first|(simp only[decide_eq_decide]; omega)|(symm; simp only[decide_eq_false_iff_not]; omega))
def r98:Cr PR:=K0 [] 98 6 {ps:=[(true,hA)],rs:=[(false,[.bool])],pre:=λ_=>True,out:=λa=>[[.b (A7 (I a 0 0) (I a 0 1) (I a 0 2) (I a 0 3))]]} U λa=>Y (v98 (I a 0 0) (I a 0 1) (I a 0 2) (I a 0 3))
end Go.Sx
namespace Go
theorem KD (t d g m:Int):A7 t d g m=true↔0<=t/\t<=65536/\0<=d/\d<=65536/\1<=g/\g<=4096/\0<=m/\m<=4096:=by simp[A7]
theorem Xb {t d g m x:Int} (h:A7 t d g m=true) (h1:0<=x) (h2:x<=4294967296):0<=x*g/\x*g<=4294967296*4096:=by
 rw[KD]at h;exact Go.Sx.Aap h1 h2 (by omega) (by omega)
end Go
namespace Go.Sx
theorem v224 (t:Int) (d:Int) (g:Int) (m:Int) (n:Int):InR .i64 t/\InR .i64 d/\InR .i64 g/\InR .i64 m/\InR .i64 n->True/\True/\Cn (bNot (A7 t d g m)) (0=Iq t d g m n) (Cn (bLt n 0) (0=Iq t d g m n) (Cn (bLt 2147483647 n) (0=Iq t d g m n) (InR .i64 (iSub n t)/\Cn (bLt d (iSub n t)) (InR .i64 (iSub (iSub n t) d)/\InR .i64 (iMul (iSub (iSub n t) d) g)/\iMin m (iMul (iSub (iSub n t) d) g)=Iq t d g m n) (InR .i64 (iSub 0 d)/\Cn (bLt (iSub n t) (iSub 0 d)) (InR .i64 (iSub 0 (iSub n t))/\InR .i64 (iSub (iSub 0 (iSub n t)) d)/\InR .i64 (iMul (iSub (iSub 0 (iSub n t)) d) g)/\InR .i64 (iSub 0 (iMin m (iMul (iSub (iSub 0 (iSub n t)) d) g)))/\iSub 0 (iMin m (iMul (iSub (iSub 0 (iSub n t)) d) g))=Iq t d g m n) (0=Iq t d g m n))))):=by
 intro hw;simp only[Cn_iff,Aas,true_and];simp only[iAdd,iSub,iMul,iQuo,iRem,iMin,iMax,bEq,bNe,bLt,bLe,bNot,InR,pIn,pNe,pLe,decide_eq_true_eq,decide_eq_false_iff_not,Bool.not_eq_true',Bool.not_eq_false',true_and,and_true]at*;skip;simp only[true_implies,Iq];refine⟨λhv=> ?_,λhv=>⟨λh1=> ?_,λh1=>⟨λh2=> ?_,λh2=> ?_⟩⟩⟩
 · rw[if_pos (by simp[hv])]
 · rw[if_pos (by simp[hv]; omega)]
 · rw[if_pos (by simp[hv]; omega)]
 · have hf:¬(A7 t d g m=false∨n<0∨2147483647<n):=by simp only[hv]; simp; omega
   rw[if_neg hf];have hv':=(KD t d g m).1 hv;refine⟨by omega,λh3=> ?_,λh3=>⟨by omega,λh4=> ?_,λh4=> ?_⟩⟩
   · have hb:=Xb (x:=n-t-d) hv (by omega) (by omega);rw[if_neg (by omega),show max 0 (n-t-d)=n-t-d by omega];omega
   · have hb:=Xb (x:=t-n-d) hv (by omega) (by omega);rw[if_pos (by omega),show max 0 (t-n-d)=t-n-d by omega,show 0- (n-t)-d=t-n-d by omega];omega
   · split
     · rw[show max 0 (t-n-d)=0 by omega]; omega
     · rw[show max 0 (n-t-d)=0 by omega]; omega
def r224:Cr PR:=K0 [r98] 224 6 {ps:=[(true,hA),(false,hI)],rs:=[(false,hI)],pre:=λ_=>True,out:=λa=>[[.i (Iq (I a 0 0) (I a 0 1) (I a 0 2) (I a 0 3) (I a 1 0))]]} U λa=>Y (v224 (I a 0 0) (I a 0 1) (I a 0 2) (I a 0 3) (I a 1 0))
end Go.Sx

set_option linter.unusedVariables false
set_option linter.unusedSimpArgs false
set_option maxRecDepth 100000
set_option maxHeartbeats 4000000
namespace Go
open Go.Sx
def ET (n d:Int):Bool:=Ai n d&&decide (d<=768000/\d<=n*64/\n<=d*64*8192)
def Bq (n d k j:Int):Bool:=ET n d&&decide (0<=k/\k<=4096/\0<=j/\j<=65536)
def Eg (a b:Int):Int:=(a+b-1)/b
def Dc (n d k:Int):Int:=Eg (2*k*n) (65536*d)
end Go
namespace Go.Sx
theorem v201 (n:Int) (d:Int):InR .i64 n/\InR .i64 d->True/\Cn (Ai n d) (Cn (bLe d 768000) (InR .i64 (iMul n 64)/\Cn (bLe d (iMul n 64)) (InR .i64 (iMul d 64)/\InR .i64 (iMul (iMul d 64) 8192)/\bLe n (iMul (iMul d 64) 8192)=ET n d) (false=ET n d)) (false=ET n d)) (false=ET n d):=by
 intro hw;simp only[Cn_iff,Aas,true_and];simp only[bLe,bEq,iMul,InR,decide_eq_true_eq,decide_eq_false_iff_not,ET,and_true];have hv:Ai n d=true->1<=n/\1<=d/\n<=68719476736/\d<=68719476736:=λh=>by simp[Ai]at h; omega
 cases hr:Ai n d
 · simp
 · have hv:=hv hr;simp only[Bool.true_and,Bool.true_eq_false,false_implies,true_implies,and_true,true_and]
   repeat' (first|apply And.intro|intro _)
   all_goals (first|omega|(simp only[decide_eq_decide]; omega)|(symm; simp only[decide_eq_false_iff_not]; omega))
def r201:Cr PR:=K0 [r133] 201 6 {ps:=[(true,hII)],rs:=[(false,[.bool])],pre:=λ_=>True,out:=λa=>[[.b (ET (I a 0 0) (I a 0 1))]]} U λa=>Y (v201 (I a 0 0) (I a 0 1))
end Go.Sx
namespace Go.Sx
theorem v144 (n:Int) (d:Int):InR .i64 n/\InR .i64 d->True/\Cn (Ai n d) (Cn (bLe d 768000) (InR .i64 (iMul 64 n)/\Cn (bLe d (iMul 64 n)) (InR .i64 (iMul 524288 d)/\bLe n (iMul 524288 d)=ET n d) (false=ET n d)) (false=ET n d)) (false=ET n d):=by
 intro hw;simp only[Cn_iff,Aas,true_and];simp only[bLe,bEq,iMul,InR,decide_eq_true_eq,decide_eq_false_iff_not,ET,and_true];have hv:Ai n d=true->1<=n/\1<=d/\n<=68719476736/\d<=68719476736:=λh=>by simp[Ai]at h; omega
 cases hr:Ai n d
 · simp
 · have hv:=hv hr;simp only[Bool.true_and,Bool.true_eq_false,false_implies,true_implies,and_true,true_and]
   repeat' (first|apply And.intro|intro _)
   all_goals (first|omega|(simp only[decide_eq_decide]; omega)|(symm; simp only[decide_eq_false_iff_not]; omega))
def r144:Cr PR:=K0 [r143] 144 6 {ps:=[(true,hII)],rs:=[(false,[.bool])],pre:=λ_=>True,out:=λa=>[[.b (ET (I a 0 0) (I a 0 1))]]} U λa=>Y (v144 (I a 0 0) (I a 0 1))
end Go.Sx
namespace Go.Sx
theorem v134 (n:Int) (d:Int) (k:Int) (j:Int):InR .i64 n/\InR .i64 d/\InR .i64 k/\InR .i64 j->True/\Cn (ET n d) (Cn (bLe 0 k) (Cn (bLe k 4096) (Cn (bLe 0 j) (bLe j 65536=Bq n d k j) (false=Bq n d k j)) (false=Bq n d k j)) (false=Bq n d k j)) (false=Bq n d k j):=by
 intro hw;simp only[Cn_iff,Aas,true_and];simp only[bLe,bEq,decide_eq_true_eq,decide_eq_false_iff_not,Bq,and_true]
 cases hr:ET n d
 · simp
 · simp only[Bool.true_and,Bool.true_eq_false,false_implies,true_implies,and_true,true_and]
   repeat' (first|apply And.intro|intro _)
   all_goals (first|omega|(simp only[decide_eq_decide]; omega)|(symm; simp only[decide_eq_false_iff_not]; omega))
def r134:Cr PR:=K0 [r201] 134 6 {ps:=[(true,hII),(false,hI),(false,hI)],rs:=[(false,[.bool])],pre:=λ_=>True,out:=λa=>[[.b (Bq (I a 0 0) (I a 0 1) (I a 1 0) (I a 2 0))]]} U λa=>Y (v134 (I a 0 0) (I a 0 1) (I a 1 0) (I a 2 0))
end Go.Sx
namespace Go.Sx
theorem v91 (n:Int) (d:Int) (k:Int) (j:Int):InR .i64 n/\InR .i64 d/\InR .i64 k/\InR .i64 j->True/\Cn (ET n d) (Cn (bLe 0 k) (Cn (bLe k 4096) (Cn (bLe 0 j) (bLe j 65536=Bq n d k j) (false=Bq n d k j)) (false=Bq n d k j)) (false=Bq n d k j)) (false=Bq n d k j):=by
 intro hw;simp only[Cn_iff,Aas,true_and];simp only[bLe,bEq,decide_eq_true_eq,decide_eq_false_iff_not,Bq,and_true]
 cases hr:ET n d
 · simp
 · simp only[Bool.true_and,Bool.true_eq_false,false_implies,true_implies,and_true,true_and]
   repeat' (first|apply And.intro|intro _)
   all_goals (first|omega|(simp only[decide_eq_decide]; omega)|(symm; simp only[decide_eq_false_iff_not]; omega))
def r91:Cr PR:=K0 [r144] 91 6 {ps:=[(true,hII),(false,hI),(false,hI)],rs:=[(false,[.bool])],pre:=λ_=>True,out:=λa=>[[.b (Bq (I a 0 0) (I a 0 1) (I a 1 0) (I a 2 0))]]} U λa=>Y (v91 (I a 0 0) (I a 0 1) (I a 1 0) (I a 2 0))
end Go.Sx
namespace Go.Sx
theorem v92 (p:Int) (q:Int):InR .i64 p/\InR .i64 q->0<=p/\1<=q/\p+q<=9223372036854775807->InR .i64 (iAdd p q)/\InR .i64 (iSub (iAdd p q) 1)/\(pNe q 0/\InR .i64 (iQuo (iSub (iAdd p q) 1) q))/\iQuo (iSub (iAdd p q) 1) q=Eg p q:=by
 intro hw hp;simp only[iAdd,iSub,iQuo,InR,pNe,Eg,and_true];have e:(p+q-1).tdiv q=(p+q-1)/q:=Int.tdiv_eq_ediv_of_nonneg (by omega);rw[e];have h0:0<=(p+q-1)/q:=Int.ediv_nonneg (by omega) (by omega);have h1:(p+q-1)/q<=p+q-1:=Int.ediv_le_self _ (by omega);omega
def r92:Cr PR:=K [] 92 6 {ps:=[(false,hI),(false,hI)],rs:=[(false,hI)],pre:=λa=>0<=(I a 0 0)/\1<=(I a 1 0)/\(I a 0 0)+(I a 1 0)<=9223372036854775807,out:=λa=>[[.i (Eg (I a 0 0) (I a 1 0))]]} U λa=>Y (v92 (I a 0 0) (I a 1 0))
end Go.Sx
namespace Go.Sx
theorem v160 (n:Int) (d:Int) (k:Int):InR .i64 n/\InR .i64 d/\InR .i64 k->1<=n/\1<=d/\d<=768000/\n<=d*64*8192/\0<=k/\k<=8192->InR .i64 (iMul 2 n)/\InR .i64 (iMul (iMul 2 n) k)/\InR .i64 (iMul d 65536)/\(0<=iMul (iMul 2 n) k/\1<=iMul d 65536/\iMul (iMul 2 n) k+iMul d 65536<=9223372036854775807)/\(InR .i64 (Eg (iMul (iMul 2 n) k) (iMul d 65536))->Eg (iMul (iMul 2 n) k) (iMul d 65536)=Dc n d k):=by
 intro hw hp;simp only[iMul,InR,Dc,and_true];have hb:=Aap (x:=2*k) (X:=16384) (y:=n) (Y:=402653184000) (by omega) (by omega) (by omega) (by omega);rw[Int.mul_right_comm 2 n k,Int.mul_comm d 65536];exact⟨by omega,by omega,by omega,by omega,λ_=>by first|trivial|rfl⟩
def r160:Cr PR:=K [r92] 160 6 {ps:=[(true,hII),(false,hI)],rs:=[(false,hI)],pre:=λa=>1<=(I a 0 0)/\1<=(I a 0 1)/\(I a 0 1)<=768000/\(I a 0 0)<=(I a 0 1)*64*8192/\0<=(I a 1 0)/\(I a 1 0)<=8192,out:=λa=>[[.i (Dc (I a 0 0) (I a 0 1) (I a 1 0))]]} U λa=>Y (v160 (I a 0 0) (I a 0 1) (I a 1 0))
end Go.Sx
namespace Go
open Go.Sx
def Bg (t d g m n e k j s:Int):Int:=if A7 t d g m=false∨Bq n e k j=false∨s<0∨65536<s then 1 else if m*(65536-k)<65536*k then 11 else 0
def Ej (t d g m n e k j s:Int):Int:=if Bg t d g m n e k j s≠0 then 0 else max s (d+Eg m g)+Dc n e (k+m)+2*j+2
def GU (t d g m n e k j:Int):Int:=if Bg t d g m n e k j 0≠0 then 0 else Eg n e+Dc n e (k+m)+2*j+3
end Go
namespace Go
open Go.Sx
theorem Le {n e k j:Int} (h:Bq n e k j=true):1<=n/\1<=e/\n<=68719476736/\e<=768000/\n<=e*64*8192/\0<=k/\k<=4096/\0<=j/\j<=65536:=by
 simp only[Bq,ET,Ai,Bool.and_eq_true,decide_eq_true_eq]at h;omega
theorem NS {a b:Int} (h0:0<=a) (h1:1<=b):0<=Eg a b/\Eg a b<=a+b-1:=
 ⟨Int.ediv_nonneg (by omega) (by omega),Int.ediv_le_self _ (by omega)⟩
theorem Pj {n d k:Int} (h0:1<=n) (h1:1<=d) (h2:d<=768000) (h3:n<=d*64*8192) (h4:0<=k) (h5:k<=8192):0<=Dc n d k/\Dc n d k<=10000000000000000:=by
 have hb:=Aap (x:=2*k) (X:=16384) (y:=n) (Y:=402653184000) (by omega) (by omega) (by omega) (by omega);have:=NS (a:=2*k*n) (b:=65536*d) (by omega) (by omega);unfold Dc; omega
end Go
namespace Go.Sx
theorem v94 (t:Int) (d:Int) (g:Int) (m:Int) (n:Int) (e:Int) (k:Int) (j:Int) (s:Int):InR .i64 t/\InR .i64 d/\InR .i64 g/\InR .i64 m/\InR .i64 n/\InR .i64 e/\InR .i64 k/\InR .i64 j/\InR .i64 s->True/\True/\Cn (bNot (A7 t d g m)) (0=Ej t d g m n e k j s/\1=Bg t d g m n e k j s) (True/\True/\Cn (bNot (Bq n e k j)) (0=Ej t d g m n e k j s/\1=Bg t d g m n e k j s) (Cn (bLt s 0) (0=Ej t d g m n e k j s/\1=Bg t d g m n e k j s) (Cn (bLt 65536 s) (0=Ej t d g m n e k j s/\1=Bg t d g m n e k j s) (InR .i64 (iSub 65536 k)/\InR .i64 (iMul m (iSub 65536 k))/\InR .i64 (iMul 65536 k)/\Cn (bLt (iMul m (iSub 65536 k)) (iMul 65536 k)) (0=Ej t d g m n e k j s/\11=Bg t d g m n e k j s) ((0<=m/\1<=g/\m+g<=9223372036854775807)/\(InR .i64 (Eg m g)->InR .i64 (iAdd d (Eg m g))/\InR .i64 (iAdd k m)/\(1<=n/\1<=e/\e<=768000/\n<=e*64*8192/\0<=iAdd k m/\iAdd k m<=8192)/\(InR .i64 (Dc n e (iAdd k m))->InR .i64 (iAdd (iMax s (iAdd d (Eg m g))) (Dc n e (iAdd k m)))/\InR .i64 (iMul 2 j)/\InR .i64 (iAdd (iAdd (iMax s (iAdd d (Eg m g))) (Dc n e (iAdd k m))) (iMul 2 j))/\InR .i64 (iAdd (iAdd (iAdd (iMax s (iAdd d (Eg m g))) (Dc n e (iAdd k m))) (iMul 2 j)) 2)/\iAdd (iAdd (iAdd (iMax s (iAdd d (Eg m g))) (Dc n e (iAdd k m))) (iMul 2 j)) 2=Ej t d g m n e k j s/\0=Bg t d g m n e k j s))))))):=by
 intro hw;simp only[Cn_iff,Aas,true_and];simp only[iAdd,iSub,iMul,iMax,bNot,bLt,InR,decide_eq_true_eq,decide_eq_false_iff_not,Bool.not_eq_true',Bool.not_eq_false',and_true,true_and,true_implies];by_cases hv:A7 t d g m=true
 · by_cases hd:Bq n e k j=true
   · have hv':=(KD t d g m).1 hv;have hd':=Le hd;have u1:=NS (a:=m) (b:=g) (by omega) (by omega);have u2:=Pj (n:=n) (d:=e) (k:=k+m) (by omega) (by omega) (by omega) (by omega) (by omega) (by omega);have u3:=Aap (x:=m) (X:=4096) (y:=65536-k) (Y:=65536) (by omega) (by omega) (by omega) (by omega);have e1:Bg t d g m n e k j s=if s<0∨65536<s then 1 else if m*(65536-k)<65536*k then 11 else 0:=by unfold Bg; simp[hv,hd]
     have e2:Ej t d g m n e k j s=if Bg t d g m n e k j s≠0 then 0 else max s (d+Eg m g)+Dc n e (k+m)+2*j+2:=rfl;simp only[hv,hd,e2,e1,Bool.true_eq_false,false_implies,true_implies,and_true,true_and];clear hv hd hw e1 e2;generalize Eg m g=uu at*;generalize Dc n e (k+m)=ww at*;generalize m*(65536-k)=pp at*
     repeat' (first|apply And.intro|intro _)
     all_goals (first|omega|(split<;>omega))
   · have hd:Bq n e k j=false:=by simpa using hd
     have e1:Bg t d g m n e k j s=1:=by unfold Bg; simp[hd]
     have e2:Ej t d g m n e k j s=0:=by unfold Ej; simp[e1]
     simp[hv,hd,e1,e2]
 · have hv:A7 t d g m=false:=by simpa using hv
   have e1:Bg t d g m n e k j s=1:=by unfold Bg; simp[hv]
   have e2:Ej t d g m n e k j s=0:=by unfold Ej; simp[e1]
   simp[hv,e1,e2]
def r94:Cr PR:=K0 [r98,r91,r92,r160] 94 6 {ps:=[(true,hA),(true,hII),(false,hI),(false,hI),(false,hI)],rs:=[(false,hI),(false,hI)],pre:=λ_=>True,out:=λa=>[[.i (Ej (I a 0 0) (I a 0 1) (I a 0 2) (I a 0 3) (I a 1 0) (I a 1 1) (I a 2 0) (I a 3 0) (I a 4 0))],[.i (Bg (I a 0 0) (I a 0 1) (I a 0 2) (I a 0 3) (I a 1 0) (I a 1 1) (I a 2 0) (I a 3 0) (I a 4 0))]]} U λa=>Y (v94 (I a 0 0) (I a 0 1) (I a 0 2) (I a 0 3) (I a 1 0) (I a 1 1) (I a 2 0) (I a 3 0) (I a 4 0))
end Go.Sx
namespace Go.Sx
theorem v95 (t:Int) (d:Int) (g:Int) (m:Int) (n:Int) (e:Int) (k:Int) (j:Int):InR .i64 t/\InR .i64 d/\InR .i64 g/\InR .i64 m/\InR .i64 n/\InR .i64 e/\InR .i64 k/\InR .i64 j->True/\(InR .i64 (Ej t d g m n e k j 0)/\InR .i64 (Bg t d g m n e k j 0)->Cn (bNe (Bg t d g m n e k j 0) 0) (0=GU t d g m n e k j/\Sm (Bg t d g m n e k j 0)) ((0<=n/\1<=e/\n+e<=9223372036854775807)/\(InR .i64 (Eg n e)->InR .i64 (iAdd k m)/\(1<=n/\1<=e/\e<=768000/\n<=e*64*8192/\0<=iAdd k m/\iAdd k m<=8192)/\(InR .i64 (Dc n e (iAdd k m))->InR .i64 (iAdd (Eg n e) (Dc n e (iAdd k m)))/\InR .i64 (iMul 2 j)/\InR .i64 (iAdd (iAdd (Eg n e) (Dc n e (iAdd k m))) (iMul 2 j))/\InR .i64 (iAdd (iAdd (iAdd (Eg n e) (Dc n e (iAdd k m))) (iMul 2 j)) 3)/\iAdd (iAdd (iAdd (Eg n e) (Dc n e (iAdd k m))) (iMul 2 j)) 3=GU t d g m n e k j/\0=Bg t d g m n e k j 0)))):=by
 intro hw;simp only[Cn_iff,Aas,true_and];simp only[iAdd,iSub,iMul,iMax,bNe,InR,decide_eq_true_eq,Bool.not_eq_true',decide_eq_false_iff_not,Bool.not_eq_false',GU,and_true,true_and,true_implies];have hE:Bg t d g m n e k j 0=0->A7 t d g m=true/\Bq n e k j=true:=λh=>by
  unfold Bg at h;split at h
  · cases h
  · rename_i hc;constructor
    · cases hx:A7 t d g m
      · exact(hc (.inl hx)).elim
      · rfl
    · cases hx:Bq n e k j
      · exact(hc (.inr (.inl hx))).elim
      · rfl
 refine λhr=>⟨λh=> ?_,λh=> ?_⟩
 · rw[if_pos h]
 · have h':=hE h;have hv':=(KD t d g m).1 h'.1;have hd':=Le h'.2;have u1:=NS (a:=n) (b:=e) (by omega) (by omega);have u2:=Pj (n:=n) (d:=e) (k:=k+m) (by omega) (by omega) (by omega) (by omega) (by omega) (by omega);rw[if_neg (show¬(Bg t d g m n e k j 0≠0) by omega)]
   repeat' (first|apply And.intro|intro _)
   all_goals omega
def r95:Cr PR:=K0 [r94,r92,r160] 95 6 {ps:=[(true,hA),(true,hII),(false,hI),(false,hI)],rs:=[(false,hI),(false,hI)],pre:=λ_=>True,out:=λa=>[[.i (GU (I a 0 0) (I a 0 1) (I a 0 2) (I a 0 3) (I a 1 0) (I a 1 1) (I a 2 0) (I a 3 0))],[.i (Bg (I a 0 0) (I a 0 1) (I a 0 2) (I a 0 3) (I a 1 0) (I a 1 1) (I a 2 0) (I a 3 0) 0)]]} U λa=>Y (v95 (I a 0 0) (I a 0 1) (I a 0 2) (I a 0 3) (I a 1 0) (I a 1 1) (I a 2 0) (I a 3 0))
end Go.Sx

set_option linter.unusedVariables false
set_option linter.unusedSimpArgs false
set_option maxRecDepth 100000
set_option maxHeartbeats 4000000
namespace Go
open Go.Sx
def AZ (k:Int):Int:=Eg (65536*k) (65536-k)
def DT (n e k j:Int):Int:=Dc n e k+j+1
def BP (n e k j d g:Int):Int:=Ej 0 d g (AZ k) n e k j (DT n e k j)
def BI (n e k j d g:Int):Int:=GU 0 d g (AZ k) n e k j+BP n e k j d g
def Ep (n e k j d g:Int):Int:=if Bq n e k j=false∨d<0∨65536<d∨g<1∨4096<g then 1 else if 4096<AZ k then 2 else if 65536<DT n e k j∨65536<BI n e k j d g+BP n e k j d g then 3 else 0
def BD (n e k j d g v:Int):Int:=if Ep n e k j d g=0 then v else 0
end Go
namespace Go
open Go.Sx
theorem Zj {a b:Int} (h1:1<=b):a<=Eg a b*b/\Eg a b*b<=a+b-1:=by
 unfold Eg;have e:=Int.emod_add_mul_ediv (a+b-1) b;have l:=Int.emod_lt_of_pos (a+b-1) (show 0<b by omega);have z:=Int.emod_nonneg (a+b-1) (show b≠0 by omega);rw[Int.mul_comm b]at e;omega
theorem Qz {k:Int} (h0:0<=k) (h1:k<=4096):0<=AZ k/\AZ k<=300000000/\65536*k<=AZ k*(65536-k):=by
 have a:=NS (a:=65536*k) (b:=65536-k) (by omega) (by omega);have b:=Zj (a:=65536*k) (b:=65536-k) (by omega);unfold AZ;exact⟨a.1,by omega,b.1⟩
theorem Np (n e k j d g v:Int):(Ep n e k j d g=0->BD n e k j d g v=v)/\(Ep n e k j d g≠0->BD n e k j d g v=0):=by
 unfold BD;constructor<;>intro h<;>simp[h]
theorem UH {n e k j d g:Int} (hd:Bq n e k j=true) (h0:0<=d) (h1:d<=65536) (h2:1<=g) (h3:g<=4096):(4096<AZ k->Ep n e k j d g=2)/\
 (AZ k<=4096->(65536<DT n e k j∨65536<BI n e k j d g+BP n e k j d g->Ep n e k j d g=3)/\(DT n e k j<=65536->BI n e k j d g+BP n e k j d g<=65536->Ep n e k j d g=0)/\
  (65536<DT n e k j->Bg 0 d g (AZ k) n e k j (DT n e k j)=1/\BP n e k j d g=0)/\
  (DT n e k j<=65536->Bg 0 d g (AZ k) n e k j (DT n e k j)=0)/\
  Bg 0 d g (AZ k) n e k j 0=0/\0<=BP n e k j d g/\BP n e k j d g<=30000000000000000/\0<=BI n e k j d g-BP n e k j d g/\BI n e k j d g-BP n e k j d g<=30000000000000000)/\
 0<=DT n e k j/\DT n e k j<=20000000000000000/\0<=Dc n e k/\Dc n e k<=10000000000000000:=by
 have hd':=Le hd;have m:=Qz (k:=k) (by omega) (by omega);have w:=Pj (n:=n) (d:=e) (k:=k) (by omega) (by omega) (by omega) (by omega) (by omega) (by omega);have hS:DT n e k j=Dc n e k+j+1:=rfl;refine⟨λhM=> ?_,λhM=> ?_,by omega,by omega,w.1,w.2⟩
 · unfold Ep;rw[if_neg (by simp only[hd]; simp; omega),if_pos hM]
 · have hv:A7 0 d g (AZ k)=true:=by rw[KD]; omega
   have w2:=Pj (n:=n) (d:=e) (k:=k+AZ k) (by omega) (by omega) (by omega) (by omega) (by omega) (by omega);have u1:=NS (a:=AZ k) (b:=g) (by omega) (by omega);have u2:=NS (a:=n) (b:=e) (by omega) (by omega);have b0:∀s,0<=s->s<=65536->Bg 0 d g (AZ k) n e k j s=0:=λs hs hs'=>by
    unfold Bg;rw[if_neg (by simp only[hv,hd]; simp; omega),if_neg (by omega)]
   have b1:65536<DT n e k j->Bg 0 d g (AZ k) n e k j (DT n e k j)=1:=λhs=>by
    unfold Bg;rw[if_pos (.inr (.inr (.inr hs)))]
   have hB1:65536<DT n e k j->BP n e k j d g=0:=λhs=>by
    unfold BP Ej;rw[if_pos (by rw[b1 hs]; omega)]
   have hB2:DT n e k j<=65536->BP n e k j d g=max (DT n e k j) (d+Eg (AZ k) g)+Dc n e (k+AZ k)+2*j+2:=λhs=>by
    unfold BP Ej;rw[if_neg (by rw[b0 _ (by omega) hs]; omega)]
   have hQ:BI n e k j d g-BP n e k j d g=Eg n e+Dc n e (k+AZ k)+2*j+3:=by
    unfold BI GU;rw[if_neg (by rw[b0 _ (by omega) (by omega)]; omega)];omega
   have hE:Ep n e k j d g=if 65536<DT n e k j∨65536<BI n e k j d g+BP n e k j d g then 3 else 0:=by
    unfold Ep;rw[if_neg (by simp only[hd]; simp; omega),if_neg (by omega)]
   refine⟨λh=>by rw[hE,if_pos h],λh h'=>by rw[hE,if_neg (by omega)],λh=>⟨b1 h,hB1 h⟩,λh=>b0 _ (by omega) h,b0 0 (by omega) (by omega),?_,?_,by omega,by omega⟩
   · omega
   · omega
theorem Tu {n e k j d g:Int} (h:Bq n e k j=false∨d<0∨65536<d∨g<1∨4096<g):Ep n e k j d g=1:=by
 unfold Ep;rw[if_pos h]
end Go
namespace Go.Sx
def Ahu (n:Int) (e:Int) (k:Int) (j:Int) (d:Int) (g:Int):Prop:=0=BD n e k j d g (BI n e k j d g)/\0=BD n e k j d g d/\0=BD n e k j d g g/\0=BD n e k j d g (AZ k)/\0=BD n e k j d g (BI n e k j d g+BP n e k j d g)/\1=Ep n e k j d g
def Ad1 (n:Int) (e:Int) (k:Int) (j:Int) (d:Int) (g:Int):Int:=(Ej 0 d g (Eg (iMul 65536 k) (iSub 65536 k)) n e k j (iAdd (iAdd (Dc n e k) j) 1))
def AdC (k:Int):Int:=(Eg (iMul 65536 k) (iSub 65536 k))
def Aj5 (n:Int) (e:Int) (k:Int) (j:Int) (d:Int) (g:Int):Prop:=0=BD n e k j d g (BI n e k j d g)/\0=BD n e k j d g d/\0=BD n e k j d g g/\0=BD n e k j d g (AZ k)/\0=BD n e k j d g (BI n e k j d g+BP n e k j d g)/\3=Ep n e k j d g
theorem v45 (n:Int) (e:Int) (k:Int) (j:Int) (d:Int) (g:Int):InR .i64 n/\InR .i64 e/\InR .i64 k/\InR .i64 j/\InR .i64 d/\InR .i64 g->True/\True/\Cn (bNot (Bq n e k j)) ((Ahu n e k j d g)) (Cn (bLt d 0) ((Ahu n e k j d g)) (Cn (bLt 65536 d) ((Ahu n e k j d g)) (Cn (bLt g 1) ((Ahu n e k j d g)) (Cn (bLt 4096 g) ((Ahu n e k j d g)) (InR .i64 (iMul 65536 k)/\InR .i64 (iSub 65536 k)/\(0<=iMul 65536 k/\1<=iSub 65536 k/\iMul 65536 k+iSub 65536 k<=9223372036854775807)/\(InR .i64 (AdC k)->Cn (bLt 4096 (AdC k)) (0=BD n e k j d g (BI n e k j d g)/\0=BD n e k j d g d/\0=BD n e k j d g g/\0=BD n e k j d g (AZ k)/\0=BD n e k j d g (BI n e k j d g+BP n e k j d g)/\2=Ep n e k j d g) ((1<=n/\1<=e/\e<=768000/\n<=e*64*8192/\0<=k/\k<=8192)/\(InR .i64 (Dc n e k)->InR .i64 (iAdd (Dc n e k) j)/\InR .i64 (iAdd (iAdd (Dc n e k) j) 1)/\Cn (bLt 65536 (iAdd (iAdd (Dc n e k) j) 1)) ((Aj5 n e k j d g)) (True/\(InR .i64 (Ad1 n e k j d g)/\InR .i64 (Bg 0 d g (AdC k) n e k j (iAdd (iAdd (Dc n e k) j) 1))->True/\(InR .i64 (GU 0 d g (AdC k) n e k j)/\InR .i64 (Bg 0 d g (AdC k) n e k j 0)->InR .i64 (iMul 2 (Ad1 n e k j d g))/\InR .i64 (iAdd (GU 0 d g (AdC k) n e k j) (iMul 2 (Ad1 n e k j d g)))/\Cn (bLt 65536 (iAdd (GU 0 d g (AdC k) n e k j) (iMul 2 (Ad1 n e k j d g)))) ((Aj5 n e k j d g)) (InR .i64 (iAdd (GU 0 d g (AdC k) n e k j) (Ad1 n e k j d g))/\InR .i64 (iAdd (iAdd (GU 0 d g (AdC k) n e k j) (Ad1 n e k j d g)) (Ad1 n e k j d g))/\iAdd (GU 0 d g (AdC k) n e k j) (Ad1 n e k j d g)=BD n e k j d g (BI n e k j d g)/\d=BD n e k j d g d/\g=BD n e k j d g g/\Eg (iMul 65536 k) (iSub 65536 k)=BD n e k j d g (AZ k)/\iAdd (iAdd (GU 0 d g (AdC k) n e k j) (Ad1 n e k j d g)) (Ad1 n e k j d g)=BD n e k j d g (BI n e k j d g+BP n e k j d g)/\0=Ep n e k j d g)))))))))))):=by
 intro hw;simp only[Cn_iff,Aas,true_and];have hp:True:=trivial;delta Ahu Ad1 AdC Aj5;simp only[iAdd,iSub,iMul,bNot,bLt,bNe,decide_eq_true_eq,Bool.not_eq_true',decide_eq_false_iff_not,Bool.not_eq_false',and_true,true_and,true_implies];rw[show Eg (65536*k) (65536-k)=AZ k from rfl,show Dc n e k+j+1=DT n e k j from rfl,show Ej 0 d g (AZ k) n e k j (DT n e k j)=BP n e k j d g from rfl];have q1:BI n e k j d g=GU 0 d g (AZ k) n e k j+BP n e k j d g:=rfl;have o1:=Np n e k j d g (BI n e k j d g);have o2:=Np n e k j d g d;have o3:=Np n e k j d g g;have o4:=Np n e k j d g (AZ k);have o5:=Np n e k j d g (BI n e k j d g+BP n e k j d g);have out:=Tu (n:=n) (e:=e) (k:=k) (j:=j) (d:=d) (g:=g);have inn:=λh=>UH (n:=n) (e:=e) (k:=k) (j:=j) (d:=d) (g:=g) h;have dd:=Le (n:=n) (e:=e) (k:=k) (j:=j);have mm:=λh0 h1=>Qz (k:=k) h0 h1;generalize BD n e k j d g (BI n e k j d g)=z1 at*;generalize BD n e k j d g d=z2 at*;generalize BD n e k j d g g=z3 at*;generalize BD n e k j d g (AZ k)=z4 at*;generalize BD n e k j d g (BI n e k j d g+BP n e k j d g)=z5 at*;generalize Ep n e k j d g=z6 at*;generalize GU 0 d g (AZ k) n e k j=z7 at*;generalize Bg 0 d g (AZ k) n e k j (DT n e k j)=z8 at*;generalize Bg 0 d g (AZ k) n e k j 0=z9 at*;generalize BI n e k j d g=y1 at*;generalize BP n e k j d g=y2 at*;have wS:DT n e k j=Dc n e k+j+1:=rfl
 generalize DT n e k j=y3 at*;generalize Dc n e k=y4 at*;generalize AZ k=y5 at*;clear hw hp;simp only[InR]
 cases hd:Bq n e k j
 · have out:=out (.inl hd);simp only[Bool.false_eq_true,Bool.true_eq_false,reduceCtorEq,false_implies,true_implies,and_true,true_and];omega
 · have dd:=dd hd;have mm:=mm (by omega) (by omega);have hp:0<=d->d<=65536->1<=g->g<=4096->_:=inn hd;simp only[hd,Bool.false_eq_true,Bool.true_eq_false,reduceCtorEq,false_or,false_implies,true_implies,and_true,true_and]at*
   repeat' (first|apply And.intro|intro _)
   all_goals (first|omega|(have:=hp (by omega) (by omega) (by omega) (by omega); omega))
def r45:Cr PR:=K0 [r94,r95,r91,r92,r160] 45 6 {ps:=[(true,hII),(false,hI),(false,hI),(false,hI),(false,hI)],rs:=[(true,hA),(false,hI),(false,hI)],pre:=λ_=>True,out:=λa=>[[.i (BD (I a 0 0) (I a 0 1) (I a 1 0) (I a 2 0) (I a 3 0) (I a 4 0) (BI (I a 0 0) (I a 0 1) (I a 1 0) (I a 2 0) (I a 3 0) (I a 4 0))),.i (BD (I a 0 0) (I a 0 1) (I a 1 0) (I a 2 0) (I a 3 0) (I a 4 0) (I a 3 0)),.i (BD (I a 0 0) (I a 0 1) (I a 1 0) (I a 2 0) (I a 3 0) (I a 4 0) (I a 4 0)),.i (BD (I a 0 0) (I a 0 1) (I a 1 0) (I a 2 0) (I a 3 0) (I a 4 0) (AZ (I a 1 0)))],[.i (BD (I a 0 0) (I a 0 1) (I a 1 0) (I a 2 0) (I a 3 0) (I a 4 0) (BI (I a 0 0) (I a 0 1) (I a 1 0) (I a 2 0) (I a 3 0) (I a 4 0)+BP (I a 0 0) (I a 0 1) (I a 1 0) (I a 2 0) (I a 3 0) (I a 4 0)))],[.i (Ep (I a 0 0) (I a 0 1) (I a 1 0) (I a 2 0) (I a 3 0) (I a 4 0))]]} U λa=>Y (v45 (I a 0 0) (I a 0 1) (I a 1 0) (I a 2 0) (I a 3 0) (I a 4 0))
end Go.Sx

set_option linter.unusedVariables false
set_option linter.unusedSimpArgs false
set_option maxRecDepth 100000
set_option maxHeartbeats 4000000
noncomputable section
namespace Go.Sx
def AkG:Ct:= {ps:=[(false,[.int .u64]),(false,[.int .u64]),(false,[.int .u64])],rs:=[(false,[.int .u64]),(false,[.int .u64])],pre:=λa=>pLe (I a 2 0) 1/\True,out:=λa=>[[.i (KZ (I a 0 0) (I a 1 0) (I a 2 0))],[.i (Jc (I a 0 0) (I a 1 0) (I a 2 0))]]}
theorem s203:SoundCt Go.Proofs.Tryz.prog 203 AkG:=Af9 (fn:=Go.Proofs.Tryz.f203) (by kernel_rfl) (by kernel_rfl) (by kernel_rfl) (by kernel_rfl) (by kernel_rfl)
def r203:Cr PR:=⟨203,AkG,s203⟩
end Go.Sx
namespace Go.Sx
def AkF:Ct:= {ps:=[(false,[.int .u64]),(false,[.int .u64]),(false,[.int .u64])],rs:=[(false,[.int .u64]),(false,[.int .u64])],pre:=λa=>pLe (I a 2 0) 1/\True,out:=λa=>[[.i (Kt (I a 0 0) (I a 1 0) (I a 2 0))],[.i (Ja (I a 0 0) (I a 1 0) (I a 2 0))]]}
theorem s207:SoundCt Go.Proofs.Tryz.prog 207 AkF:=AgC (fn:=Go.Proofs.Tryz.f207) (by kernel_rfl) (by kernel_rfl) (by kernel_rfl) (by kernel_rfl) (by kernel_rfl)
def r207:Cr PR:=⟨207,AkF,s207⟩
end Go.Sx
namespace Go
open Go.Sx
def Ac (n:Int):Int:=n/18446744073709551616 % 18446744073709551616
def Aa (n:Int):Int:=n % 18446744073709551616
def Af (h l:Int):Int:=h*18446744073709551616+l
def BF (h l:Int):Int:=if h<9223372036854775808 then h*18446744073709551616+l else h*18446744073709551616+l-340282366920938463463374607431768211456
end Go
namespace Go.Sx
theorem v135 (p:Int) (q:Int):InR .i64 p/\InR .i64 q->0<=p/\0<=q->True/\(InR .u64 (BC (Aaj .u64 p) (Aaj .u64 q))/\InR .u64 (Bo (Aaj .u64 p) (Aaj .u64 q))->BC (Aaj .u64 p) (Aaj .u64 q)=Ac (p*q)/\Bo (Aaj .u64 p) (Aaj .u64 q)=Aa (p*q)):=by
 intro hw hp;simp only[Wfs,Wf,InR,and_true]at hw;rw[Bv (x:=p) (by omega) (by omega),Bv (x:=q) (by omega) (by omega)];have m:=Aap (x:=p) (X:=9223372036854775807) (y:=q) (Y:=9223372036854775807) (by omega) (by omega) (by omega) (by omega);simp only[BC,Bo,Ac,Aa];generalize p*q=z at*
 repeat' (first|apply And.intro|intro _)
 all_goals (first|trivial|omega)
def r135:Cr PR:=Kw (λ_=>true) [r202] 135 6 {ps:=[(false,hI),(false,hI)],rs:=[(true,[.int .u64,.int .u64])],pre:=λa=>0<=(I a 0 0)/\0<=(I a 1 0),out:=λa=>[[.i (Ac ((I a 0 0)*(I a 1 0))),.i (Aa ((I a 0 0)*(I a 1 0)))]]} U λa=>Y (v135 (I a 0 0) (I a 1 0))
end Go.Sx
namespace Go.Sx
theorem v136 (a:Int) (b:Int) (c:Int) (d:Int):InR .u64 a/\InR .u64 b/\InR .u64 c/\InR .u64 d->(pLe 0 1/\True)/\(InR .u64 (KZ b d 0)/\InR .u64 (Jc b d 0)->(pLe (Jc b d 0) 1/\True)/\(InR .u64 (KZ a c (Jc b d 0))/\InR .u64 (Jc a c (Jc b d 0))->KZ a c (Jc b d 0)=Ac (Af a b-Af c d)/\KZ b d 0=Aa (Af a b-Af c d))):=by
 intro hw;simp only[Wfs,Wf,InR,and_true]at hw;simp only[KZ,Jc,Ac,Aa,Af,InR,pLe]
 repeat' (first|apply And.intro|intro _)
 all_goals (first|trivial|omega|(split<;>omega)|(split<;>split<;>omega))
def r136:Cr PR:=K0 [r203] 136 6 {ps:=[(true,[.int .u64,.int .u64]),(true,[.int .u64,.int .u64])],rs:=[(true,[.int .u64,.int .u64])],pre:=λ_=>True,out:=λa=>[[.i (Ac (Af (I a 0 0) (I a 0 1)-Af (I a 1 0) (I a 1 1))),.i (Aa (Af (I a 0 0) (I a 0 1)-Af (I a 1 0) (I a 1 1)))]]} U λa=>Y (v136 (I a 0 0) (I a 0 1) (I a 1 0) (I a 1 1))
end Go.Sx
namespace Go.Sx
theorem v204 (a:Int) (b:Int) (c:Int) (d:Int):InR .u64 a/\InR .u64 b/\InR .u64 c/\InR .u64 d->True->Cn (bLt (Aaj .i64 a) (Aaj .i64 c)) (true=decide (BF a b<BF c d)) (Cn (bEq a c) (bLt b d=decide (BF a b<BF c d)) (false=decide (BF a b<BF c d))):=by
 intro hw hp;simp only[Cn_iff,Aas,true_and];simp only[Wfs,Wf,InR,and_true]at hw;have wa:Aaj .i64 a=if a<9223372036854775808 then a else a-18446744073709551616:=by
  show IntKind.i64.wrap a=_;rw[IntKind.wrap_i64]; split<;>omega
 have wc:Aaj .i64 c=if c<9223372036854775808 then c else c-18446744073709551616:=by
  show IntKind.i64.wrap c=_;rw[IntKind.wrap_i64]; split<;>omega
 rw[wa,wc];clear wa wc;unfold BF;by_cases hA:a<9223372036854775808<;>by_cases hC:c<9223372036854775808<;>simp only[hA,hC,if_true,if_false]
 all_goals simp only[bLt,bEq,BF,decide_eq_true_eq,decide_eq_false_iff_not,true_and,and_true,eq_comm (a:=true),eq_comm (a:=false),decide_eq_decide]
 all_goals repeat' (first|apply And.intro|intro _)
 all_goals (first|trivial|omega)
def r204:Cr PR:=Kw (λ_=>true) [] 204 6 {ps:=[(true,[.int .u64,.int .u64]),(true,[.int .u64,.int .u64])],rs:=[(false,[.bool])],pre:=λ_=>True,out:=λa=>[[.b (decide (BF (I a 0 0) (I a 0 1)<BF (I a 1 0) (I a 1 1)))]]} U λa=>Y (v204 (I a 0 0) (I a 0 1) (I a 1 0) (I a 1 1))
end Go.Sx
namespace Go.Sx
theorem v145 (a:Int) (b:Int) (c:Int):InR .u64 a/\InR .u64 b/\InR .u64 c->pLe (a*b*c) 340282366920938463463374607431768211455/\True->True/\(InR .u64 (BC a b)/\InR .u64 (Bo a b)->True/\(InR .u64 (BC (Bo a b) c)/\InR .u64 (Bo (Bo a b) c)->Aaj .u64 (iAdd (Aaj .u64 (iMul (BC a b) c)) (BC (Bo a b) c))=Ac (a*b*c)/\Bo (Bo a b) c=Aa (a*b*c))):=by
 intro hw hp;simp only[Wfs,Wf,InR,and_true]at hw;have h0:0<=a*b:=Int.mul_nonneg (by omega) (by omega);have hp:=hp.1;simp only[pLe]at hp;simp only[BC,Bo,Ac,Aa,iMul,iAdd,Lh,InR];generalize a*b=z at*;have e:z*c=z/18446744073709551616*c*18446744073709551616+z % 18446744073709551616*c:=by
  have h:=Int.ediv_mul_add_emod z 18446744073709551616
  calc z*c=(z/18446744073709551616*18446744073709551616+z % 18446744073709551616)*c:=by rw[h]
   _=_:=by rw[Int.add_mul]; congr 1; ac_rfl
 have p1:0<=z/18446744073709551616*c:=Int.mul_nonneg (by omega) (by omega);have p2:0<=z % 18446744073709551616*c:=Int.mul_nonneg (by omega) (by omega);rw[e]at hp ⊢;clear e;generalize z/18446744073709551616*c=P at*;generalize z % 18446744073709551616*c=Q at*
 repeat' (first|apply And.intro|intro _)
 all_goals (first|trivial|omega)
def r145:Cr PR:=Kw (λ_=>true) [r202] 145 6 {ps:=[(false,[.int .u64]),(false,[.int .u64]),(false,[.int .u64])],rs:=[(true,[.int .u64,.int .u64])],pre:=λa=>pLe ((I a 0 0)*(I a 1 0)*(I a 2 0)) 340282366920938463463374607431768211455/\True,out:=λa=>[[.i (Ac ((I a 0 0)*(I a 1 0)*(I a 2 0))),.i (Aa ((I a 0 0)*(I a 1 0)*(I a 2 0)))]]} U λa=>Y (v145 (I a 0 0) (I a 1 0) (I a 2 0))
end Go.Sx
namespace Go.Sx
theorem v146 (a:Int) (b:Int) (c:Int) (d:Int):InR .u64 a/\InR .u64 b/\InR .u64 c/\InR .u64 d->(pLe 0 1/\True)/\(InR .u64 (Kt b d 0)/\InR .u64 (Ja b d 0)->(pLe (Ja b d 0) 1/\True)/\(InR .u64 (Kt a c (Ja b d 0))/\InR .u64 (Ja a c (Ja b d 0))->Kt a c (Ja b d 0)=Ac (Af a b+Af c d)/\Kt b d 0=Aa (Af a b+Af c d))):=by
 intro hw;simp only[Wfs,Wf,InR,and_true]at hw;simp only[Kt,Ja,Ac,Aa,Af,InR,pLe]
 repeat' (first|apply And.intro|intro _)
 all_goals (first|trivial|omega|(split<;>omega)|(split<;>split<;>omega))
def r146:Cr PR:=K0 [r207] 146 6 {ps:=[(true,[.int .u64,.int .u64]),(true,[.int .u64,.int .u64])],rs:=[(true,[.int .u64,.int .u64])],pre:=λ_=>True,out:=λa=>[[.i (Ac (Af (I a 0 0) (I a 0 1)+Af (I a 1 0) (I a 1 1))),.i (Aa (Af (I a 0 0) (I a 0 1)+Af (I a 1 0) (I a 1 1)))]]} U λa=>Y (v146 (I a 0 0) (I a 0 1) (I a 1 0) (I a 1 1))
end Go.Sx
namespace Go.Sx
theorem v208 (a:Int) (b:Int) (c:Int) (d:Int):InR .u64 a/\InR .u64 b/\InR .u64 c/\InR .u64 d->Cn (bLt c a) (true=decide (Af c d<Af a b)) (Cn (bEq a c) (bLt d b=decide (Af c d<Af a b)) (false=decide (Af c d<Af a b))):=by
 intro hw;simp only[Cn_iff,Aas,true_and];simp only[Wfs,Wf,InR,and_true]at hw;have e1:Af a b=a*18446744073709551616+b:=rfl;have e2:Af c d=c*18446744073709551616+d:=rfl;generalize Af a b=X at*;generalize Af c d=Y at*;simp only[bLt,bEq,decide_eq_true_eq,decide_eq_false_iff_not,true_and,and_true]
 repeat' (first|apply And.intro|intro _)
 all_goals (first|trivial|(rw[decide_eq_decide]; omega)|(symm; rw[decide_eq_true_eq]; omega)|(symm; rw[decide_eq_false_iff_not]; omega))
def r208:Cr PR:=K0 [] 208 6 {ps:=[(true,[.int .u64,.int .u64]),(true,[.int .u64,.int .u64])],rs:=[(false,[.bool])],pre:=λ_=>True,out:=λa=>[[.b (decide (Af (I a 1 0) (I a 1 1)<Af (I a 0 0) (I a 0 1)))]]} U λa=>Y (v208 (I a 0 0) (I a 0 1) (I a 1 0) (I a 1 1))
end Go.Sx
namespace Go
open Go.Sx
def MW (n:Int):Int:=n % 340282366920938463463374607431768211456
def JH (x y z:Int):Bool:= !decide (MW (y+z)<x)&& !decide (MW (x+z)<y)
end Go
theorem Go.ZO (n:Int):Af (Ac n) (Aa n)=MW n:=by
 unfold Go.Af Go.Ac Go.Aa Go.MW; omega
namespace Go.Sx
theorem v147 (a:Int) (b:Int) (c:Int) (d:Int) (e:Int) (f:Int):InR .u64 a/\InR .u64 b/\InR .u64 c/\InR .u64 d/\InR .u64 e/\InR .u64 f->True/\(InR .u64 (Ac (Af c d+Af e f))/\InR .u64 (Aa (Af c d+Af e f))->True/\True/\Cn (bNot (decide (Af (Ac (Af c d+Af e f)) (Aa (Af c d+Af e f))<Af a b))) (True/\(InR .u64 (Ac (Af a b+Af e f))/\InR .u64 (Aa (Af a b+Af e f))->True/\True/\bNot (decide (Af (Ac (Af a b+Af e f)) (Aa (Af a b+Af e f))<Af c d))=JH (Af a b) (Af c d) (Af e f))) (false=JH (Af a b) (Af c d) (Af e f))):=by
 intro hw;simp only[Cn_iff,Aas,true_and];simp only[ZO];generalize Af a b=x at*;generalize Af c d=y at*;generalize Af e f=z at*;have e:JH x y z=(!decide (MW (y+z)<x)&& !decide (MW (x+z)<y)):=rfl;rw[e];generalize decide (MW (y+z)<x)=p;generalize decide (MW (x+z)<y)=q
 cases p<;>cases q<;>simp[bNot]
def r147:Cr PR:=K0 [r146,r208] 147 6 {ps:=[(true,[.int .u64,.int .u64]),(true,[.int .u64,.int .u64]),(true,[.int .u64,.int .u64])],rs:=[(false,[.bool])],pre:=λ_=>True,out:=λa=>[[.b (JH (Af (I a 0 0) (I a 0 1)) (Af (I a 1 0) (I a 1 1)) (Af (I a 2 0) (I a 2 1)))]]} U λa=>Y (v147 (I a 0 0) (I a 0 1) (I a 1 0) (I a 1 1) (I a 2 0) (I a 2 1))
end Go.Sx

set_option linter.unusedVariables false
set_option linter.unusedSimpArgs false
set_option maxRecDepth 100000
set_option maxHeartbeats 4000000
noncomputable section
namespace Go
open Go.Sx
def CJ (x:List C):Int:=(qi 0 x)
def CE (x:List C):Int:=(qi 1 x)
def CO (x:List C):Bool:=decide (0<=CJ x/\CJ x<=65536/\0<=CE x/\CE x<=65536)
def DK (bn bd pn pd dr:Int) (g:Nat) (x:List C):Int:=
 match g with
 |0=>CJ x*bn*(pd*65536)-pn*bd*(65536+dr)
 |1=>pn*bd*(65536-dr)-CJ x*bn*(pd*65536)
 |2=>CE x*bd*(pd*65536)-pn*bd*(65536+dr)
 |3=>pn*bd*(65536-dr)-CE x*bd*(pd*65536)
 |4=>CJ x*bn*(pd*65536)-CE x*bd*(pd*65536)-pn*bd*dr
 |_=>CE x*bd*(pd*65536)-CJ x*bn*(pd*65536)-pn*bd*dr
def Am (s:Int×Int) (a:Int):Int×Int:=(s.1+a,min s.2 (s.1+a))
def Gm (J:Int) (s:Int×Int):Bool:=decide (s.1-s.2<=J)
def O6 (J:Int) (m:Nat->List C->Int) (st:List (Int×Int)) (xs:List (List C)):Bool:=
 match xs with
 |[]=>true
 |x::r=>CO x&&(Gm J (Am (st.getD 0 (0,0)) (m 0 x))&&(Gm J (Am (st.getD 1 (0,0)) (m 1 x))&&(Gm J (Am (st.getD 2 (0,0)) (m 2 x))&&(Gm J (Am (st.getD 3 (0,0)) (m 3 x))&&(Gm J (Am (st.getD 4 (0,0)) (m 4 x))&&(Gm J (Am (st.getD 5 (0,0)) (m 5 x))&&
  O6 J m [Am (st.getD 0 (0,0)) (m 0 x),Am (st.getD 1 (0,0)) (m 1 x),Am (st.getD 2 (0,0)) (m 2 x),Am (st.getD 3 (0,0)) (m 3 x),Am (st.getD 4 (0,0)) (m 4 x),Am (st.getD 5 (0,0)) (m 5 x)] r))))))
def NY (s:Int×Int):List C:=[.i (Ac s.1),.i (Aa s.1),.i (Ac s.2),.i (Aa s.2)]
def Ah (z:List (Int×Int)):List (List C):=z.map NY
def J5 (y:List C):Int×Int:=(BF (qi 0 y) (qi 1 y),BF (qi 2 y) (qi 3 y))
def FO (ys:List (List C)) (i b c:Int):List (Int×Int):=(ys.map J5).set i.toNat ((J5 (rGet ys i)).1+BF b c,(J5 (rGet ys i)).2)
def DN (ys:List (List C)) (i:Int):List (Int×Int):=(ys.map J5).set i.toNat ((J5 (rGet ys i)).1,min (J5 (rGet ys i)).2 (J5 (rGet ys i)).1)
def QD:List (Int×Int):=[(0,0),(0,0),(0,0),(0,0),(0,0),(0,0)]
def CB (bn bd pn pd dr ji:Int) (xs:List (List C)):Bool:=
 Ai bn bd&&(decide (bn<=768000/\bd<=768000)&&(Bq pn pd dr ji&&(decide ((xs.length:Int)<=256)&&O6 (bd*(pd*65536)*ji) (DK bn bd pn pd dr) QD xs)))
def ZL (kk:Int) (st:List (Int×Int)):Prop:=st.length=6/\∀s∈st,-(kk*10000000000000000000000)<=s.1/\s.1<=kk*10000000000000000000000/\-(kk*10000000000000000000000)<=s.2/\s.2<=kk*10000000000000000000000
def Q5 (bn bd pn pd dr ji:Int) (xs:List (List C)) (kk:Int) (st:List (Int×Int)):Prop:=
 0<=kk/\kk<=(xs.length:Int)/\ZL kk st/\O6 (bd*(pd*65536)*ji) (DK bn bd pn pd dr) st (xs.drop kk.toNat)=O6 (bd*(pd*65536)*ji) (DK bn bd pn pd dr) QD xs
def TL (bn bd pn pd dr:Int) (x:List C) (mm:Nat->Int):Prop:=mm=λg=>DK bn bd pn pd dr g x
end Go
namespace Go
open Go.Sx
theorem Rj (a b:Int):Ac (Af (Ac a) (Aa a)-Af (Ac b) (Aa b))=Ac (a-b):=by
 unfold Af Ac Aa; omega
theorem Rn (a b:Int):Aa (Af (Ac a) (Aa a)-Af (Ac b) (Aa b))=Aa (a-b):=by
 unfold Af Ac Aa; omega
theorem Y1:Af 0 0=Af (Ac 0) (Aa 0):=rfl
end Go
namespace Go
open Go.Sx
def BU (M:Int) (s:Int×Int):Prop:= -M<=s.1/\s.1<=M/\-M<=s.2/\s.2<=M
def Eo (z:List (Int×Int)):Prop:=z.length=6/\∀s∈z,BU 1000000000000000000000000000000 s
theorem Lj {n:Int} (h0: -1000000000000000000000000000000000000<=n) (h1:n<=1000000000000000000000000000000000000):BF (Ac n) (Aa n)=n:=by
 unfold BF Ac Aa;split<;>omega
theorem KX {z:List (Int×Int)} {i:Int} {g:Nat} (hi:i.toNat=g) (hg:g<z.length):rGet (Ah z) i=NY (z.getD g (0,0)):=by
 subst hi;simp[rGet,Ah,List.getD_eq_getElem?_getD,hg]
theorem Qx {s:Int×Int} (h:BU 1000000000000000000000000000000 s):J5 (NY s)=s:=by
 obtain⟨a,b⟩:=s;simp only[BU]at h;simp only[J5,NY,qi,cel,List.headD_cons,List.tail_cons,C.int];rw[Lj (by omega) (by omega),Lj (by omega) (by omega)]
theorem RS {z:List (Int×Int)} (hz:Eo z):(Ah z).map J5=z:=by
 unfold Ah;rw[List.map_map]
 conv=>rhs; rw[←List.map_id z]
 exact List.map_congr_left λs hs=>Qx (hz.2 s hs)
theorem OB {z:List (Int×Int)} (hz:Eo z) {g:Nat} (hg:g<6):BU 1000000000000000000000000000000 (z.getD g (0,0)):=by
 have h:g<z.length:=by rw[hz.1]; exact hg
 rw[List.getD_eq_getElem?_getD,List.getElem?_eq_getElem h];exact hz.2 _ (List.getElem_mem h)
theorem J6 {z:List (Int×Int)} {i a:Int} {g:Nat} (hz:Eo z) (hi:i.toNat=g) (hg:g<6) (h0: -1000000000000000000000000000000<=a) (h1:a<=1000000000000000000000000000000):
 FO (Ah z) i (Ac a) (Aa a)=z.set g ((z.getD g (0,0)).1+a,(z.getD g (0,0)).2):=by
 unfold FO;rw[RS hz,KX hi (by rw[hz.1]; exact hg),Qx (OB hz hg),Lj (by omega) (by omega),hi]
theorem I8 {z:List (Int×Int)} {i:Int} {g:Nat} (hz:Eo z) (hi:i.toNat=g) (hg:g<6):
 DN (Ah z) i=z.set g ((z.getD g (0,0)).1,min (z.getD g (0,0)).2 (z.getD g (0,0)).1):=by
 unfold DN;rw[RS hz,KX hi (by rw[hz.1]; exact hg),Qx (OB hz hg),hi]
theorem RG {z:List (Int×Int)} {i:Int} {g:Nat} (hi:i.toNat=g) (s:Int×Int) {c:List C} (hc:c=NY s):rSet (Ah z) i c=Ah (z.set g s):=by
 subst hi; subst hc;unfold rSet Ah;rw[List.map_set]
theorem PN {z:List (Int×Int)} {i a:Int} {g:Nat} (hz:Eo z) (hi:i.toNat=g) (hg:g<6) (h0: -1000000000000000000000000000000<=a) (h1:a<=1000000000000000000000000000000):
 rSet (Ah z) i [C.i (Ac (Af (qi 0 (rGet (Ah z) i)) (qi 1 (rGet (Ah z) i))-Af (Ac (0-a)) (Aa (0-a)))),
  C.i (Aa (Af (qi 0 (rGet (Ah z) i)) (qi 1 (rGet (Ah z) i))-Af (Ac (0-a)) (Aa (0-a)))),
  C.i (qi 2 (rGet (Ah z) i)),C.i (qi 3 (rGet (Ah z) i))]=Ah (FO (Ah z) i (Ac a) (Aa a)):=by
 rw[J6 hz hi hg h0 h1];refine RG hi _ ?_;rw[KX hi (by rw[hz.1]; exact hg)];generalize z.getD g (0,0)=s;simp only[NY,qi,cel,List.headD_cons,List.tail_cons,C.int,Rj,Rn];rw[show s.1- (0-a)=s.1+a by omega]
theorem OM {z:List (Int×Int)} {i:Int} {g:Nat} (hz:Eo z) (hi:i.toNat=g) (hg:g<6)
 (h:decide (BF (qi 0 (rGet (Ah z) i)) (qi 1 (rGet (Ah z) i))<BF (qi 2 (rGet (Ah z) i)) (qi 3 (rGet (Ah z) i)))=true):
 rSet (Ah z) i [C.i (qi 0 (rGet (Ah z) i)),C.i (qi 1 (rGet (Ah z) i)),C.i (qi 0 (rGet (Ah z) i)),C.i (qi 1 (rGet (Ah z) i))]=Ah (DN (Ah z) i):=by
 rw[I8 hz hi hg];refine RG hi _ ?_;rw[KX hi (by rw[hz.1]; exact hg)]at h ⊢;have hb:=OB hz hg;revert h hb;generalize z.getD g (0,0)=s;intro h hb;simp only[BU]at hb;replace h:=of_decide_eq_true h;simp only[NY,qi,cel,List.headD_cons,List.tail_cons,C.int]at h ⊢;rw[Lj (by omega) (by omega),Lj (by omega) (by omega)]at h;rw[show min s.2 s.1=s.1 by omega]
theorem OU {z:List (Int×Int)} {i:Int} {g:Nat} (hz:Eo z) (hi:i.toNat=g) (hg:g<6)
 (h:decide (BF (qi 0 (rGet (Ah z) i)) (qi 1 (rGet (Ah z) i))<BF (qi 2 (rGet (Ah z) i)) (qi 3 (rGet (Ah z) i)))=false):
 Ah z=Ah (DN (Ah z) i):=by
 rw[I8 hz hi hg];rw[KX hi (by rw[hz.1]; exact hg)]at h;have hb:=OB hz hg;have hset:z.set g (z.getD g (0,0))=z:=by
  have hl:g<z.length:=by rw[hz.1]; exact hg
  rw[List.getD_eq_getElem?_getD,List.getElem?_eq_getElem hl];exact List.set_getElem_self hl
 have e:((z.getD g (0,0)).1,min (z.getD g (0,0)).2 (z.getD g (0,0)).1)=z.getD g (0,0):=by
  revert h hb;generalize z.getD g (0,0)=s;intro h hb;simp only[BU]at hb;replace h:=of_decide_eq_false h;simp only[NY,qi,cel,List.headD_cons,List.tail_cons,C.int]at h;rw[Lj (by omega) (by omega),Lj (by omega) (by omega)]at h;rw[show min s.2 s.1=s.2 by omega]
 rw[e,hset]
theorem PL {z:List (Int×Int)} {i L:Int} {g:Nat} (hz:Eo z) (hi:i.toNat=g) (hg:g<6) (h0:0<=L) (h1:L<=1000000000000000000000000000000):
 decide (BF (Ac L) (Aa L)<BF (Ac (Af (qi 0 (rGet (Ah z) i)) (qi 1 (rGet (Ah z) i))-Af (qi 2 (rGet (Ah z) i)) (qi 3 (rGet (Ah z) i))))
  (Aa (Af (qi 0 (rGet (Ah z) i)) (qi 1 (rGet (Ah z) i))-Af (qi 2 (rGet (Ah z) i)) (qi 3 (rGet (Ah z) i)))))= !Gm L (z.getD g (0,0)):=by
 rw[KX hi (by rw[hz.1]; exact hg)];have hb:=OB hz hg;revert hb;generalize z.getD g (0,0)=s;intro hb;simp only[BU]at hb;unfold Gm;rw[←decide_not,decide_eq_decide];simp only[NY,qi,cel,List.headD_cons,List.tail_cons,C.int,Rj,Rn];rw[Lj (by omega) (by omega),Lj (by omega) (by omega)];omega
theorem Zk {z:List (Int×Int)} (h:z.length=6):∃a b c d e f,z=[a,b,c,d,e,f]:=by
 match z,h with
 |[a,b,c,d,e,f],_=>exact⟨a,b,c,d,e,f,rfl⟩
theorem FU {a b c d e f:Int×Int} (ha:BU 1000000000000000000000000000000 a) (hb:BU 1000000000000000000000000000000 b) (hc:BU 1000000000000000000000000000000 c) (hd:BU 1000000000000000000000000000000 d) (he:BU 1000000000000000000000000000000 e) (hf:BU 1000000000000000000000000000000 f):Eo [a,b,c,d,e,f]:=by
 refine⟨rfl,λs hs=> ?_⟩;simp only[List.mem_cons,List.not_mem_nil,or_false]at hs;rcases hs with rfl|rfl|rfl|rfl|rfl|rfl<;>assumption
theorem Aq {M N:Int} {s:Int×Int} (h:BU M s) (hm:M<=N):BU N s:=by
 simp only[BU]at h ⊢; omega
theorem Nc {M E a:Int} {s:Int×Int} (h:BU M s) (h0: -E<=a) (h1:a<=E):BU (M+E) (s.1+a,s.2):=by
 simp only[BU]at h ⊢; omega
theorem Ar {M E a:Int} {s:Int×Int} (h:BU M s) (h0: -E<=a) (h1:a<=E):BU (M+E) (Am s a):=by
 simp only[BU,Am]at h ⊢; omega
theorem MF {bn bd pn pd dr ji:Int} {xs:List (List C)} (h:Ai bn bd=false∨768000<bn∨768000<bd∨Bq pn pd dr ji=false∨256<(xs.length:Int)):false=CB bn bd pn pd dr ji xs:=by
 symm;unfold CB;rcases h with h|h|h|h|h
 · simp[h]
 · have:decide (bn<=768000/\bd<=768000)=false:=by simp; omega
   simp[this]
 · have:decide (bn<=768000/\bd<=768000)=false:=by simp; omega
   simp[this]
 · simp[h]
 · have:decide ((xs.length:Int)<=256)=false:=by simp; omega
   simp[this]
theorem Wh {bn bd pn pd dr ji:Int} {xs:List (List C)} (h1:Ai bn bd=true) (h2:bn<=768000) (h3:bd<=768000) (h4:Bq pn pd dr ji=true) (h5:(xs.length:Int)<=256):
 CB bn bd pn pd dr ji xs=O6 (bd*(pd*65536)*ji) (DK bn bd pn pd dr) QD xs:=by
 unfold CB;simp[h1,h2,h3,h4,h5]
theorem Ru {bn bd pn pd dr ji:Int} (h1:Ai bn bd=true) (h2:bn<=768000) (h3:bd<=768000) (h4:Bq pn pd dr ji=true):
 1<=bn/\1<=bd/\1<=pd/\pd<=768000/\0<=dr/\dr<=4096/\0<=ji/\ji<=65536/\0<=pn*bd/\pn*bd<=68719476736*768000/\0<=bd*(pd*65536)/\bd*(pd*65536)<=768000*(768000*65536)/\
 0<=pn*bd*(65536+dr)/\pn*bd*(65536+dr)<=4000000000000000000000/\0<=pn*bd*(65536-dr)/\pn*bd*(65536-dr)<=4000000000000000000000/\0<=pn*bd*dr/\pn*bd*dr<=4000000000000000000000/\
 0<=bd*(pd*65536)*ji/\bd*(pd*65536)*ji<=4000000000000000000000:=by
 have hd:=Le h4;have hb:1<=bn/\1<=bd:=by
  simp only[Ai,decide_eq_true_eq]at h1; omega
 have a:=Aap (x:=pn) (X:=68719476736) (y:=bd) (Y:=768000) (by omega) (by omega) (by omega) (by omega);have b:=Aap (x:=bd) (X:=768000) (y:=pd*65536) (Y:=768000*65536) (by omega) (by omega) (by omega) (by omega);have c:=Aap (x:=pn*bd) (X:=68719476736*768000) (y:=65536+dr) (Y:=69632) (by omega) (by omega) (by omega) (by omega);have d:=Aap (x:=pn*bd) (X:=68719476736*768000) (y:=65536-dr) (Y:=69632) (by omega) (by omega) (by omega) (by omega);have e:=Aap (x:=pn*bd) (X:=68719476736*768000) (y:=dr) (Y:=69632) (by omega) (by omega) (by omega) (by omega);have f:=Aap (x:=bd*(pd*65536)) (X:=768000*(768000*65536)) (y:=ji) (Y:=65536) (by omega) (by omega) (by omega) (by omega);omega
theorem WM {bn bd pd u v:Int} (h1:1<=bn) (h2:bn<=768000) (h3:1<=bd) (h4:bd<=768000) (h5:1<=pd) (h6:pd<=768000) (u0:0<=u) (u1:u<=65536) (v0:0<=v) (v1:v<=65536):
 0<=u*bn/\u*bn<=65536*768000/\0<=v*bd/\v*bd<=65536*768000/\0<=u*bn*(pd*65536)/\u*bn*(pd*65536)<=4000000000000000000000/\0<=v*bd*(pd*65536)/\v*bd*(pd*65536)<=4000000000000000000000:=by
 have a:=Aap (x:=u) (X:=65536) (y:=bn) (Y:=768000) (by omega) (by omega) (by omega) (by omega);have b:=Aap (x:=v) (X:=65536) (y:=bd) (Y:=768000) (by omega) (by omega) (by omega) (by omega);have c:=Aap (x:=u*bn) (X:=65536*768000) (y:=pd*65536) (Y:=768000*65536) (by omega) (by omega) (by omega) (by omega);have d:=Aap (x:=v*bd) (X:=65536*768000) (y:=pd*65536) (Y:=768000*65536) (by omega) (by omega) (by omega) (by omega);omega
theorem WI {M:Int} {a b c d e f:Int×Int} (h:∀s∈[a,b,c,d,e,f],BU M s):BU M a/\BU M b/\BU M c/\BU M d/\BU M e/\BU M f:=by
 simp only[List.mem_cons,List.not_mem_nil,or_false,forall_eq_or_imp,forall_eq]at h;exact h
end Go
namespace Go.Sx
def A75 (bn:Int) (bd:Int) (pn:Int) (pd:Int) (dr:Int) (ji:Int) (xs:List (List C)):FuncId->Nat->LoopAnn:=λff ii=>bif Nat.beq ff 137 then(bif Nat.beq ii 1000002 then .on (λsv0=>match sv0.tmps with| .rref kk cc sz i0 of:: .agg [.int _ b1,.int _ b0]::_=>(match sv0.heap[kk]? with|some (.row ee ty vv ys)=> .cut (List (Int×Int)) (λy0=>y0=FO ys i0 b1 b0) (λ_=>[]) (λy0=>[(kk,.row ee ty vv (Ah y0))]) [kk] ([0,1,2,4,5,6,26]++[1000000+kk])|_=> .unroll 0)|_=> .unroll 0)else bif Nat.beq ii 1000004 then .on (λsv0=>match sv0.tmps with| .rref kk cc sz i0 of::_=>(match sv0.heap[kk]? with|some (.row ee ty vv ys)=> .cut (List (Int×Int)) (λy0=>y0=DN ys i0) (λ_=>[]) (λy0=>[(kk,.row ee ty vv (Ah y0))]) [kk] ([0,1,2,4,5,6,26]++[1000000+kk])|_=> .unroll 0)|_=> .unroll 0)else .unroll 9)else bif Nat.beq ii 10 then .inv (Int×List (Int×Int)) (λz=>Q5 bn bd pn pd dr ji xs z.1 z.2) (λz=>[(78,.int .i64 z.1)]) (λz=>[(6,.row [.int .u64,.int .u64,.int .u64,.int .u64] 260 0 (Ah z.2))]) [6] ([0,1,2,3,4,5,6,10,11,12,13,14,15,16,17,19,20,21,22,23,24,49,76,77,78,79,99,137,138,139,140,150]++[1000006]) (λz=>xs.length-z.1.toNat)else bif Nat.beq ii 1000017 then .on (λsv0=>match sv0.tmps.getD 78 .undef with| .int _ kk=> .cut (Nat->Int) (λmm=>TL bn bd pn pd dr (rGet xs kk) mm) (λmm=>[(22,.slit 6 2 [.int .u64 (Ac (mm 0)),.int .u64 (Aa (mm 0)),.int .u64 (Ac (mm 1)),.int .u64 (Aa (mm 1)),.int .u64 (Ac (mm 2)),.int .u64 (Aa (mm 2)),.int .u64 (Ac (mm 3)),.int .u64 (Aa (mm 3)),.int .u64 (Ac (mm 4)),.int .u64 (Aa (mm 4)),.int .u64 (Ac (mm 5)),.int .u64 (Aa (mm 5))])]) (λ_=>[]) [] [0,1,2,3,4,5,6,10,11,12,13,14,15,16,17,19,20,21,22,23,24,49,76,77,78,79,99,137,138,139,140,150]|_=> .unroll 0)else .unroll 9
def Aan (bd:Int) (pd:Int) (ji:Int):Int:=(Ac (iMul bd (iMul pd 65536)*ji))
def Aam (bd:Int) (pd:Int) (ji:Int):Int:=(Aa (iMul bd (iMul pd 65536)*ji))
def AaX (bn:Int) (pd:Int) (xs:List (List C)) (x:Int×List (Int×Int)):Int:=(Ac (iMul (qi 0 (rGet xs x.1)) bn*iMul pd 65536))
def AaW (bn:Int) (pd:Int) (xs:List (List C)) (x:Int×List (Int×Int)):Int:=(Aa (iMul (qi 0 (rGet xs x.1)) bn*iMul pd 65536))
def AaV (bd:Int) (pd:Int) (xs:List (List C)) (x:Int×List (Int×Int)):Int:=(Ac (iMul (qi 1 (rGet xs x.1)) bd*iMul pd 65536))
def AaU (bd:Int) (pd:Int) (xs:List (List C)) (x:Int×List (Int×Int)):Int:=(Aa (iMul (qi 1 (rGet xs x.1)) bd*iMul pd 65536))
def AbL (x_13:List (Int×Int)):List C:=(rGet (Ah x_13) (0+1+1+1+1+1))
def Abb (bd:Int) (pn:Int) (dr:Int):Int:=(Ac (iMul pn bd*iAdd 65536 dr))
def Aba (bd:Int) (pn:Int) (dr:Int):Int:=(Aa (iMul pn bd*iAdd 65536 dr))
def Aa9 (bd:Int) (pn:Int) (dr:Int):Int:=(Ac (iMul pn bd*iSub 65536 dr))
def AaB (bd:Int) (pn:Int) (dr:Int):Int:=(Aa (iMul pn bd*iSub 65536 dr))
def Aa4 (x_11:List (Int×Int)):List C:=(rGet (Ah x_11) (0+1+1+1+1))
def Aa3 (x_9:List (Int×Int)):List C:=(rGet (Ah x_9) (0+1+1+1))
def AbF:List Sh:=[.int .u64,.int .u64,.int .u64,.int .u64]
def Aa2 (x_7:List (Int×Int)):List C:=(rGet (Ah x_7) (0+1+1))
def AbE (x_12:List (Int×Int)):List C:=(rGet (Ah x_12) (0+1+1+1+1+1))
def AbD (x_10:List (Int×Int)):List C:=(rGet (Ah x_10) (0+1+1+1+1))
def Ab7 (x_11:List (Int×Int)):List C:=(rGet (Ah x_11) (0+1+1+1+1+1))
def Aa1 (x_5:List (Int×Int)):List C:=(rGet (Ah x_5) (0+1))
def AbC (x_8:List (Int×Int)):List C:=(rGet (Ah x_8) (0+1+1+1))
def Ab6 (x_9:List (Int×Int)):List C:=(rGet (Ah x_9) (0+1+1+1+1))
def AeI (bn:Int) (bd:Int) (pd:Int) (xs:List (List C)) (x:Int×List (Int×Int)):Int:=(Ac (Af (AaX bn pd xs x) (AaW bn pd xs x)-Af (AaV bd pd xs x) (AaU bd pd xs x)))
def AeH (bn:Int) (bd:Int) (pd:Int) (xs:List (List C)) (x:Int×List (Int×Int)):Int:=(Aa (Af (AaX bn pd xs x) (AaW bn pd xs x)-Af (AaV bd pd xs x) (AaU bd pd xs x)))
def AeG (bn:Int) (bd:Int) (pd:Int) (xs:List (List C)) (x:Int×List (Int×Int)):Int:=(Ac (Af (AaV bd pd xs x) (AaU bd pd xs x)-Af (AaX bn pd xs x) (AaW bn pd xs x)))
def AeF (bn:Int) (bd:Int) (pd:Int) (xs:List (List C)) (x:Int×List (Int×Int)):Int:=(Aa (Af (AaV bd pd xs x) (AaU bd pd xs x)-Af (AaX bn pd xs x) (AaW bn pd xs x)))
def AaA (bd:Int) (pn:Int) (dr:Int):Int:=(Ac (iMul pn bd*dr))
def Aaz (bd:Int) (pn:Int) (dr:Int):Int:=(Aa (iMul pn bd*dr))
def AbB (x_6:List (Int×Int)):List C:=(rGet (Ah x_6) (0+1+1))
def Ab5 (x_7:List (Int×Int)):List C:=(rGet (Ah x_7) (0+1+1+1))
def AeE (x_1:Nat->Int):Int:=(Ac (Af 0 0-Af (Ac (x_1 0)) (Aa (x_1 0))))
def AeD (x_1:Nat->Int):Int:=(Aa (Af 0 0-Af (Ac (x_1 0)) (Aa (x_1 0))))
def AeC (x_1:Nat->Int):Int:=(Ac (Af 0 0-Af (Ac (x_1 1)) (Aa (x_1 1))))
def AeB (x_1:Nat->Int):Int:=(Aa (Af 0 0-Af (Ac (x_1 1)) (Aa (x_1 1))))
def AeA (x_1:Nat->Int):Int:=(Ac (Af 0 0-Af (Ac (x_1 2)) (Aa (x_1 2))))
def Aez (x_1:Nat->Int):Int:=(Aa (Af 0 0-Af (Ac (x_1 2)) (Aa (x_1 2))))
def Aey (x_1:Nat->Int):Int:=(Ac (Af 0 0-Af (Ac (x_1 3)) (Aa (x_1 3))))
def Aex (x_1:Nat->Int):Int:=(Aa (Af 0 0-Af (Ac (x_1 3)) (Aa (x_1 3))))
def Aew (x_1:Nat->Int):Int:=(Ac (Af 0 0-Af (Ac (x_1 4)) (Aa (x_1 4))))
def Aev (x_1:Nat->Int):Int:=(Aa (Af 0 0-Af (Ac (x_1 4)) (Aa (x_1 4))))
def Aeu (x_1:Nat->Int):Int:=(Ac (Af 0 0-Af (Ac (x_1 5)) (Aa (x_1 5))))
def Aet (x_1:Nat->Int):Int:=(Aa (Af 0 0-Af (Ac (x_1 5)) (Aa (x_1 5))))
def Ab4 (x_5:List (Int×Int)):List C:=(rGet (Ah x_5) (0+1+1))
def AbA (x_4:List (Int×Int)):List C:=(rGet (Ah x_4) (0+1))
def Aa0 (x_3:List (Int×Int)):List C:=(rGet (Ah x_3) 0)
def Ab3 (x_3:List (Int×Int)):List C:=(rGet (Ah x_3) (0+1))
theorem v75 (bn:Int) (bd:Int) (pn:Int) (pd:Int) (dr:Int) (ji:Int) (xs:List (List C)):InR .i64 bn/\InR .i64 bd/\InR .i64 pn/\InR .i64 pd/\InR .i64 dr/\InR .i64 ji/\WL hII xs->True/\True/\Cn (bNot (Ai bn bd)) (false=CB bn bd pn pd dr ji xs) (Cn (bLt 768000 bn) (false=CB bn bd pn pd dr ji xs) (Cn (bLt 768000 bd) (false=CB bn bd pn pd dr ji xs) (True/\True/\Cn (bNot (Bq pn pd dr ji)) (false=CB bn bd pn pd dr ji xs) (pLe (iLen xs) 9223372036854775807->Cn (bLt 256 (iLen xs)) (false=CB bn bd pn pd dr ji xs) (InR .i64 (iMul pd 65536)/\InR .i64 (iMul pn bd)/\InR .i64 (iMul bd (iMul pd 65536))/\(0<=iMul bd (iMul pd 65536)/\0<=ji)/\(InR .u64 (Aan bd pd ji)/\InR .u64 (Aam bd pd ji)->InR .i64 (iAdd 65536 dr)/\(0<=iMul pn bd/\0<=iAdd 65536 dr)/\(InR .u64 (Abb bd pn dr)/\InR .u64 (Aba bd pn dr)->InR .i64 (iSub 65536 dr)/\(0<=iMul pn bd/\0<=iSub 65536 dr)/\(InR .u64 (Aa9 bd pn dr)/\InR .u64 (AaB bd pn dr)->(0<=iMul pn bd/\0<=dr)/\(InR .u64 (AaA bd pn dr)/\InR .u64 (Aaz bd pn dr)->(pLe 0 6/\pLe 6 6/\Aar 32 6)/\(pLe (iLen xs) 9223372036854775807->(∃(x:Int×List (Int×Int)),Q5 bn bd pn pd dr ji xs x.1 x.2/\0=x.1/\List.replicate (Int.toNat 6) [C.i 0,C.i 0,C.i 0,C.i 0]=Ah x.2)/\∀(x:Int×List (Int×Int)),Q5 bn bd pn pd dr ji xs x.1 x.2->InR .i64 x.1/\WL AbF (Ah x.2)->Cn (bLt x.1 (iLen xs)) (pIn 0 (iLen xs) x.1/\(InR .i64 (qi 0 (rGet xs x.1))/\InR .i64 (qi 1 (rGet xs x.1))->Cn (bLt (qi 0 (rGet xs x.1)) 0) (false=CB bn bd pn pd dr ji xs) (Cn (bLt 65536 (qi 0 (rGet xs x.1))) (false=CB bn bd pn pd dr ji xs) (Cn (bLt (qi 1 (rGet xs x.1)) 0) (false=CB bn bd pn pd dr ji xs) (Cn (bLt 65536 (qi 1 (rGet xs x.1))) (false=CB bn bd pn pd dr ji xs) (InR .i64 (iMul (qi 0 (rGet xs x.1)) bn)/\(0<=iMul (qi 0 (rGet xs x.1)) bn/\0<=iMul pd 65536)/\(InR .u64 (AaX bn pd xs x)/\InR .u64 (AaW bn pd xs x)->InR .i64 (iMul (qi 1 (rGet xs x.1)) bd)/\(0<=iMul (qi 1 (rGet xs x.1)) bd/\0<=iMul pd 65536)/\(InR .u64 (AaV bd pd xs x)/\InR .u64 (AaU bd pd xs x)->(True/\(InR .u64 (Ac (Af (AaX bn pd xs x) (AaW bn pd xs x)-Af (Abb bd pn dr) (Aba bd pn dr)))/\InR .u64 (Aa (Af (AaX bn pd xs x) (AaW bn pd xs x)-Af (Abb bd pn dr) (Aba bd pn dr)))->True/\(InR .u64 (Ac (Af (Aa9 bd pn dr) (AaB bd pn dr)-Af (AaX bn pd xs x) (AaW bn pd xs x)))/\InR .u64 (Aa (Af (Aa9 bd pn dr) (AaB bd pn dr)-Af (AaX bn pd xs x) (AaW bn pd xs x)))->True/\(InR .u64 (Ac (Af (AaV bd pd xs x) (AaU bd pd xs x)-Af (Abb bd pn dr) (Aba bd pn dr)))/\InR .u64 (Aa (Af (AaV bd pd xs x) (AaU bd pd xs x)-Af (Abb bd pn dr) (Aba bd pn dr)))->True/\(InR .u64 (Ac (Af (Aa9 bd pn dr) (AaB bd pn dr)-Af (AaV bd pd xs x) (AaU bd pd xs x)))/\InR .u64 (Aa (Af (Aa9 bd pn dr) (AaB bd pn dr)-Af (AaV bd pd xs x) (AaU bd pd xs x)))->True/\(InR .u64 (AeI bn bd pd xs x)/\InR .u64 (AeH bn bd pd xs x)->True/\(InR .u64 (Ac (Af (AeI bn bd pd xs x) (AeH bn bd pd xs x)-Af (AaA bd pn dr) (Aaz bd pn dr)))/\InR .u64 (Aa (Af (AeI bn bd pd xs x) (AeH bn bd pd xs x)-Af (AaA bd pn dr) (Aaz bd pn dr)))->True/\(InR .u64 (AeG bn bd pd xs x)/\InR .u64 (AeF bn bd pd xs x)->True/\(InR .u64 (Ac (Af (AeG bn bd pd xs x) (AeF bn bd pd xs x)-Af (AaA bd pn dr) (Aaz bd pn dr)))/\InR .u64 (Aa (Af (AeG bn bd pd xs x) (AeF bn bd pd xs x)-Af (AaA bd pn dr) (Aaz bd pn dr)))->Sm [C.i bn,C.i bd]/\Sm [C.i pn,C.i pd]/\Sm dr/\Sm ji/\Sm xs/\Sm (iMul pd 65536)/\Sm (iMul pn bd)/\Sm xs/\Sm (iLen xs)/\Sm x.1/\Sm [C.i bn,C.i bd]/\Sm [C.i pn,C.i pd]/\Sm [C.i (Aan bd pd ji),C.i (Aam bd pd ji)]/\Sm [C.i (Abb bd pn dr),C.i (Aba bd pn dr)]/\Sm [C.i (Aa9 bd pn dr),C.i (AaB bd pn dr)]/\Sm [C.i (AaA bd pn dr),C.i (Aaz bd pn dr)]/\Sm (Ah x.2)/\Sm (sg 0 [0,0] (rGet xs x.1))/\Sm [C.i (AaX bn pd xs x),C.i (AaW bn pd xs x)]/\Sm [C.i (AaV bd pd xs x),C.i (AaU bd pd xs x)]/\∃(y:Nat->Int),TL bn bd pn pd dr (rGet xs x.1) y/\Ac (Af (AaX bn pd xs x) (AaW bn pd xs x)-Af (Abb bd pn dr) (Aba bd pn dr))=Ac (y 0)/\Aa (Af (AaX bn pd xs x) (AaW bn pd xs x)-Af (Abb bd pn dr) (Aba bd pn dr))=Aa (y 0)/\Ac (Af (Aa9 bd pn dr) (AaB bd pn dr)-Af (AaX bn pd xs x) (AaW bn pd xs x))=Ac (y 1)/\Aa (Af (Aa9 bd pn dr) (AaB bd pn dr)-Af (AaX bn pd xs x) (AaW bn pd xs x))=Aa (y 1)/\Ac (Af (AaV bd pd xs x) (AaU bd pd xs x)-Af (Abb bd pn dr) (Aba bd pn dr))=Ac (y 2)/\Aa (Af (AaV bd pd xs x) (AaU bd pd xs x)-Af (Abb bd pn dr) (Aba bd pn dr))=Aa (y 2)/\Ac (Af (Aa9 bd pn dr) (AaB bd pn dr)-Af (AaV bd pd xs x) (AaU bd pd xs x))=Ac (y 3)/\Aa (Af (Aa9 bd pn dr) (AaB bd pn dr)-Af (AaV bd pd xs x) (AaU bd pd xs x))=Aa (y 3)/\Ac (Af (AeI bn bd pd xs x) (AeH bn bd pd xs x)-Af (AaA bd pn dr) (Aaz bd pn dr))=Ac (y 4)/\Aa (Af (AeI bn bd pd xs x) (AeH bn bd pd xs x)-Af (AaA bd pn dr) (Aaz bd pn dr))=Aa (y 4)/\Ac (Af (AeG bn bd pd xs x) (AeF bn bd pd xs x)-Af (AaA bd pn dr) (Aaz bd pn dr))=Ac (y 5)/\Aa (Af (AeG bn bd pd xs x) (AeF bn bd pd xs x)-Af (AaA bd pn dr) (Aaz bd pn dr))=Aa (y 5))))))))))/\∀(x_1:Nat->Int),TL bn bd pn pd dr (rGet xs x.1) x_1->6<=16777216/\InR .u64 (Ac (x_1 0))/\InR .u64 (Aa (x_1 0))/\InR .u64 (Ac (x_1 1))/\InR .u64 (Aa (x_1 1))/\InR .u64 (Ac (x_1 2))/\InR .u64 (Aa (x_1 2))/\InR .u64 (Ac (x_1 3))/\InR .u64 (Aa (x_1 3))/\InR .u64 (Ac (x_1 4))/\InR .u64 (Aa (x_1 4))/\InR .u64 (Ac (x_1 5))/\InR .u64 (Aa (x_1 5))->InR .u64 (Ac (x_1 0))/\InR .u64 (Aa (x_1 0))->pIn 0 (iLen (Ah x.2)) 0/\(InR .u64 (qi 0 (rGet (Ah x.2) 0))/\InR .u64 (qi 1 (rGet (Ah x.2) 0))->True/\(InR .u64 (AeE x_1)/\InR .u64 (AeD x_1)->True/\(InR .u64 (Ac (Af (qi 0 (rGet (Ah x.2) 0)) (qi 1 (rGet (Ah x.2) 0))-Af (AeE x_1) (AeD x_1)))/\InR .u64 (Aa (Af (qi 0 (rGet (Ah x.2) 0)) (qi 1 (rGet (Ah x.2) 0))-Af (AeE x_1) (AeD x_1)))->Sm (SV.rref 6 0 4 0 0)/\Sm [C.i (Ac (x_1 0)),C.i (Aa (x_1 0))]/\Sm [C.i (Aan bd pd ji),C.i (Aam bd pd ji)]/\Sm [C.i bn,C.i bd]/\Sm [C.i pn,C.i pd]/\Sm [C.i (Aan bd pd ji),C.i (Aam bd pd ji)]/\Sm [C.i (Abb bd pn dr),C.i (Aba bd pn dr)]/\Sm [C.i (Aa9 bd pn dr),C.i (AaB bd pn dr)]/\Sm [C.i (AaA bd pn dr),C.i (Aaz bd pn dr)]/\Sm (sg 0 [0,0] (rGet xs x.1))/\Sm [C.i (AaX bn pd xs x),C.i (AaW bn pd xs x)]/\Sm [C.i (AaV bd pd xs x),C.i (AaU bd pd xs x)]/\Sm [C.i (Ac (x_1 0)),C.i (Aa (x_1 0))]/\Sm [C.i (Ac (x_1 0)),C.i (Aa (x_1 0))]/\Sm [C.i (Aan bd pd ji),C.i (Aam bd pd ji)]/\∃(y:List (Int×Int)),y=FO (Ah x.2) 0 (Ac (x_1 0)) (Aa (x_1 0))/\rSet (Ah x.2) 0 (C.i (Ac (Af (qi 0 (rGet (Ah x.2) 0)) (qi 1 (rGet (Ah x.2) 0))-Af (AeE x_1) (AeD x_1)))::C.i (Aa (Af (qi 0 (rGet (Ah x.2) 0)) (qi 1 (rGet (Ah x.2) 0))-Af (AeE x_1) (AeD x_1)))::sg 2 [0,0] (rGet (Ah x.2) 0))=Ah y)))/\∀(x_2:List (Int×Int)),x_2=FO (Ah x.2) 0 (Ac (x_1 0)) (Aa (x_1 0))->WL AbF (Ah x_2)->(InR .u64 (qi 0 (rGet (Ah x_2) 0))/\InR .u64 (qi 1 (rGet (Ah x_2) 0))->InR .u64 (qi 2 (rGet (Ah x_2) 0))/\InR .u64 (qi 3 (rGet (Ah x_2) 0))->True/\Cn (decide (BF (qi 0 (rGet (Ah x_2) 0)) (qi 1 (rGet (Ah x_2) 0))<BF (qi 2 (rGet (Ah x_2) 0)) (qi 3 (rGet (Ah x_2) 0)))) (InR .u64 (qi 0 (rGet (Ah x_2) 0))/\InR .u64 (qi 1 (rGet (Ah x_2) 0))->Sm (SV.rref 6 0 4 0 0)/\Sm [C.i (Ac (x_1 0)),C.i (Aa (x_1 0))]/\Sm [C.i (Aan bd pd ji),C.i (Aam bd pd ji)]/\Sm [C.i bn,C.i bd]/\Sm [C.i pn,C.i pd]/\Sm [C.i (Aan bd pd ji),C.i (Aam bd pd ji)]/\Sm [C.i (Abb bd pn dr),C.i (Aba bd pn dr)]/\Sm [C.i (Aa9 bd pn dr),C.i (AaB bd pn dr)]/\Sm [C.i (AaA bd pn dr),C.i (Aaz bd pn dr)]/\Sm (sg 0 [0,0] (rGet xs x.1))/\Sm [C.i (AaX bn pd xs x),C.i (AaW bn pd xs x)]/\Sm [C.i (AaV bd pd xs x),C.i (AaU bd pd xs x)]/\Sm [C.i (Ac (x_1 0)),C.i (Aa (x_1 0))]/\Sm [C.i (Ac (x_1 0)),C.i (Aa (x_1 0))]/\Sm [C.i (Aan bd pd ji),C.i (Aam bd pd ji)]/\∃(y:List (Int×Int)),y=DN (Ah x_2) 0/\rSet (Ah x_2) 0 (C.i (qi 0 (rGet (Ah x_2) 0))::C.i (qi 1 (rGet (Ah x_2) 0))::sg 0 [0,0] (rGet (Ah x_2) 0))=Ah y) (Sm (SV.rref 6 0 4 0 0)/\Sm [C.i (Ac (x_1 0)),C.i (Aa (x_1 0))]/\Sm [C.i (Aan bd pd ji),C.i (Aam bd pd ji)]/\Sm [C.i bn,C.i bd]/\Sm [C.i pn,C.i pd]/\Sm [C.i (Aan bd pd ji),C.i (Aam bd pd ji)]/\Sm [C.i (Abb bd pn dr),C.i (Aba bd pn dr)]/\Sm [C.i (Aa9 bd pn dr),C.i (AaB bd pn dr)]/\Sm [C.i (AaA bd pn dr),C.i (Aaz bd pn dr)]/\Sm (sg 0 [0,0] (rGet xs x.1))/\Sm [C.i (AaX bn pd xs x),C.i (AaW bn pd xs x)]/\Sm [C.i (AaV bd pd xs x),C.i (AaU bd pd xs x)]/\Sm [C.i (Ac (x_1 0)),C.i (Aa (x_1 0))]/\Sm [C.i (Ac (x_1 0)),C.i (Aa (x_1 0))]/\Sm [C.i (Aan bd pd ji),C.i (Aam bd pd ji)]/\∃(y:List (Int×Int)),y=DN (Ah x_2) 0/\Ah x_2=Ah y))/\∀(x_3:List (Int×Int)),x_3=DN (Ah x_2) 0->WL AbF (Ah x_3)->InR .u64 (qi 0 (Aa0 x_3))/\InR .u64 (qi 1 (Aa0 x_3))->InR .u64 (qi 2 (Aa0 x_3))/\InR .u64 (qi 3 (Aa0 x_3))->True/\(InR .u64 (Ac (Af (qi 0 (Aa0 x_3)) (qi 1 (Aa0 x_3))-Af (qi 2 (Aa0 x_3)) (qi 3 (Aa0 x_3))))/\InR .u64 (Aa (Af (qi 0 (Aa0 x_3)) (qi 1 (Aa0 x_3))-Af (qi 2 (Aa0 x_3)) (qi 3 (Aa0 x_3))))->True/\True/\True/\Cn (bNot (bNot (decide (BF (Aan bd pd ji) (Aam bd pd ji)<BF (Ac (Af (qi 0 (Aa0 x_3)) (qi 1 (Aa0 x_3))-Af (qi 2 (Aa0 x_3)) (qi 3 (Aa0 x_3)))) (Aa (Af (qi 0 (Aa0 x_3)) (qi 1 (Aa0 x_3))-Af (qi 2 (Aa0 x_3)) (qi 3 (Aa0 x_3)))))))) (false=CB bn bd pn pd dr ji xs) (InR .u64 (Ac (x_1 1))/\InR .u64 (Aa (x_1 1))->pIn 0 (iLen (Ah x_3)) (0+1)/\(InR .u64 (qi 0 (Ab3 x_3))/\InR .u64 (qi 1 (Ab3 x_3))->True/\(InR .u64 (AeC x_1)/\InR .u64 (AeB x_1)->True/\(InR .u64 (Ac (Af (qi 0 (Ab3 x_3)) (qi 1 (Ab3 x_3))-Af (AeC x_1) (AeB x_1)))/\InR .u64 (Aa (Af (qi 0 (Ab3 x_3)) (qi 1 (Ab3 x_3))-Af (AeC x_1) (AeB x_1)))->Sm (SV.rref 6 0 4 (0+1) 0)/\Sm [C.i (Ac (x_1 1)),C.i (Aa (x_1 1))]/\Sm [C.i (Aan bd pd ji),C.i (Aam bd pd ji)]/\Sm [C.i bn,C.i bd]/\Sm [C.i pn,C.i pd]/\Sm [C.i (Aan bd pd ji),C.i (Aam bd pd ji)]/\Sm [C.i (Abb bd pn dr),C.i (Aba bd pn dr)]/\Sm [C.i (Aa9 bd pn dr),C.i (AaB bd pn dr)]/\Sm [C.i (AaA bd pn dr),C.i (Aaz bd pn dr)]/\Sm (sg 0 [0,0] (rGet xs x.1))/\Sm [C.i (AaX bn pd xs x),C.i (AaW bn pd xs x)]/\Sm [C.i (AaV bd pd xs x),C.i (AaU bd pd xs x)]/\Sm [C.i (Ac (x_1 0)),C.i (Aa (x_1 0))]/\Sm [C.i (Ac (x_1 0)),C.i (Aa (x_1 0))]/\Sm [C.i (Aan bd pd ji),C.i (Aam bd pd ji)]/\Sm [C.i (Ac (x_1 1)),C.i (Aa (x_1 1))]/\Sm [C.i (Ac (x_1 1)),C.i (Aa (x_1 1))]/\Sm [C.i (Aan bd pd ji),C.i (Aam bd pd ji)]/\∃(y:List (Int×Int)),y=FO (Ah x_3) (0+1) (Ac (x_1 1)) (Aa (x_1 1))/\rSet (Ah x_3) (0+1) (C.i (Ac (Af (qi 0 (Ab3 x_3)) (qi 1 (Ab3 x_3))-Af (AeC x_1) (AeB x_1)))::C.i (Aa (Af (qi 0 (Ab3 x_3)) (qi 1 (Ab3 x_3))-Af (AeC x_1) (AeB x_1)))::sg 2 [0,0] (Ab3 x_3))=Ah y)))/\∀(x_4:List (Int×Int)),x_4=FO (Ah x_3) (0+1) (Ac (x_1 1)) (Aa (x_1 1))->WL AbF (Ah x_4)->(InR .u64 (qi 0 (AbA x_4))/\InR .u64 (qi 1 (AbA x_4))->InR .u64 (qi 2 (AbA x_4))/\InR .u64 (qi 3 (AbA x_4))->True/\Cn (decide (BF (qi 0 (AbA x_4)) (qi 1 (AbA x_4))<BF (qi 2 (AbA x_4)) (qi 3 (AbA x_4)))) (InR .u64 (qi 0 (AbA x_4))/\InR .u64 (qi 1 (AbA x_4))->Sm (SV.rref 6 0 4 (0+1) 0)/\Sm [C.i (Ac (x_1 1)),C.i (Aa (x_1 1))]/\Sm [C.i (Aan bd pd ji),C.i (Aam bd pd ji)]/\Sm [C.i bn,C.i bd]/\Sm [C.i pn,C.i pd]/\Sm [C.i (Aan bd pd ji),C.i (Aam bd pd ji)]/\Sm [C.i (Abb bd pn dr),C.i (Aba bd pn dr)]/\Sm [C.i (Aa9 bd pn dr),C.i (AaB bd pn dr)]/\Sm [C.i (AaA bd pn dr),C.i (Aaz bd pn dr)]/\Sm (sg 0 [0,0] (rGet xs x.1))/\Sm [C.i (AaX bn pd xs x),C.i (AaW bn pd xs x)]/\Sm [C.i (AaV bd pd xs x),C.i (AaU bd pd xs x)]/\Sm [C.i (Ac (x_1 0)),C.i (Aa (x_1 0))]/\Sm [C.i (Ac (x_1 0)),C.i (Aa (x_1 0))]/\Sm [C.i (Aan bd pd ji),C.i (Aam bd pd ji)]/\Sm [C.i (Ac (x_1 1)),C.i (Aa (x_1 1))]/\Sm [C.i (Ac (x_1 1)),C.i (Aa (x_1 1))]/\Sm [C.i (Aan bd pd ji),C.i (Aam bd pd ji)]/\∃(y:List (Int×Int)),y=DN (Ah x_4) (0+1)/\rSet (Ah x_4) (0+1) (C.i (qi 0 (AbA x_4))::C.i (qi 1 (AbA x_4))::sg 0 [0,0] (AbA x_4))=Ah y) (Sm (SV.rref 6 0 4 (0+1) 0)/\Sm [C.i (Ac (x_1 1)),C.i (Aa (x_1 1))]/\Sm [C.i (Aan bd pd ji),C.i (Aam bd pd ji)]/\Sm [C.i bn,C.i bd]/\Sm [C.i pn,C.i pd]/\Sm [C.i (Aan bd pd ji),C.i (Aam bd pd ji)]/\Sm [C.i (Abb bd pn dr),C.i (Aba bd pn dr)]/\Sm [C.i (Aa9 bd pn dr),C.i (AaB bd pn dr)]/\Sm [C.i (AaA bd pn dr),C.i (Aaz bd pn dr)]/\Sm (sg 0 [0,0] (rGet xs x.1))/\Sm [C.i (AaX bn pd xs x),C.i (AaW bn pd xs x)]/\Sm [C.i (AaV bd pd xs x),C.i (AaU bd pd xs x)]/\Sm [C.i (Ac (x_1 0)),C.i (Aa (x_1 0))]/\Sm [C.i (Ac (x_1 0)),C.i (Aa (x_1 0))]/\Sm [C.i (Aan bd pd ji),C.i (Aam bd pd ji)]/\Sm [C.i (Ac (x_1 1)),C.i (Aa (x_1 1))]/\Sm [C.i (Ac (x_1 1)),C.i (Aa (x_1 1))]/\Sm [C.i (Aan bd pd ji),C.i (Aam bd pd ji)]/\∃(y:List (Int×Int)),y=DN (Ah x_4) (0+1)/\Ah x_4=Ah y))/\∀(x_5:List (Int×Int)),x_5=DN (Ah x_4) (0+1)->WL AbF (Ah x_5)->InR .u64 (qi 0 (Aa1 x_5))/\InR .u64 (qi 1 (Aa1 x_5))->InR .u64 (qi 2 (Aa1 x_5))/\InR .u64 (qi 3 (Aa1 x_5))->True/\(InR .u64 (Ac (Af (qi 0 (Aa1 x_5)) (qi 1 (Aa1 x_5))-Af (qi 2 (Aa1 x_5)) (qi 3 (Aa1 x_5))))/\InR .u64 (Aa (Af (qi 0 (Aa1 x_5)) (qi 1 (Aa1 x_5))-Af (qi 2 (Aa1 x_5)) (qi 3 (Aa1 x_5))))->True/\True/\True/\Cn (bNot (bNot (decide (BF (Aan bd pd ji) (Aam bd pd ji)<BF (Ac (Af (qi 0 (Aa1 x_5)) (qi 1 (Aa1 x_5))-Af (qi 2 (Aa1 x_5)) (qi 3 (Aa1 x_5)))) (Aa (Af (qi 0 (Aa1 x_5)) (qi 1 (Aa1 x_5))-Af (qi 2 (Aa1 x_5)) (qi 3 (Aa1 x_5)))))))) (false=CB bn bd pn pd dr ji xs) (InR .u64 (Ac (x_1 2))/\InR .u64 (Aa (x_1 2))->pIn 0 (iLen (Ah x_5)) (0+1+1)/\(InR .u64 (qi 0 (Ab4 x_5))/\InR .u64 (qi 1 (Ab4 x_5))->True/\(InR .u64 (AeA x_1)/\InR .u64 (Aez x_1)->True/\(InR .u64 (Ac (Af (qi 0 (Ab4 x_5)) (qi 1 (Ab4 x_5))-Af (AeA x_1) (Aez x_1)))/\InR .u64 (Aa (Af (qi 0 (Ab4 x_5)) (qi 1 (Ab4 x_5))-Af (AeA x_1) (Aez x_1)))->Sm (SV.rref 6 0 4 (0+1+1) 0)/\Sm [C.i (Ac (x_1 2)),C.i (Aa (x_1 2))]/\Sm [C.i (Aan bd pd ji),C.i (Aam bd pd ji)]/\Sm [C.i bn,C.i bd]/\Sm [C.i pn,C.i pd]/\Sm [C.i (Aan bd pd ji),C.i (Aam bd pd ji)]/\Sm [C.i (Abb bd pn dr),C.i (Aba bd pn dr)]/\Sm [C.i (Aa9 bd pn dr),C.i (AaB bd pn dr)]/\Sm [C.i (AaA bd pn dr),C.i (Aaz bd pn dr)]/\Sm (sg 0 [0,0] (rGet xs x.1))/\Sm [C.i (AaX bn pd xs x),C.i (AaW bn pd xs x)]/\Sm [C.i (AaV bd pd xs x),C.i (AaU bd pd xs x)]/\Sm [C.i (Ac (x_1 0)),C.i (Aa (x_1 0))]/\Sm [C.i (Ac (x_1 0)),C.i (Aa (x_1 0))]/\Sm [C.i (Aan bd pd ji),C.i (Aam bd pd ji)]/\Sm [C.i (Ac (x_1 1)),C.i (Aa (x_1 1))]/\Sm [C.i (Ac (x_1 1)),C.i (Aa (x_1 1))]/\Sm [C.i (Aan bd pd ji),C.i (Aam bd pd ji)]/\Sm [C.i (Ac (x_1 2)),C.i (Aa (x_1 2))]/\Sm [C.i (Ac (x_1 2)),C.i (Aa (x_1 2))]/\Sm [C.i (Aan bd pd ji),C.i (Aam bd pd ji)]/\∃(y:List (Int×Int)),y=FO (Ah x_5) (0+1+1) (Ac (x_1 2)) (Aa (x_1 2))/\rSet (Ah x_5) (0+1+1) (C.i (Ac (Af (qi 0 (Ab4 x_5)) (qi 1 (Ab4 x_5))-Af (AeA x_1) (Aez x_1)))::C.i (Aa (Af (qi 0 (Ab4 x_5)) (qi 1 (Ab4 x_5))-Af (AeA x_1) (Aez x_1)))::sg 2 [0,0] (Ab4 x_5))=Ah y)))/\∀(x_6:List (Int×Int)),x_6=FO (Ah x_5) (0+1+1) (Ac (x_1 2)) (Aa (x_1 2))->WL AbF (Ah x_6)->(InR .u64 (qi 0 (AbB x_6))/\InR .u64 (qi 1 (AbB x_6))->InR .u64 (qi 2 (AbB x_6))/\InR .u64 (qi 3 (AbB x_6))->True/\Cn (decide (BF (qi 0 (AbB x_6)) (qi 1 (AbB x_6))<BF (qi 2 (AbB x_6)) (qi 3 (AbB x_6)))) (InR .u64 (qi 0 (AbB x_6))/\InR .u64 (qi 1 (AbB x_6))->Sm (SV.rref 6 0 4 (0+1+1) 0)/\Sm [C.i (Ac (x_1 2)),C.i (Aa (x_1 2))]/\Sm [C.i (Aan bd pd ji),C.i (Aam bd pd ji)]/\Sm [C.i bn,C.i bd]/\Sm [C.i pn,C.i pd]/\Sm [C.i (Aan bd pd ji),C.i (Aam bd pd ji)]/\Sm [C.i (Abb bd pn dr),C.i (Aba bd pn dr)]/\Sm [C.i (Aa9 bd pn dr),C.i (AaB bd pn dr)]/\Sm [C.i (AaA bd pn dr),C.i (Aaz bd pn dr)]/\Sm (sg 0 [0,0] (rGet xs x.1))/\Sm [C.i (AaX bn pd xs x),C.i (AaW bn pd xs x)]/\Sm [C.i (AaV bd pd xs x),C.i (AaU bd pd xs x)]/\Sm [C.i (Ac (x_1 0)),C.i (Aa (x_1 0))]/\Sm [C.i (Ac (x_1 0)),C.i (Aa (x_1 0))]/\Sm [C.i (Aan bd pd ji),C.i (Aam bd pd ji)]/\Sm [C.i (Ac (x_1 1)),C.i (Aa (x_1 1))]/\Sm [C.i (Ac (x_1 1)),C.i (Aa (x_1 1))]/\Sm [C.i (Aan bd pd ji),C.i (Aam bd pd ji)]/\Sm [C.i (Ac (x_1 2)),C.i (Aa (x_1 2))]/\Sm [C.i (Ac (x_1 2)),C.i (Aa (x_1 2))]/\Sm [C.i (Aan bd pd ji),C.i (Aam bd pd ji)]/\∃(y:List (Int×Int)),y=DN (Ah x_6) (0+1+1)/\rSet (Ah x_6) (0+1+1) (C.i (qi 0 (AbB x_6))::C.i (qi 1 (AbB x_6))::sg 0 [0,0] (AbB x_6))=Ah y) (Sm (SV.rref 6 0 4 (0+1+1) 0)/\Sm [C.i (Ac (x_1 2)),C.i (Aa (x_1 2))]/\Sm [C.i (Aan bd pd ji),C.i (Aam bd pd ji)]/\Sm [C.i bn,C.i bd]/\Sm [C.i pn,C.i pd]/\Sm [C.i (Aan bd pd ji),C.i (Aam bd pd ji)]/\Sm [C.i (Abb bd pn dr),C.i (Aba bd pn dr)]/\Sm [C.i (Aa9 bd pn dr),C.i (AaB bd pn dr)]/\Sm [C.i (AaA bd pn dr),C.i (Aaz bd pn dr)]/\Sm (sg 0 [0,0] (rGet xs x.1))/\Sm [C.i (AaX bn pd xs x),C.i (AaW bn pd xs x)]/\Sm [C.i (AaV bd pd xs x),C.i (AaU bd pd xs x)]/\Sm [C.i (Ac (x_1 0)),C.i (Aa (x_1 0))]/\Sm [C.i (Ac (x_1 0)),C.i (Aa (x_1 0))]/\Sm [C.i (Aan bd pd ji),C.i (Aam bd pd ji)]/\Sm [C.i (Ac (x_1 1)),C.i (Aa (x_1 1))]/\Sm [C.i (Ac (x_1 1)),C.i (Aa (x_1 1))]/\Sm [C.i (Aan bd pd ji),C.i (Aam bd pd ji)]/\Sm [C.i (Ac (x_1 2)),C.i (Aa (x_1 2))]/\Sm [C.i (Ac (x_1 2)),C.i (Aa (x_1 2))]/\Sm [C.i (Aan bd pd ji),C.i (Aam bd pd ji)]/\∃(y:List (Int×Int)),y=DN (Ah x_6) (0+1+1)/\Ah x_6=Ah y))/\∀(x_7:List (Int×Int)),x_7=DN (Ah x_6) (0+1+1)->WL AbF (Ah x_7)->InR .u64 (qi 0 (Aa2 x_7))/\InR .u64 (qi 1 (Aa2 x_7))->InR .u64 (qi 2 (Aa2 x_7))/\InR .u64 (qi 3 (Aa2 x_7))->True/\(InR .u64 (Ac (Af (qi 0 (Aa2 x_7)) (qi 1 (Aa2 x_7))-Af (qi 2 (Aa2 x_7)) (qi 3 (Aa2 x_7))))/\InR .u64 (Aa (Af (qi 0 (Aa2 x_7)) (qi 1 (Aa2 x_7))-Af (qi 2 (Aa2 x_7)) (qi 3 (Aa2 x_7))))->True/\True/\True/\Cn (bNot (bNot (decide (BF (Aan bd pd ji) (Aam bd pd ji)<BF (Ac (Af (qi 0 (Aa2 x_7)) (qi 1 (Aa2 x_7))-Af (qi 2 (Aa2 x_7)) (qi 3 (Aa2 x_7)))) (Aa (Af (qi 0 (Aa2 x_7)) (qi 1 (Aa2 x_7))-Af (qi 2 (Aa2 x_7)) (qi 3 (Aa2 x_7)))))))) (false=CB bn bd pn pd dr ji xs) (InR .u64 (Ac (x_1 3))/\InR .u64 (Aa (x_1 3))->pIn 0 (iLen (Ah x_7)) (0+1+1+1)/\(InR .u64 (qi 0 (Ab5 x_7))/\InR .u64 (qi 1 (Ab5 x_7))->True/\(InR .u64 (Aey x_1)/\InR .u64 (Aex x_1)->True/\(InR .u64 (Ac (Af (qi 0 (Ab5 x_7)) (qi 1 (Ab5 x_7))-Af (Aey x_1) (Aex x_1)))/\InR .u64 (Aa (Af (qi 0 (Ab5 x_7)) (qi 1 (Ab5 x_7))-Af (Aey x_1) (Aex x_1)))->Sm (SV.rref 6 0 4 (0+1+1+1) 0)/\Sm [C.i (Ac (x_1 3)),C.i (Aa (x_1 3))]/\Sm [C.i (Aan bd pd ji),C.i (Aam bd pd ji)]/\Sm [C.i bn,C.i bd]/\Sm [C.i pn,C.i pd]/\Sm [C.i (Aan bd pd ji),C.i (Aam bd pd ji)]/\Sm [C.i (Abb bd pn dr),C.i (Aba bd pn dr)]/\Sm [C.i (Aa9 bd pn dr),C.i (AaB bd pn dr)]/\Sm [C.i (AaA bd pn dr),C.i (Aaz bd pn dr)]/\Sm (sg 0 [0,0] (rGet xs x.1))/\Sm [C.i (AaX bn pd xs x),C.i (AaW bn pd xs x)]/\Sm [C.i (AaV bd pd xs x),C.i (AaU bd pd xs x)]/\Sm [C.i (Ac (x_1 0)),C.i (Aa (x_1 0))]/\Sm [C.i (Ac (x_1 0)),C.i (Aa (x_1 0))]/\Sm [C.i (Aan bd pd ji),C.i (Aam bd pd ji)]/\Sm [C.i (Ac (x_1 1)),C.i (Aa (x_1 1))]/\Sm [C.i (Ac (x_1 1)),C.i (Aa (x_1 1))]/\Sm [C.i (Aan bd pd ji),C.i (Aam bd pd ji)]/\Sm [C.i (Ac (x_1 2)),C.i (Aa (x_1 2))]/\Sm [C.i (Ac (x_1 2)),C.i (Aa (x_1 2))]/\Sm [C.i (Aan bd pd ji),C.i (Aam bd pd ji)]/\Sm [C.i (Ac (x_1 3)),C.i (Aa (x_1 3))]/\Sm [C.i (Ac (x_1 3)),C.i (Aa (x_1 3))]/\Sm [C.i (Aan bd pd ji),C.i (Aam bd pd ji)]/\∃(y:List (Int×Int)),y=FO (Ah x_7) (0+1+1+1) (Ac (x_1 3)) (Aa (x_1 3))/\rSet (Ah x_7) (0+1+1+1) (C.i (Ac (Af (qi 0 (Ab5 x_7)) (qi 1 (Ab5 x_7))-Af (Aey x_1) (Aex x_1)))::C.i (Aa (Af (qi 0 (Ab5 x_7)) (qi 1 (Ab5 x_7))-Af (Aey x_1) (Aex x_1)))::sg 2 [0,0] (Ab5 x_7))=Ah y)))/\∀(x_8:List (Int×Int)),x_8=FO (Ah x_7) (0+1+1+1) (Ac (x_1 3)) (Aa (x_1 3))->WL AbF (Ah x_8)->(InR .u64 (qi 0 (AbC x_8))/\InR .u64 (qi 1 (AbC x_8))->InR .u64 (qi 2 (AbC x_8))/\InR .u64 (qi 3 (AbC x_8))->True/\Cn (decide (BF (qi 0 (AbC x_8)) (qi 1 (AbC x_8))<BF (qi 2 (AbC x_8)) (qi 3 (AbC x_8)))) (InR .u64 (qi 0 (AbC x_8))/\InR .u64 (qi 1 (AbC x_8))->Sm (SV.rref 6 0 4 (0+1+1+1) 0)/\Sm [C.i (Ac (x_1 3)),C.i (Aa (x_1 3))]/\Sm [C.i (Aan bd pd ji),C.i (Aam bd pd ji)]/\Sm [C.i bn,C.i bd]/\Sm [C.i pn,C.i pd]/\Sm [C.i (Aan bd pd ji),C.i (Aam bd pd ji)]/\Sm [C.i (Abb bd pn dr),C.i (Aba bd pn dr)]/\Sm [C.i (Aa9 bd pn dr),C.i (AaB bd pn dr)]/\Sm [C.i (AaA bd pn dr),C.i (Aaz bd pn dr)]/\Sm (sg 0 [0,0] (rGet xs x.1))/\Sm [C.i (AaX bn pd xs x),C.i (AaW bn pd xs x)]/\Sm [C.i (AaV bd pd xs x),C.i (AaU bd pd xs x)]/\Sm [C.i (Ac (x_1 0)),C.i (Aa (x_1 0))]/\Sm [C.i (Ac (x_1 0)),C.i (Aa (x_1 0))]/\Sm [C.i (Aan bd pd ji),C.i (Aam bd pd ji)]/\Sm [C.i (Ac (x_1 1)),C.i (Aa (x_1 1))]/\Sm [C.i (Ac (x_1 1)),C.i (Aa (x_1 1))]/\Sm [C.i (Aan bd pd ji),C.i (Aam bd pd ji)]/\Sm [C.i (Ac (x_1 2)),C.i (Aa (x_1 2))]/\Sm [C.i (Ac (x_1 2)),C.i (Aa (x_1 2))]/\Sm [C.i (Aan bd pd ji),C.i (Aam bd pd ji)]/\Sm [C.i (Ac (x_1 3)),C.i (Aa (x_1 3))]/\Sm [C.i (Ac (x_1 3)),C.i (Aa (x_1 3))]/\Sm [C.i (Aan bd pd ji),C.i (Aam bd pd ji)]/\∃(y:List (Int×Int)),y=DN (Ah x_8) (0+1+1+1)/\rSet (Ah x_8) (0+1+1+1) (C.i (qi 0 (AbC x_8))::C.i (qi 1 (AbC x_8))::sg 0 [0,0] (AbC x_8))=Ah y) (Sm (SV.rref 6 0 4 (0+1+1+1) 0)/\Sm [C.i (Ac (x_1 3)),C.i (Aa (x_1 3))]/\Sm [C.i (Aan bd pd ji),C.i (Aam bd pd ji)]/\Sm [C.i bn,C.i bd]/\Sm [C.i pn,C.i pd]/\Sm [C.i (Aan bd pd ji),C.i (Aam bd pd ji)]/\Sm [C.i (Abb bd pn dr),C.i (Aba bd pn dr)]/\Sm [C.i (Aa9 bd pn dr),C.i (AaB bd pn dr)]/\Sm [C.i (AaA bd pn dr),C.i (Aaz bd pn dr)]/\Sm (sg 0 [0,0] (rGet xs x.1))/\Sm [C.i (AaX bn pd xs x),C.i (AaW bn pd xs x)]/\Sm [C.i (AaV bd pd xs x),C.i (AaU bd pd xs x)]/\Sm [C.i (Ac (x_1 0)),C.i (Aa (x_1 0))]/\Sm [C.i (Ac (x_1 0)),C.i (Aa (x_1 0))]/\Sm [C.i (Aan bd pd ji),C.i (Aam bd pd ji)]/\Sm [C.i (Ac (x_1 1)),C.i (Aa (x_1 1))]/\Sm [C.i (Ac (x_1 1)),C.i (Aa (x_1 1))]/\Sm [C.i (Aan bd pd ji),C.i (Aam bd pd ji)]/\Sm [C.i (Ac (x_1 2)),C.i (Aa (x_1 2))]/\Sm [C.i (Ac (x_1 2)),C.i (Aa (x_1 2))]/\Sm [C.i (Aan bd pd ji),C.i (Aam bd pd ji)]/\Sm [C.i (Ac (x_1 3)),C.i (Aa (x_1 3))]/\Sm [C.i (Ac (x_1 3)),C.i (Aa (x_1 3))]/\Sm [C.i (Aan bd pd ji),C.i (Aam bd pd ji)]/\∃(y:List (Int×Int)),y=DN (Ah x_8) (0+1+1+1)/\Ah x_8=Ah y))/\∀(x_9:List (Int×Int)),x_9=DN (Ah x_8) (0+1+1+1)->WL AbF (Ah x_9)->InR .u64 (qi 0 (Aa3 x_9))/\InR .u64 (qi 1 (Aa3 x_9))->InR .u64 (qi 2 (Aa3 x_9))/\InR .u64 (qi 3 (Aa3 x_9))->True/\(InR .u64 (Ac (Af (qi 0 (Aa3 x_9)) (qi 1 (Aa3 x_9))-Af (qi 2 (Aa3 x_9)) (qi 3 (Aa3 x_9))))/\InR .u64 (Aa (Af (qi 0 (Aa3 x_9)) (qi 1 (Aa3 x_9))-Af (qi 2 (Aa3 x_9)) (qi 3 (Aa3 x_9))))->True/\True/\True/\Cn (bNot (bNot (decide (BF (Aan bd pd ji) (Aam bd pd ji)<BF (Ac (Af (qi 0 (Aa3 x_9)) (qi 1 (Aa3 x_9))-Af (qi 2 (Aa3 x_9)) (qi 3 (Aa3 x_9)))) (Aa (Af (qi 0 (Aa3 x_9)) (qi 1 (Aa3 x_9))-Af (qi 2 (Aa3 x_9)) (qi 3 (Aa3 x_9)))))))) (false=CB bn bd pn pd dr ji xs) (InR .u64 (Ac (x_1 4))/\InR .u64 (Aa (x_1 4))->pIn 0 (iLen (Ah x_9)) (0+1+1+1+1)/\(InR .u64 (qi 0 (Ab6 x_9))/\InR .u64 (qi 1 (Ab6 x_9))->True/\(InR .u64 (Aew x_1)/\InR .u64 (Aev x_1)->True/\(InR .u64 (Ac (Af (qi 0 (Ab6 x_9)) (qi 1 (Ab6 x_9))-Af (Aew x_1) (Aev x_1)))/\InR .u64 (Aa (Af (qi 0 (Ab6 x_9)) (qi 1 (Ab6 x_9))-Af (Aew x_1) (Aev x_1)))->Sm (SV.rref 6 0 4 (0+1+1+1+1) 0)/\Sm [C.i (Ac (x_1 4)),C.i (Aa (x_1 4))]/\Sm [C.i (Aan bd pd ji),C.i (Aam bd pd ji)]/\Sm [C.i bn,C.i bd]/\Sm [C.i pn,C.i pd]/\Sm [C.i (Aan bd pd ji),C.i (Aam bd pd ji)]/\Sm [C.i (Abb bd pn dr),C.i (Aba bd pn dr)]/\Sm [C.i (Aa9 bd pn dr),C.i (AaB bd pn dr)]/\Sm [C.i (AaA bd pn dr),C.i (Aaz bd pn dr)]/\Sm (sg 0 [0,0] (rGet xs x.1))/\Sm [C.i (AaX bn pd xs x),C.i (AaW bn pd xs x)]/\Sm [C.i (AaV bd pd xs x),C.i (AaU bd pd xs x)]/\Sm [C.i (Ac (x_1 0)),C.i (Aa (x_1 0))]/\Sm [C.i (Ac (x_1 0)),C.i (Aa (x_1 0))]/\Sm [C.i (Aan bd pd ji),C.i (Aam bd pd ji)]/\Sm [C.i (Ac (x_1 1)),C.i (Aa (x_1 1))]/\Sm [C.i (Ac (x_1 1)),C.i (Aa (x_1 1))]/\Sm [C.i (Aan bd pd ji),C.i (Aam bd pd ji)]/\Sm [C.i (Ac (x_1 2)),C.i (Aa (x_1 2))]/\Sm [C.i (Ac (x_1 2)),C.i (Aa (x_1 2))]/\Sm [C.i (Aan bd pd ji),C.i (Aam bd pd ji)]/\Sm [C.i (Ac (x_1 3)),C.i (Aa (x_1 3))]/\Sm [C.i (Ac (x_1 3)),C.i (Aa (x_1 3))]/\Sm [C.i (Aan bd pd ji),C.i (Aam bd pd ji)]/\Sm [C.i (Ac (x_1 4)),C.i (Aa (x_1 4))]/\Sm [C.i (Ac (x_1 4)),C.i (Aa (x_1 4))]/\Sm [C.i (Aan bd pd ji),C.i (Aam bd pd ji)]/\∃(y:List (Int×Int)),y=FO (Ah x_9) (0+1+1+1+1) (Ac (x_1 4)) (Aa (x_1 4))/\rSet (Ah x_9) (0+1+1+1+1) (C.i (Ac (Af (qi 0 (Ab6 x_9)) (qi 1 (Ab6 x_9))-Af (Aew x_1) (Aev x_1)))::C.i (Aa (Af (qi 0 (Ab6 x_9)) (qi 1 (Ab6 x_9))-Af (Aew x_1) (Aev x_1)))::sg 2 [0,0] (Ab6 x_9))=Ah y)))/\∀(x_10:List (Int×Int)),x_10=FO (Ah x_9) (0+1+1+1+1) (Ac (x_1 4)) (Aa (x_1 4))->WL AbF (Ah x_10)->(InR .u64 (qi 0 (AbD x_10))/\InR .u64 (qi 1 (AbD x_10))->InR .u64 (qi 2 (AbD x_10))/\InR .u64 (qi 3 (AbD x_10))->True/\Cn (decide (BF (qi 0 (AbD x_10)) (qi 1 (AbD x_10))<BF (qi 2 (AbD x_10)) (qi 3 (AbD x_10)))) (InR .u64 (qi 0 (AbD x_10))/\InR .u64 (qi 1 (AbD x_10))->Sm (SV.rref 6 0 4 (0+1+1+1+1) 0)/\Sm [C.i (Ac (x_1 4)),C.i (Aa (x_1 4))]/\Sm [C.i (Aan bd pd ji),C.i (Aam bd pd ji)]/\Sm [C.i bn,C.i bd]/\Sm [C.i pn,C.i pd]/\Sm [C.i (Aan bd pd ji),C.i (Aam bd pd ji)]/\Sm [C.i (Abb bd pn dr),C.i (Aba bd pn dr)]/\Sm [C.i (Aa9 bd pn dr),C.i (AaB bd pn dr)]/\Sm [C.i (AaA bd pn dr),C.i (Aaz bd pn dr)]/\Sm (sg 0 [0,0] (rGet xs x.1))/\Sm [C.i (AaX bn pd xs x),C.i (AaW bn pd xs x)]/\Sm [C.i (AaV bd pd xs x),C.i (AaU bd pd xs x)]/\Sm [C.i (Ac (x_1 0)),C.i (Aa (x_1 0))]/\Sm [C.i (Ac (x_1 0)),C.i (Aa (x_1 0))]/\Sm [C.i (Aan bd pd ji),C.i (Aam bd pd ji)]/\Sm [C.i (Ac (x_1 1)),C.i (Aa (x_1 1))]/\Sm [C.i (Ac (x_1 1)),C.i (Aa (x_1 1))]/\Sm [C.i (Aan bd pd ji),C.i (Aam bd pd ji)]/\Sm [C.i (Ac (x_1 2)),C.i (Aa (x_1 2))]/\Sm [C.i (Ac (x_1 2)),C.i (Aa (x_1 2))]/\Sm [C.i (Aan bd pd ji),C.i (Aam bd pd ji)]/\Sm [C.i (Ac (x_1 3)),C.i (Aa (x_1 3))]/\Sm [C.i (Ac (x_1 3)),C.i (Aa (x_1 3))]/\Sm [C.i (Aan bd pd ji),C.i (Aam bd pd ji)]/\Sm [C.i (Ac (x_1 4)),C.i (Aa (x_1 4))]/\Sm [C.i (Ac (x_1 4)),C.i (Aa (x_1 4))]/\Sm [C.i (Aan bd pd ji),C.i (Aam bd pd ji)]/\∃(y:List (Int×Int)),y=DN (Ah x_10) (0+1+1+1+1)/\rSet (Ah x_10) (0+1+1+1+1) (C.i (qi 0 (AbD x_10))::C.i (qi 1 (AbD x_10))::sg 0 [0,0] (AbD x_10))=Ah y) (Sm (SV.rref 6 0 4 (0+1+1+1+1) 0)/\Sm [C.i (Ac (x_1 4)),C.i (Aa (x_1 4))]/\Sm [C.i (Aan bd pd ji),C.i (Aam bd pd ji)]/\Sm [C.i bn,C.i bd]/\Sm [C.i pn,C.i pd]/\Sm [C.i (Aan bd pd ji),C.i (Aam bd pd ji)]/\Sm [C.i (Abb bd pn dr),C.i (Aba bd pn dr)]/\Sm [C.i (Aa9 bd pn dr),C.i (AaB bd pn dr)]/\Sm [C.i (AaA bd pn dr),C.i (Aaz bd pn dr)]/\Sm (sg 0 [0,0] (rGet xs x.1))/\Sm [C.i (AaX bn pd xs x),C.i (AaW bn pd xs x)]/\Sm [C.i (AaV bd pd xs x),C.i (AaU bd pd xs x)]/\Sm [C.i (Ac (x_1 0)),C.i (Aa (x_1 0))]/\Sm [C.i (Ac (x_1 0)),C.i (Aa (x_1 0))]/\Sm [C.i (Aan bd pd ji),C.i (Aam bd pd ji)]/\Sm [C.i (Ac (x_1 1)),C.i (Aa (x_1 1))]/\Sm [C.i (Ac (x_1 1)),C.i (Aa (x_1 1))]/\Sm [C.i (Aan bd pd ji),C.i (Aam bd pd ji)]/\Sm [C.i (Ac (x_1 2)),C.i (Aa (x_1 2))]/\Sm [C.i (Ac (x_1 2)),C.i (Aa (x_1 2))]/\Sm [C.i (Aan bd pd ji),C.i (Aam bd pd ji)]/\Sm [C.i (Ac (x_1 3)),C.i (Aa (x_1 3))]/\Sm [C.i (Ac (x_1 3)),C.i (Aa (x_1 3))]/\Sm [C.i (Aan bd pd ji),C.i (Aam bd pd ji)]/\Sm [C.i (Ac (x_1 4)),C.i (Aa (x_1 4))]/\Sm [C.i (Ac (x_1 4)),C.i (Aa (x_1 4))]/\Sm [C.i (Aan bd pd ji),C.i (Aam bd pd ji)]/\∃(y:List (Int×Int)),y=DN (Ah x_10) (0+1+1+1+1)/\Ah x_10=Ah y))/\∀(x_11:List (Int×Int)),x_11=DN (Ah x_10) (0+1+1+1+1)->WL AbF (Ah x_11)->InR .u64 (qi 0 (Aa4 x_11))/\InR .u64 (qi 1 (Aa4 x_11))->InR .u64 (qi 2 (Aa4 x_11))/\InR .u64 (qi 3 (Aa4 x_11))->True/\(InR .u64 (Ac (Af (qi 0 (Aa4 x_11)) (qi 1 (Aa4 x_11))-Af (qi 2 (Aa4 x_11)) (qi 3 (Aa4 x_11))))/\InR .u64 (Aa (Af (qi 0 (Aa4 x_11)) (qi 1 (Aa4 x_11))-Af (qi 2 (Aa4 x_11)) (qi 3 (Aa4 x_11))))->True/\True/\True/\Cn (bNot (bNot (decide (BF (Aan bd pd ji) (Aam bd pd ji)<BF (Ac (Af (qi 0 (Aa4 x_11)) (qi 1 (Aa4 x_11))-Af (qi 2 (Aa4 x_11)) (qi 3 (Aa4 x_11)))) (Aa (Af (qi 0 (Aa4 x_11)) (qi 1 (Aa4 x_11))-Af (qi 2 (Aa4 x_11)) (qi 3 (Aa4 x_11)))))))) (false=CB bn bd pn pd dr ji xs) (InR .u64 (Ac (x_1 5))/\InR .u64 (Aa (x_1 5))->pIn 0 (iLen (Ah x_11)) (0+1+1+1+1+1)/\(InR .u64 (qi 0 (Ab7 x_11))/\InR .u64 (qi 1 (Ab7 x_11))->True/\(InR .u64 (Aeu x_1)/\InR .u64 (Aet x_1)->True/\(InR .u64 (Ac (Af (qi 0 (Ab7 x_11)) (qi 1 (Ab7 x_11))-Af (Aeu x_1) (Aet x_1)))/\InR .u64 (Aa (Af (qi 0 (Ab7 x_11)) (qi 1 (Ab7 x_11))-Af (Aeu x_1) (Aet x_1)))->Sm (SV.rref 6 0 4 (0+1+1+1+1+1) 0)/\Sm [C.i (Ac (x_1 5)),C.i (Aa (x_1 5))]/\Sm [C.i (Aan bd pd ji),C.i (Aam bd pd ji)]/\Sm [C.i bn,C.i bd]/\Sm [C.i pn,C.i pd]/\Sm [C.i (Aan bd pd ji),C.i (Aam bd pd ji)]/\Sm [C.i (Abb bd pn dr),C.i (Aba bd pn dr)]/\Sm [C.i (Aa9 bd pn dr),C.i (AaB bd pn dr)]/\Sm [C.i (AaA bd pn dr),C.i (Aaz bd pn dr)]/\Sm (sg 0 [0,0] (rGet xs x.1))/\Sm [C.i (AaX bn pd xs x),C.i (AaW bn pd xs x)]/\Sm [C.i (AaV bd pd xs x),C.i (AaU bd pd xs x)]/\Sm [C.i (Ac (x_1 0)),C.i (Aa (x_1 0))]/\Sm [C.i (Ac (x_1 0)),C.i (Aa (x_1 0))]/\Sm [C.i (Aan bd pd ji),C.i (Aam bd pd ji)]/\Sm [C.i (Ac (x_1 1)),C.i (Aa (x_1 1))]/\Sm [C.i (Ac (x_1 1)),C.i (Aa (x_1 1))]/\Sm [C.i (Aan bd pd ji),C.i (Aam bd pd ji)]/\Sm [C.i (Ac (x_1 2)),C.i (Aa (x_1 2))]/\Sm [C.i (Ac (x_1 2)),C.i (Aa (x_1 2))]/\Sm [C.i (Aan bd pd ji),C.i (Aam bd pd ji)]/\Sm [C.i (Ac (x_1 3)),C.i (Aa (x_1 3))]/\Sm [C.i (Ac (x_1 3)),C.i (Aa (x_1 3))]/\Sm [C.i (Aan bd pd ji),C.i (Aam bd pd ji)]/\Sm [C.i (Ac (x_1 4)),C.i (Aa (x_1 4))]/\Sm [C.i (Ac (x_1 4)),C.i (Aa (x_1 4))]/\Sm [C.i (Aan bd pd ji),C.i (Aam bd pd ji)]/\Sm [C.i (Ac (x_1 5)),C.i (Aa (x_1 5))]/\Sm [C.i (Ac (x_1 5)),C.i (Aa (x_1 5))]/\Sm [C.i (Aan bd pd ji),C.i (Aam bd pd ji)]/\∃(y:List (Int×Int)),y=FO (Ah x_11) (0+1+1+1+1+1) (Ac (x_1 5)) (Aa (x_1 5))/\rSet (Ah x_11) (0+1+1+1+1+1) (C.i (Ac (Af (qi 0 (Ab7 x_11)) (qi 1 (Ab7 x_11))-Af (Aeu x_1) (Aet x_1)))::C.i (Aa (Af (qi 0 (Ab7 x_11)) (qi 1 (Ab7 x_11))-Af (Aeu x_1) (Aet x_1)))::sg 2 [0,0] (Ab7 x_11))=Ah y)))/\∀(x_12:List (Int×Int)),x_12=FO (Ah x_11) (0+1+1+1+1+1) (Ac (x_1 5)) (Aa (x_1 5))->WL AbF (Ah x_12)->(InR .u64 (qi 0 (AbE x_12))/\InR .u64 (qi 1 (AbE x_12))->InR .u64 (qi 2 (AbE x_12))/\InR .u64 (qi 3 (AbE x_12))->True/\Cn (decide (BF (qi 0 (AbE x_12)) (qi 1 (AbE x_12))<BF (qi 2 (AbE x_12)) (qi 3 (AbE x_12)))) (InR .u64 (qi 0 (AbE x_12))/\InR .u64 (qi 1 (AbE x_12))->Sm (SV.rref 6 0 4 (0+1+1+1+1+1) 0)/\Sm [C.i (Ac (x_1 5)),C.i (Aa (x_1 5))]/\Sm [C.i (Aan bd pd ji),C.i (Aam bd pd ji)]/\Sm [C.i bn,C.i bd]/\Sm [C.i pn,C.i pd]/\Sm [C.i (Aan bd pd ji),C.i (Aam bd pd ji)]/\Sm [C.i (Abb bd pn dr),C.i (Aba bd pn dr)]/\Sm [C.i (Aa9 bd pn dr),C.i (AaB bd pn dr)]/\Sm [C.i (AaA bd pn dr),C.i (Aaz bd pn dr)]/\Sm (sg 0 [0,0] (rGet xs x.1))/\Sm [C.i (AaX bn pd xs x),C.i (AaW bn pd xs x)]/\Sm [C.i (AaV bd pd xs x),C.i (AaU bd pd xs x)]/\Sm [C.i (Ac (x_1 0)),C.i (Aa (x_1 0))]/\Sm [C.i (Ac (x_1 0)),C.i (Aa (x_1 0))]/\Sm [C.i (Aan bd pd ji),C.i (Aam bd pd ji)]/\Sm [C.i (Ac (x_1 1)),C.i (Aa (x_1 1))]/\Sm [C.i (Ac (x_1 1)),C.i (Aa (x_1 1))]/\Sm [C.i (Aan bd pd ji),C.i (Aam bd pd ji)]/\Sm [C.i (Ac (x_1 2)),C.i (Aa (x_1 2))]/\Sm [C.i (Ac (x_1 2)),C.i (Aa (x_1 2))]/\Sm [C.i (Aan bd pd ji),C.i (Aam bd pd ji)]/\Sm [C.i (Ac (x_1 3)),C.i (Aa (x_1 3))]/\Sm [C.i (Ac (x_1 3)),C.i (Aa (x_1 3))]/\Sm [C.i (Aan bd pd ji),C.i (Aam bd pd ji)]/\Sm [C.i (Ac (x_1 4)),C.i (Aa (x_1 4))]/\Sm [C.i (Ac (x_1 4)),C.i (Aa (x_1 4))]/\Sm [C.i (Aan bd pd ji),C.i (Aam bd pd ji)]/\Sm [C.i (Ac (x_1 5)),C.i (Aa (x_1 5))]/\Sm [C.i (Ac (x_1 5)),C.i (Aa (x_1 5))]/\Sm [C.i (Aan bd pd ji),C.i (Aam bd pd ji)]/\∃(y:List (Int×Int)),y=DN (Ah x_12) (0+1+1+1+1+1)/\rSet (Ah x_12) (0+1+1+1+1+1) (C.i (qi 0 (AbE x_12))::C.i (qi 1 (AbE x_12))::sg 0 [0,0] (AbE x_12))=Ah y) (Sm (SV.rref 6 0 4 (0+1+1+1+1+1) 0)/\Sm [C.i (Ac (x_1 5)),C.i (Aa (x_1 5))]/\Sm [C.i (Aan bd pd ji),C.i (Aam bd pd ji)]/\Sm [C.i bn,C.i bd]/\Sm [C.i pn,C.i pd]/\Sm [C.i (Aan bd pd ji),C.i (Aam bd pd ji)]/\Sm [C.i (Abb bd pn dr),C.i (Aba bd pn dr)]/\Sm [C.i (Aa9 bd pn dr),C.i (AaB bd pn dr)]/\Sm [C.i (AaA bd pn dr),C.i (Aaz bd pn dr)]/\Sm (sg 0 [0,0] (rGet xs x.1))/\Sm [C.i (AaX bn pd xs x),C.i (AaW bn pd xs x)]/\Sm [C.i (AaV bd pd xs x),C.i (AaU bd pd xs x)]/\Sm [C.i (Ac (x_1 0)),C.i (Aa (x_1 0))]/\Sm [C.i (Ac (x_1 0)),C.i (Aa (x_1 0))]/\Sm [C.i (Aan bd pd ji),C.i (Aam bd pd ji)]/\Sm [C.i (Ac (x_1 1)),C.i (Aa (x_1 1))]/\Sm [C.i (Ac (x_1 1)),C.i (Aa (x_1 1))]/\Sm [C.i (Aan bd pd ji),C.i (Aam bd pd ji)]/\Sm [C.i (Ac (x_1 2)),C.i (Aa (x_1 2))]/\Sm [C.i (Ac (x_1 2)),C.i (Aa (x_1 2))]/\Sm [C.i (Aan bd pd ji),C.i (Aam bd pd ji)]/\Sm [C.i (Ac (x_1 3)),C.i (Aa (x_1 3))]/\Sm [C.i (Ac (x_1 3)),C.i (Aa (x_1 3))]/\Sm [C.i (Aan bd pd ji),C.i (Aam bd pd ji)]/\Sm [C.i (Ac (x_1 4)),C.i (Aa (x_1 4))]/\Sm [C.i (Ac (x_1 4)),C.i (Aa (x_1 4))]/\Sm [C.i (Aan bd pd ji),C.i (Aam bd pd ji)]/\Sm [C.i (Ac (x_1 5)),C.i (Aa (x_1 5))]/\Sm [C.i (Ac (x_1 5)),C.i (Aa (x_1 5))]/\Sm [C.i (Aan bd pd ji),C.i (Aam bd pd ji)]/\∃(y:List (Int×Int)),y=DN (Ah x_12) (0+1+1+1+1+1)/\Ah x_12=Ah y))/\∀(x_13:List (Int×Int)),x_13=DN (Ah x_12) (0+1+1+1+1+1)->WL AbF (Ah x_13)->InR .u64 (qi 0 (AbL x_13))/\InR .u64 (qi 1 (AbL x_13))->InR .u64 (qi 2 (AbL x_13))/\InR .u64 (qi 3 (AbL x_13))->True/\(InR .u64 (Ac (Af (qi 0 (AbL x_13)) (qi 1 (AbL x_13))-Af (qi 2 (AbL x_13)) (qi 3 (AbL x_13))))/\InR .u64 (Aa (Af (qi 0 (AbL x_13)) (qi 1 (AbL x_13))-Af (qi 2 (AbL x_13)) (qi 3 (AbL x_13))))->True/\True/\True/\Cn (bNot (bNot (decide (BF (Aan bd pd ji) (Aam bd pd ji)<BF (Ac (Af (qi 0 (AbL x_13)) (qi 1 (AbL x_13))-Af (qi 2 (AbL x_13)) (qi 3 (AbL x_13)))) (Aa (Af (qi 0 (AbL x_13)) (qi 1 (AbL x_13))-Af (qi 2 (AbL x_13)) (qi 3 (AbL x_13)))))))) (false=CB bn bd pn pd dr ji xs) (InR .i64 (iAdd x.1 1)/\Sm [C.i bn,C.i bd]/\Sm [C.i pn,C.i pd]/\Sm dr/\Sm ji/\Sm xs/\Sm (iMul pd 65536)/\Sm (iMul pn bd)/\Sm xs/\Sm (iLen xs)/\Sm [C.i bn,C.i bd]/\Sm [C.i pn,C.i pd]/\Sm [C.i (Aan bd pd ji),C.i (Aam bd pd ji)]/\Sm [C.i (Abb bd pn dr),C.i (Aba bd pn dr)]/\Sm [C.i (Aa9 bd pn dr),C.i (AaB bd pn dr)]/\Sm [C.i (AaA bd pn dr),C.i (Aaz bd pn dr)]/\∃(y:Int×List (Int×Int)),Q5 bn bd pn pd dr ji xs y.1 y.2/\iAdd x.1 1=y.1/\Ah x_13=Ah y.2/\nLt (xs.length-y.1.toNat) (xs.length-x.1.toNat))))))))))))))))))))) (true=CB bn bd pn pd dr ji xs))))))))))):=by
 intro hw;delta Aan Aam AaX AaW AaV AaU AbL Abb Aba Aa9 AaB Aa4 Aa3 AbF Aa2 AbE AbD Ab7 Aa1 AbC Ab6 AeI AeH AeG AeF AaA Aaz AbB Ab5 AeE AeD AeC AeB AeA Aez Aey Aex Aew Aev Aeu Aet Ab4 AbA Aa0 Ab3;simp only[Cn_iff,Aas,true_and];simp only[iMul,iAdd,iSub,Y1,Rj,Rn,eq_self,true_and,and_true,implies_true,true_implies];refine⟨λh1=> ?_,λh1=>⟨λh2=> ?_,λh2=>⟨λh3=> ?_,λh3=>⟨λh4=> ?_,λh4 _=>⟨λh5=> ?_,λh5=> ?_⟩⟩⟩⟩⟩
 · exact MF (.inl (by simpa using h1))
 · exact MF (.inr (.inl (by simpa[bLt]using h2)))
 · exact MF (.inr (.inr (.inl (by simpa[bLt]using h3))))
 · exact MF (.inr (.inr (.inr (.inl (by simpa using h4)))))
 · exact MF (.inr (.inr (.inr (.inr (by simpa[bLt,iLen]using h5)))))
 have v1:Ai bn bd=true:=by simpa using h1
 have v2:bn<=768000:=by simpa[bLt]using h2
 have v3:bd<=768000:=by simpa[bLt]using h3
 have v4:Bq pn pd dr ji=true:=by simpa using h4
 have v5:(xs.length:Int)<=256:=by simpa[bLt,iLen]using h5
 obtain⟨n1,n2,n3,n4,n5,n6,n7,n8,n9,n10,n11,n12,n13,n14,n15,n16,n17,n18,n19,n20⟩:=Ru v1 v2 v3 v4;rw[Wh v1 v2 v3 v4 v5];clear h1 h2 h3 h4 h5;simp only[pLe,Aar];refine⟨by simp only[InR]; omega,by simp only[InR]; omega,by simp only[InR]; omega,⟨by omega,by omega⟩,λ_=>⟨by simp only[InR]; omega,⟨by omega,by omega⟩,λ_=>⟨by simp only[InR]; omega,⟨by omega,by omega⟩,λ_=>⟨⟨by omega,by omega⟩,λ_=>⟨by omega,λ_=>⟨⟨(0,QD),⟨by omega,by omega,⟨rfl,?_⟩,rfl⟩,rfl,rfl⟩,?_⟩⟩⟩⟩⟩⟩
 · intro s hs;simp only[QD,List.mem_cons,List.not_mem_nil,or_false,or_self]at hs;subst hs; simp
 rintro⟨kk,Z⟩ ⟨k0,k1,⟨hl6,hbd⟩,hdf⟩ _;simp only at k0 k1 hl6 hbd hdf ⊢;obtain⟨s0,s1,s2,s3,s4,s5,rfl⟩:=Zk hl6;refine⟨λhk=> ?_,λhk=> ?_⟩;rotate_left
 · simp only[bLt,iLen,decide_eq_false_iff_not]at hk;rw[←hdf,List.drop_eq_nil_of_le (by omega)]; rfl
 simp only[bLt,iLen,decide_eq_true_eq]at hk;have hx:xs.drop kk.toNat=rGet xs kk::xs.drop (kk+1).toNat:=by
  rw[List.drop_eq_getElem_cons (show kk.toNat<xs.length by omega),show(kk+1).toNat=kk.toNat+1 by omega];congr 1;simp[rGet,List.getD_eq_getElem?_getD,show kk.toNat<xs.length by omega]
 rw[hx]at hdf;generalize rGet xs kk=x at*;have e1:(qi 0 x)=CJ x:=rfl;have e2:(qi 1 x)=CE x:=rfl;simp only[e1,e2];simp only[O6,List.getD_cons_zero,List.getD_cons_succ]at hdf;rw[←hdf];refine⟨⟨k0,hk⟩,λhr=>⟨λq1=> ?_,λq1=>⟨λq2=> ?_,λq2=>⟨λq3=> ?_,λq3=>⟨λq4=> ?_,λq4=> ?_⟩⟩⟩⟩⟩
 all_goals simp only[bLt,decide_eq_true_eq,decide_eq_false_iff_not]at q1
 · have t:CO x=false:=by simp only[CO,decide_eq_false_iff_not]; omega
   rw[t]; rfl
 · simp only[bLt,decide_eq_true_eq,decide_eq_false_iff_not]at q2;have t:CO x=false:=by simp only[CO,decide_eq_false_iff_not]; omega
   rw[t]; rfl
 · simp only[bLt,decide_eq_true_eq,decide_eq_false_iff_not]at q2 q3;have t:CO x=false:=by simp only[CO,decide_eq_false_iff_not]; omega
   rw[t]; rfl
 · simp only[bLt,decide_eq_true_eq,decide_eq_false_iff_not]at q2 q3 q4;have t:CO x=false:=by simp only[CO,decide_eq_false_iff_not]; omega
   rw[t]; rfl
 simp only[bLt,decide_eq_true_eq,decide_eq_false_iff_not]at q2 q3 q4;have t:CO x=true:=by simp only[CO,decide_eq_true_eq]; omega
 rw[t];obtain⟨m1,m2,m3,m4,m5,m6,m7,m8⟩:=WM (u:=CJ x) (v:=CE x) n1 v2 n2 v3 n3 n4 (by omega) (by omega) (by omega) (by omega);refine⟨by simp only[InR]; omega,⟨by omega,by omega⟩,λ_=>⟨by simp only[InR]; omega,⟨by omega,by omega⟩,λ_=>⟨λ_ _ _ _ _ _ _ _=>⟨λg=>DK bn bd pn pd dr g x,rfl,rfl,rfl,rfl,rfl,rfl,rfl,rfl,rfl,rfl,rfl,rfl,rfl⟩,?_⟩⟩⟩;rintro mm hmm _ _;have d0: -10000000000000000000000<=mm 0/\mm 0<=10000000000000000000000/\DK bn bd pn pd dr 0 x=mm 0:=by
  rw[hmm]; refine⟨?_,?_,rfl⟩<;>simp only[DK]<;>omega
 have d1: -10000000000000000000000<=mm 1/\mm 1<=10000000000000000000000/\DK bn bd pn pd dr 1 x=mm 1:=by
  rw[hmm]; refine⟨?_,?_,rfl⟩<;>simp only[DK]<;>omega
 have d2: -10000000000000000000000<=mm 2/\mm 2<=10000000000000000000000/\DK bn bd pn pd dr 2 x=mm 2:=by
  rw[hmm]; refine⟨?_,?_,rfl⟩<;>simp only[DK]<;>omega
 have d3: -10000000000000000000000<=mm 3/\mm 3<=10000000000000000000000/\DK bn bd pn pd dr 3 x=mm 3:=by
  rw[hmm]; refine⟨?_,?_,rfl⟩<;>simp only[DK]<;>omega
 have d4: -10000000000000000000000<=mm 4/\mm 4<=10000000000000000000000/\DK bn bd pn pd dr 4 x=mm 4:=by
  rw[hmm]; refine⟨?_,?_,rfl⟩<;>simp only[DK]<;>omega
 have d5: -10000000000000000000000<=mm 5/\mm 5<=10000000000000000000000/\DK bn bd pn pd dr 5 x=mm 5:=by
  rw[hmm]; refine⟨?_,?_,rfl⟩<;>simp only[DK]<;>omega
 rw[d0.2.2,d1.2.2,d2.2.2,d3.2.2,d4.2.2,d5.2.2];obtain⟨b0,b1,b2,b3,b4,b5⟩:=WI hbd;obtain⟨c0,c1,c2,c3,c4,c5⟩:BU 1000000000000000000000000000000 s0/\BU 1000000000000000000000000000000 s1/\BU 1000000000000000000000000000000 s2/\BU 1000000000000000000000000000000 s3/\BU 1000000000000000000000000000000 s4/\BU 1000000000000000000000000000000 s5:=by
  simp only[BU]at b0 b1 b2 b3 b4 b5 ⊢; omega
 clear hmm;have zq0:Eo [s0,s1,s2,s3,s4,s5]:=FU c0 c1 c2 c3 c4 c5;refine⟨⟨by decide,by simp only[iLen,Ah,List.length_map,List.length_cons,List.length_nil]; omega⟩,λ_ _ _=>⟨_,rfl,PN (g:=0) zq0 rfl (by omega) (by omega) (by omega)⟩,?_⟩;intro y1 hy1 _;rw[J6 (i:=0) (g:=0) zq0 rfl (by omega) (by omega) (by omega)]at hy1;simp only[List.set_cons_succ,List.set_cons_zero,List.getD_cons_succ,List.getD_cons_zero]at hy1;subst hy1;have zr0:Eo [(s0.1+mm 0,s0.2),s1,s2,s3,s4,s5]:=FU (Aq (Nc b0 d0.1 d0.2.1) (by omega)) c1 c2 c3 c4 c5;refine⟨λ_ _=>⟨λhb _=>⟨_,rfl,OM (g:=0) zr0 rfl (by omega) hb⟩,λhb=>⟨_,rfl,OU (g:=0) zr0 rfl (by omega) hb⟩⟩,?_⟩;intro y2 hy2 _ _ _ _;rw[I8 (i:=0) (g:=0) zr0 rfl (by omega)]at hy2;simp only[List.set_cons_succ,List.set_cons_zero,List.getD_cons_succ,List.getD_cons_zero]at hy2;replace hy2:y2=[Am s0 (mm 0),s1,s2,s3,s4,s5]:=hy2;subst hy2;have zs0:Eo [Am s0 (mm 0),s1,s2,s3,s4,s5]:=FU (Aq (Ar b0 d0.1 d0.2.1) (by omega)) c1 c2 c3 c4 c5;rw[PL (i:=0) (g:=0) zs0 rfl (by omega) n19 (by omega)];simp only[List.getD_cons_succ,List.getD_cons_zero]
 cases kq0:Gm (bd*(pd*65536)*ji) (Am s0 (mm 0))
 · exact⟨λ_=>rfl,λh=>by simp at h⟩
 refine⟨λh=>by simp at h,λ_ _=> ?_⟩;have zq1:Eo [Am s0 (mm 0),s1,s2,s3,s4,s5]:=FU (Aq (Ar b0 d0.1 d0.2.1) (by omega)) c1 c2 c3 c4 c5;refine⟨⟨by decide,by simp only[iLen,Ah,List.length_map,List.length_cons,List.length_nil]; omega⟩,λ_ _ _=>⟨_,rfl,PN (g:=1) zq1 rfl (by omega) (by omega) (by omega)⟩,?_⟩;intro y1 hy1 _;rw[J6 (i:=0+1) (g:=1) zq1 rfl (by omega) (by omega) (by omega)]at hy1;simp only[List.set_cons_succ,List.set_cons_zero,List.getD_cons_succ,List.getD_cons_zero]at hy1;subst hy1;have zr1:Eo [Am s0 (mm 0),(s1.1+mm 1,s1.2),s2,s3,s4,s5]:=FU (Aq (Ar b0 d0.1 d0.2.1) (by omega)) (Aq (Nc b1 d1.1 d1.2.1) (by omega)) c2 c3 c4 c5;refine⟨λ_ _=>⟨λhb _=>⟨_,rfl,OM (g:=1) zr1 rfl (by omega) hb⟩,λhb=>⟨_,rfl,OU (g:=1) zr1 rfl (by omega) hb⟩⟩,?_⟩;intro y2 hy2 _ _ _ _;rw[I8 (i:=0+1) (g:=1) zr1 rfl (by omega)]at hy2;simp only[List.set_cons_succ,List.set_cons_zero,List.getD_cons_succ,List.getD_cons_zero]at hy2;replace hy2:y2=[Am s0 (mm 0),Am s1 (mm 1),s2,s3,s4,s5]:=hy2;subst hy2;have zs1:Eo [Am s0 (mm 0),Am s1 (mm 1),s2,s3,s4,s5]:=FU (Aq (Ar b0 d0.1 d0.2.1) (by omega)) (Aq (Ar b1 d1.1 d1.2.1) (by omega)) c2 c3 c4 c5;rw[PL (i:=0+1) (g:=1) zs1 rfl (by omega) n19 (by omega)];simp only[List.getD_cons_succ,List.getD_cons_zero]
 cases kq1:Gm (bd*(pd*65536)*ji) (Am s1 (mm 1))
 · exact⟨λ_=>rfl,λh=>by simp at h⟩
 refine⟨λh=>by simp at h,λ_ _=> ?_⟩;have zq2:Eo [Am s0 (mm 0),Am s1 (mm 1),s2,s3,s4,s5]:=FU (Aq (Ar b0 d0.1 d0.2.1) (by omega)) (Aq (Ar b1 d1.1 d1.2.1) (by omega)) c2 c3 c4 c5;refine⟨⟨by decide,by simp only[iLen,Ah,List.length_map,List.length_cons,List.length_nil]; omega⟩,λ_ _ _=>⟨_,rfl,PN (g:=2) zq2 rfl (by omega) (by omega) (by omega)⟩,?_⟩;intro y1 hy1 _;rw[J6 (i:=0+1+1) (g:=2) zq2 rfl (by omega) (by omega) (by omega)]at hy1;simp only[List.set_cons_succ,List.set_cons_zero,List.getD_cons_succ,List.getD_cons_zero]at hy1;subst hy1;have zr2:Eo [Am s0 (mm 0),Am s1 (mm 1),(s2.1+mm 2,s2.2),s3,s4,s5]:=FU (Aq (Ar b0 d0.1 d0.2.1) (by omega)) (Aq (Ar b1 d1.1 d1.2.1) (by omega)) (Aq (Nc b2 d2.1 d2.2.1) (by omega)) c3 c4 c5;refine⟨λ_ _=>⟨λhb _=>⟨_,rfl,OM (g:=2) zr2 rfl (by omega) hb⟩,λhb=>⟨_,rfl,OU (g:=2) zr2 rfl (by omega) hb⟩⟩,?_⟩;intro y2 hy2 _ _ _ _;rw[I8 (i:=0+1+1) (g:=2) zr2 rfl (by omega)]at hy2;simp only[List.set_cons_succ,List.set_cons_zero,List.getD_cons_succ,List.getD_cons_zero]at hy2;replace hy2:y2=[Am s0 (mm 0),Am s1 (mm 1),Am s2 (mm 2),s3,s4,s5]:=hy2;subst hy2;have zs2:Eo [Am s0 (mm 0),Am s1 (mm 1),Am s2 (mm 2),s3,s4,s5]:=FU (Aq (Ar b0 d0.1 d0.2.1) (by omega)) (Aq (Ar b1 d1.1 d1.2.1) (by omega)) (Aq (Ar b2 d2.1 d2.2.1) (by omega)) c3 c4 c5;rw[PL (i:=0+1+1) (g:=2) zs2 rfl (by omega) n19 (by omega)]
 simp only[List.getD_cons_succ,List.getD_cons_zero]
 cases kq2:Gm (bd*(pd*65536)*ji) (Am s2 (mm 2))
 · exact⟨λ_=>rfl,λh=>by simp at h⟩
 refine⟨λh=>by simp at h,λ_ _=> ?_⟩;have zq3:Eo [Am s0 (mm 0),Am s1 (mm 1),Am s2 (mm 2),s3,s4,s5]:=FU (Aq (Ar b0 d0.1 d0.2.1) (by omega)) (Aq (Ar b1 d1.1 d1.2.1) (by omega)) (Aq (Ar b2 d2.1 d2.2.1) (by omega)) c3 c4 c5;refine⟨⟨by decide,by simp only[iLen,Ah,List.length_map,List.length_cons,List.length_nil]; omega⟩,λ_ _ _=>⟨_,rfl,PN (g:=3) zq3 rfl (by omega) (by omega) (by omega)⟩,?_⟩;intro y1 hy1 _;rw[J6 (i:=0+1+1+1) (g:=3) zq3 rfl (by omega) (by omega) (by omega)]at hy1;simp only[List.set_cons_succ,List.set_cons_zero,List.getD_cons_succ,List.getD_cons_zero]at hy1;subst hy1;have zr3:Eo [Am s0 (mm 0),Am s1 (mm 1),Am s2 (mm 2),(s3.1+mm 3,s3.2),s4,s5]:=FU (Aq (Ar b0 d0.1 d0.2.1) (by omega)) (Aq (Ar b1 d1.1 d1.2.1) (by omega)) (Aq (Ar b2 d2.1 d2.2.1) (by omega)) (Aq (Nc b3 d3.1 d3.2.1) (by omega)) c4 c5;refine⟨λ_ _=>⟨λhb _=>⟨_,rfl,OM (g:=3) zr3 rfl (by omega) hb⟩,λhb=>⟨_,rfl,OU (g:=3) zr3 rfl (by omega) hb⟩⟩,?_⟩;intro y2 hy2 _ _ _ _;rw[I8 (i:=0+1+1+1) (g:=3) zr3 rfl (by omega)]at hy2;simp only[List.set_cons_succ,List.set_cons_zero,List.getD_cons_succ,List.getD_cons_zero]at hy2;replace hy2:y2=[Am s0 (mm 0),Am s1 (mm 1),Am s2 (mm 2),Am s3 (mm 3),s4,s5]:=hy2;subst hy2
 have zs3:Eo [Am s0 (mm 0),Am s1 (mm 1),Am s2 (mm 2),Am s3 (mm 3),s4,s5]:=FU (Aq (Ar b0 d0.1 d0.2.1) (by omega)) (Aq (Ar b1 d1.1 d1.2.1) (by omega)) (Aq (Ar b2 d2.1 d2.2.1) (by omega)) (Aq (Ar b3 d3.1 d3.2.1) (by omega)) c4 c5;rw[PL (i:=0+1+1+1) (g:=3) zs3 rfl (by omega) n19 (by omega)];simp only[List.getD_cons_succ,List.getD_cons_zero]
 cases kq3:Gm (bd*(pd*65536)*ji) (Am s3 (mm 3))
 · exact⟨λ_=>rfl,λh=>by simp at h⟩
 refine⟨λh=>by simp at h,λ_ _=> ?_⟩;have zq4:Eo [Am s0 (mm 0),Am s1 (mm 1),Am s2 (mm 2),Am s3 (mm 3),s4,s5]:=FU (Aq (Ar b0 d0.1 d0.2.1) (by omega)) (Aq (Ar b1 d1.1 d1.2.1) (by omega)) (Aq (Ar b2 d2.1 d2.2.1) (by omega)) (Aq (Ar b3 d3.1 d3.2.1) (by omega)) c4 c5;refine⟨⟨by decide,by simp only[iLen,Ah,List.length_map,List.length_cons,List.length_nil]; omega⟩,λ_ _ _=>⟨_,rfl,PN (g:=4) zq4 rfl (by omega) (by omega) (by omega)⟩,?_⟩;intro y1 hy1 _;rw[J6 (i:=0+1+1+1+1) (g:=4) zq4 rfl (by omega) (by omega) (by omega)]at hy1;simp only[List.set_cons_succ,List.set_cons_zero,List.getD_cons_succ,List.getD_cons_zero]at hy1;subst hy1;have zr4:Eo [Am s0 (mm 0),Am s1 (mm 1),Am s2 (mm 2),Am s3 (mm 3),(s4.1+mm 4,s4.2),s5]:=FU (Aq (Ar b0 d0.1 d0.2.1) (by omega)) (Aq (Ar b1 d1.1 d1.2.1) (by omega)) (Aq (Ar b2 d2.1 d2.2.1) (by omega)) (Aq (Ar b3 d3.1 d3.2.1) (by omega)) (Aq (Nc b4 d4.1 d4.2.1) (by omega)) c5;refine⟨λ_ _=>⟨λhb _=>⟨_,rfl,OM (g:=4) zr4 rfl (by omega) hb⟩,λhb=>⟨_,rfl,OU (g:=4) zr4 rfl (by omega) hb⟩⟩,?_⟩;intro y2 hy2 _ _ _ _;rw[I8 (i:=0+1+1+1+1) (g:=4) zr4 rfl (by omega)]at hy2;simp only[List.set_cons_succ,List.set_cons_zero,List.getD_cons_succ,List.getD_cons_zero]at hy2;replace hy2:y2=[Am s0 (mm 0),Am s1 (mm 1),Am s2 (mm 2),Am s3 (mm 3),Am s4 (mm 4),s5]:=hy2;subst hy2
 have zs4:Eo [Am s0 (mm 0),Am s1 (mm 1),Am s2 (mm 2),Am s3 (mm 3),Am s4 (mm 4),s5]:=FU (Aq (Ar b0 d0.1 d0.2.1) (by omega)) (Aq (Ar b1 d1.1 d1.2.1) (by omega)) (Aq (Ar b2 d2.1 d2.2.1) (by omega)) (Aq (Ar b3 d3.1 d3.2.1) (by omega)) (Aq (Ar b4 d4.1 d4.2.1) (by omega)) c5;rw[PL (i:=0+1+1+1+1) (g:=4) zs4 rfl (by omega) n19 (by omega)];simp only[List.getD_cons_succ,List.getD_cons_zero]
 cases kq4:Gm (bd*(pd*65536)*ji) (Am s4 (mm 4))
 · exact⟨λ_=>rfl,λh=>by simp at h⟩
 refine⟨λh=>by simp at h,λ_ _=> ?_⟩;have zq5:Eo [Am s0 (mm 0),Am s1 (mm 1),Am s2 (mm 2),Am s3 (mm 3),Am s4 (mm 4),s5]:=FU (Aq (Ar b0 d0.1 d0.2.1) (by omega)) (Aq (Ar b1 d1.1 d1.2.1) (by omega)) (Aq (Ar b2 d2.1 d2.2.1) (by omega)) (Aq (Ar b3 d3.1 d3.2.1) (by omega)) (Aq (Ar b4 d4.1 d4.2.1) (by omega)) c5;refine⟨⟨by decide,by simp only[iLen,Ah,List.length_map,List.length_cons,List.length_nil]; omega⟩,λ_ _ _=>⟨_,rfl,PN (g:=5) zq5 rfl (by omega) (by omega) (by omega)⟩,?_⟩;intro y1 hy1 _;rw[J6 (i:=0+1+1+1+1+1) (g:=5) zq5 rfl (by omega) (by omega) (by omega)]at hy1;simp only[List.set_cons_succ,List.set_cons_zero,List.getD_cons_succ,List.getD_cons_zero]at hy1;subst hy1;have zr5:Eo [Am s0 (mm 0),Am s1 (mm 1),Am s2 (mm 2),Am s3 (mm 3),Am s4 (mm 4),(s5.1+mm 5,s5.2)]:=FU (Aq (Ar b0 d0.1 d0.2.1) (by omega)) (Aq (Ar b1 d1.1 d1.2.1) (by omega)) (Aq (Ar b2 d2.1 d2.2.1) (by omega)) (Aq (Ar b3 d3.1 d3.2.1) (by omega)) (Aq (Ar b4 d4.1 d4.2.1) (by omega)) (Aq (Nc b5 d5.1 d5.2.1) (by omega));refine⟨λ_ _=>⟨λhb _=>⟨_,rfl,OM (g:=5) zr5 rfl (by omega) hb⟩,λhb=>⟨_,rfl,OU (g:=5) zr5 rfl (by omega) hb⟩⟩,?_⟩;intro y2 hy2 _ _ _ _;rw[I8 (i:=0+1+1+1+1+1) (g:=5) zr5 rfl (by omega)]at hy2;simp only[List.set_cons_succ,List.set_cons_zero,List.getD_cons_succ,List.getD_cons_zero]at hy2;replace hy2:y2=[Am s0 (mm 0),Am s1 (mm 1),Am s2 (mm 2),Am s3 (mm 3),Am s4 (mm 4),Am s5 (mm 5)]:=hy2
 subst hy2;have zs5:Eo [Am s0 (mm 0),Am s1 (mm 1),Am s2 (mm 2),Am s3 (mm 3),Am s4 (mm 4),Am s5 (mm 5)]:=FU (Aq (Ar b0 d0.1 d0.2.1) (by omega)) (Aq (Ar b1 d1.1 d1.2.1) (by omega)) (Aq (Ar b2 d2.1 d2.2.1) (by omega)) (Aq (Ar b3 d3.1 d3.2.1) (by omega)) (Aq (Ar b4 d4.1 d4.2.1) (by omega)) (Aq (Ar b5 d5.1 d5.2.1) (by omega));rw[PL (i:=0+1+1+1+1+1) (g:=5) zs5 rfl (by omega) n19 (by omega)];simp only[List.getD_cons_succ,List.getD_cons_zero]
 cases kq5:Gm (bd*(pd*65536)*ji) (Am s5 (mm 5))
 · exact⟨λ_=>rfl,λh=>by simp at h⟩
 refine⟨λh=>by simp at h,λ_=> ?_⟩;refine⟨by simp only[InR]; omega,(kk+1,[Am s0 (mm 0),Am s1 (mm 1),Am s2 (mm 2),Am s3 (mm 3),Am s4 (mm 4),Am s5 (mm 5)]),⟨by omega,by omega,⟨rfl,?_⟩,?_⟩,rfl,rfl,by simp only; omega⟩
 · intro s hs;simp only[List.mem_cons,List.not_mem_nil,or_false]at hs;rcases hs with rfl|rfl|rfl|rfl|rfl|rfl
   · have:=Ar b0 d0.1 d0.2.1;simp only[BU]at this;omega
   · have:=Ar b1 d1.1 d1.2.1;simp only[BU]at this;omega
   · have:=Ar b2 d2.1 d2.2.1;simp only[BU]at this;omega
   · have:=Ar b3 d3.1 d3.2.1;simp only[BU]at this;omega
   · have:=Ar b4 d4.1 d4.2.1;simp only[BU]at this;omega
   · have:=Ar b5 d5.1 d5.2.1;simp only[BU]at this;omega
 · simp only;rw[←hdf,t,d0.2.2,d1.2.2,d2.2.2,d3.2.2,d4.2.2,d5.2.2,kq0,kq1,kq2,kq3,kq4,kq5];rfl
def r75:Cr PR:=K0 [r133,r134,r135,r136,r204] 75 6 {ps:=[(true,hII),(true,hII),(false,hI),(false,hI),(false,[.sl hII])],rs:=[(false,[.bool])],pre:=λ_=>True,out:=λa=>[[.b (CB (I a 0 0) (I a 0 1) (I a 1 0) (I a 1 1) (I a 2 0) (I a 3 0) (L a 4 0))]]} (λa=>A75 (I a 0 0) (I a 0 1) (I a 1 0) (I a 1 1) (I a 2 0) (I a 3 0) (L a 4 0)) λa=>Y (v75 (I a 0 0) (I a 0 1) (I a 1 0) (I a 1 1) (I a 2 0) (I a 3 0) (L a 4 0))
end Go.Sx

set_option linter.unusedVariables false
set_option linter.unusedSimpArgs false
set_option maxRecDepth 100000
set_option maxHeartbeats 4000000
noncomputable section
namespace Go
open Go.Sx
def Ho (x y z:Int):Bool:=decide (x<=y+z)&&decide (y<=x+z)
def Tn (bn bd pn pd dr ji m u v:Int):Bool:=
 Ho (u*bn*pd*65536) (m*pn*bd*65536) (m*pn*bd*dr+ji*bd*pd*65536)&&(Ho (v*bd*pd*65536) (m*pn*bd*65536) (m*pn*bd*dr+ji*bd*pd*65536)&&
  Ho (u*bn*pd*65536) (v*bd*pd*65536) (m*pn*bd*dr+ji*bd*pd*65536))
def Nb (bn bd pn pd dr ji m u v:Int) (xs:List (List C)):Bool:=
 match xs with
 |[]=>true
 |x::r=>Tn bn bd pn pd dr ji (m+1) (u+CJ x) (v+CE x)&&Nb bn bd pn pd dr ji (m+1) (u+CJ x) (v+CE x) r
def Lr (bn bd pn pd dr ji:Int) (xs:List (List C)):Bool:=
 match xs with
 |[]=>true
 |x::r=>Nb bn bd pn pd dr ji 0 0 0 (x::r)&&Lr bn bd pn pd dr ji r
def Cc (bn bd pn pd dr ji:Int) (xs:List (List C)):Bool:=
 Ai bn bd&&(decide (bn<=768000/\bd<=768000)&&(Bq pn pd dr ji&&(decide ((xs.length:Int)<=256)&&(xs.all CO&&Lr bn bd pn pd dr ji xs))))
def U6 (xs:List (List C)) (kk:Int):Prop:=0<=kk/\kk<=(xs.length:Int)/\(xs.drop kk.toNat).all CO=xs.all CO
def U9 (bn bd pn pd dr ji:Int) (xs:List (List C)) (kk:Int):Prop:=0<=kk/\kk<=(xs.length:Int)/\Lr bn bd pn pd dr ji (xs.drop kk.toNat)=Lr bn bd pn pd dr ji xs
def Tf (bn bd pn pd dr ji:Int) (xs:List (List C)) (k0 kk u v:Int):Prop:=
 0<=kk/\kk<=(xs.length:Int)-k0/\0<=u/\u<=kk*65536/\0<=v/\v<=kk*65536/\Nb bn bd pn pd dr ji kk u v ((xs.drop k0.toNat).drop kk.toNat)=Nb bn bd pn pd dr ji 0 0 0 (xs.drop k0.toNat)
end Go
namespace Go
open Go.Sx
theorem OT {n:Int} (h0:0<=n) (h1:n<=1000000000000000000000000000000):Af (Ac n) (Aa n)=n:=by
 unfold Af Ac Aa; omega
theorem Qv {x y z:Int} (x0:0<=x) (x1:x<=1000000000000000000000000000000) (y0:0<=y) (y1:y<=1000000000000000000000000000000) (z0:0<=z) (z1:z<=1000000000000000000000000000000):JH x y z=Ho x y z:=by
 unfold JH Ho MW;rw[←decide_not,←decide_not];congr 1<;>(rw[decide_eq_decide]; omega)
theorem NR {xs:List (List C)} {k:Int} (h0:0<=k) (h1:k<(xs.length:Int)):xs.drop k.toNat=rGet xs k::xs.drop (k+1).toNat:=by
 rw[List.drop_eq_getElem_cons (show k.toNat<xs.length by omega),show(k+1).toNat=k.toNat+1 by omega];congr 1;simp[rGet,List.getD_eq_getElem?_getD,show k.toNat<xs.length by omega]
theorem FZ {bn bd pn pd dr ji:Int} {xs:List (List C)} (h:Ai bn bd=false∨768000<bn∨768000<bd∨Bq pn pd dr ji=false∨256<(xs.length:Int)∨xs.all CO=false):false=Cc bn bd pn pd dr ji xs:=by
 symm;unfold Cc;rcases h with h|h|h|h|h|h
 · simp[h]
 · have:decide (bn<=768000/\bd<=768000)=false:=by simp; omega
   simp[this]
 · have:decide (bn<=768000/\bd<=768000)=false:=by simp; omega
   simp[this]
 · simp[h]
 · have:decide ((xs.length:Int)<=256)=false:=by simp; omega
   simp[this]
 · simp only[h,Bool.false_and,Bool.and_false]
theorem WC {bn bd pn pd dr ji:Int} {xs:List (List C)} (h1:Ai bn bd=true) (h2:bn<=768000) (h3:bd<=768000) (h4:Bq pn pd dr ji=true) (h5:(xs.length:Int)<=256) (h6:xs.all CO=true):
 Cc bn bd pn pd dr ji xs=Lr bn bd pn pd dr ji xs:=by
 unfold Cc;rw[h1,h4,h6];simp[h2,h3,h5]
theorem NI {n d k j:Int} (h:ET n d=false∨k<0∨4096<k∨j<0∨65536<j):Bq n d k j=false:=by
 unfold Bq;rcases h with h|h|h|h|h
 · simp[h]
 all_goals
  have:decide (0<=k/\k<=4096/\0<=j/\j<=65536)=false:=by simp; omega
  simp[this]
theorem Xw {bn bd pn pd dr ji m u v:Int} (h1:1<=bn) (h2:bn<=768000) (h3:1<=bd) (h4:bd<=768000) (h5:1<=pd) (h6:pd<=768000) (p0:1<=pn) (p1:pn<=68719476736) (d0:0<=dr) (d1:dr<=4096) (j0:0<=ji) (j1:ji<=65536)
 (m0:0<=m) (m1:m<=257) (u0:0<=u) (u1:u<=257*65536) (v0:0<=v) (v1:v<=257*65536):
 0<=u*bn/\u*bn<=100000000000000000/\0<=u*bn*pd*65536/\u*bn*pd*65536<=100000000000000000000000000/\0<=v*bd/\v*bd<=100000000000000000/\0<=v*bd*pd*65536/\v*bd*pd*65536<=100000000000000000000000000/\
 0<=m*pn/\m*pn<=100000000000000000/\0<=m*pn*bd*65536/\m*pn*bd*65536<=100000000000000000000000000/\0<=m*pn*bd*dr/\m*pn*bd*dr<=100000000000000000000000000/\
 0<=ji*bd/\ji*bd<=100000000000000000/\0<=ji*bd*pd*65536/\ji*bd*pd*65536<=100000000000000000000000000:=by
 have a1:=Aap (x:=u) (X:=257*65536) (y:=bn) (Y:=768000) (by omega) (by omega) (by omega) (by omega);have a2:=Aap (x:=u*bn) (X:=257*65536*768000) (y:=pd) (Y:=768000) (by omega) (by omega) (by omega) (by omega);have b1:=Aap (x:=v) (X:=257*65536) (y:=bd) (Y:=768000) (by omega) (by omega) (by omega) (by omega);have b2:=Aap (x:=v*bd) (X:=257*65536*768000) (y:=pd) (Y:=768000) (by omega) (by omega) (by omega) (by omega);have c1:=Aap (x:=m) (X:=257) (y:=pn) (Y:=68719476736) (by omega) (by omega) (by omega) (by omega);have c2:=Aap (x:=m*pn) (X:=257*68719476736) (y:=bd) (Y:=768000) (by omega) (by omega) (by omega) (by omega);have c3:=Aap (x:=m*pn*bd) (X:=257*68719476736*768000) (y:=dr) (Y:=4096) (by omega) (by omega) (by omega) (by omega);have e1:=Aap (x:=ji) (X:=65536) (y:=bd) (Y:=768000) (by omega) (by omega) (by omega) (by omega);have e2:=Aap (x:=ji*bd) (X:=65536*768000) (y:=pd) (Y:=768000) (by omega) (by omega) (by omega) (by omega);omega
end Go
namespace Go.Sx
def A79 (bn:Int) (bd:Int) (pn:Int) (pd:Int) (dr:Int) (ji:Int) (xs:List (List C)):FuncId->Nat->LoopAnn:=λ_ ii=>bif Nat.beq ii 4 then .inv Int (λz=>U6 xs z) (λz=>[(67,.int .i64 z)]) (λ_=>[]) [] [0,1,2,3,4,5,6,10,12,13,14,15,16,17,18,19,20,21,22,23,24,25,64,65,66,67,68,88,100,101,102,106,107,108,109,175] (λz=>xs.length-z.toNat)else bif Nat.beq ii 11 then .inv Int (λz=>U9 bn bd pn pd dr ji xs z) (λz=>[(101,.int .i64 z)]) (λ_=>[]) [] [0,1,2,3,4,5,6,10,12,13,14,15,16,17,18,19,20,21,22,23,24,25,64,65,66,67,68,88,100,101,102,106,107,108,109,175] (λz=>xs.length-z.toNat)else bif Nat.beq ii 15 then .on (λsv0=>match sv0.tmps.getD 101 .undef with| .int _ kk=> .inv (Int×Int×Int) (λz=>Tf bn bd pn pd dr ji xs kk z.1 z.2.1 z.2.2) (λz=>[(108,.int .i64 z.1),(17,.int .u64 z.2.1),(18,.int .u64 z.2.2)]) (λ_=>[]) [] [0,1,2,3,4,5,6,10,12,13,14,15,16,17,18,19,20,21,22,23,24,25,64,65,66,67,68,88,100,101,102,106,107,108,109,175] (λz=>xs.length-z.1.toNat)|_=> .unroll 0)else .unroll 0
def AbX (xs:List (List C)) (x_1:Int) (x_2:Int×Int×Int):List C:=(rGet (cutRows xs (some x_1) none) x_2.1)
def AjW (bd:Int) (pn:Int) (pd:Int) (dr:Int) (ji:Int) (x_2:Int×Int×Int):Int:=(Ac (Af (Ac (iMul (Aaj .u64 (iAdd x_2.1 1)) (Aaj .u64 pn)*Aaj .u64 bd*Aaj .u64 dr)) (Aa (iMul (Aaj .u64 (iAdd x_2.1 1)) (Aaj .u64 pn)*Aaj .u64 bd*Aaj .u64 dr))+Af (Ac (iMul (Aaj .u64 ji) (Aaj .u64 bd)*Aaj .u64 pd*65536)) (Aa (iMul (Aaj .u64 ji) (Aaj .u64 bd)*Aaj .u64 pd*65536))))
def AjV (bd:Int) (pn:Int) (pd:Int) (dr:Int) (ji:Int) (x_2:Int×Int×Int):Int:=(Aa (Af (Ac (iMul (Aaj .u64 (iAdd x_2.1 1)) (Aaj .u64 pn)*Aaj .u64 bd*Aaj .u64 dr)) (Aa (iMul (Aaj .u64 (iAdd x_2.1 1)) (Aaj .u64 pn)*Aaj .u64 bd*Aaj .u64 dr))+Af (Ac (iMul (Aaj .u64 ji) (Aaj .u64 bd)*Aaj .u64 pd*65536)) (Aa (iMul (Aaj .u64 ji) (Aaj .u64 bd)*Aaj .u64 pd*65536))))
def Ajc (bd:Int) (pn:Int) (pd:Int) (dr:Int) (ji:Int) (x_2:Int×Int×Int):Int:=(Af (AjW bd pn pd dr ji x_2) (AjV bd pn pd dr ji x_2))
def AjU (bn:Int) (pd:Int) (xs:List (List C)) (x_1:Int) (x_2:Int×Int×Int):Int:=(Af (Ac (iMul (iAdd x_2.2.1 (Aaj .u64 (qi 0 (AbX xs x_1 x_2)))) (Aaj .u64 bn)*Aaj .u64 pd*65536)) (Aa (iMul (iAdd x_2.2.1 (Aaj .u64 (qi 0 (AbX xs x_1 x_2)))) (Aaj .u64 bn)*Aaj .u64 pd*65536)))
def AjT (bd:Int) (pd:Int) (xs:List (List C)) (x_1:Int) (x_2:Int×Int×Int):Int:=(Af (Ac (iMul (iAdd x_2.2.2 (Aaj .u64 (qi 1 (AbX xs x_1 x_2)))) (Aaj .u64 bd)*Aaj .u64 pd*65536)) (Aa (iMul (iAdd x_2.2.2 (Aaj .u64 (qi 1 (AbX xs x_1 x_2)))) (Aaj .u64 bd)*Aaj .u64 pd*65536)))
def AjS (bd:Int) (pn:Int) (x_2:Int×Int×Int):Int:=(Af (Ac (iMul (Aaj .u64 (iAdd x_2.1 1)) (Aaj .u64 pn)*Aaj .u64 bd*65536)) (Aa (iMul (Aaj .u64 (iAdd x_2.1 1)) (Aaj .u64 pn)*Aaj .u64 bd*65536)))
theorem v79 (bn:Int) (bd:Int) (pn:Int) (pd:Int) (dr:Int) (ji:Int) (xs:List (List C)):InR .i64 bn/\InR .i64 bd/\InR .i64 pn/\InR .i64 pd/\InR .i64 dr/\InR .i64 ji/\WL hII xs->True/\True/\Cn (bNot (Ai bn bd)) (false=Cc bn bd pn pd dr ji xs) (Cn (bLt 768000 bn) (false=Cc bn bd pn pd dr ji xs) (Cn (bLt 768000 bd) (false=Cc bn bd pn pd dr ji xs) (True/\True/\Cn (bNot (ET pn pd)) (false=Cc bn bd pn pd dr ji xs) (Cn (bLt dr 0) (false=Cc bn bd pn pd dr ji xs) (Cn (bLt 4096 dr) (false=Cc bn bd pn pd dr ji xs) (Cn (bLt ji 0) (false=Cc bn bd pn pd dr ji xs) (Cn (bLt 65536 ji) (false=Cc bn bd pn pd dr ji xs) (pLe (iLen xs) 9223372036854775807->Cn (bLt 256 (iLen xs)) (false=Cc bn bd pn pd dr ji xs) (pLe (iLen xs) 9223372036854775807->(∃(x:Int),U6 xs x/\0=x)/\∀(x:Int),U6 xs x->InR .i64 x->Cn (bLt x (iLen xs)) (pIn 0 (iLen xs) x/\(InR .i64 (qi 0 (rGet xs x))/\InR .i64 (qi 1 (rGet xs x))->Cn (bLt (qi 0 (rGet xs x)) 0) (false=Cc bn bd pn pd dr ji xs) (Cn (bLt 65536 (qi 0 (rGet xs x))) (false=Cc bn bd pn pd dr ji xs) (Cn (bLt (qi 1 (rGet xs x)) 0) (false=Cc bn bd pn pd dr ji xs) (Cn (bLt 65536 (qi 1 (rGet xs x))) (false=Cc bn bd pn pd dr ji xs) (InR .i64 (iAdd x 1)/\Sm [C.i bn,C.i bd]/\Sm [C.i pn,C.i pd]/\Sm dr/\Sm ji/\Sm xs/\Sm xs/\Sm (iLen xs)/\Sm [C.i bn,C.i bd]/\Sm [C.i pn,C.i pd]/\∃(y:Int),U6 xs y/\iAdd x 1=y/\nLt (xs.length-y.toNat) (xs.length-x.toNat))))))) (pLe (iLen xs) 9223372036854775807->(∃(x:Int),U9 bn bd pn pd dr ji xs x/\0=x)/\∀(x_1:Int),U9 bn bd pn pd dr ji xs x_1->InR .i64 x_1->Cn (bLt x_1 (iLen xs)) (geB (some x_1) none (iLen xs)/\(pLe (iLen (cutRows xs (some x_1) none)) 9223372036854775807->(∃(x:Int×Int×Int),Tf bn bd pn pd dr ji xs x_1 x.1 x.2.1 x.2.2/\0=x.1/\0=x.2.1/\0=x.2.2)/\∀(x_2:Int×Int×Int),Tf bn bd pn pd dr ji xs x_1 x_2.1 x_2.2.1 x_2.2.2->InR .i64 x_2.1/\InR .u64 x_2.2.1/\InR .u64 x_2.2.2->Cn (bLt x_2.1 (iLen (cutRows xs (some x_1) none))) (pIn 0 (iLen (cutRows xs (some x_1) none)) x_2.1/\(InR .i64 (qi 0 (AbX xs x_1 x_2))/\InR .i64 (qi 1 (AbX xs x_1 x_2))->InR .i64 (iAdd x_2.1 1)/\InR .u64 (iAdd x_2.2.1 (Aaj .u64 (qi 0 (AbX xs x_1 x_2))))/\InR .u64 (iAdd x_2.2.2 (Aaj .u64 (qi 1 (AbX xs x_1 x_2))))/\InR .u64 (iMul (iAdd x_2.2.1 (Aaj .u64 (qi 0 (AbX xs x_1 x_2)))) (Aaj .u64 bn))/\(pLe (iMul (iAdd x_2.2.1 (Aaj .u64 (qi 0 (AbX xs x_1 x_2)))) (Aaj .u64 bn)*Aaj .u64 pd*65536) 340282366920938463463374607431768211455/\True)/\(InR .u64 (Ac (iMul (iAdd x_2.2.1 (Aaj .u64 (qi 0 (AbX xs x_1 x_2)))) (Aaj .u64 bn)*Aaj .u64 pd*65536))/\InR .u64 (Aa (iMul (iAdd x_2.2.1 (Aaj .u64 (qi 0 (AbX xs x_1 x_2)))) (Aaj .u64 bn)*Aaj .u64 pd*65536))->InR .u64 (iMul (iAdd x_2.2.2 (Aaj .u64 (qi 1 (AbX xs x_1 x_2)))) (Aaj .u64 bd))/\(pLe (iMul (iAdd x_2.2.2 (Aaj .u64 (qi 1 (AbX xs x_1 x_2)))) (Aaj .u64 bd)*Aaj .u64 pd*65536) 340282366920938463463374607431768211455/\True)/\(InR .u64 (Ac (iMul (iAdd x_2.2.2 (Aaj .u64 (qi 1 (AbX xs x_1 x_2)))) (Aaj .u64 bd)*Aaj .u64 pd*65536))/\InR .u64 (Aa (iMul (iAdd x_2.2.2 (Aaj .u64 (qi 1 (AbX xs x_1 x_2)))) (Aaj .u64 bd)*Aaj .u64 pd*65536))->InR .u64 (iMul (Aaj .u64 (iAdd x_2.1 1)) (Aaj .u64 pn))/\(pLe (iMul (Aaj .u64 (iAdd x_2.1 1)) (Aaj .u64 pn)*Aaj .u64 bd*65536) 340282366920938463463374607431768211455/\True)/\(InR .u64 (Ac (iMul (Aaj .u64 (iAdd x_2.1 1)) (Aaj .u64 pn)*Aaj .u64 bd*65536))/\InR .u64 (Aa (iMul (Aaj .u64 (iAdd x_2.1 1)) (Aaj .u64 pn)*Aaj .u64 bd*65536))->InR .u64 (iMul (Aaj .u64 (iAdd x_2.1 1)) (Aaj .u64 pn))/\(pLe (iMul (Aaj .u64 (iAdd x_2.1 1)) (Aaj .u64 pn)*Aaj .u64 bd*Aaj .u64 dr) 340282366920938463463374607431768211455/\True)/\(InR .u64 (Ac (iMul (Aaj .u64 (iAdd x_2.1 1)) (Aaj .u64 pn)*Aaj .u64 bd*Aaj .u64 dr))/\InR .u64 (Aa (iMul (Aaj .u64 (iAdd x_2.1 1)) (Aaj .u64 pn)*Aaj .u64 bd*Aaj .u64 dr))->InR .u64 (iMul (Aaj .u64 ji) (Aaj .u64 bd))/\(pLe (iMul (Aaj .u64 ji) (Aaj .u64 bd)*Aaj .u64 pd*65536) 340282366920938463463374607431768211455/\True)/\(InR .u64 (Ac (iMul (Aaj .u64 ji) (Aaj .u64 bd)*Aaj .u64 pd*65536))/\InR .u64 (Aa (iMul (Aaj .u64 ji) (Aaj .u64 bd)*Aaj .u64 pd*65536))->True/\(InR .u64 (AjW bd pn pd dr ji x_2)/\InR .u64 (AjV bd pn pd dr ji x_2)->True/\True/\Cn (bNot (JH (AjU bn pd xs x_1 x_2) (AjS bd pn x_2) (Ajc bd pn pd dr ji x_2))) (false=Cc bn bd pn pd dr ji xs) (True/\True/\Cn (bNot (JH (AjT bd pd xs x_1 x_2) (AjS bd pn x_2) (Ajc bd pn pd dr ji x_2))) (false=Cc bn bd pn pd dr ji xs) (True/\True/\Cn (bNot (JH (AjU bn pd xs x_1 x_2) (AjT bd pd xs x_1 x_2) (Ajc bd pn pd dr ji x_2))) (false=Cc bn bd pn pd dr ji xs) (InR .i64 (iAdd x_2.1 1)/\Sm [C.i bn,C.i bd]/\Sm [C.i pn,C.i pd]/\Sm dr/\Sm ji/\Sm xs/\Sm (Aaj .u64 bd)/\Sm (Aaj .u64 pn)/\Sm (Aaj .u64 pd)/\Sm x_1/\Sm xs/\Sm (iLen xs)/\Sm x/\Sm (iLen xs)/\Sm x_1/\Sm (cutRows xs (some x_1) none)/\Sm (iLen (cutRows xs (some x_1) none))/\Sm [C.i bn,C.i bd]/\Sm [C.i pn,C.i pd]/\∃(y:Int×Int×Int),Tf bn bd pn pd dr ji xs x_1 y.1 y.2.1 y.2.2/\iAdd x_2.1 1=y.1/\iAdd x_2.2.1 (Aaj .u64 (qi 0 (AbX xs x_1 x_2)))=y.2.1/\iAdd x_2.2.2 (Aaj .u64 (qi 1 (AbX xs x_1 x_2)))=y.2.2/\nLt (xs.length-y.1.toNat) (xs.length-x_2.1.toNat)))))))))))) (InR .i64 (iAdd x_1 1)/\Sm [C.i bn,C.i bd]/\Sm [C.i pn,C.i pd]/\Sm dr/\Sm ji/\Sm xs/\Sm (Aaj .u64 bd)/\Sm (Aaj .u64 pn)/\Sm (Aaj .u64 pd)/\Sm xs/\Sm (iLen xs)/\Sm x/\Sm (iLen xs)/\Sm [C.i bn,C.i bd]/\Sm [C.i pn,C.i pd]/\∃(y:Int),U9 bn bd pn pd dr ji xs y/\iAdd x_1 1=y/\nLt (xs.length-y.toNat) (xs.length-x_1.toNat)))) (true=Cc bn bd pn pd dr ji xs))))))))))):=by
 intro hw;delta AbX AjW AjV Ajc AjU AjT AjS;simp only[Cn_iff,Aas,true_and];simp only[iMul,iAdd,iSub,eq_self,true_and,and_true,implies_true,true_implies];refine⟨λh1=> ?_,λh1=>⟨λh2=> ?_,λh2=>⟨λh3=> ?_,λh3=>⟨λh4=> ?_,λh4=>⟨λg1=> ?_,λg1=>⟨λg2=> ?_,λg2=>⟨λg3=> ?_,λg3=>⟨λg4=> ?_,λg4 _=>⟨λh5=> ?_,λh5=> ?_⟩⟩⟩⟩⟩⟩⟩⟩⟩
 · exact FZ (.inl (by simpa using h1))
 · exact FZ (.inr (.inl (by simpa[bLt]using h2)))
 · exact FZ (.inr (.inr (.inl (by simpa[bLt]using h3))))
 · exact FZ (.inr (.inr (.inr (.inl (NI (.inl (by simpa using h4)))))))
 · exact FZ (.inr (.inr (.inr (.inl (NI (.inr (.inl (by simpa[bLt]using g1))))))))
 · exact FZ (.inr (.inr (.inr (.inl (NI (.inr (.inr (.inl (by simpa[bLt]using g2)))))))))
 · exact FZ (.inr (.inr (.inr (.inl (NI (.inr (.inr (.inr (.inl (by simpa[bLt]using g3))))))))))
 · exact FZ (.inr (.inr (.inr (.inl (NI (.inr (.inr (.inr (.inr (by simpa[bLt]using g4))))))))))
 · exact FZ (.inr (.inr (.inr (.inr (.inl (by simpa[bLt,iLen]using h5))))))
 have v1:Ai bn bd=true:=by simpa using h1
 simp only[bLt,iLen,decide_eq_false_iff_not]at h2 h3 h5 g1 g2 g3 g4;have v4:Bq pn pd dr ji=true:=by
  unfold Bq;have e:ET pn pd=true:=by simpa using h4
  rw[e]; simp; omega
 have hd:=Le v4;have hb:1<=bn/\1<=bd:=by
  have h:=v1;simp only[Ai,decide_eq_true_eq]at h; omega
 clear h1 h4;simp only[pLe,iLen];refine λ_=>⟨⟨0,⟨by omega,by omega,rfl⟩,rfl⟩,?_⟩
 rintro k ⟨k0,k1,hk⟩ _;refine⟨λhlt=> ?_,λhge=> ?_⟩
 · simp only[bLt,decide_eq_true_eq]at hlt;rw[NR k0 hlt]at hk;generalize rGet xs k=x at*;have e1:(qi 0 x)=CJ x:=rfl;have e2:(qi 1 x)=CE x:=rfl;simp only[e1,e2];have no:CO x=false->false=Cc bn bd pn pd dr ji xs:=λh=>FZ (.inr (.inr (.inr (.inr (.inr (by rw[←hk,List.all_cons,h]; rfl))))));refine⟨⟨k0,hlt⟩,λ_=>⟨λq1=> ?_,λq1=>⟨λq2=> ?_,λq2=>⟨λq3=> ?_,λq3=>⟨λq4=> ?_,λq4=> ?_⟩⟩⟩⟩⟩
   · simp only[bLt,decide_eq_true_eq]at q1;exact no (by simp only[CO,decide_eq_false_iff_not]; omega)
   · simp only[bLt,decide_eq_true_eq]at q2;exact no (by simp only[CO,decide_eq_false_iff_not]; omega)
   · simp only[bLt,decide_eq_true_eq]at q3;exact no (by simp only[CO,decide_eq_false_iff_not]; omega)
   · simp only[bLt,decide_eq_true_eq]at q4;exact no (by simp only[CO,decide_eq_false_iff_not]; omega)
   · simp only[bLt,decide_eq_false_iff_not]at q1 q2 q3 q4;have t:CO x=true:=by simp only[CO,decide_eq_true_eq]; omega
     refine⟨by simp only[InR]; omega,k+1,⟨by omega,by omega,?_⟩,rfl,by omega⟩;rw[←hk,List.all_cons,t]; rfl
 simp only[bLt,decide_eq_false_iff_not]at hge;have hall:xs.all CO=true:=by
  rw[←hk,List.drop_eq_nil_of_le (by omega)]; rfl
 rw[WC v1 (by omega) (by omega) v4 (by omega) hall];refine λ_=>⟨⟨0,⟨by omega,by omega,rfl⟩,rfl⟩,?_⟩
 rintro i ⟨i0,i1,hi⟩ _;refine⟨λhlt=> ?_,λhge=> ?_⟩;rotate_left
 · simp only[bLt,decide_eq_false_iff_not]at hge;rw[←hi,List.drop_eq_nil_of_le (by omega)]; rfl
 simp only[bLt,decide_eq_true_eq]at hlt;rw[NR i0 hlt,Lr,←NR i0 hlt]at hi;have hc:cutRows xs (some i) none=xs.drop i.toNat:=rfl;have hlen:((xs.drop i.toNat).length:Int)=(xs.length:Int)-i:=by rw[List.length_drop]; omega
 simp only[hc,hlen,Tf];refine⟨⟨i0,by omega⟩,λ_=>⟨⟨(0,0,0),⟨by simp only; omega,by simp only; omega,by simp only; omega,by simp only; omega,by simp only; omega,by simp only; omega,rfl⟩,rfl,rfl,rfl⟩,?_⟩⟩;have hin:∀y∈xs.drop i.toNat,CO y=true:=λy hy=>List.all_eq_true.1 hall y (List.mem_of_mem_drop hy);generalize xs.drop i.toNat=ys at*;rintro⟨k,u,v⟩ ⟨k0,k1,u0,u1,w0,w1,hr⟩ _;simp only at k0 k1 u0 u1 w0 w1 hr ⊢;refine⟨λhlt=> ?_,λhge=> ?_⟩;rotate_left
 · simp only[bLt,decide_eq_false_iff_not]at hge;refine⟨by simp only[InR]; omega,i+1,⟨by omega,by omega,?_⟩,rfl,by omega⟩;have e:ys.drop k.toNat=[]:=List.drop_eq_nil_of_le (by omega);rw[←hi,←hr,e]; rfl
 simp only[bLt,decide_eq_true_eq]at hlt;rw[NR k0 (by omega)]at hr;have hx:CO (rGet ys k)=true:=hin _ (by
  simp only[rGet,List.getD_eq_getElem?_getD];rw[List.getElem?_eq_getElem (show k.toNat<ys.length by omega)];exact List.getElem_mem _)
 generalize rGet ys k=x at*;have e1:(qi 0 x)=CJ x:=rfl;have e2:(qi 1 x)=CE x:=rfl;simp only[e1,e2];simp only[CO,decide_eq_true_eq]at hx;simp only[Nb]at hr;rw[Bv (x:=CJ x) (by omega) (by omega),Bv (x:=CE x) (by omega) (by omega),Bv (x:=bn) (by omega) (by omega),Bv (x:=bd) (by omega) (by omega),Bv (x:=pd) (by omega) (by omega),Bv (x:=pn) (by omega) (by omega),Bv (x:=dr) (by omega) (by omega),Bv (x:=ji) (by omega) (by omega),Bv (x:=k+1) (by omega) (by omega)];obtain⟨a1,a2,a3,a4,a5,a6,a7,a8,a9,a10,a11,a12,a13,a14,a15,a16,a17,a18⟩:=Xw (bn:=bn) (bd:=bd) (pn:=pn) (pd:=pd) (dr:=dr) (ji:=ji) (m:=k+1) (u:=u+CJ x) (v:=v+CE x)
  hb.1 (by omega) hb.2 (by omega) (by omega) (by omega) (by omega) (by omega) (by omega) (by omega) (by omega) (by omega) (by omega) (by omega) (by omega) (by omega) (by omega) (by omega)
 have hok:Tn bn bd pn pd dr ji (k+1) (u+CJ x) (v+CE x)=(Ho ((u+CJ x)*bn*pd*65536) ((k+1)*pn*bd*65536) ((k+1)*pn*bd*dr+ji*bd*pd*65536)&&(Ho ((v+CE x)*bd*pd*65536) ((k+1)*pn*bd*65536) ((k+1)*pn*bd*dr+ji*bd*pd*65536)&&
  Ho ((u+CJ x)*bn*pd*65536) ((v+CE x)*bd*pd*65536) ((k+1)*pn*bd*dr+ji*bd*pd*65536))):=rfl
 rw[hok]at hr;clear hok;generalize (u+CJ x)*bn*pd*65536=U at*;generalize (v+CE x)*bd*pd*65536=V at*;generalize (k+1)*pn*bd*65536=N at*;generalize (k+1)*pn*bd*dr=A at*;generalize ji*bd*pd*65536=B at*;generalize (u+CJ x)*bn=U1 at*;generalize (v+CE x)*bd=V1 at*;generalize (k+1)*pn=N1 at*;generalize ji*bd=B1 at*;rw[OT (n:=A) (by omega) (by omega),OT (n:=B) (by omega) (by omega),OT (n:=A+B) (by omega) (by omega),OT (n:=U) (by omega) (by omega),OT (n:=V) (by omega) (by omega),OT (n:=N) (by omega) (by omega)];rw[Qv (x:=U) (y:=N) (z:=A+B) (by omega) (by omega) (by omega) (by omega) (by omega) (by omega),Qv (x:=V) (y:=N) (z:=A+B) (by omega) (by omega) (by omega) (by omega) (by omega) (by omega),Qv (x:=U) (y:=V) (z:=A+B) (by omega) (by omega) (by omega) (by omega) (by omega) (by omega)];generalize Ho U N (A+B)=p1 at*;generalize Ho V N (A+B)=p2 at*;generalize Ho U V (A+B)=p3 at*;simp only[InR];refine⟨⟨k0,by omega⟩,λ_=>⟨by omega,by omega,by omega,by omega,by omega,λ_=>⟨by omega,by omega,λ_=>⟨by omega,by omega,λ_=>⟨by omega,by omega,λ_=>⟨by omega,by omega,λ_ _=> ?_⟩⟩⟩⟩⟩⟩;have bad:(p1&&(p2&&p3))=false->false=Lr bn bd pn pd dr ji xs:=λh=>by rw[←hi,←hr,h]; rfl
 have good:(p1&&(p2&&p3))=true->Nb bn bd pn pd dr ji (k+1) (u+CJ x) (v+CE x) (ys.drop (k+1).toNat)=Nb bn bd pn pd dr ji 0 0 0 ys:=λh=>by rw[←hr,h]; rfl
 refine⟨λf1=>bad (by cases p1<;>simp_all),λf1=>⟨λf2=>bad (by cases p2<;>simp_all),λf2=>⟨λf3=>bad (by cases p3<;>simp_all),λf3=>⟨by omega,(k+1,u+CJ x,v+CE x),⟨by simp only; omega,by simp only; omega,by simp only; omega,by simp only; omega,by simp only; omega,by simp only; omega,good (by cases p1<;>cases p2<;>cases p3<;>simp_all)⟩,rfl,rfl,rfl,by simp only; omega⟩⟩⟩⟩
def r79:Cr PR:=K0 [r143,r144,r145,r146,r147] 79 6 {ps:=[(true,hII),(true,hII),(false,hI),(false,hI),(false,[.sl hII])],rs:=[(false,[.bool])],pre:=λ_=>True,out:=λa=>[[.b (Cc (I a 0 0) (I a 0 1) (I a 1 0) (I a 1 1) (I a 2 0) (I a 3 0) (L a 4 0))]]} (λa=>A79 (I a 0 0) (I a 0 1) (I a 1 0) (I a 1 1) (I a 2 0) (I a 3 0) (L a 4 0)) λa=>Y (v79 (I a 0 0) (I a 0 1) (I a 1 0) (I a 1 1) (I a 2 0) (I a 3 0) (L a 4 0))
end Go.Sx
namespace Go
def GM (L:Int):Int->List Int->Bool
 |_,[]=>true
 |s,a::bs=>decide (s+a<=L)&&GM L (s+a) bs
def IE (L:Int):List Int->Bool
 |[]=>true
 |a::bs=>GM L 0 (a::bs)&&IE L bs
def JC (L:Int):Int->Int->List Int->Bool
 |_,_,[]=>true
 |n,l,a::bs=>decide (n+a-min l (n+a)<=L)&&JC L (n+a) (min l (n+a)) bs
theorem MJ {L:Int}:∀ {bs:List Int} {s t:Int},s<=t->GM L t bs=true->GM L s bs=true
 |[],_,_,_,_=>rfl
 |a::bs,s,t,h,p=>by
  simp only[GM,Bool.and_eq_true,decide_eq_true_eq]at p ⊢;exact⟨by omega,MJ (by omega) p.2⟩
theorem TC {L:Int}:∀ {bs:List Int},IE L bs=true->GM L 0 bs=true
 |[],_=>rfl
 |a::bs,h=>by simp only[IE,Bool.and_eq_true]at h; exact h.1
theorem TD {L:Int} (hL:0<=L):∀ {bs:List Int} {n l:Int},l<=n->(JC L n l bs=true↔GM L (n-l) bs=true/\IE L bs=true)
 |[],_,_,_=>by simp[JC,GM,IE]
 |a::bs,n,l,h=>by
  have ih:=TD hL (bs:=bs) (n:=n+a) (l:=min l (n+a)) (by omega);simp only[JC,GM,IE,Bool.and_eq_true,decide_eq_true_eq,ih];constructor
  · rintro⟨h1,h2,h3⟩;have b:GM L (n-l+a) bs=true:=MJ (by omega) h2;exact⟨⟨by omega,b⟩,⟨by omega,MJ (by omega) b⟩,h3⟩
  · rintro⟨⟨h1,h2⟩,⟨h3,h4⟩,h5⟩;refine⟨by omega,?_,h5⟩;rcases Int.le_total l (n+a)with h6|h6
    · rw[Int.min_eq_left h6]; exact MJ (by omega) h2
    · rw[Int.min_eq_right h6]; exact MJ (by omega) (TC h5)
theorem WO {L:Int} (hL:0<=L) (bs:List Int):JC L 0 0 bs=IE L bs:=by
 rw[Bool.eq_iff_iff,TD hL (Int.le_refl 0)];exact⟨λh=>h.2,λh=>⟨TC h,h⟩⟩
end Go
namespace Go
open Go.Sx
def JB (bn bd pn pd dr:Int) (g:Nat) (m u v:Int):Int:=
 match g with
 |0=>u*(bn*(pd*65536))-m*(pn*bd)*65536-m*(pn*bd*dr)
 |1=>m*(pn*bd)*65536-m*(pn*bd*dr)-u*(bn*(pd*65536))
 |2=>v*(bd*(pd*65536))-m*(pn*bd)*65536-m*(pn*bd*dr)
 |3=>m*(pn*bd)*65536-m*(pn*bd*dr)-v*(bd*(pd*65536))
 |4=>u*(bn*(pd*65536))-v*(bd*(pd*65536))-m*(pn*bd*dr)
 |_=>v*(bd*(pd*65536))-u*(bn*(pd*65536))-m*(pn*bd*dr)
theorem Xq (bn bd pn pd dr m u v:Int) (x:List C) (g:Nat):JB bn bd pn pd dr g (m+1) (u+CJ x) (v+CE x)=JB bn bd pn pd dr g m u v+DK bn bd pn pd dr g x:=by
 have e1:CJ x*bn*(pd*65536)=CJ x*(bn*(pd*65536)):=Int.mul_assoc _ _ _;have e2:CE x*bd*(pd*65536)=CE x*(bd*(pd*65536)):=Int.mul_assoc _ _ _;have e3:pn*bd*(65536+dr)=pn*bd*65536+pn*bd*dr:=Int.mul_add _ _ _;have e4:pn*bd*(65536-dr)=pn*bd*65536-pn*bd*dr:=Int.mul_sub _ _ _;unfold JB DK;rw[e1,e2,e3,e4];clear e1 e2 e3 e4;generalize bn*(pd*65536)=c1;generalize bd*(pd*65536)=c2;generalize pn*bd*dr=e;generalize pn*bd=W;generalize CJ x=p;generalize CE x=q;rw[Int.add_mul u p c1,Int.add_mul v q c2,Int.add_mul m 1 W,Int.add_mul m 1 e,Int.one_mul,Int.one_mul];rcases g with _|_|_|_|_|g<;>simp only<;>omega
theorem XQ (bn bd pn pd dr ji m u v:Int):Tn bn bd pn pd dr ji m u v=
 (decide (JB bn bd pn pd dr 0 m u v<=bd*(pd*65536)*ji)&&(decide (JB bn bd pn pd dr 1 m u v<=bd*(pd*65536)*ji)&&(decide (JB bn bd pn pd dr 2 m u v<=bd*(pd*65536)*ji)&&
 (decide (JB bn bd pn pd dr 3 m u v<=bd*(pd*65536)*ji)&&(decide (JB bn bd pn pd dr 4 m u v<=bd*(pd*65536)*ji)&&decide (JB bn bd pn pd dr 5 m u v<=bd*(pd*65536)*ji)))))):=by
 have e1:u*bn*pd*65536=u*(bn*(pd*65536)):=by simp only[Int.mul_assoc]
 have e2:v*bd*pd*65536=v*(bd*(pd*65536)):=by simp only[Int.mul_assoc]
 have e3:m*pn*bd*65536=m*(pn*bd)*65536:=by simp only[Int.mul_assoc]
 have e4:m*pn*bd*dr=m*(pn*bd*dr):=by simp only[Int.mul_assoc]
 have e5:ji*bd*pd*65536=bd*(pd*65536)*ji:=by rw[Int.mul_comm (bd*(pd*65536)) ji]; simp only[Int.mul_assoc]
 unfold Tn Ho;rw[e1,e2,e3,e4,e5];simp only[JB];generalize bd*(pd*65536)*ji=J;generalize u*(bn*(pd*65536))=U;generalize v*(bd*(pd*65536))=V;generalize m*(pn*bd*dr)=D;generalize m*(pn*bd)*65536=N;rw[Bool.eq_iff_iff];simp only[Bool.and_eq_true,decide_eq_true_eq];omega
theorem Tt (bn bd pn pd dr ji:Int):∀(xs:List (List C)) (m u v:Int),Nb bn bd pn pd dr ji m u v xs=
 (GM (bd*(pd*65536)*ji) (JB bn bd pn pd dr 0 m u v) (xs.map (DK bn bd pn pd dr 0))&&(GM (bd*(pd*65536)*ji) (JB bn bd pn pd dr 1 m u v) (xs.map (DK bn bd pn pd dr 1))&&
 (GM (bd*(pd*65536)*ji) (JB bn bd pn pd dr 2 m u v) (xs.map (DK bn bd pn pd dr 2))&&(GM (bd*(pd*65536)*ji) (JB bn bd pn pd dr 3 m u v) (xs.map (DK bn bd pn pd dr 3))&&
 (GM (bd*(pd*65536)*ji) (JB bn bd pn pd dr 4 m u v) (xs.map (DK bn bd pn pd dr 4))&&GM (bd*(pd*65536)*ji) (JB bn bd pn pd dr 5 m u v) (xs.map (DK bn bd pn pd dr 5)))))))
 |[],m,u,v=>rfl
 |x::r,m,u,v=>by
  rw[Nb,Tt bn bd pn pd dr ji r,XQ];simp only[List.map_cons,GM,Xq];ac_rfl
theorem Sz (bn bd pn pd dr ji:Int):∀(xs:List (List C)),Lr bn bd pn pd dr ji xs=
 (IE (bd*(pd*65536)*ji) (xs.map (DK bn bd pn pd dr 0))&&(IE (bd*(pd*65536)*ji) (xs.map (DK bn bd pn pd dr 1))&&(IE (bd*(pd*65536)*ji) (xs.map (DK bn bd pn pd dr 2))&&
 (IE (bd*(pd*65536)*ji) (xs.map (DK bn bd pn pd dr 3))&&(IE (bd*(pd*65536)*ji) (xs.map (DK bn bd pn pd dr 4))&&IE (bd*(pd*65536)*ji) (xs.map (DK bn bd pn pd dr 5)))))))
 |[]=>rfl
 |x::r=>by
  have z:∀g,JB bn bd pn pd dr g 0 0 0=0:=λg=>by unfold JB; split<;>simp
  rw[Lr,Sz bn bd pn pd dr ji r,Tt];simp only[z,List.map_cons,IE];ac_rfl
theorem Um (J:Int) (m:Nat->List C->Int):∀(xs:List (List C)) (s0 s1 s2 s3 s4 s5:Int×Int),O6 J m [s0,s1,s2,s3,s4,s5] xs=
 (xs.all CO&&(JC J s0.1 s0.2 (xs.map (m 0))&&(JC J s1.1 s1.2 (xs.map (m 1))&&(JC J s2.1 s2.2 (xs.map (m 2))&&(JC J s3.1 s3.2 (xs.map (m 3))&&(JC J s4.1 s4.2 (xs.map (m 4))&&JC J s5.1 s5.2 (xs.map (m 5))))))))
 |[],_,_,_,_,_,_=>rfl
 |x::r,s0,s1,s2,s3,s4,s5=>by
  simp only[O6,List.getD_cons_zero,List.getD_cons_succ];rw[Um J m r];simp only[List.map_cons,List.all_cons,JC,Gm,Am];ac_rfl
theorem We (bn bd pn pd dr ji:Int) (xs:List (List C)):CB bn bd pn pd dr ji xs=Cc bn bd pn pd dr ji xs:=by
 unfold CB Cc
 cases h1:Ai bn bd
 · rfl
 cases h2:decide (bn<=768000/\bd<=768000)
 · rfl
 cases h3:Bq pn pd dr ji
 · rfl
 simp only[decide_eq_true_eq]at h2;obtain⟨n1,n2,n3,n4,n5,n6,n7,n8,n9,n10,n11,n12,n13,n14,n15,n16,n17,n18,n19,n20⟩:=Ru h1 h2.1 h2.2 h3;congr 3;congr 1;unfold QD;rw[Um,Sz];simp only[WO n19]
end Go

