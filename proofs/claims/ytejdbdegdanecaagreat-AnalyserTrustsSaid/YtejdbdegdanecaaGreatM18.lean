import Derived.Test.YtejdbdegdanecaaGreatSxUse
import Derived.Test.YtejdbdegdanecaaGreatM13
import Derived.Test.YtejdbdegdanecaaGreatSxBits
set_option linter.unusedVariables false
set_option linter.unusedSimpArgs false
set_option maxRecDepth 100000
set_option maxHeartbeats 4000000
namespace Go
open Go.Sx
def Bd (t d g m:Int):Bool:=decide (0<=t/\t<=65536/\0<=d/\d<=65536/\1<=g/\g<=4096/\0<=m/\m<=4096)
def IX (t d g m n:Int):Int:=if Bd t d g m=false∨n<0∨2147483647<n then 0 else if n<t then-(min m (max 0 (t-n-d)*g))else min m (max 0 (n-t-d)*g)
end Go
namespace Go.Sx
theorem v198 (t:Int) (d:Int) (g:Int) (m:Int):AnC t/\AnC d/\AnC g/\AnC m->Cn (bLe 0 t) (Cn (bLe t 65536) (Cn (bLe 0 d) (Cn (bLe d 65536) (Cn (bLe 1 g) (Cn (bLe g 4096) (Cn (bLe 0 m) (bLe m 4096=Bd t d g m) (false=Bd t d g m)) (false=Bd t d g m)) (false=Bd t d g m)) (false=Bd t d g m)) (false=Bd t d g m)) (false=Bd t d g m)) (false=Bd t d g m):=by
 intro hw;simp only[Cn_iff,Abc,true_and];simp only[bLe,AlE,AlD,Bd,and_true]
 repeat' (first|apply And.intro|intro _)
 all_goals (first|(simp only[decide_eq_decide]; omega)|(symm; simp only[AlD]; omega))
def r198:Cr PR:=K0 [] 198 6 {ps:=[(true,hA)],rs:=[(false,[.bool])],out:=λa=>[[.b (Bd (AnF a) (AnH a) (AnK a) (AnL a))]]} U λa=>Y (v198 (AnF a) (AnH a) (AnK a) (AnL a))
theorem v98 (t:Int) (d:Int) (g:Int) (m:Int):AnC t/\AnC d/\AnC g/\AnC m->Cn (bLe 0 t) (Cn (bLe t 65536) (Cn (bLe 0 d) (Cn (bLe d 65536) (Cn (bLe 1 g) (Cn (bLe g 4096) (Cn (bLe 0 m) (bLe m 4096=Bd t d g m) (false=Bd t d g m)) (false=Bd t d g m)) (false=Bd t d g m)) (false=Bd t d g m)) (false=Bd t d g m)) (false=Bd t d g m)) (false=Bd t d g m):=by
 intro hw;simp only[Cn_iff,Abc,true_and];simp only[bLe,AlE,AlD,Bd,and_true]
 repeat' (first|apply And.intro|intro _)
 all_goals (first|(simp only[decide_eq_decide]; omega)|(symm; simp only[AlD]; omega))
def r98:Cr PR:=K0 [] 98 6 {ps:=[(true,hA)],rs:=[(false,[.bool])],out:=λa=>[[.b (Bd (AnF a) (AnH a) (AnK a) (AnL a))]]} U λa=>Y (v98 (AnF a) (AnH a) (AnK a) (AnL a))
end Go.Sx
namespace Go
theorem KX (t d g m:Int):Bd t d g m=true↔0<=t/\t<=65536/\0<=d/\d<=65536/\1<=g/\g<=4096/\0<=m/\m<=4096:=by simp[Bd]
theorem XM {t d g m x:Int} (h:Bd t d g m=true) (h1:0<=x) (h2:x<=4294967296):0<=x*g/\x*g<=4294967296*4096:=by
 rw[KX]at h;exact Go.Sx.Aa8 h1 h2 (by omega) (by omega)
end Go
namespace Go.Sx
theorem v224 (t:Int) (d:Int) (g:Int) (m:Int) (n:Int):AnC t/\AnC d/\AnC g/\AnC m/\AnC n->True/\True/\Cn (bNot (Bd t d g m)) (0=IX t d g m n) (Cn (bLt n 0) (0=IX t d g m n) (Cn (bLt 2147483647 n) (0=IX t d g m n) (AnC (iSub n t)/\Cn (bLt d (iSub n t)) (AnC (iSub (iSub n t) d)/\AnC (iMul (iSub (iSub n t) d) g)/\iMin m (iMul (iSub (iSub n t) d) g)=IX t d g m n) (AnC (iSub 0 d)/\Cn (bLt (iSub n t) (iSub 0 d)) (AnC (iSub 0 (iSub n t))/\AnC (iSub (iSub 0 (iSub n t)) d)/\AnC (iMul (iSub (iSub 0 (iSub n t)) d) g)/\AnC (iSub 0 (iMin m (iMul (iSub (iSub 0 (iSub n t)) d) g)))/\iSub 0 (iMin m (iMul (iSub (iSub 0 (iSub n t)) d) g))=IX t d g m n) (0=IX t d g m n))))):=by
 intro hw;simp only[Cn_iff,Abc,true_and];simp only[iAdd,iSub,iMul,iQuo,iRem,iMin,iMax,bEq,bNe,bLt,bLe,bNot,InR,pIn,pNe,pLe,AlE,AlD,Ams,Amv,true_and,and_true]at*;skip;simp only[true_implies,IX];refine⟨λhv=> ?_,λhv=>⟨λh1=> ?_,λh1=>⟨λh2=> ?_,λh2=> ?_⟩⟩⟩
 · rw[if_pos (by simp[hv])]
 · rw[if_pos (by simp[hv]; omega)]
 · rw[if_pos (by simp[hv]; omega)]
 · have hf:¬(Bd t d g m=false∨n<0∨2147483647<n):=by simp only[hv]; simp; omega
   rw[if_neg hf];have hv':=(KX t d g m).1 hv;refine⟨by omega,λh3=> ?_,λh3=>⟨by omega,λh4=> ?_,λh4=> ?_⟩⟩
   · have hb:=XM (x:=n-t-d) hv (by omega) (by omega);rw[if_neg (by omega),show max 0 (n-t-d)=n-t-d by omega];omega
   · have hb:=XM (x:=t-n-d) hv (by omega) (by omega);rw[if_pos (by omega),show max 0 (t-n-d)=t-n-d by omega,show 0- (n-t)-d=t-n-d by omega];omega
   · split
     · rw[show max 0 (t-n-d)=0 by omega]; omega
     · rw[show max 0 (n-t-d)=0 by omega]; omega
def r224:Cr PR:=K0 [r98] 224 6 {ps:=[(true,hA),(false,hI)],rs:=[(false,hI)],out:=λa=>[[.i (IX (AnF a) (AnH a) (AnK a) (AnL a) (AnG a))]]} U λa=>Y (v224 (AnF a) (AnH a) (AnK a) (AnL a) (AnG a))
end Go.Sx

namespace Go
open Go.Sx
def EW (n d:Int):Bool:=Ai n d&&decide (d<=768000/\d<=n*64/\n<=d*64*8192)
def Bv (n d k j:Int):Bool:=EW n d&&decide (0<=k/\k<=4096/\0<=j/\j<=65536)
def Eu (a b:Int):Int:=(a+b-1)/b
def Dt (n d k:Int):Int:=Eu (2*k*n) (65536*d)
end Go
namespace Go.Sx
theorem v201 (n:Int) (d:Int):AnC n/\AnC d->True/\Cn (Ai n d) (Cn (bLe d 768000) (AnC (iMul n 64)/\Cn (bLe d (iMul n 64)) (AnC (iMul d 64)/\AnC (iMul (iMul d 64) 8192)/\bLe n (iMul (iMul d 64) 8192)=EW n d) (false=EW n d)) (false=EW n d)) (false=EW n d):=by
 intro hw;simp only[Cn_iff,Abc,true_and];simp only[bLe,bEq,iMul,InR,AlE,AlD,EW,and_true];have hv:Ai n d=true->1<=n/\1<=d/\n<=68719476736/\d<=68719476736:=λh=>by simp[Ai]at h; omega
 cases hr:Ai n d
 · simp
 · have hv:=hv hr;simp only[AlR,AlX,false_implies,true_implies,and_true,true_and]
   repeat' (first|apply And.intro|intro _)
   all_goals (first|omega|(simp only[decide_eq_decide]; omega)|(symm; simp only[AlD]; omega))
def r201:Cr PR:=K0 [r133] 201 6 {ps:=[(true,hII)],rs:=[(false,[.bool])],out:=λa=>[[.b (EW (AnF a) (AnH a))]]} U λa=>Y (v201 (AnF a) (AnH a))
theorem v144 (n:Int) (d:Int):AnC n/\AnC d->True/\Cn (Ai n d) (Cn (bLe d 768000) (AnC (iMul 64 n)/\Cn (bLe d (iMul 64 n)) (AnC (iMul 524288 d)/\bLe n (iMul 524288 d)=EW n d) (false=EW n d)) (false=EW n d)) (false=EW n d):=by
 intro hw;simp only[Cn_iff,Abc,true_and];simp only[bLe,bEq,iMul,InR,AlE,AlD,EW,and_true];have hv:Ai n d=true->1<=n/\1<=d/\n<=68719476736/\d<=68719476736:=λh=>by simp[Ai]at h; omega
 cases hr:Ai n d
 · simp
 · have hv:=hv hr;simp only[AlR,AlX,false_implies,true_implies,and_true,true_and]
   repeat' (first|apply And.intro|intro _)
   all_goals (first|omega|(simp only[decide_eq_decide]; omega)|(symm; simp only[AlD]; omega))
def r144:Cr PR:=K0 [r143] 144 6 {ps:=[(true,hII)],rs:=[(false,[.bool])],out:=λa=>[[.b (EW (AnF a) (AnH a))]]} U λa=>Y (v144 (AnF a) (AnH a))
theorem v134 (n:Int) (d:Int) (k:Int) (j:Int):AnC n/\AnC d/\AnC k/\AnC j->True/\Cn (EW n d) (Cn (bLe 0 k) (Cn (bLe k 4096) (Cn (bLe 0 j) (bLe j 65536=Bv n d k j) (false=Bv n d k j)) (false=Bv n d k j)) (false=Bv n d k j)) (false=Bv n d k j):=by
 intro hw;simp only[Cn_iff,Abc,true_and];simp only[bLe,bEq,AlE,AlD,Bv,and_true]
 cases hr:EW n d
 · simp
 · simp only[AlR,AlX,false_implies,true_implies,and_true,true_and]
   repeat' (first|apply And.intro|intro _)
   all_goals (first|omega|(simp only[decide_eq_decide]; omega)|(symm; simp only[AlD]; omega))
def r134:Cr PR:=K0 [r201] 134 6 {ps:=[(true,hII),(false,hI),(false,hI)],rs:=[(false,[.bool])],out:=λa=>[[.b (Bv (AnF a) (AnH a) (AnG a) (AnI a))]]} U λa=>Y (v134 (AnF a) (AnH a) (AnG a) (AnI a))
theorem v91 (n:Int) (d:Int) (k:Int) (j:Int):AnC n/\AnC d/\AnC k/\AnC j->True/\Cn (EW n d) (Cn (bLe 0 k) (Cn (bLe k 4096) (Cn (bLe 0 j) (bLe j 65536=Bv n d k j) (false=Bv n d k j)) (false=Bv n d k j)) (false=Bv n d k j)) (false=Bv n d k j):=by
 intro hw;simp only[Cn_iff,Abc,true_and];simp only[bLe,bEq,AlE,AlD,Bv,and_true]
 cases hr:EW n d
 · simp
 · simp only[AlR,AlX,false_implies,true_implies,and_true,true_and]
   repeat' (first|apply And.intro|intro _)
   all_goals (first|omega|(simp only[decide_eq_decide]; omega)|(symm; simp only[AlD]; omega))
def r91:Cr PR:=K0 [r144] 91 6 {ps:=[(true,hII),(false,hI),(false,hI)],rs:=[(false,[.bool])],out:=λa=>[[.b (Bv (AnF a) (AnH a) (AnG a) (AnI a))]]} U λa=>Y (v91 (AnF a) (AnH a) (AnG a) (AnI a))
theorem v92 (p:Int) (q:Int):AnC p/\AnC q->0<=p/\1<=q/\p+q<=9223372036854775807->AnC (iAdd p q)/\AnC (iSub (iAdd p q) 1)/\(pNe q 0/\AnC (iQuo (iSub (iAdd p q) 1) q))/\iQuo (iSub (iAdd p q) 1) q=Eu p q:=by
 intro hw hp;simp only[iAdd,iSub,iQuo,InR,pNe,Eu,and_true];have e:(p+q-1).tdiv q=(p+q-1)/q:=AlI (by omega);rw[e];have h0:0<=(p+q-1)/q:=Al8 (by omega) (by omega);have h1:(p+q-1)/q<=p+q-1:=Amy _ (by omega);omega
def r92:Cr PR:=K [] 92 6 {ps:=[(false,hI),(false,hI)],rs:=[(false,hI)],pre:=λa=>0<=(AnF a)/\1<=(AnG a)/\(AnF a)+(AnG a)<=9223372036854775807,out:=λa=>[[.i (Eu (AnF a) (AnG a))]]} U λa=>Y (v92 (AnF a) (AnG a))
theorem v160 (n:Int) (d:Int) (k:Int):AnC n/\AnC d/\AnC k->1<=n/\1<=d/\d<=768000/\n<=d*64*8192/\0<=k/\k<=8192->AnC (iMul 2 n)/\AnC (iMul (iMul 2 n) k)/\AnC (iMul d 65536)/\(0<=iMul (iMul 2 n) k/\1<=iMul d 65536/\iMul (iMul 2 n) k+iMul d 65536<=9223372036854775807)/\(AnC (Eu (iMul (iMul 2 n) k) (iMul d 65536))->Eu (iMul (iMul 2 n) k) (iMul d 65536)=Dt n d k):=by
 intro hw hp;simp only[iMul,InR,Dt,and_true];have hb:=Aa8 (x:=2*k) (X:=16384) (y:=n) (Y:=402653184000) (by omega) (by omega) (by omega) (by omega);rw[Am5 2 n k,Amo d 65536];exact⟨by omega,by omega,by omega,by omega,λ_=>by first|trivial|rfl⟩
def r160:Cr PR:=K [r92] 160 6 {ps:=[(true,hII),(false,hI)],rs:=[(false,hI)],pre:=λa=>1<=(AnF a)/\1<=(AnH a)/\(AnH a)<=768000/\(AnF a)<=(AnH a)*64*8192/\0<=(AnG a)/\(AnG a)<=8192,out:=λa=>[[.i (Dt (AnF a) (AnH a) (AnG a))]]} U λa=>Y (v160 (AnF a) (AnH a) (AnG a))
end Go.Sx
namespace Go
open Go.Sx
def Bq (t d g m n e k j s:Int):Int:=if Bd t d g m=false∨Bv n e k j=false∨s<0∨65536<s then 1 else if m*(65536-k)<65536*k then 11 else 0
def EC (t d g m n e k j s:Int):Int:=if Bq t d g m n e k j s≠0 then 0 else max s (d+Eu m g)+Dt n e (k+m)+2*j+2
def GV (t d g m n e k j:Int):Int:=if Bq t d g m n e k j 0≠0 then 0 else Eu n e+Dt n e (k+m)+2*j+3
theorem L9 {n e k j:Int} (h:Bv n e k j=true):1<=n/\1<=e/\n<=68719476736/\e<=768000/\n<=e*64*8192/\0<=k/\k<=4096/\0<=j/\j<=65536:=by
 simp only[Bv,EW,Ai,AlG,AlE]at h;omega
theorem Oy {a b:Int} (h0:0<=a) (h1:1<=b):0<=Eu a b/\Eu a b<=a+b-1:=
 ⟨Al8 (by omega) (by omega),Amy _ (by omega)⟩
theorem P5 {n d k:Int} (h0:1<=n) (h1:1<=d) (h2:d<=768000) (h3:n<=d*64*8192) (h4:0<=k) (h5:k<=8192):0<=Dt n d k/\Dt n d k<=10000000000000000:=by
 have hb:=Aa8 (x:=2*k) (X:=16384) (y:=n) (Y:=402653184000) (by omega) (by omega) (by omega) (by omega);have:=Oy (a:=2*k*n) (b:=65536*d) (by omega) (by omega);unfold Dt; omega
end Go
namespace Go.Sx
theorem v94 (t:Int) (d:Int) (g:Int) (m:Int) (n:Int) (e:Int) (k:Int) (j:Int) (s:Int):AnC t/\AnC d/\AnC g/\AnC m/\AnC n/\AnC e/\AnC k/\AnC j/\AnC s->True/\True/\Cn (bNot (Bd t d g m)) (0=EC t d g m n e k j s/\1=Bq t d g m n e k j s) (True/\True/\Cn (bNot (Bv n e k j)) (0=EC t d g m n e k j s/\1=Bq t d g m n e k j s) (Cn (bLt s 0) (0=EC t d g m n e k j s/\1=Bq t d g m n e k j s) (Cn (bLt 65536 s) (0=EC t d g m n e k j s/\1=Bq t d g m n e k j s) (AnC (iSub 65536 k)/\AnC (iMul m (iSub 65536 k))/\AnC (iMul 65536 k)/\Cn (bLt (iMul m (iSub 65536 k)) (iMul 65536 k)) (0=EC t d g m n e k j s/\11=Bq t d g m n e k j s) ((0<=m/\1<=g/\m+g<=9223372036854775807)/\(AnC (Eu m g)->AnC (iAdd d (Eu m g))/\AnC (iAdd k m)/\(1<=n/\1<=e/\e<=768000/\n<=e*64*8192/\0<=iAdd k m/\iAdd k m<=8192)/\(AnC (Dt n e (iAdd k m))->AnC (iAdd (iMax s (iAdd d (Eu m g))) (Dt n e (iAdd k m)))/\AnC (iMul 2 j)/\AnC (iAdd (iAdd (iMax s (iAdd d (Eu m g))) (Dt n e (iAdd k m))) (iMul 2 j))/\AnC (iAdd (iAdd (iAdd (iMax s (iAdd d (Eu m g))) (Dt n e (iAdd k m))) (iMul 2 j)) 2)/\iAdd (iAdd (iAdd (iMax s (iAdd d (Eu m g))) (Dt n e (iAdd k m))) (iMul 2 j)) 2=EC t d g m n e k j s/\0=Bq t d g m n e k j s))))))):=by
 intro hw;simp only[Cn_iff,Abc,true_and];simp only[iAdd,iSub,iMul,iMax,bNot,bLt,InR,AlE,AlD,Ams,Amv,and_true,true_and,true_implies];by_cases hv:Bd t d g m=true
 · by_cases hd:Bv n e k j=true
   · have hv':=(KX t d g m).1 hv;have hd':=L9 hd;have u1:=Oy (a:=m) (b:=g) (by omega) (by omega);have u2:=P5 (n:=n) (d:=e) (k:=k+m) (by omega) (by omega) (by omega) (by omega) (by omega) (by omega);have u3:=Aa8 (x:=m) (X:=4096) (y:=65536-k) (Y:=65536) (by omega) (by omega) (by omega) (by omega);have e1:Bq t d g m n e k j s=if s<0∨65536<s then 1 else if m*(65536-k)<65536*k then 11 else 0:=by unfold Bq; simp[hv,hd]
     have e2:EC t d g m n e k j s=if Bq t d g m n e k j s≠0 then 0 else max s (d+Eu m g)+Dt n e (k+m)+2*j+2:=rfl;simp only[hv,hd,e2,e1,AlX,false_implies,true_implies,and_true,true_and];clear hv hd hw e1 e2;generalize Eu m g=uu at*;generalize Dt n e (k+m)=ww at*;generalize m*(65536-k)=pp at*
     repeat' (first|apply And.intro|intro _)
     all_goals (first|omega|(split<;>omega))
   · have hd:Bv n e k j=false:=by simpa using hd
     have e1:Bq t d g m n e k j s=1:=by unfold Bq; simp[hd]
     have e2:EC t d g m n e k j s=0:=by unfold EC; simp[e1]
     simp[hv,hd,e1,e2]
 · have hv:Bd t d g m=false:=by simpa using hv
   have e1:Bq t d g m n e k j s=1:=by unfold Bq; simp[hv]
   have e2:EC t d g m n e k j s=0:=by unfold EC; simp[e1]
   simp[hv,e1,e2]
def r94:Cr PR:=K0 [r98,r91,r92,r160] 94 6 {ps:=[(true,hA),(true,hII),(false,hI),(false,hI),(false,hI)],rs:=[(false,hI),(false,hI)],out:=λa=>[[.i (EC (AnF a) (AnH a) (AnK a) (AnL a) (AnG a) (AnJ a) (AnI a) (AnM a) (AnN a))],[.i (Bq (AnF a) (AnH a) (AnK a) (AnL a) (AnG a) (AnJ a) (AnI a) (AnM a) (AnN a))]]} U λa=>Y (v94 (AnF a) (AnH a) (AnK a) (AnL a) (AnG a) (AnJ a) (AnI a) (AnM a) (AnN a))
theorem v95 (t:Int) (d:Int) (g:Int) (m:Int) (n:Int) (e:Int) (k:Int) (j:Int):AnC t/\AnC d/\AnC g/\AnC m/\AnC n/\AnC e/\AnC k/\AnC j->True/\(AnC (EC t d g m n e k j 0)/\AnC (Bq t d g m n e k j 0)->Cn (bNe (Bq t d g m n e k j 0) 0) (0=GV t d g m n e k j/\Sm (Bq t d g m n e k j 0)) ((0<=n/\1<=e/\n+e<=9223372036854775807)/\(AnC (Eu n e)->AnC (iAdd k m)/\(1<=n/\1<=e/\e<=768000/\n<=e*64*8192/\0<=iAdd k m/\iAdd k m<=8192)/\(AnC (Dt n e (iAdd k m))->AnC (iAdd (Eu n e) (Dt n e (iAdd k m)))/\AnC (iMul 2 j)/\AnC (iAdd (iAdd (Eu n e) (Dt n e (iAdd k m))) (iMul 2 j))/\AnC (iAdd (iAdd (iAdd (Eu n e) (Dt n e (iAdd k m))) (iMul 2 j)) 3)/\iAdd (iAdd (iAdd (Eu n e) (Dt n e (iAdd k m))) (iMul 2 j)) 3=GV t d g m n e k j/\0=Bq t d g m n e k j 0)))):=by
 intro hw;simp only[Cn_iff,Abc,true_and];simp only[iAdd,iSub,iMul,iMax,bNe,InR,AlE,Ams,AlD,Amv,GV,and_true,true_and,true_implies];have hE:Bq t d g m n e k j 0=0->Bd t d g m=true/\Bv n e k j=true:=λh=>by
  unfold Bq at h;split at h
  · cases h
  · rename_i hc;constructor
    · cases hx:Bd t d g m
      · exact(hc (.inl hx)).elim
      · rfl
    · cases hx:Bv n e k j
      · exact(hc (.inr (.inl hx))).elim
      · rfl
 refine λhr=>⟨λh=> ?_,λh=> ?_⟩
 · rw[if_pos h]
 · have h':=hE h;have hv':=(KX t d g m).1 h'.1;have hd':=L9 h'.2;have u1:=Oy (a:=n) (b:=e) (by omega) (by omega);have u2:=P5 (n:=n) (d:=e) (k:=k+m) (by omega) (by omega) (by omega) (by omega) (by omega) (by omega);rw[if_neg (show¬(Bq t d g m n e k j 0≠0) by omega)]
   repeat' (first|apply And.intro|intro _)
   all_goals omega
def r95:Cr PR:=K0 [r94,r92,r160] 95 6 {ps:=[(true,hA),(true,hII),(false,hI),(false,hI)],rs:=[(false,hI),(false,hI)],out:=λa=>[[.i (GV (AnF a) (AnH a) (AnK a) (AnL a) (AnG a) (AnJ a) (AnI a) (AnM a))],[.i (Bq (AnF a) (AnH a) (AnK a) (AnL a) (AnG a) (AnJ a) (AnI a) (AnM a) 0)]]} U λa=>Y (v95 (AnF a) (AnH a) (AnK a) (AnL a) (AnG a) (AnJ a) (AnI a) (AnM a))
end Go.Sx

namespace Go
open Go.Sx
def Bc (k:Int):Int:=Eu (65536*k) (65536-k)
def D6 (n e k j:Int):Int:=Dt n e k+j+1
def Cj (n e k j d g:Int):Int:=EC 0 d g (Bc k) n e k j (D6 n e k j)
def Cc (n e k j d g:Int):Int:=GV 0 d g (Bc k) n e k j+Cj n e k j d g
def EG (n e k j d g:Int):Int:=if Bv n e k j=false∨d<0∨65536<d∨g<1∨4096<g then 1 else if 4096<Bc k then 2 else if 65536<D6 n e k j∨65536<Cc n e k j d g+Cj n e k j d g then 3 else 0
def BL (n e k j d g v:Int):Int:=if EG n e k j d g=0 then v else 0
theorem Aaa {a b:Int} (h1:1<=b):a<=Eu a b*b/\Eu a b*b<=a+b-1:=by
 unfold Eu;have e:=Ann (a+b-1) b;have l:=Aml (a+b-1) (show 0<b by omega);have z:=AmB (a+b-1) (show b≠0 by omega);rw[Amo b]at e;omega
theorem Q3 {k:Int} (h0:0<=k) (h1:k<=4096):0<=Bc k/\Bc k<=300000000/\65536*k<=Bc k*(65536-k):=by
 have a:=Oy (a:=65536*k) (b:=65536-k) (by omega) (by omega);have b:=Aaa (a:=65536*k) (b:=65536-k) (by omega);unfold Bc;exact⟨a.1,by omega,b.1⟩
theorem NQ (n e k j d g v:Int):(EG n e k j d g=0->BL n e k j d g v=v)/\(EG n e k j d g≠0->BL n e k j d g v=0):=by
 unfold BL;constructor<;>intro h<;>simp[h]
theorem VC {n e k j d g:Int} (hd:Bv n e k j=true) (h0:0<=d) (h1:d<=65536) (h2:1<=g) (h3:g<=4096):(4096<Bc k->EG n e k j d g=2)/\
 (Bc k<=4096->(65536<D6 n e k j∨65536<Cc n e k j d g+Cj n e k j d g->EG n e k j d g=3)/\(D6 n e k j<=65536->Cc n e k j d g+Cj n e k j d g<=65536->EG n e k j d g=0)/\
  (65536<D6 n e k j->Bq 0 d g (Bc k) n e k j (D6 n e k j)=1/\Cj n e k j d g=0)/\
  (D6 n e k j<=65536->Bq 0 d g (Bc k) n e k j (D6 n e k j)=0)/\
  Bq 0 d g (Bc k) n e k j 0=0/\0<=Cj n e k j d g/\Cj n e k j d g<=30000000000000000/\0<=Cc n e k j d g-Cj n e k j d g/\Cc n e k j d g-Cj n e k j d g<=30000000000000000)/\
 0<=D6 n e k j/\D6 n e k j<=20000000000000000/\0<=Dt n e k/\Dt n e k<=10000000000000000:=by
 have hd':=L9 hd;have m:=Q3 (k:=k) (by omega) (by omega);have w:=P5 (n:=n) (d:=e) (k:=k) (by omega) (by omega) (by omega) (by omega) (by omega) (by omega);have hS:D6 n e k j=Dt n e k+j+1:=rfl;refine⟨λhM=> ?_,λhM=> ?_,by omega,by omega,w.1,w.2⟩
 · unfold EG;rw[if_neg (by simp only[hd]; simp; omega),if_pos hM]
 · have hv:Bd 0 d g (Bc k)=true:=by rw[KX]; omega
   have w2:=P5 (n:=n) (d:=e) (k:=k+Bc k) (by omega) (by omega) (by omega) (by omega) (by omega) (by omega);have u1:=Oy (a:=Bc k) (b:=g) (by omega) (by omega);have u2:=Oy (a:=n) (b:=e) (by omega) (by omega);have b0:∀s,0<=s->s<=65536->Bq 0 d g (Bc k) n e k j s=0:=λs hs hs'=>by
    unfold Bq;rw[if_neg (by simp only[hv,hd]; simp; omega),if_neg (by omega)]
   have b1:65536<D6 n e k j->Bq 0 d g (Bc k) n e k j (D6 n e k j)=1:=λhs=>by
    unfold Bq;rw[if_pos (.inr (.inr (.inr hs)))]
   have hB1:65536<D6 n e k j->Cj n e k j d g=0:=λhs=>by
    unfold Cj EC;rw[if_pos (by rw[b1 hs]; omega)]
   have hB2:D6 n e k j<=65536->Cj n e k j d g=max (D6 n e k j) (d+Eu (Bc k) g)+Dt n e (k+Bc k)+2*j+2:=λhs=>by
    unfold Cj EC;rw[if_neg (by rw[b0 _ (by omega) hs]; omega)]
   have hQ:Cc n e k j d g-Cj n e k j d g=Eu n e+Dt n e (k+Bc k)+2*j+3:=by
    unfold Cc GV;rw[if_neg (by rw[b0 _ (by omega) (by omega)]; omega)];omega
   have hE:EG n e k j d g=if 65536<D6 n e k j∨65536<Cc n e k j d g+Cj n e k j d g then 3 else 0:=by
    unfold EG;rw[if_neg (by simp only[hd]; simp; omega),if_neg (by omega)]
   refine⟨λh=>by rw[hE,if_pos h],λh h'=>by rw[hE,if_neg (by omega)],λh=>⟨b1 h,hB1 h⟩,λh=>b0 _ (by omega) h,b0 0 (by omega) (by omega),?_,?_,by omega,by omega⟩
   · omega
   · omega
theorem Uj {n e k j d g:Int} (h:Bv n e k j=false∨d<0∨65536<d∨g<1∨4096<g):EG n e k j d g=1:=by
 unfold EG;rw[if_pos h]
end Go
namespace Go.Sx
def Aif (n:Int) (e:Int) (k:Int) (j:Int) (d:Int) (g:Int):Prop:=0=BL n e k j d g (Cc n e k j d g)/\0=BL n e k j d g d/\0=BL n e k j d g g/\0=BL n e k j d g (Bc k)/\0=BL n e k j d g (Cc n e k j d g+Cj n e k j d g)/\1=EG n e k j d g
def AeL (n:Int) (e:Int) (k:Int) (j:Int) (d:Int) (g:Int):Int:=(EC 0 d g (Eu (iMul 65536 k) (iSub 65536 k)) n e k j (iAdd (iAdd (Dt n e k) j) 1))
def Aen (k:Int):Int:=(Eu (iMul 65536 k) (iSub 65536 k))
def AkQ (n:Int) (e:Int) (k:Int) (j:Int) (d:Int) (g:Int):Prop:=0=BL n e k j d g (Cc n e k j d g)/\0=BL n e k j d g d/\0=BL n e k j d g g/\0=BL n e k j d g (Bc k)/\0=BL n e k j d g (Cc n e k j d g+Cj n e k j d g)/\3=EG n e k j d g
theorem v45 (n:Int) (e:Int) (k:Int) (j:Int) (d:Int) (g:Int):AnC n/\AnC e/\AnC k/\AnC j/\AnC d/\AnC g->True/\True/\Cn (bNot (Bv n e k j)) ((Aif n e k j d g)) (Cn (bLt d 0) ((Aif n e k j d g)) (Cn (bLt 65536 d) ((Aif n e k j d g)) (Cn (bLt g 1) ((Aif n e k j d g)) (Cn (bLt 4096 g) ((Aif n e k j d g)) (AnC (iMul 65536 k)/\AnC (iSub 65536 k)/\(0<=iMul 65536 k/\1<=iSub 65536 k/\iMul 65536 k+iSub 65536 k<=9223372036854775807)/\(AnC (Aen k)->Cn (bLt 4096 (Aen k)) (0=BL n e k j d g (Cc n e k j d g)/\0=BL n e k j d g d/\0=BL n e k j d g g/\0=BL n e k j d g (Bc k)/\0=BL n e k j d g (Cc n e k j d g+Cj n e k j d g)/\2=EG n e k j d g) ((1<=n/\1<=e/\e<=768000/\n<=e*64*8192/\0<=k/\k<=8192)/\(AnC (Dt n e k)->AnC (iAdd (Dt n e k) j)/\AnC (iAdd (iAdd (Dt n e k) j) 1)/\Cn (bLt 65536 (iAdd (iAdd (Dt n e k) j) 1)) ((AkQ n e k j d g)) (True/\(AnC (AeL n e k j d g)/\AnC (Bq 0 d g (Aen k) n e k j (iAdd (iAdd (Dt n e k) j) 1))->True/\(AnC (GV 0 d g (Aen k) n e k j)/\AnC (Bq 0 d g (Aen k) n e k j 0)->AnC (iMul 2 (AeL n e k j d g))/\AnC (iAdd (GV 0 d g (Aen k) n e k j) (iMul 2 (AeL n e k j d g)))/\Cn (bLt 65536 (iAdd (GV 0 d g (Aen k) n e k j) (iMul 2 (AeL n e k j d g)))) ((AkQ n e k j d g)) (AnC (iAdd (GV 0 d g (Aen k) n e k j) (AeL n e k j d g))/\AnC (iAdd (iAdd (GV 0 d g (Aen k) n e k j) (AeL n e k j d g)) (AeL n e k j d g))/\iAdd (GV 0 d g (Aen k) n e k j) (AeL n e k j d g)=BL n e k j d g (Cc n e k j d g)/\d=BL n e k j d g d/\g=BL n e k j d g g/\Eu (iMul 65536 k) (iSub 65536 k)=BL n e k j d g (Bc k)/\iAdd (iAdd (GV 0 d g (Aen k) n e k j) (AeL n e k j d g)) (AeL n e k j d g)=BL n e k j d g (Cc n e k j d g+Cj n e k j d g)/\0=EG n e k j d g)))))))))))):=by
 intro hw;simp only[Cn_iff,Abc,true_and];have hp:True:=trivial;delta Aif AeL Aen AkQ;simp only[iAdd,iSub,iMul,bNot,bLt,bNe,AlE,Ams,AlD,Amv,and_true,true_and,true_implies];rw[show Eu (65536*k) (65536-k)=Bc k from rfl,show Dt n e k+j+1=D6 n e k j from rfl,show EC 0 d g (Bc k) n e k j (D6 n e k j)=Cj n e k j d g from rfl];have q1:Cc n e k j d g=GV 0 d g (Bc k) n e k j+Cj n e k j d g:=rfl;have o1:=NQ n e k j d g (Cc n e k j d g);have o2:=NQ n e k j d g d;have o3:=NQ n e k j d g g;have o4:=NQ n e k j d g (Bc k);have o5:=NQ n e k j d g (Cc n e k j d g+Cj n e k j d g);have out:=Uj (n:=n) (e:=e) (k:=k) (j:=j) (d:=d) (g:=g);have inn:=λh=>VC (n:=n) (e:=e) (k:=k) (j:=j) (d:=d) (g:=g) h;have dd:=L9 (n:=n) (e:=e) (k:=k) (j:=j);have mm:=λh0 h1=>Q3 (k:=k) h0 h1;generalize BL n e k j d g (Cc n e k j d g)=z1 at*;generalize BL n e k j d g d=z2 at*;generalize BL n e k j d g g=z3 at*;generalize BL n e k j d g (Bc k)=z4 at*;generalize BL n e k j d g (Cc n e k j d g+Cj n e k j d g)=z5 at*;generalize EG n e k j d g=z6 at*;generalize GV 0 d g (Bc k) n e k j=z7 at*;generalize Bq 0 d g (Bc k) n e k j (D6 n e k j)=z8 at*;generalize Bq 0 d g (Bc k) n e k j 0=z9 at*;generalize Cc n e k j d g=y1 at*;generalize Cj n e k j d g=y2 at*;have wS:D6 n e k j=Dt n e k+j+1:=rfl
 generalize D6 n e k j=y3 at*;generalize Dt n e k=y4 at*;generalize Bc k=y5 at*;clear hw hp;simp only[InR]
 cases hd:Bv n e k j
 · have out:=out (.inl hd);simp only[AlW,AlX,reduceCtorEq,false_implies,true_implies,and_true,true_and];omega
 · have dd:=dd hd;have mm:=mm (by omega) (by omega);have hp:0<=d->d<=65536->1<=g->g<=4096->_:=inn hd;simp only[hd,AlW,AlX,reduceCtorEq,false_or,false_implies,true_implies,and_true,true_and]at*
   repeat' (first|apply And.intro|intro _)
   all_goals (first|omega|(have:=hp (by omega) (by omega) (by omega) (by omega); omega))
def r45:Cr PR:=K0 [r94,r95,r91,r92,r160] 45 6 {ps:=[(true,hII),(false,hI),(false,hI),(false,hI),(false,hI)],rs:=[(true,hA),(false,hI),(false,hI)],out:=λa=>[[.i (BL (AnF a) (AnH a) (AnG a) (AnI a) (AnM a) (AnN a) (Cc (AnF a) (AnH a) (AnG a) (AnI a) (AnM a) (AnN a))),.i (BL (AnF a) (AnH a) (AnG a) (AnI a) (AnM a) (AnN a) (AnM a)),.i (BL (AnF a) (AnH a) (AnG a) (AnI a) (AnM a) (AnN a) (AnN a)),.i (BL (AnF a) (AnH a) (AnG a) (AnI a) (AnM a) (AnN a) (Bc (AnG a)))],[.i (BL (AnF a) (AnH a) (AnG a) (AnI a) (AnM a) (AnN a) (Cc (AnF a) (AnH a) (AnG a) (AnI a) (AnM a) (AnN a)+Cj (AnF a) (AnH a) (AnG a) (AnI a) (AnM a) (AnN a)))],[.i (EG (AnF a) (AnH a) (AnG a) (AnI a) (AnM a) (AnN a))]]} U λa=>Y (v45 (AnF a) (AnH a) (AnG a) (AnI a) (AnM a) (AnN a))
end Go.Sx

noncomputable section
namespace Go.Sx
def Als:Ct:= {ps:=[(false,[.int .u64]),(false,[.int .u64]),(false,[.int .u64])],rs:=[(false,[.int .u64]),(false,[.int .u64])],pre:=λa=>pLe (AnI a) 1/\True,out:=λa=>[[.i (LJ (AnF a) (AnG a) (AnI a))],[.i (Jw (AnF a) (AnG a) (AnI a))]]}
theorem s203:SoundCt Go.Proofs.Tryz.prog 203 Als:=AgU (fn:=Go.Proofs.Tryz.f203) (by kernel_rfl) (by kernel_rfl) (by kernel_rfl) (by kernel_rfl) (by kernel_rfl)
def r203:Cr PR:=⟨203,Als,s203⟩
def Alr:Ct:= {ps:=[(false,[.int .u64]),(false,[.int .u64]),(false,[.int .u64])],rs:=[(false,[.int .u64]),(false,[.int .u64])],pre:=λa=>pLe (AnI a) 1/\True,out:=λa=>[[.i (Ld (AnF a) (AnG a) (AnI a))],[.i (Jt (AnF a) (AnG a) (AnI a))]]}
theorem s207:SoundCt Go.Proofs.Tryz.prog 207 Alr:=Ahm (fn:=Go.Proofs.Tryz.f207) (by kernel_rfl) (by kernel_rfl) (by kernel_rfl) (by kernel_rfl) (by kernel_rfl)
def r207:Cr PR:=⟨207,Alr,s207⟩
end Go.Sx
namespace Go
open Go.Sx
def Ac (n:Int):Int:=n/18446744073709551616 % 18446744073709551616
def Aa (n:Int):Int:=n % 18446744073709551616
def Af (h l:Int):Int:=h*18446744073709551616+l
def BV (h l:Int):Int:=if h<9223372036854775808 then h*18446744073709551616+l else h*18446744073709551616+l-340282366920938463463374607431768211456
end Go
namespace Go.Sx
theorem v135 (p:Int) (q:Int):AnC p/\AnC q->0<=p/\0<=q->True/\(AnD (BM (Aa3 .u64 p) (Aa3 .u64 q))/\AnD (BD (Aa3 .u64 p) (Aa3 .u64 q))->BM (Aa3 .u64 p) (Aa3 .u64 q)=Ac (p*q)/\BD (Aa3 .u64 p) (Aa3 .u64 q)=Aa (p*q)):=by
 intro hw hp;simp only[Wfs,Wf,InR,and_true]at hw;rw[BH (x:=p) (by omega) (by omega),BH (x:=q) (by omega) (by omega)];have m:=Aa8 (x:=p) (X:=9223372036854775807) (y:=q) (Y:=9223372036854775807) (by omega) (by omega) (by omega) (by omega);simp only[BM,BD,Ac,Aa];generalize p*q=z at*
 repeat' (first|apply And.intro|intro _)
 all_goals (first|trivial|omega)
def r135:Cr PR:=Kw (λ_=>true) [r202] 135 6 {ps:=[(false,hI),(false,hI)],rs:=[(true,[.int .u64,.int .u64])],pre:=λa=>0<=(AnF a)/\0<=(AnG a),out:=λa=>[[.i (Ac ((AnF a)*(AnG a))),.i (Aa ((AnF a)*(AnG a)))]]} U λa=>Y (v135 (AnF a) (AnG a))
theorem v136 (a:Int) (b:Int) (c:Int) (d:Int):AnD a/\AnD b/\AnD c/\AnD d->(pLe 0 1/\True)/\(AnD (LJ b d 0)/\AnD (Jw b d 0)->(pLe (Jw b d 0) 1/\True)/\(AnD (LJ a c (Jw b d 0))/\AnD (Jw a c (Jw b d 0))->LJ a c (Jw b d 0)=Ac (Af a b-Af c d)/\LJ b d 0=Aa (Af a b-Af c d))):=by
 intro hw;simp only[Wfs,Wf,InR,and_true]at hw;simp only[LJ,Jw,Ac,Aa,Af,InR,pLe]
 repeat' (first|apply And.intro|intro _)
 all_goals (first|trivial|omega|(split<;>omega)|(split<;>split<;>omega))
def r136:Cr PR:=K0 [r203] 136 6 {ps:=[(true,[.int .u64,.int .u64]),(true,[.int .u64,.int .u64])],rs:=[(true,[.int .u64,.int .u64])],out:=λa=>[[.i (Ac (Af (AnF a) (AnH a)-Af (AnG a) (AnJ a))),.i (Aa (Af (AnF a) (AnH a)-Af (AnG a) (AnJ a)))]]} U λa=>Y (v136 (AnF a) (AnH a) (AnG a) (AnJ a))
theorem v204 (a:Int) (b:Int) (c:Int) (d:Int):AnD a/\AnD b/\AnD c/\AnD d->True->Cn (bLt (Aa3 .i64 a) (Aa3 .i64 c)) (true=decide (BV a b<BV c d)) (Cn (bEq a c) (bLt b d=decide (BV a b<BV c d)) (false=decide (BV a b<BV c d))):=by
 intro hw hp;simp only[Cn_iff,Abc,true_and];simp only[Wfs,Wf,InR,and_true]at hw;have wa:Aa3 .i64 a=if a<9223372036854775808 then a else a-18446744073709551616:=by
  show IntKind.i64.wrap a=_;rw[IntKind.wrap_i64]; split<;>omega
 have wc:Aa3 .i64 c=if c<9223372036854775808 then c else c-18446744073709551616:=by
  show IntKind.i64.wrap c=_;rw[IntKind.wrap_i64]; split<;>omega
 rw[wa,wc];clear wa wc;unfold BV;by_cases hA:a<9223372036854775808<;>by_cases hC:c<9223372036854775808<;>simp only[hA,hC,if_true,if_false]
 all_goals simp only[bLt,bEq,BV,AlE,AlD,true_and,and_true,eq_comm (a:=true),eq_comm (a:=false),decide_eq_decide]
 all_goals repeat' (first|apply And.intro|intro _)
 all_goals (first|trivial|omega)
def r204:Cr PR:=Kw (λ_=>true) [] 204 6 {ps:=[(true,[.int .u64,.int .u64]),(true,[.int .u64,.int .u64])],rs:=[(false,[.bool])],out:=λa=>[[.b (decide (BV (AnF a) (AnH a)<BV (AnG a) (AnJ a)))]]} U λa=>Y (v204 (AnF a) (AnH a) (AnG a) (AnJ a))
theorem v145 (a:Int) (b:Int) (c:Int):AnD a/\AnD b/\AnD c->pLe (a*b*c) 340282366920938463463374607431768211455/\True->True/\(AnD (BM a b)/\AnD (BD a b)->True/\(AnD (BM (BD a b) c)/\AnD (BD (BD a b) c)->Aa3 .u64 (iAdd (Aa3 .u64 (iMul (BM a b) c)) (BM (BD a b) c))=Ac (a*b*c)/\BD (BD a b) c=Aa (a*b*c))):=by
 intro hw hp;simp only[Wfs,Wf,InR,and_true]at hw;have h0:0<=a*b:=Al1 (by omega) (by omega);have hp:=hp.1;simp only[pLe]at hp;simp only[BM,BD,Ac,Aa,iMul,iAdd,L6,InR];generalize a*b=z at*;have e:z*c=z/18446744073709551616*c*18446744073709551616+z % 18446744073709551616*c:=by
  have h:=Int.ediv_mul_add_emod z 18446744073709551616
  calc z*c=(z/18446744073709551616*18446744073709551616+z % 18446744073709551616)*c:=by rw[h]
   _=_:=by rw[Amt]; congr 1; ac_rfl
 have p1:0<=z/18446744073709551616*c:=Al1 (by omega) (by omega);have p2:0<=z % 18446744073709551616*c:=Al1 (by omega) (by omega);rw[e]at hp ⊢;clear e;generalize z/18446744073709551616*c=P at*;generalize z % 18446744073709551616*c=Q at*
 repeat' (first|apply And.intro|intro _)
 all_goals (first|trivial|omega)
def r145:Cr PR:=Kw (λ_=>true) [r202] 145 6 {ps:=[(false,[.int .u64]),(false,[.int .u64]),(false,[.int .u64])],rs:=[(true,[.int .u64,.int .u64])],pre:=λa=>pLe ((AnF a)*(AnG a)*(AnI a)) 340282366920938463463374607431768211455/\True,out:=λa=>[[.i (Ac ((AnF a)*(AnG a)*(AnI a))),.i (Aa ((AnF a)*(AnG a)*(AnI a)))]]} U λa=>Y (v145 (AnF a) (AnG a) (AnI a))
theorem v146 (a:Int) (b:Int) (c:Int) (d:Int):AnD a/\AnD b/\AnD c/\AnD d->(pLe 0 1/\True)/\(AnD (Ld b d 0)/\AnD (Jt b d 0)->(pLe (Jt b d 0) 1/\True)/\(AnD (Ld a c (Jt b d 0))/\AnD (Jt a c (Jt b d 0))->Ld a c (Jt b d 0)=Ac (Af a b+Af c d)/\Ld b d 0=Aa (Af a b+Af c d))):=by
 intro hw;simp only[Wfs,Wf,InR,and_true]at hw;simp only[Ld,Jt,Ac,Aa,Af,InR,pLe]
 repeat' (first|apply And.intro|intro _)
 all_goals (first|trivial|omega|(split<;>omega)|(split<;>split<;>omega))
def r146:Cr PR:=K0 [r207] 146 6 {ps:=[(true,[.int .u64,.int .u64]),(true,[.int .u64,.int .u64])],rs:=[(true,[.int .u64,.int .u64])],out:=λa=>[[.i (Ac (Af (AnF a) (AnH a)+Af (AnG a) (AnJ a))),.i (Aa (Af (AnF a) (AnH a)+Af (AnG a) (AnJ a)))]]} U λa=>Y (v146 (AnF a) (AnH a) (AnG a) (AnJ a))
theorem v208 (a:Int) (b:Int) (c:Int) (d:Int):AnD a/\AnD b/\AnD c/\AnD d->Cn (bLt c a) (true=decide (Af c d<Af a b)) (Cn (bEq a c) (bLt d b=decide (Af c d<Af a b)) (false=decide (Af c d<Af a b))):=by
 intro hw;simp only[Cn_iff,Abc,true_and];simp only[Wfs,Wf,InR,and_true]at hw;have e1:Af a b=a*18446744073709551616+b:=rfl;have e2:Af c d=c*18446744073709551616+d:=rfl;generalize Af a b=X at*;generalize Af c d=Y at*;simp only[bLt,bEq,AlE,AlD,true_and,and_true]
 repeat' (first|apply And.intro|intro _)
 all_goals (first|trivial|(rw[decide_eq_decide]; omega)|(symm; rw[AlE]; omega)|(symm; rw[AlD]; omega))
def r208:Cr PR:=K0 [] 208 6 {ps:=[(true,[.int .u64,.int .u64]),(true,[.int .u64,.int .u64])],rs:=[(false,[.bool])],out:=λa=>[[.b (decide (Af (AnG a) (AnJ a)<Af (AnF a) (AnH a)))]]} U λa=>Y (v208 (AnF a) (AnH a) (AnG a) (AnJ a))
end Go.Sx
namespace Go
open Go.Sx
def NJ (n:Int):Int:=n % 340282366920938463463374607431768211456
def J5 (x y z:Int):Bool:= !decide (NJ (y+z)<x)&& !decide (NJ (x+z)<y)
end Go
theorem Go.AaF (n:Int):Af (Ac n) (Aa n)=NJ n:=by
 unfold Go.Af Go.Ac Go.Aa Go.NJ; omega
namespace Go.Sx
theorem v147 (a:Int) (b:Int) (c:Int) (d:Int) (e:Int) (f:Int):AnD a/\AnD b/\AnD c/\AnD d/\AnD e/\AnD f->True/\(AnD (Ac (Af c d+Af e f))/\AnD (Aa (Af c d+Af e f))->True/\True/\Cn (bNot (decide (Af (Ac (Af c d+Af e f)) (Aa (Af c d+Af e f))<Af a b))) (True/\(AnD (Ac (Af a b+Af e f))/\AnD (Aa (Af a b+Af e f))->True/\True/\bNot (decide (Af (Ac (Af a b+Af e f)) (Aa (Af a b+Af e f))<Af c d))=J5 (Af a b) (Af c d) (Af e f))) (false=J5 (Af a b) (Af c d) (Af e f))):=by
 intro hw;simp only[Cn_iff,Abc,true_and];simp only[AaF];generalize Af a b=x at*;generalize Af c d=y at*;generalize Af e f=z at*;have e:J5 x y z=(!decide (NJ (y+z)<x)&& !decide (NJ (x+z)<y)):=rfl;rw[e];generalize decide (NJ (y+z)<x)=p;generalize decide (NJ (x+z)<y)=q
 cases p<;>cases q<;>simp[bNot]
def r147:Cr PR:=K0 [r146,r208] 147 6 {ps:=[(true,[.int .u64,.int .u64]),(true,[.int .u64,.int .u64]),(true,[.int .u64,.int .u64])],rs:=[(false,[.bool])],out:=λa=>[[.b (J5 (Af (AnF a) (AnH a)) (Af (AnG a) (AnJ a)) (Af (AnI a) (AnO a)))]]} U λa=>Y (v147 (AnF a) (AnH a) (AnG a) (AnJ a) (AnI a) (AnO a))
end Go.Sx

noncomputable section
namespace Go
open Go.Sx
def CJ (x:List C):Int:=(qi 0 x)
def CO (x:List C):Int:=(qi 1 x)
def CX (x:List C):Bool:=decide (0<=CJ x/\CJ x<=65536/\0<=CO x/\CO x<=65536)
def BR (bn bd pn pd dr:Int) (g:Nat) (x:List C):Int:=
 match g with
 |0=>CJ x*bn*(pd*65536)-pn*bd*(65536+dr)
 |1=>pn*bd*(65536-dr)-CJ x*bn*(pd*65536)
 |2=>CO x*bd*(pd*65536)-pn*bd*(65536+dr)
 |3=>pn*bd*(65536-dr)-CO x*bd*(pd*65536)
 |4=>CJ x*bn*(pd*65536)-CO x*bd*(pd*65536)-pn*bd*dr
 |_=>CO x*bd*(pd*65536)-CJ x*bn*(pd*65536)-pn*bd*dr
def Ap (s:Int×Int) (a:Int):Int×Int:=(s.1+a,min s.2 (s.1+a))
def Gf (J:Int) (s:Int×Int):Bool:=decide (s.1-s.2<=J)
def Ot (J:Int) (m:Nat->List C->Int) (st:List (Int×Int)) (xs:List (List C)):Bool:=
 match xs with
 |[]=>true
 |x::r=>CX x&&(Gf J (Ap (st.getD 0 (0,0)) (m 0 x))&&(Gf J (Ap (st.getD 1 (0,0)) (m 1 x))&&(Gf J (Ap (st.getD 2 (0,0)) (m 2 x))&&(Gf J (Ap (st.getD 3 (0,0)) (m 3 x))&&(Gf J (Ap (st.getD 4 (0,0)) (m 4 x))&&(Gf J (Ap (st.getD 5 (0,0)) (m 5 x))&&
  Ot J m [Ap (st.getD 0 (0,0)) (m 0 x),Ap (st.getD 1 (0,0)) (m 1 x),Ap (st.getD 2 (0,0)) (m 2 x),Ap (st.getD 3 (0,0)) (m 3 x),Ap (st.getD 4 (0,0)) (m 4 x),Ap (st.getD 5 (0,0)) (m 5 x)] r))))))
def OI (s:Int×Int):List C:=[.i (Ac s.1),.i (Aa s.1),.i (Ac s.2),.i (Aa s.2)]
def Ah (z:List (Int×Int)):List (List C):=z.map OI
def KQ (y:List C):Int×Int:=(BV (qi 0 y) (qi 1 y),BV (qi 2 y) (qi 3 y))
def Gh (ys:List (List C)) (i b c:Int):List (Int×Int):=(ys.map KQ).set i.toNat ((KQ (rGet ys i)).1+BV b c,(KQ (rGet ys i)).2)
def D5 (ys:List (List C)) (i:Int):List (Int×Int):=(ys.map KQ).set i.toNat ((KQ (rGet ys i)).1,min (KQ (rGet ys i)).2 (KQ (rGet ys i)).1)
def PW:List (Int×Int):=[(0,0),(0,0),(0,0),(0,0),(0,0),(0,0)]
def Dh (bn bd pn pd dr ji:Int) (xs:List (List C)):Bool:=
 Ai bn bd&&(decide (bn<=768000/\bd<=768000)&&(Bv pn pd dr ji&&(decide ((xs.length:Int)<=256)&&Ot (bd*(pd*65536)*ji) (BR bn bd pn pd dr) PW xs)))
def AaH (kk:Int) (st:List (Int×Int)):Prop:=st.length=6/\∀s∈st,-(kk*10000000000000000000000)<=s.1/\s.1<=kk*10000000000000000000000/\-(kk*10000000000000000000000)<=s.2/\s.2<=kk*10000000000000000000000
def RH (bn bd pn pd dr ji:Int) (xs:List (List C)) (kk:Int) (st:List (Int×Int)):Prop:=
 0<=kk/\kk<=(xs.length:Int)/\AaH kk st/\Ot (bd*(pd*65536)*ji) (BR bn bd pn pd dr) st (xs.drop kk.toNat)=Ot (bd*(pd*65536)*ji) (BR bn bd pn pd dr) PW xs
def Um (bn bd pn pd dr:Int) (x:List C) (mm:Nat->Int):Prop:=mm=λg=>BR bn bd pn pd dr g x
theorem Sl (a b:Int):Ac (Af (Ac a) (Aa a)-Af (Ac b) (Aa b))=Ac (a-b):=by
 unfold Af Ac Aa; omega
theorem RS (a b:Int):Aa (Af (Ac a) (Aa a)-Af (Ac b) (Aa b))=Aa (a-b):=by
 unfold Af Ac Aa; omega
theorem ZI:Af 0 0=Af (Ac 0) (Aa 0):=rfl
def CB (M:Int) (s:Int×Int):Prop:= -M<=s.1/\s.1<=M/\-M<=s.2/\s.2<=M
def EJ (z:List (Int×Int)):Prop:=z.length=6/\∀s∈z,CB 1000000000000000000000000000000 s
theorem Mc {n:Int} (h0: -1000000000000000000000000000000000000<=n) (h1:n<=1000000000000000000000000000000000000):BV (Ac n) (Aa n)=n:=by
 unfold BV Ac Aa;split<;>omega
theorem Lm {z:List (Int×Int)} {i:Int} {g:Nat} (hi:i.toNat=g) (hg:g<z.length):rGet (Ah z) i=OI (z.getD g (0,0)):=by
 subst hi;simp[rGet,Ah,List.getD_eq_getElem?_getD,hg]
theorem QW {s:Int×Int} (h:CB 1000000000000000000000000000000 s):KQ (OI s)=s:=by
 obtain⟨a,b⟩:=s;simp only[CB]at h;simp only[KQ,OI,qi,cel,Al4,AmD,C.int];rw[Mc (by omega) (by omega),Mc (by omega) (by omega)]
theorem TF {z:List (Int×Int)} (hz:EJ z):(Ah z).map KQ=z:=by
 unfold Ah;rw[List.map_map]
 conv=>rhs; rw[←List.map_id z]
 exact List.map_congr_left λs hs=>QW (hz.2 s hs)
theorem O6 {z:List (Int×Int)} (hz:EJ z) {g:Nat} (hg:g<6):CB 1000000000000000000000000000000 (z.getD g (0,0)):=by
 have h:g<z.length:=by rw[hz.1]; exact hg
 rw[List.getD_eq_getElem?_getD,List.getElem?_eq_getElem h];exact hz.2 _ (Anf h)
theorem KR {z:List (Int×Int)} {i a:Int} {g:Nat} (hz:EJ z) (hi:i.toNat=g) (hg:g<6) (h0: -1000000000000000000000000000000<=a) (h1:a<=1000000000000000000000000000000):
 Gh (Ah z) i (Ac a) (Aa a)=z.set g ((z.getD g (0,0)).1+a,(z.getD g (0,0)).2):=by
 unfold Gh;rw[TF hz,Lm hi (by rw[hz.1]; exact hg),QW (O6 hz hg),Mc (by omega) (by omega),hi]
theorem Js {z:List (Int×Int)} {i:Int} {g:Nat} (hz:EJ z) (hi:i.toNat=g) (hg:g<6):
 D5 (Ah z) i=z.set g ((z.getD g (0,0)).1,min (z.getD g (0,0)).2 (z.getD g (0,0)).1):=by
 unfold D5;rw[TF hz,Lm hi (by rw[hz.1]; exact hg),QW (O6 hz hg),hi]
theorem Tu {z:List (Int×Int)} {i:Int} {g:Nat} (hi:i.toNat=g) (s:Int×Int) {c:List C} (hc:c=OI s):rSet (Ah z) i c=Ah (z.set g s):=by
 subst hi; subst hc;unfold rSet Ah;rw[List.map_set]
theorem Qi {z:List (Int×Int)} {i a:Int} {g:Nat} (hz:EJ z) (hi:i.toNat=g) (hg:g<6) (h0: -1000000000000000000000000000000<=a) (h1:a<=1000000000000000000000000000000):
 rSet (Ah z) i [C.i (Ac (Af (qi 0 (rGet (Ah z) i)) (qi 1 (rGet (Ah z) i))-Af (Ac (0-a)) (Aa (0-a)))),
  C.i (Aa (Af (qi 0 (rGet (Ah z) i)) (qi 1 (rGet (Ah z) i))-Af (Ac (0-a)) (Aa (0-a)))),
  C.i (qi 2 (rGet (Ah z) i)),C.i (qi 3 (rGet (Ah z) i))]=Ah (Gh (Ah z) i (Ac a) (Aa a)):=by
 rw[KR hz hi hg h0 h1];refine Tu hi _ ?_;rw[Lm hi (by rw[hz.1]; exact hg)];generalize z.getD g (0,0)=s;simp only[OI,qi,cel,Al4,AmD,C.int,Sl,RS];rw[show s.1- (0-a)=s.1+a by omega]
theorem Px {z:List (Int×Int)} {i:Int} {g:Nat} (hz:EJ z) (hi:i.toNat=g) (hg:g<6)
 (h:decide (BV (qi 0 (rGet (Ah z) i)) (qi 1 (rGet (Ah z) i))<BV (qi 2 (rGet (Ah z) i)) (qi 3 (rGet (Ah z) i)))=true):
 rSet (Ah z) i [C.i (qi 0 (rGet (Ah z) i)),C.i (qi 1 (rGet (Ah z) i)),C.i (qi 0 (rGet (Ah z) i)),C.i (qi 1 (rGet (Ah z) i))]=Ah (D5 (Ah z) i):=by
 rw[Js hz hi hg];refine Tu hi _ ?_;rw[Lm hi (by rw[hz.1]; exact hg)]at h ⊢;have hb:=O6 hz hg;revert h hb;generalize z.getD g (0,0)=s;intro h hb;simp only[CB]at hb;replace h:=Amb h;simp only[OI,qi,cel,Al4,AmD,C.int]at h ⊢;rw[Mc (by omega) (by omega),Mc (by omega) (by omega)]at h;rw[show min s.2 s.1=s.1 by omega]
theorem Py {z:List (Int×Int)} {i:Int} {g:Nat} (hz:EJ z) (hi:i.toNat=g) (hg:g<6)
 (h:decide (BV (qi 0 (rGet (Ah z) i)) (qi 1 (rGet (Ah z) i))<BV (qi 2 (rGet (Ah z) i)) (qi 3 (rGet (Ah z) i)))=false):
 Ah z=Ah (D5 (Ah z) i):=by
 rw[Js hz hi hg];rw[Lm hi (by rw[hz.1]; exact hg)]at h;have hb:=O6 hz hg;have hset:z.set g (z.getD g (0,0))=z:=by
  have hl:g<z.length:=by rw[hz.1]; exact hg
  rw[List.getD_eq_getElem?_getD,List.getElem?_eq_getElem hl];exact List.set_getElem_self hl
 have e:((z.getD g (0,0)).1,min (z.getD g (0,0)).2 (z.getD g (0,0)).1)=z.getD g (0,0):=by
  revert h hb;generalize z.getD g (0,0)=s;intro h hb;simp only[CB]at hb;replace h:=of_decide_eq_false h;simp only[OI,qi,cel,Al4,AmD,C.int]at h;rw[Mc (by omega) (by omega),Mc (by omega) (by omega)]at h;rw[show min s.2 s.1=s.2 by omega]
 rw[e,hset]
theorem Qe {z:List (Int×Int)} {i L:Int} {g:Nat} (hz:EJ z) (hi:i.toNat=g) (hg:g<6) (h0:0<=L) (h1:L<=1000000000000000000000000000000):
 decide (BV (Ac L) (Aa L)<BV (Ac (Af (qi 0 (rGet (Ah z) i)) (qi 1 (rGet (Ah z) i))-Af (qi 2 (rGet (Ah z) i)) (qi 3 (rGet (Ah z) i))))
  (Aa (Af (qi 0 (rGet (Ah z) i)) (qi 1 (rGet (Ah z) i))-Af (qi 2 (rGet (Ah z) i)) (qi 3 (rGet (Ah z) i)))))= !Gf L (z.getD g (0,0)):=by
 rw[Lm hi (by rw[hz.1]; exact hg)];have hb:=O6 hz hg;revert hb;generalize z.getD g (0,0)=s;intro hb;simp only[CB]at hb;unfold Gf;rw[←decide_not,decide_eq_decide];simp only[OI,qi,cel,Al4,AmD,C.int,Sl,RS];rw[Mc (by omega) (by omega),Mc (by omega) (by omega)];omega
theorem Aaf {z:List (Int×Int)} (h:z.length=6):∃a b c d e f,z=[a,b,c,d,e,f]:=by
 match z,h with
 |[a,b,c,d,e,f],_=>exact⟨a,b,c,d,e,f,rfl⟩
theorem Gm {a b c d e f:Int×Int} (ha:CB 1000000000000000000000000000000 a) (hb:CB 1000000000000000000000000000000 b) (hc:CB 1000000000000000000000000000000 c) (hd:CB 1000000000000000000000000000000 d) (he:CB 1000000000000000000000000000000 e) (hf:CB 1000000000000000000000000000000 f):EJ [a,b,c,d,e,f]:=by
 refine⟨rfl,λs hs=> ?_⟩;simp only[Amd,List.not_mem_nil,or_false]at hs;rcases hs with rfl|rfl|rfl|rfl|rfl|rfl<;>assumption
theorem Ar {M N:Int} {s:Int×Int} (h:CB M s) (hm:M<=N):CB N s:=by
 simp only[CB]at h ⊢; omega
theorem NI {M E a:Int} {s:Int×Int} (h:CB M s) (h0: -E<=a) (h1:a<=E):CB (M+E) (s.1+a,s.2):=by
 simp only[CB]at h ⊢; omega
theorem Aw {M E a:Int} {s:Int×Int} (h:CB M s) (h0: -E<=a) (h1:a<=E):CB (M+E) (Ap s a):=by
 simp only[CB,Ap]at h ⊢; omega
theorem Nk {bn bd pn pd dr ji:Int} {xs:List (List C)} (h:Ai bn bd=false∨768000<bn∨768000<bd∨Bv pn pd dr ji=false∨256<(xs.length:Int)):false=Dh bn bd pn pd dr ji xs:=by
 symm;unfold Dh;rcases h with h|h|h|h|h
 · simp[h]
 · have:decide (bn<=768000/\bd<=768000)=false:=by simp; omega
   simp[this]
 · have:decide (bn<=768000/\bd<=768000)=false:=by simp; omega
   simp[this]
 · simp[h]
 · have:decide ((xs.length:Int)<=256)=false:=by simp; omega
   simp[this]
theorem Tm {bn bd pn pd dr ji:Int} {xs:List (List C)} (h1:Ai bn bd=true) (h2:bn<=768000) (h3:bd<=768000) (h4:Bv pn pd dr ji=true) (h5:(xs.length:Int)<=256):
 Dh bn bd pn pd dr ji xs=Ot (bd*(pd*65536)*ji) (BR bn bd pn pd dr) PW xs:=by
 unfold Dh;simp[h1,h2,h3,h4,h5]
theorem Sv {bn bd pn pd dr ji:Int} (h1:Ai bn bd=true) (h2:bn<=768000) (h3:bd<=768000) (h4:Bv pn pd dr ji=true):
 1<=bn/\1<=bd/\1<=pd/\pd<=768000/\0<=dr/\dr<=4096/\0<=ji/\ji<=65536/\0<=pn*bd/\pn*bd<=68719476736*768000/\0<=bd*(pd*65536)/\bd*(pd*65536)<=768000*(768000*65536)/\
 0<=pn*bd*(65536+dr)/\pn*bd*(65536+dr)<=4000000000000000000000/\0<=pn*bd*(65536-dr)/\pn*bd*(65536-dr)<=4000000000000000000000/\0<=pn*bd*dr/\pn*bd*dr<=4000000000000000000000/\
 0<=bd*(pd*65536)*ji/\bd*(pd*65536)*ji<=4000000000000000000000:=by
 have hd:=L9 h4;have hb:1<=bn/\1<=bd:=by
  simp only[Ai,AlE]at h1; omega
 have a:=Aa8 (x:=pn) (X:=68719476736) (y:=bd) (Y:=768000) (by omega) (by omega) (by omega) (by omega);have b:=Aa8 (x:=bd) (X:=768000) (y:=pd*65536) (Y:=768000*65536) (by omega) (by omega) (by omega) (by omega);have c:=Aa8 (x:=pn*bd) (X:=68719476736*768000) (y:=65536+dr) (Y:=69632) (by omega) (by omega) (by omega) (by omega);have d:=Aa8 (x:=pn*bd) (X:=68719476736*768000) (y:=65536-dr) (Y:=69632) (by omega) (by omega) (by omega) (by omega);have e:=Aa8 (x:=pn*bd) (X:=68719476736*768000) (y:=dr) (Y:=69632) (by omega) (by omega) (by omega) (by omega);have f:=Aa8 (x:=bd*(pd*65536)) (X:=768000*(768000*65536)) (y:=ji) (Y:=65536) (by omega) (by omega) (by omega) (by omega);omega
theorem XB {bn bd pd u v:Int} (h1:1<=bn) (h2:bn<=768000) (h3:1<=bd) (h4:bd<=768000) (h5:1<=pd) (h6:pd<=768000) (u0:0<=u) (u1:u<=65536) (v0:0<=v) (v1:v<=65536):
 0<=u*bn/\u*bn<=65536*768000/\0<=v*bd/\v*bd<=65536*768000/\0<=u*bn*(pd*65536)/\u*bn*(pd*65536)<=4000000000000000000000/\0<=v*bd*(pd*65536)/\v*bd*(pd*65536)<=4000000000000000000000:=by
 have a:=Aa8 (x:=u) (X:=65536) (y:=bn) (Y:=768000) (by omega) (by omega) (by omega) (by omega);have b:=Aa8 (x:=v) (X:=65536) (y:=bd) (Y:=768000) (by omega) (by omega) (by omega) (by omega);have c:=Aa8 (x:=u*bn) (X:=65536*768000) (y:=pd*65536) (Y:=768000*65536) (by omega) (by omega) (by omega) (by omega);have d:=Aa8 (x:=v*bd) (X:=65536*768000) (y:=pd*65536) (Y:=768000*65536) (by omega) (by omega) (by omega) (by omega);omega
theorem XC {M:Int} {a b c d e f:Int×Int} (h:∀s∈[a,b,c,d,e,f],CB M s):CB M a/\CB M b/\CB M c/\CB M d/\CB M e/\CB M f:=by
 simp only[Amd,List.not_mem_nil,or_false,forall_eq_or_imp,forall_eq]at h;exact h
end Go
namespace Go.Sx
def A75 (bn:Int) (bd:Int) (pn:Int) (pd:Int) (dr:Int) (ji:Int) (xs:List (List C)):FuncId->Nat->LoopAnn:=λff ii=>bif Nat.beq ff 137 then(bif Nat.beq ii 1000002 then .on (λsv0=>match sv0.tmps with| .rref kk cc sz i0 of:: .agg [.int _ b1,.int _ b0]::_=>(match sv0.heap[kk]? with|some (.row ee ty vv ys)=> .cut (List (Int×Int)) (λy0=>y0=Gh ys i0 b1 b0) (λ_=>[]) (λy0=>[(kk,.row ee ty vv (Ah y0))]) [kk] ([0,1,2,4,5,6,26]++[1000000+kk])|_=> .unroll 0)|_=> .unroll 0)else bif Nat.beq ii 1000004 then .on (λsv0=>match sv0.tmps with| .rref kk cc sz i0 of::_=>(match sv0.heap[kk]? with|some (.row ee ty vv ys)=> .cut (List (Int×Int)) (λy0=>y0=D5 ys i0) (λ_=>[]) (λy0=>[(kk,.row ee ty vv (Ah y0))]) [kk] ([0,1,2,4,5,6,26]++[1000000+kk])|_=> .unroll 0)|_=> .unroll 0)else .unroll 9)else bif Nat.beq ii 10 then .inv (Int×List (Int×Int)) (λz=>RH bn bd pn pd dr ji xs z.1 z.2) (λz=>[(78,.int .i64 z.1)]) (λz=>[(6,.row [.int .u64,.int .u64,.int .u64,.int .u64] 260 0 (Ah z.2))]) [6] ([0,1,2,3,4,5,6,10,11,12,13,14,15,16,17,19,20,21,22,23,24,49,76,77,78,79,99,137,138,139,140,150]++[1000006]) (λz=>xs.length-z.1.toNat)else bif Nat.beq ii 1000017 then .on (λsv0=>match sv0.tmps.getD 78 .undef with| .int _ kk=> .cut (Nat->Int) (λmm=>Um bn bd pn pd dr (rGet xs kk) mm) (λmm=>[(22,.slit 6 2 [.int .u64 (Ac (mm 0)),.int .u64 (Aa (mm 0)),.int .u64 (Ac (mm 1)),.int .u64 (Aa (mm 1)),.int .u64 (Ac (mm 2)),.int .u64 (Aa (mm 2)),.int .u64 (Ac (mm 3)),.int .u64 (Aa (mm 3)),.int .u64 (Ac (mm 4)),.int .u64 (Aa (mm 4)),.int .u64 (Ac (mm 5)),.int .u64 (Aa (mm 5))])]) (λ_=>[]) [] [0,1,2,3,4,5,6,10,11,12,13,14,15,16,17,19,20,21,22,23,24,49,76,77,78,79,99,137,138,139,140,150]|_=> .unroll 0)else .unroll 9
def Aa7 (bd:Int) (pd:Int) (ji:Int):Int:=(Ac (iMul bd (iMul pd 65536)*ji))
def Aa6 (bd:Int) (pd:Int) (ji:Int):Int:=(Aa (iMul bd (iMul pd 65536)*ji))
def AbI (bn:Int) (pd:Int) (xs:List (List C)) (x:Int×List (Int×Int)):Int:=(Ac (iMul (qi 0 (rGet xs x.1)) bn*iMul pd 65536))
def AbH (bn:Int) (pd:Int) (xs:List (List C)) (x:Int×List (Int×Int)):Int:=(Aa (iMul (qi 0 (rGet xs x.1)) bn*iMul pd 65536))
def AbG (bd:Int) (pd:Int) (xs:List (List C)) (x:Int×List (Int×Int)):Int:=(Ac (iMul (qi 1 (rGet xs x.1)) bd*iMul pd 65536))
def AbF (bd:Int) (pd:Int) (xs:List (List C)) (x:Int×List (Int×Int)):Int:=(Aa (iMul (qi 1 (rGet xs x.1)) bd*iMul pd 65536))
def Acy (x_13:List (Int×Int)):List C:=(rGet (Ah x_13) (0+1+1+1+1+1))
def AbW (bd:Int) (pn:Int) (dr:Int):Int:=(Ac (iMul pn bd*iAdd 65536 dr))
def AbV (bd:Int) (pn:Int) (dr:Int):Int:=(Aa (iMul pn bd*iAdd 65536 dr))
def AbU (bd:Int) (pn:Int) (dr:Int):Int:=(Ac (iMul pn bd*iSub 65536 dr))
def Abl (bd:Int) (pn:Int) (dr:Int):Int:=(Aa (iMul pn bd*iSub 65536 dr))
def AbP (x_11:List (Int×Int)):List C:=(rGet (Ah x_11) (0+1+1+1+1))
def AbO (x_9:List (Int×Int)):List C:=(rGet (Ah x_9) (0+1+1+1))
def Acr:List Sh:=[.int .u64,.int .u64,.int .u64,.int .u64]
def AbN (x_7:List (Int×Int)):List C:=(rGet (Ah x_7) (0+1+1))
def Acp (x_12:List (Int×Int)):List C:=(rGet (Ah x_12) (0+1+1+1+1+1))
def Aco (x_10:List (Int×Int)):List C:=(rGet (Ah x_10) (0+1+1+1+1))
def AcU (x_11:List (Int×Int)):List C:=(rGet (Ah x_11) (0+1+1+1+1+1))
def AbM (x_5:List (Int×Int)):List C:=(rGet (Ah x_5) (0+1))
def Acn (x_8:List (Int×Int)):List C:=(rGet (Ah x_8) (0+1+1+1))
def AcT (x_9:List (Int×Int)):List C:=(rGet (Ah x_9) (0+1+1+1+1))
def Afs (bn:Int) (bd:Int) (pd:Int) (xs:List (List C)) (x:Int×List (Int×Int)):Int:=(Ac (Af (AbI bn pd xs x) (AbH bn pd xs x)-Af (AbG bd pd xs x) (AbF bd pd xs x)))
def Afr (bn:Int) (bd:Int) (pd:Int) (xs:List (List C)) (x:Int×List (Int×Int)):Int:=(Aa (Af (AbI bn pd xs x) (AbH bn pd xs x)-Af (AbG bd pd xs x) (AbF bd pd xs x)))
def Afq (bn:Int) (bd:Int) (pd:Int) (xs:List (List C)) (x:Int×List (Int×Int)):Int:=(Ac (Af (AbG bd pd xs x) (AbF bd pd xs x)-Af (AbI bn pd xs x) (AbH bn pd xs x)))
def Afp (bn:Int) (bd:Int) (pd:Int) (xs:List (List C)) (x:Int×List (Int×Int)):Int:=(Aa (Af (AbG bd pd xs x) (AbF bd pd xs x)-Af (AbI bn pd xs x) (AbH bn pd xs x)))
def Abk (bd:Int) (pn:Int) (dr:Int):Int:=(Ac (iMul pn bd*dr))
def Abj (bd:Int) (pn:Int) (dr:Int):Int:=(Aa (iMul pn bd*dr))
def Acm (x_6:List (Int×Int)):List C:=(rGet (Ah x_6) (0+1+1))
def AcS (x_7:List (Int×Int)):List C:=(rGet (Ah x_7) (0+1+1+1))
def Afo (x_1:Nat->Int):Int:=(Ac (Af 0 0-Af (Ac (x_1 0)) (Aa (x_1 0))))
def Afn (x_1:Nat->Int):Int:=(Aa (Af 0 0-Af (Ac (x_1 0)) (Aa (x_1 0))))
def Afm (x_1:Nat->Int):Int:=(Ac (Af 0 0-Af (Ac (x_1 1)) (Aa (x_1 1))))
def Afl (x_1:Nat->Int):Int:=(Aa (Af 0 0-Af (Ac (x_1 1)) (Aa (x_1 1))))
def Afk (x_1:Nat->Int):Int:=(Ac (Af 0 0-Af (Ac (x_1 2)) (Aa (x_1 2))))
def Afj (x_1:Nat->Int):Int:=(Aa (Af 0 0-Af (Ac (x_1 2)) (Aa (x_1 2))))
def Afi (x_1:Nat->Int):Int:=(Ac (Af 0 0-Af (Ac (x_1 3)) (Aa (x_1 3))))
def Afh (x_1:Nat->Int):Int:=(Aa (Af 0 0-Af (Ac (x_1 3)) (Aa (x_1 3))))
def Afg (x_1:Nat->Int):Int:=(Ac (Af 0 0-Af (Ac (x_1 4)) (Aa (x_1 4))))
def Aff (x_1:Nat->Int):Int:=(Aa (Af 0 0-Af (Ac (x_1 4)) (Aa (x_1 4))))
def Afe (x_1:Nat->Int):Int:=(Ac (Af 0 0-Af (Ac (x_1 5)) (Aa (x_1 5))))
def Afd (x_1:Nat->Int):Int:=(Aa (Af 0 0-Af (Ac (x_1 5)) (Aa (x_1 5))))
def AcR (x_5:List (Int×Int)):List C:=(rGet (Ah x_5) (0+1+1))
def Acl (x_4:List (Int×Int)):List C:=(rGet (Ah x_4) (0+1))
def AbL (x_3:List (Int×Int)):List C:=(rGet (Ah x_3) 0)
def AcQ (x_3:List (Int×Int)):List C:=(rGet (Ah x_3) (0+1))
theorem v75 (bn:Int) (bd:Int) (pn:Int) (pd:Int) (dr:Int) (ji:Int) (xs:List (List C)):AnC bn/\AnC bd/\AnC pn/\AnC pd/\AnC dr/\AnC ji/\WL hII xs->True/\True/\Cn (bNot (Ai bn bd)) (false=Dh bn bd pn pd dr ji xs) (Cn (bLt 768000 bn) (false=Dh bn bd pn pd dr ji xs) (Cn (bLt 768000 bd) (false=Dh bn bd pn pd dr ji xs) (True/\True/\Cn (bNot (Bv pn pd dr ji)) (false=Dh bn bd pn pd dr ji xs) (AnE xs->Cn (bLt 256 (iLen xs)) (false=Dh bn bd pn pd dr ji xs) (AnC (iMul pd 65536)/\AnC (iMul pn bd)/\AnC (iMul bd (iMul pd 65536))/\(0<=iMul bd (iMul pd 65536)/\0<=ji)/\(AnD (Aa7 bd pd ji)/\AnD (Aa6 bd pd ji)->AnC (iAdd 65536 dr)/\(0<=iMul pn bd/\0<=iAdd 65536 dr)/\(AnD (AbW bd pn dr)/\AnD (AbV bd pn dr)->AnC (iSub 65536 dr)/\(0<=iMul pn bd/\0<=iSub 65536 dr)/\(AnD (AbU bd pn dr)/\AnD (Abl bd pn dr)->(0<=iMul pn bd/\0<=dr)/\(AnD (Abk bd pn dr)/\AnD (Abj bd pn dr)->(pLe 0 6/\pLe 6 6/\Abb 32 6)/\(AnE xs->(∃(x:Int×List (Int×Int)),RH bn bd pn pd dr ji xs x.1 x.2/\0=x.1/\List.replicate (Int.toNat 6) [C.i 0,C.i 0,C.i 0,C.i 0]=Ah x.2)/\∀(x:Int×List (Int×Int)),RH bn bd pn pd dr ji xs x.1 x.2->AnC x.1/\WL Acr (Ah x.2)->Cn (bLt x.1 (iLen xs)) (pIn 0 (iLen xs) x.1/\(AnC (qi 0 (rGet xs x.1))/\AnC (qi 1 (rGet xs x.1))->Cn (bLt (qi 0 (rGet xs x.1)) 0) (false=Dh bn bd pn pd dr ji xs) (Cn (bLt 65536 (qi 0 (rGet xs x.1))) (false=Dh bn bd pn pd dr ji xs) (Cn (bLt (qi 1 (rGet xs x.1)) 0) (false=Dh bn bd pn pd dr ji xs) (Cn (bLt 65536 (qi 1 (rGet xs x.1))) (false=Dh bn bd pn pd dr ji xs) (AnC (iMul (qi 0 (rGet xs x.1)) bn)/\(0<=iMul (qi 0 (rGet xs x.1)) bn/\0<=iMul pd 65536)/\(AnD (AbI bn pd xs x)/\AnD (AbH bn pd xs x)->AnC (iMul (qi 1 (rGet xs x.1)) bd)/\(0<=iMul (qi 1 (rGet xs x.1)) bd/\0<=iMul pd 65536)/\(AnD (AbG bd pd xs x)/\AnD (AbF bd pd xs x)->(True/\(AnD (Ac (Af (AbI bn pd xs x) (AbH bn pd xs x)-Af (AbW bd pn dr) (AbV bd pn dr)))/\AnD (Aa (Af (AbI bn pd xs x) (AbH bn pd xs x)-Af (AbW bd pn dr) (AbV bd pn dr)))->True/\(AnD (Ac (Af (AbU bd pn dr) (Abl bd pn dr)-Af (AbI bn pd xs x) (AbH bn pd xs x)))/\AnD (Aa (Af (AbU bd pn dr) (Abl bd pn dr)-Af (AbI bn pd xs x) (AbH bn pd xs x)))->True/\(AnD (Ac (Af (AbG bd pd xs x) (AbF bd pd xs x)-Af (AbW bd pn dr) (AbV bd pn dr)))/\AnD (Aa (Af (AbG bd pd xs x) (AbF bd pd xs x)-Af (AbW bd pn dr) (AbV bd pn dr)))->True/\(AnD (Ac (Af (AbU bd pn dr) (Abl bd pn dr)-Af (AbG bd pd xs x) (AbF bd pd xs x)))/\AnD (Aa (Af (AbU bd pn dr) (Abl bd pn dr)-Af (AbG bd pd xs x) (AbF bd pd xs x)))->True/\(AnD (Afs bn bd pd xs x)/\AnD (Afr bn bd pd xs x)->True/\(AnD (Ac (Af (Afs bn bd pd xs x) (Afr bn bd pd xs x)-Af (Abk bd pn dr) (Abj bd pn dr)))/\AnD (Aa (Af (Afs bn bd pd xs x) (Afr bn bd pd xs x)-Af (Abk bd pn dr) (Abj bd pn dr)))->True/\(AnD (Afq bn bd pd xs x)/\AnD (Afp bn bd pd xs x)->True/\(AnD (Ac (Af (Afq bn bd pd xs x) (Afp bn bd pd xs x)-Af (Abk bd pn dr) (Abj bd pn dr)))/\AnD (Aa (Af (Afq bn bd pd xs x) (Afp bn bd pd xs x)-Af (Abk bd pn dr) (Abj bd pn dr)))->Sm [C.i bn,C.i bd]/\Sm [C.i pn,C.i pd]/\Sm dr/\Sm ji/\Sm xs/\Sm (iMul pd 65536)/\Sm (iMul pn bd)/\Sm xs/\Sm (iLen xs)/\Sm x.1/\Sm [C.i bn,C.i bd]/\Sm [C.i pn,C.i pd]/\Sm [C.i (Aa7 bd pd ji),C.i (Aa6 bd pd ji)]/\Sm [C.i (AbW bd pn dr),C.i (AbV bd pn dr)]/\Sm [C.i (AbU bd pn dr),C.i (Abl bd pn dr)]/\Sm [C.i (Abk bd pn dr),C.i (Abj bd pn dr)]/\Sm (Ah x.2)/\Sm (sg 0 [0,0] (rGet xs x.1))/\Sm [C.i (AbI bn pd xs x),C.i (AbH bn pd xs x)]/\Sm [C.i (AbG bd pd xs x),C.i (AbF bd pd xs x)]/\∃(y:Nat->Int),Um bn bd pn pd dr (rGet xs x.1) y/\Ac (Af (AbI bn pd xs x) (AbH bn pd xs x)-Af (AbW bd pn dr) (AbV bd pn dr))=Ac (y 0)/\Aa (Af (AbI bn pd xs x) (AbH bn pd xs x)-Af (AbW bd pn dr) (AbV bd pn dr))=Aa (y 0)/\Ac (Af (AbU bd pn dr) (Abl bd pn dr)-Af (AbI bn pd xs x) (AbH bn pd xs x))=Ac (y 1)/\Aa (Af (AbU bd pn dr) (Abl bd pn dr)-Af (AbI bn pd xs x) (AbH bn pd xs x))=Aa (y 1)/\Ac (Af (AbG bd pd xs x) (AbF bd pd xs x)-Af (AbW bd pn dr) (AbV bd pn dr))=Ac (y 2)/\Aa (Af (AbG bd pd xs x) (AbF bd pd xs x)-Af (AbW bd pn dr) (AbV bd pn dr))=Aa (y 2)/\Ac (Af (AbU bd pn dr) (Abl bd pn dr)-Af (AbG bd pd xs x) (AbF bd pd xs x))=Ac (y 3)/\Aa (Af (AbU bd pn dr) (Abl bd pn dr)-Af (AbG bd pd xs x) (AbF bd pd xs x))=Aa (y 3)/\Ac (Af (Afs bn bd pd xs x) (Afr bn bd pd xs x)-Af (Abk bd pn dr) (Abj bd pn dr))=Ac (y 4)/\Aa (Af (Afs bn bd pd xs x) (Afr bn bd pd xs x)-Af (Abk bd pn dr) (Abj bd pn dr))=Aa (y 4)/\Ac (Af (Afq bn bd pd xs x) (Afp bn bd pd xs x)-Af (Abk bd pn dr) (Abj bd pn dr))=Ac (y 5)/\Aa (Af (Afq bn bd pd xs x) (Afp bn bd pd xs x)-Af (Abk bd pn dr) (Abj bd pn dr))=Aa (y 5))))))))))/\∀(x_1:Nat->Int),Um bn bd pn pd dr (rGet xs x.1) x_1->6<=16777216/\AnD (Ac (x_1 0))/\AnD (Aa (x_1 0))/\AnD (Ac (x_1 1))/\AnD (Aa (x_1 1))/\AnD (Ac (x_1 2))/\AnD (Aa (x_1 2))/\AnD (Ac (x_1 3))/\AnD (Aa (x_1 3))/\AnD (Ac (x_1 4))/\AnD (Aa (x_1 4))/\AnD (Ac (x_1 5))/\AnD (Aa (x_1 5))->AnD (Ac (x_1 0))/\AnD (Aa (x_1 0))->pIn 0 (iLen (Ah x.2)) 0/\(AnD (qi 0 (rGet (Ah x.2) 0))/\AnD (qi 1 (rGet (Ah x.2) 0))->True/\(AnD (Afo x_1)/\AnD (Afn x_1)->True/\(AnD (Ac (Af (qi 0 (rGet (Ah x.2) 0)) (qi 1 (rGet (Ah x.2) 0))-Af (Afo x_1) (Afn x_1)))/\AnD (Aa (Af (qi 0 (rGet (Ah x.2) 0)) (qi 1 (rGet (Ah x.2) 0))-Af (Afo x_1) (Afn x_1)))->Sm (SV.rref 6 0 4 0 0)/\Sm [C.i (Ac (x_1 0)),C.i (Aa (x_1 0))]/\Sm [C.i (Aa7 bd pd ji),C.i (Aa6 bd pd ji)]/\Sm [C.i bn,C.i bd]/\Sm [C.i pn,C.i pd]/\Sm [C.i (Aa7 bd pd ji),C.i (Aa6 bd pd ji)]/\Sm [C.i (AbW bd pn dr),C.i (AbV bd pn dr)]/\Sm [C.i (AbU bd pn dr),C.i (Abl bd pn dr)]/\Sm [C.i (Abk bd pn dr),C.i (Abj bd pn dr)]/\Sm (sg 0 [0,0] (rGet xs x.1))/\Sm [C.i (AbI bn pd xs x),C.i (AbH bn pd xs x)]/\Sm [C.i (AbG bd pd xs x),C.i (AbF bd pd xs x)]/\Sm [C.i (Ac (x_1 0)),C.i (Aa (x_1 0))]/\Sm [C.i (Ac (x_1 0)),C.i (Aa (x_1 0))]/\Sm [C.i (Aa7 bd pd ji),C.i (Aa6 bd pd ji)]/\∃(y:List (Int×Int)),y=Gh (Ah x.2) 0 (Ac (x_1 0)) (Aa (x_1 0))/\rSet (Ah x.2) 0 (C.i (Ac (Af (qi 0 (rGet (Ah x.2) 0)) (qi 1 (rGet (Ah x.2) 0))-Af (Afo x_1) (Afn x_1)))::C.i (Aa (Af (qi 0 (rGet (Ah x.2) 0)) (qi 1 (rGet (Ah x.2) 0))-Af (Afo x_1) (Afn x_1)))::sg 2 [0,0] (rGet (Ah x.2) 0))=Ah y)))/\∀(x_2:List (Int×Int)),x_2=Gh (Ah x.2) 0 (Ac (x_1 0)) (Aa (x_1 0))->WL Acr (Ah x_2)->(AnD (qi 0 (rGet (Ah x_2) 0))/\AnD (qi 1 (rGet (Ah x_2) 0))->AnD (qi 2 (rGet (Ah x_2) 0))/\AnD (qi 3 (rGet (Ah x_2) 0))->True/\Cn (decide (BV (qi 0 (rGet (Ah x_2) 0)) (qi 1 (rGet (Ah x_2) 0))<BV (qi 2 (rGet (Ah x_2) 0)) (qi 3 (rGet (Ah x_2) 0)))) (AnD (qi 0 (rGet (Ah x_2) 0))/\AnD (qi 1 (rGet (Ah x_2) 0))->Sm (SV.rref 6 0 4 0 0)/\Sm [C.i (Ac (x_1 0)),C.i (Aa (x_1 0))]/\Sm [C.i (Aa7 bd pd ji),C.i (Aa6 bd pd ji)]/\Sm [C.i bn,C.i bd]/\Sm [C.i pn,C.i pd]/\Sm [C.i (Aa7 bd pd ji),C.i (Aa6 bd pd ji)]/\Sm [C.i (AbW bd pn dr),C.i (AbV bd pn dr)]/\Sm [C.i (AbU bd pn dr),C.i (Abl bd pn dr)]/\Sm [C.i (Abk bd pn dr),C.i (Abj bd pn dr)]/\Sm (sg 0 [0,0] (rGet xs x.1))/\Sm [C.i (AbI bn pd xs x),C.i (AbH bn pd xs x)]/\Sm [C.i (AbG bd pd xs x),C.i (AbF bd pd xs x)]/\Sm [C.i (Ac (x_1 0)),C.i (Aa (x_1 0))]/\Sm [C.i (Ac (x_1 0)),C.i (Aa (x_1 0))]/\Sm [C.i (Aa7 bd pd ji),C.i (Aa6 bd pd ji)]/\∃(y:List (Int×Int)),y=D5 (Ah x_2) 0/\rSet (Ah x_2) 0 (C.i (qi 0 (rGet (Ah x_2) 0))::C.i (qi 1 (rGet (Ah x_2) 0))::sg 0 [0,0] (rGet (Ah x_2) 0))=Ah y) (Sm (SV.rref 6 0 4 0 0)/\Sm [C.i (Ac (x_1 0)),C.i (Aa (x_1 0))]/\Sm [C.i (Aa7 bd pd ji),C.i (Aa6 bd pd ji)]/\Sm [C.i bn,C.i bd]/\Sm [C.i pn,C.i pd]/\Sm [C.i (Aa7 bd pd ji),C.i (Aa6 bd pd ji)]/\Sm [C.i (AbW bd pn dr),C.i (AbV bd pn dr)]/\Sm [C.i (AbU bd pn dr),C.i (Abl bd pn dr)]/\Sm [C.i (Abk bd pn dr),C.i (Abj bd pn dr)]/\Sm (sg 0 [0,0] (rGet xs x.1))/\Sm [C.i (AbI bn pd xs x),C.i (AbH bn pd xs x)]/\Sm [C.i (AbG bd pd xs x),C.i (AbF bd pd xs x)]/\Sm [C.i (Ac (x_1 0)),C.i (Aa (x_1 0))]/\Sm [C.i (Ac (x_1 0)),C.i (Aa (x_1 0))]/\Sm [C.i (Aa7 bd pd ji),C.i (Aa6 bd pd ji)]/\∃(y:List (Int×Int)),y=D5 (Ah x_2) 0/\Ah x_2=Ah y))/\∀(x_3:List (Int×Int)),x_3=D5 (Ah x_2) 0->WL Acr (Ah x_3)->AnD (qi 0 (AbL x_3))/\AnD (qi 1 (AbL x_3))->AnD (qi 2 (AbL x_3))/\AnD (qi 3 (AbL x_3))->True/\(AnD (Ac (Af (qi 0 (AbL x_3)) (qi 1 (AbL x_3))-Af (qi 2 (AbL x_3)) (qi 3 (AbL x_3))))/\AnD (Aa (Af (qi 0 (AbL x_3)) (qi 1 (AbL x_3))-Af (qi 2 (AbL x_3)) (qi 3 (AbL x_3))))->True/\True/\True/\Cn (bNot (bNot (decide (BV (Aa7 bd pd ji) (Aa6 bd pd ji)<BV (Ac (Af (qi 0 (AbL x_3)) (qi 1 (AbL x_3))-Af (qi 2 (AbL x_3)) (qi 3 (AbL x_3)))) (Aa (Af (qi 0 (AbL x_3)) (qi 1 (AbL x_3))-Af (qi 2 (AbL x_3)) (qi 3 (AbL x_3)))))))) (false=Dh bn bd pn pd dr ji xs) (AnD (Ac (x_1 1))/\AnD (Aa (x_1 1))->pIn 0 (iLen (Ah x_3)) (0+1)/\(AnD (qi 0 (AcQ x_3))/\AnD (qi 1 (AcQ x_3))->True/\(AnD (Afm x_1)/\AnD (Afl x_1)->True/\(AnD (Ac (Af (qi 0 (AcQ x_3)) (qi 1 (AcQ x_3))-Af (Afm x_1) (Afl x_1)))/\AnD (Aa (Af (qi 0 (AcQ x_3)) (qi 1 (AcQ x_3))-Af (Afm x_1) (Afl x_1)))->Sm (SV.rref 6 0 4 (0+1) 0)/\Sm [C.i (Ac (x_1 1)),C.i (Aa (x_1 1))]/\Sm [C.i (Aa7 bd pd ji),C.i (Aa6 bd pd ji)]/\Sm [C.i bn,C.i bd]/\Sm [C.i pn,C.i pd]/\Sm [C.i (Aa7 bd pd ji),C.i (Aa6 bd pd ji)]/\Sm [C.i (AbW bd pn dr),C.i (AbV bd pn dr)]/\Sm [C.i (AbU bd pn dr),C.i (Abl bd pn dr)]/\Sm [C.i (Abk bd pn dr),C.i (Abj bd pn dr)]/\Sm (sg 0 [0,0] (rGet xs x.1))/\Sm [C.i (AbI bn pd xs x),C.i (AbH bn pd xs x)]/\Sm [C.i (AbG bd pd xs x),C.i (AbF bd pd xs x)]/\Sm [C.i (Ac (x_1 0)),C.i (Aa (x_1 0))]/\Sm [C.i (Ac (x_1 0)),C.i (Aa (x_1 0))]/\Sm [C.i (Aa7 bd pd ji),C.i (Aa6 bd pd ji)]/\Sm [C.i (Ac (x_1 1)),C.i (Aa (x_1 1))]/\Sm [C.i (Ac (x_1 1)),C.i (Aa (x_1 1))]/\Sm [C.i (Aa7 bd pd ji),C.i (Aa6 bd pd ji)]/\∃(y:List (Int×Int)),y=Gh (Ah x_3) (0+1) (Ac (x_1 1)) (Aa (x_1 1))/\rSet (Ah x_3) (0+1) (C.i (Ac (Af (qi 0 (AcQ x_3)) (qi 1 (AcQ x_3))-Af (Afm x_1) (Afl x_1)))::C.i (Aa (Af (qi 0 (AcQ x_3)) (qi 1 (AcQ x_3))-Af (Afm x_1) (Afl x_1)))::sg 2 [0,0] (AcQ x_3))=Ah y)))/\∀(x_4:List (Int×Int)),x_4=Gh (Ah x_3) (0+1) (Ac (x_1 1)) (Aa (x_1 1))->WL Acr (Ah x_4)->(AnD (qi 0 (Acl x_4))/\AnD (qi 1 (Acl x_4))->AnD (qi 2 (Acl x_4))/\AnD (qi 3 (Acl x_4))->True/\Cn (decide (BV (qi 0 (Acl x_4)) (qi 1 (Acl x_4))<BV (qi 2 (Acl x_4)) (qi 3 (Acl x_4)))) (AnD (qi 0 (Acl x_4))/\AnD (qi 1 (Acl x_4))->Sm (SV.rref 6 0 4 (0+1) 0)/\Sm [C.i (Ac (x_1 1)),C.i (Aa (x_1 1))]/\Sm [C.i (Aa7 bd pd ji),C.i (Aa6 bd pd ji)]/\Sm [C.i bn,C.i bd]/\Sm [C.i pn,C.i pd]/\Sm [C.i (Aa7 bd pd ji),C.i (Aa6 bd pd ji)]/\Sm [C.i (AbW bd pn dr),C.i (AbV bd pn dr)]/\Sm [C.i (AbU bd pn dr),C.i (Abl bd pn dr)]/\Sm [C.i (Abk bd pn dr),C.i (Abj bd pn dr)]/\Sm (sg 0 [0,0] (rGet xs x.1))/\Sm [C.i (AbI bn pd xs x),C.i (AbH bn pd xs x)]/\Sm [C.i (AbG bd pd xs x),C.i (AbF bd pd xs x)]/\Sm [C.i (Ac (x_1 0)),C.i (Aa (x_1 0))]/\Sm [C.i (Ac (x_1 0)),C.i (Aa (x_1 0))]/\Sm [C.i (Aa7 bd pd ji),C.i (Aa6 bd pd ji)]/\Sm [C.i (Ac (x_1 1)),C.i (Aa (x_1 1))]/\Sm [C.i (Ac (x_1 1)),C.i (Aa (x_1 1))]/\Sm [C.i (Aa7 bd pd ji),C.i (Aa6 bd pd ji)]/\∃(y:List (Int×Int)),y=D5 (Ah x_4) (0+1)/\rSet (Ah x_4) (0+1) (C.i (qi 0 (Acl x_4))::C.i (qi 1 (Acl x_4))::sg 0 [0,0] (Acl x_4))=Ah y) (Sm (SV.rref 6 0 4 (0+1) 0)/\Sm [C.i (Ac (x_1 1)),C.i (Aa (x_1 1))]/\Sm [C.i (Aa7 bd pd ji),C.i (Aa6 bd pd ji)]/\Sm [C.i bn,C.i bd]/\Sm [C.i pn,C.i pd]/\Sm [C.i (Aa7 bd pd ji),C.i (Aa6 bd pd ji)]/\Sm [C.i (AbW bd pn dr),C.i (AbV bd pn dr)]/\Sm [C.i (AbU bd pn dr),C.i (Abl bd pn dr)]/\Sm [C.i (Abk bd pn dr),C.i (Abj bd pn dr)]/\Sm (sg 0 [0,0] (rGet xs x.1))/\Sm [C.i (AbI bn pd xs x),C.i (AbH bn pd xs x)]/\Sm [C.i (AbG bd pd xs x),C.i (AbF bd pd xs x)]/\Sm [C.i (Ac (x_1 0)),C.i (Aa (x_1 0))]/\Sm [C.i (Ac (x_1 0)),C.i (Aa (x_1 0))]/\Sm [C.i (Aa7 bd pd ji),C.i (Aa6 bd pd ji)]/\Sm [C.i (Ac (x_1 1)),C.i (Aa (x_1 1))]/\Sm [C.i (Ac (x_1 1)),C.i (Aa (x_1 1))]/\Sm [C.i (Aa7 bd pd ji),C.i (Aa6 bd pd ji)]/\∃(y:List (Int×Int)),y=D5 (Ah x_4) (0+1)/\Ah x_4=Ah y))/\∀(x_5:List (Int×Int)),x_5=D5 (Ah x_4) (0+1)->WL Acr (Ah x_5)->AnD (qi 0 (AbM x_5))/\AnD (qi 1 (AbM x_5))->AnD (qi 2 (AbM x_5))/\AnD (qi 3 (AbM x_5))->True/\(AnD (Ac (Af (qi 0 (AbM x_5)) (qi 1 (AbM x_5))-Af (qi 2 (AbM x_5)) (qi 3 (AbM x_5))))/\AnD (Aa (Af (qi 0 (AbM x_5)) (qi 1 (AbM x_5))-Af (qi 2 (AbM x_5)) (qi 3 (AbM x_5))))->True/\True/\True/\Cn (bNot (bNot (decide (BV (Aa7 bd pd ji) (Aa6 bd pd ji)<BV (Ac (Af (qi 0 (AbM x_5)) (qi 1 (AbM x_5))-Af (qi 2 (AbM x_5)) (qi 3 (AbM x_5)))) (Aa (Af (qi 0 (AbM x_5)) (qi 1 (AbM x_5))-Af (qi 2 (AbM x_5)) (qi 3 (AbM x_5)))))))) (false=Dh bn bd pn pd dr ji xs) (AnD (Ac (x_1 2))/\AnD (Aa (x_1 2))->pIn 0 (iLen (Ah x_5)) (0+1+1)/\(AnD (qi 0 (AcR x_5))/\AnD (qi 1 (AcR x_5))->True/\(AnD (Afk x_1)/\AnD (Afj x_1)->True/\(AnD (Ac (Af (qi 0 (AcR x_5)) (qi 1 (AcR x_5))-Af (Afk x_1) (Afj x_1)))/\AnD (Aa (Af (qi 0 (AcR x_5)) (qi 1 (AcR x_5))-Af (Afk x_1) (Afj x_1)))->Sm (SV.rref 6 0 4 (0+1+1) 0)/\Sm [C.i (Ac (x_1 2)),C.i (Aa (x_1 2))]/\Sm [C.i (Aa7 bd pd ji),C.i (Aa6 bd pd ji)]/\Sm [C.i bn,C.i bd]/\Sm [C.i pn,C.i pd]/\Sm [C.i (Aa7 bd pd ji),C.i (Aa6 bd pd ji)]/\Sm [C.i (AbW bd pn dr),C.i (AbV bd pn dr)]/\Sm [C.i (AbU bd pn dr),C.i (Abl bd pn dr)]/\Sm [C.i (Abk bd pn dr),C.i (Abj bd pn dr)]/\Sm (sg 0 [0,0] (rGet xs x.1))/\Sm [C.i (AbI bn pd xs x),C.i (AbH bn pd xs x)]/\Sm [C.i (AbG bd pd xs x),C.i (AbF bd pd xs x)]/\Sm [C.i (Ac (x_1 0)),C.i (Aa (x_1 0))]/\Sm [C.i (Ac (x_1 0)),C.i (Aa (x_1 0))]/\Sm [C.i (Aa7 bd pd ji),C.i (Aa6 bd pd ji)]/\Sm [C.i (Ac (x_1 1)),C.i (Aa (x_1 1))]/\Sm [C.i (Ac (x_1 1)),C.i (Aa (x_1 1))]/\Sm [C.i (Aa7 bd pd ji),C.i (Aa6 bd pd ji)]/\Sm [C.i (Ac (x_1 2)),C.i (Aa (x_1 2))]/\Sm [C.i (Ac (x_1 2)),C.i (Aa (x_1 2))]/\Sm [C.i (Aa7 bd pd ji),C.i (Aa6 bd pd ji)]/\∃(y:List (Int×Int)),y=Gh (Ah x_5) (0+1+1) (Ac (x_1 2)) (Aa (x_1 2))/\rSet (Ah x_5) (0+1+1) (C.i (Ac (Af (qi 0 (AcR x_5)) (qi 1 (AcR x_5))-Af (Afk x_1) (Afj x_1)))::C.i (Aa (Af (qi 0 (AcR x_5)) (qi 1 (AcR x_5))-Af (Afk x_1) (Afj x_1)))::sg 2 [0,0] (AcR x_5))=Ah y)))/\∀(x_6:List (Int×Int)),x_6=Gh (Ah x_5) (0+1+1) (Ac (x_1 2)) (Aa (x_1 2))->WL Acr (Ah x_6)->(AnD (qi 0 (Acm x_6))/\AnD (qi 1 (Acm x_6))->AnD (qi 2 (Acm x_6))/\AnD (qi 3 (Acm x_6))->True/\Cn (decide (BV (qi 0 (Acm x_6)) (qi 1 (Acm x_6))<BV (qi 2 (Acm x_6)) (qi 3 (Acm x_6)))) (AnD (qi 0 (Acm x_6))/\AnD (qi 1 (Acm x_6))->Sm (SV.rref 6 0 4 (0+1+1) 0)/\Sm [C.i (Ac (x_1 2)),C.i (Aa (x_1 2))]/\Sm [C.i (Aa7 bd pd ji),C.i (Aa6 bd pd ji)]/\Sm [C.i bn,C.i bd]/\Sm [C.i pn,C.i pd]/\Sm [C.i (Aa7 bd pd ji),C.i (Aa6 bd pd ji)]/\Sm [C.i (AbW bd pn dr),C.i (AbV bd pn dr)]/\Sm [C.i (AbU bd pn dr),C.i (Abl bd pn dr)]/\Sm [C.i (Abk bd pn dr),C.i (Abj bd pn dr)]/\Sm (sg 0 [0,0] (rGet xs x.1))/\Sm [C.i (AbI bn pd xs x),C.i (AbH bn pd xs x)]/\Sm [C.i (AbG bd pd xs x),C.i (AbF bd pd xs x)]/\Sm [C.i (Ac (x_1 0)),C.i (Aa (x_1 0))]/\Sm [C.i (Ac (x_1 0)),C.i (Aa (x_1 0))]/\Sm [C.i (Aa7 bd pd ji),C.i (Aa6 bd pd ji)]/\Sm [C.i (Ac (x_1 1)),C.i (Aa (x_1 1))]/\Sm [C.i (Ac (x_1 1)),C.i (Aa (x_1 1))]/\Sm [C.i (Aa7 bd pd ji),C.i (Aa6 bd pd ji)]/\Sm [C.i (Ac (x_1 2)),C.i (Aa (x_1 2))]/\Sm [C.i (Ac (x_1 2)),C.i (Aa (x_1 2))]/\Sm [C.i (Aa7 bd pd ji),C.i (Aa6 bd pd ji)]/\∃(y:List (Int×Int)),y=D5 (Ah x_6) (0+1+1)/\rSet (Ah x_6) (0+1+1) (C.i (qi 0 (Acm x_6))::C.i (qi 1 (Acm x_6))::sg 0 [0,0] (Acm x_6))=Ah y) (Sm (SV.rref 6 0 4 (0+1+1) 0)/\Sm [C.i (Ac (x_1 2)),C.i (Aa (x_1 2))]/\Sm [C.i (Aa7 bd pd ji),C.i (Aa6 bd pd ji)]/\Sm [C.i bn,C.i bd]/\Sm [C.i pn,C.i pd]/\Sm [C.i (Aa7 bd pd ji),C.i (Aa6 bd pd ji)]/\Sm [C.i (AbW bd pn dr),C.i (AbV bd pn dr)]/\Sm [C.i (AbU bd pn dr),C.i (Abl bd pn dr)]/\Sm [C.i (Abk bd pn dr),C.i (Abj bd pn dr)]/\Sm (sg 0 [0,0] (rGet xs x.1))/\Sm [C.i (AbI bn pd xs x),C.i (AbH bn pd xs x)]/\Sm [C.i (AbG bd pd xs x),C.i (AbF bd pd xs x)]/\Sm [C.i (Ac (x_1 0)),C.i (Aa (x_1 0))]/\Sm [C.i (Ac (x_1 0)),C.i (Aa (x_1 0))]/\Sm [C.i (Aa7 bd pd ji),C.i (Aa6 bd pd ji)]/\Sm [C.i (Ac (x_1 1)),C.i (Aa (x_1 1))]/\Sm [C.i (Ac (x_1 1)),C.i (Aa (x_1 1))]/\Sm [C.i (Aa7 bd pd ji),C.i (Aa6 bd pd ji)]/\Sm [C.i (Ac (x_1 2)),C.i (Aa (x_1 2))]/\Sm [C.i (Ac (x_1 2)),C.i (Aa (x_1 2))]/\Sm [C.i (Aa7 bd pd ji),C.i (Aa6 bd pd ji)]/\∃(y:List (Int×Int)),y=D5 (Ah x_6) (0+1+1)/\Ah x_6=Ah y))/\∀(x_7:List (Int×Int)),x_7=D5 (Ah x_6) (0+1+1)->WL Acr (Ah x_7)->AnD (qi 0 (AbN x_7))/\AnD (qi 1 (AbN x_7))->AnD (qi 2 (AbN x_7))/\AnD (qi 3 (AbN x_7))->True/\(AnD (Ac (Af (qi 0 (AbN x_7)) (qi 1 (AbN x_7))-Af (qi 2 (AbN x_7)) (qi 3 (AbN x_7))))/\AnD (Aa (Af (qi 0 (AbN x_7)) (qi 1 (AbN x_7))-Af (qi 2 (AbN x_7)) (qi 3 (AbN x_7))))->True/\True/\True/\Cn (bNot (bNot (decide (BV (Aa7 bd pd ji) (Aa6 bd pd ji)<BV (Ac (Af (qi 0 (AbN x_7)) (qi 1 (AbN x_7))-Af (qi 2 (AbN x_7)) (qi 3 (AbN x_7)))) (Aa (Af (qi 0 (AbN x_7)) (qi 1 (AbN x_7))-Af (qi 2 (AbN x_7)) (qi 3 (AbN x_7)))))))) (false=Dh bn bd pn pd dr ji xs) (AnD (Ac (x_1 3))/\AnD (Aa (x_1 3))->pIn 0 (iLen (Ah x_7)) (0+1+1+1)/\(AnD (qi 0 (AcS x_7))/\AnD (qi 1 (AcS x_7))->True/\(AnD (Afi x_1)/\AnD (Afh x_1)->True/\(AnD (Ac (Af (qi 0 (AcS x_7)) (qi 1 (AcS x_7))-Af (Afi x_1) (Afh x_1)))/\AnD (Aa (Af (qi 0 (AcS x_7)) (qi 1 (AcS x_7))-Af (Afi x_1) (Afh x_1)))->Sm (SV.rref 6 0 4 (0+1+1+1) 0)/\Sm [C.i (Ac (x_1 3)),C.i (Aa (x_1 3))]/\Sm [C.i (Aa7 bd pd ji),C.i (Aa6 bd pd ji)]/\Sm [C.i bn,C.i bd]/\Sm [C.i pn,C.i pd]/\Sm [C.i (Aa7 bd pd ji),C.i (Aa6 bd pd ji)]/\Sm [C.i (AbW bd pn dr),C.i (AbV bd pn dr)]/\Sm [C.i (AbU bd pn dr),C.i (Abl bd pn dr)]/\Sm [C.i (Abk bd pn dr),C.i (Abj bd pn dr)]/\Sm (sg 0 [0,0] (rGet xs x.1))/\Sm [C.i (AbI bn pd xs x),C.i (AbH bn pd xs x)]/\Sm [C.i (AbG bd pd xs x),C.i (AbF bd pd xs x)]/\Sm [C.i (Ac (x_1 0)),C.i (Aa (x_1 0))]/\Sm [C.i (Ac (x_1 0)),C.i (Aa (x_1 0))]/\Sm [C.i (Aa7 bd pd ji),C.i (Aa6 bd pd ji)]/\Sm [C.i (Ac (x_1 1)),C.i (Aa (x_1 1))]/\Sm [C.i (Ac (x_1 1)),C.i (Aa (x_1 1))]/\Sm [C.i (Aa7 bd pd ji),C.i (Aa6 bd pd ji)]/\Sm [C.i (Ac (x_1 2)),C.i (Aa (x_1 2))]/\Sm [C.i (Ac (x_1 2)),C.i (Aa (x_1 2))]/\Sm [C.i (Aa7 bd pd ji),C.i (Aa6 bd pd ji)]/\Sm [C.i (Ac (x_1 3)),C.i (Aa (x_1 3))]/\Sm [C.i (Ac (x_1 3)),C.i (Aa (x_1 3))]/\Sm [C.i (Aa7 bd pd ji),C.i (Aa6 bd pd ji)]/\∃(y:List (Int×Int)),y=Gh (Ah x_7) (0+1+1+1) (Ac (x_1 3)) (Aa (x_1 3))/\rSet (Ah x_7) (0+1+1+1) (C.i (Ac (Af (qi 0 (AcS x_7)) (qi 1 (AcS x_7))-Af (Afi x_1) (Afh x_1)))::C.i (Aa (Af (qi 0 (AcS x_7)) (qi 1 (AcS x_7))-Af (Afi x_1) (Afh x_1)))::sg 2 [0,0] (AcS x_7))=Ah y)))/\∀(x_8:List (Int×Int)),x_8=Gh (Ah x_7) (0+1+1+1) (Ac (x_1 3)) (Aa (x_1 3))->WL Acr (Ah x_8)->(AnD (qi 0 (Acn x_8))/\AnD (qi 1 (Acn x_8))->AnD (qi 2 (Acn x_8))/\AnD (qi 3 (Acn x_8))->True/\Cn (decide (BV (qi 0 (Acn x_8)) (qi 1 (Acn x_8))<BV (qi 2 (Acn x_8)) (qi 3 (Acn x_8)))) (AnD (qi 0 (Acn x_8))/\AnD (qi 1 (Acn x_8))->Sm (SV.rref 6 0 4 (0+1+1+1) 0)/\Sm [C.i (Ac (x_1 3)),C.i (Aa (x_1 3))]/\Sm [C.i (Aa7 bd pd ji),C.i (Aa6 bd pd ji)]/\Sm [C.i bn,C.i bd]/\Sm [C.i pn,C.i pd]/\Sm [C.i (Aa7 bd pd ji),C.i (Aa6 bd pd ji)]/\Sm [C.i (AbW bd pn dr),C.i (AbV bd pn dr)]/\Sm [C.i (AbU bd pn dr),C.i (Abl bd pn dr)]/\Sm [C.i (Abk bd pn dr),C.i (Abj bd pn dr)]/\Sm (sg 0 [0,0] (rGet xs x.1))/\Sm [C.i (AbI bn pd xs x),C.i (AbH bn pd xs x)]/\Sm [C.i (AbG bd pd xs x),C.i (AbF bd pd xs x)]/\Sm [C.i (Ac (x_1 0)),C.i (Aa (x_1 0))]/\Sm [C.i (Ac (x_1 0)),C.i (Aa (x_1 0))]/\Sm [C.i (Aa7 bd pd ji),C.i (Aa6 bd pd ji)]/\Sm [C.i (Ac (x_1 1)),C.i (Aa (x_1 1))]/\Sm [C.i (Ac (x_1 1)),C.i (Aa (x_1 1))]/\Sm [C.i (Aa7 bd pd ji),C.i (Aa6 bd pd ji)]/\Sm [C.i (Ac (x_1 2)),C.i (Aa (x_1 2))]/\Sm [C.i (Ac (x_1 2)),C.i (Aa (x_1 2))]/\Sm [C.i (Aa7 bd pd ji),C.i (Aa6 bd pd ji)]/\Sm [C.i (Ac (x_1 3)),C.i (Aa (x_1 3))]/\Sm [C.i (Ac (x_1 3)),C.i (Aa (x_1 3))]/\Sm [C.i (Aa7 bd pd ji),C.i (Aa6 bd pd ji)]/\∃(y:List (Int×Int)),y=D5 (Ah x_8) (0+1+1+1)/\rSet (Ah x_8) (0+1+1+1) (C.i (qi 0 (Acn x_8))::C.i (qi 1 (Acn x_8))::sg 0 [0,0] (Acn x_8))=Ah y) (Sm (SV.rref 6 0 4 (0+1+1+1) 0)/\Sm [C.i (Ac (x_1 3)),C.i (Aa (x_1 3))]/\Sm [C.i (Aa7 bd pd ji),C.i (Aa6 bd pd ji)]/\Sm [C.i bn,C.i bd]/\Sm [C.i pn,C.i pd]/\Sm [C.i (Aa7 bd pd ji),C.i (Aa6 bd pd ji)]/\Sm [C.i (AbW bd pn dr),C.i (AbV bd pn dr)]/\Sm [C.i (AbU bd pn dr),C.i (Abl bd pn dr)]/\Sm [C.i (Abk bd pn dr),C.i (Abj bd pn dr)]/\Sm (sg 0 [0,0] (rGet xs x.1))/\Sm [C.i (AbI bn pd xs x),C.i (AbH bn pd xs x)]/\Sm [C.i (AbG bd pd xs x),C.i (AbF bd pd xs x)]/\Sm [C.i (Ac (x_1 0)),C.i (Aa (x_1 0))]/\Sm [C.i (Ac (x_1 0)),C.i (Aa (x_1 0))]/\Sm [C.i (Aa7 bd pd ji),C.i (Aa6 bd pd ji)]/\Sm [C.i (Ac (x_1 1)),C.i (Aa (x_1 1))]/\Sm [C.i (Ac (x_1 1)),C.i (Aa (x_1 1))]/\Sm [C.i (Aa7 bd pd ji),C.i (Aa6 bd pd ji)]/\Sm [C.i (Ac (x_1 2)),C.i (Aa (x_1 2))]/\Sm [C.i (Ac (x_1 2)),C.i (Aa (x_1 2))]/\Sm [C.i (Aa7 bd pd ji),C.i (Aa6 bd pd ji)]/\Sm [C.i (Ac (x_1 3)),C.i (Aa (x_1 3))]/\Sm [C.i (Ac (x_1 3)),C.i (Aa (x_1 3))]/\Sm [C.i (Aa7 bd pd ji),C.i (Aa6 bd pd ji)]/\∃(y:List (Int×Int)),y=D5 (Ah x_8) (0+1+1+1)/\Ah x_8=Ah y))/\∀(x_9:List (Int×Int)),x_9=D5 (Ah x_8) (0+1+1+1)->WL Acr (Ah x_9)->AnD (qi 0 (AbO x_9))/\AnD (qi 1 (AbO x_9))->AnD (qi 2 (AbO x_9))/\AnD (qi 3 (AbO x_9))->True/\(AnD (Ac (Af (qi 0 (AbO x_9)) (qi 1 (AbO x_9))-Af (qi 2 (AbO x_9)) (qi 3 (AbO x_9))))/\AnD (Aa (Af (qi 0 (AbO x_9)) (qi 1 (AbO x_9))-Af (qi 2 (AbO x_9)) (qi 3 (AbO x_9))))->True/\True/\True/\Cn (bNot (bNot (decide (BV (Aa7 bd pd ji) (Aa6 bd pd ji)<BV (Ac (Af (qi 0 (AbO x_9)) (qi 1 (AbO x_9))-Af (qi 2 (AbO x_9)) (qi 3 (AbO x_9)))) (Aa (Af (qi 0 (AbO x_9)) (qi 1 (AbO x_9))-Af (qi 2 (AbO x_9)) (qi 3 (AbO x_9)))))))) (false=Dh bn bd pn pd dr ji xs) (AnD (Ac (x_1 4))/\AnD (Aa (x_1 4))->pIn 0 (iLen (Ah x_9)) (0+1+1+1+1)/\(AnD (qi 0 (AcT x_9))/\AnD (qi 1 (AcT x_9))->True/\(AnD (Afg x_1)/\AnD (Aff x_1)->True/\(AnD (Ac (Af (qi 0 (AcT x_9)) (qi 1 (AcT x_9))-Af (Afg x_1) (Aff x_1)))/\AnD (Aa (Af (qi 0 (AcT x_9)) (qi 1 (AcT x_9))-Af (Afg x_1) (Aff x_1)))->Sm (SV.rref 6 0 4 (0+1+1+1+1) 0)/\Sm [C.i (Ac (x_1 4)),C.i (Aa (x_1 4))]/\Sm [C.i (Aa7 bd pd ji),C.i (Aa6 bd pd ji)]/\Sm [C.i bn,C.i bd]/\Sm [C.i pn,C.i pd]/\Sm [C.i (Aa7 bd pd ji),C.i (Aa6 bd pd ji)]/\Sm [C.i (AbW bd pn dr),C.i (AbV bd pn dr)]/\Sm [C.i (AbU bd pn dr),C.i (Abl bd pn dr)]/\Sm [C.i (Abk bd pn dr),C.i (Abj bd pn dr)]/\Sm (sg 0 [0,0] (rGet xs x.1))/\Sm [C.i (AbI bn pd xs x),C.i (AbH bn pd xs x)]/\Sm [C.i (AbG bd pd xs x),C.i (AbF bd pd xs x)]/\Sm [C.i (Ac (x_1 0)),C.i (Aa (x_1 0))]/\Sm [C.i (Ac (x_1 0)),C.i (Aa (x_1 0))]/\Sm [C.i (Aa7 bd pd ji),C.i (Aa6 bd pd ji)]/\Sm [C.i (Ac (x_1 1)),C.i (Aa (x_1 1))]/\Sm [C.i (Ac (x_1 1)),C.i (Aa (x_1 1))]/\Sm [C.i (Aa7 bd pd ji),C.i (Aa6 bd pd ji)]/\Sm [C.i (Ac (x_1 2)),C.i (Aa (x_1 2))]/\Sm [C.i (Ac (x_1 2)),C.i (Aa (x_1 2))]/\Sm [C.i (Aa7 bd pd ji),C.i (Aa6 bd pd ji)]/\Sm [C.i (Ac (x_1 3)),C.i (Aa (x_1 3))]/\Sm [C.i (Ac (x_1 3)),C.i (Aa (x_1 3))]/\Sm [C.i (Aa7 bd pd ji),C.i (Aa6 bd pd ji)]/\Sm [C.i (Ac (x_1 4)),C.i (Aa (x_1 4))]/\Sm [C.i (Ac (x_1 4)),C.i (Aa (x_1 4))]/\Sm [C.i (Aa7 bd pd ji),C.i (Aa6 bd pd ji)]/\∃(y:List (Int×Int)),y=Gh (Ah x_9) (0+1+1+1+1) (Ac (x_1 4)) (Aa (x_1 4))/\rSet (Ah x_9) (0+1+1+1+1) (C.i (Ac (Af (qi 0 (AcT x_9)) (qi 1 (AcT x_9))-Af (Afg x_1) (Aff x_1)))::C.i (Aa (Af (qi 0 (AcT x_9)) (qi 1 (AcT x_9))-Af (Afg x_1) (Aff x_1)))::sg 2 [0,0] (AcT x_9))=Ah y)))/\∀(x_10:List (Int×Int)),x_10=Gh (Ah x_9) (0+1+1+1+1) (Ac (x_1 4)) (Aa (x_1 4))->WL Acr (Ah x_10)->(AnD (qi 0 (Aco x_10))/\AnD (qi 1 (Aco x_10))->AnD (qi 2 (Aco x_10))/\AnD (qi 3 (Aco x_10))->True/\Cn (decide (BV (qi 0 (Aco x_10)) (qi 1 (Aco x_10))<BV (qi 2 (Aco x_10)) (qi 3 (Aco x_10)))) (AnD (qi 0 (Aco x_10))/\AnD (qi 1 (Aco x_10))->Sm (SV.rref 6 0 4 (0+1+1+1+1) 0)/\Sm [C.i (Ac (x_1 4)),C.i (Aa (x_1 4))]/\Sm [C.i (Aa7 bd pd ji),C.i (Aa6 bd pd ji)]/\Sm [C.i bn,C.i bd]/\Sm [C.i pn,C.i pd]/\Sm [C.i (Aa7 bd pd ji),C.i (Aa6 bd pd ji)]/\Sm [C.i (AbW bd pn dr),C.i (AbV bd pn dr)]/\Sm [C.i (AbU bd pn dr),C.i (Abl bd pn dr)]/\Sm [C.i (Abk bd pn dr),C.i (Abj bd pn dr)]/\Sm (sg 0 [0,0] (rGet xs x.1))/\Sm [C.i (AbI bn pd xs x),C.i (AbH bn pd xs x)]/\Sm [C.i (AbG bd pd xs x),C.i (AbF bd pd xs x)]/\Sm [C.i (Ac (x_1 0)),C.i (Aa (x_1 0))]/\Sm [C.i (Ac (x_1 0)),C.i (Aa (x_1 0))]/\Sm [C.i (Aa7 bd pd ji),C.i (Aa6 bd pd ji)]/\Sm [C.i (Ac (x_1 1)),C.i (Aa (x_1 1))]/\Sm [C.i (Ac (x_1 1)),C.i (Aa (x_1 1))]/\Sm [C.i (Aa7 bd pd ji),C.i (Aa6 bd pd ji)]/\Sm [C.i (Ac (x_1 2)),C.i (Aa (x_1 2))]/\Sm [C.i (Ac (x_1 2)),C.i (Aa (x_1 2))]/\Sm [C.i (Aa7 bd pd ji),C.i (Aa6 bd pd ji)]/\Sm [C.i (Ac (x_1 3)),C.i (Aa (x_1 3))]/\Sm [C.i (Ac (x_1 3)),C.i (Aa (x_1 3))]/\Sm [C.i (Aa7 bd pd ji),C.i (Aa6 bd pd ji)]/\Sm [C.i (Ac (x_1 4)),C.i (Aa (x_1 4))]/\Sm [C.i (Ac (x_1 4)),C.i (Aa (x_1 4))]/\Sm [C.i (Aa7 bd pd ji),C.i (Aa6 bd pd ji)]/\∃(y:List (Int×Int)),y=D5 (Ah x_10) (0+1+1+1+1)/\rSet (Ah x_10) (0+1+1+1+1) (C.i (qi 0 (Aco x_10))::C.i (qi 1 (Aco x_10))::sg 0 [0,0] (Aco x_10))=Ah y) (Sm (SV.rref 6 0 4 (0+1+1+1+1) 0)/\Sm [C.i (Ac (x_1 4)),C.i (Aa (x_1 4))]/\Sm [C.i (Aa7 bd pd ji),C.i (Aa6 bd pd ji)]/\Sm [C.i bn,C.i bd]/\Sm [C.i pn,C.i pd]/\Sm [C.i (Aa7 bd pd ji),C.i (Aa6 bd pd ji)]/\Sm [C.i (AbW bd pn dr),C.i (AbV bd pn dr)]/\Sm [C.i (AbU bd pn dr),C.i (Abl bd pn dr)]/\Sm [C.i (Abk bd pn dr),C.i (Abj bd pn dr)]/\Sm (sg 0 [0,0] (rGet xs x.1))/\Sm [C.i (AbI bn pd xs x),C.i (AbH bn pd xs x)]/\Sm [C.i (AbG bd pd xs x),C.i (AbF bd pd xs x)]/\Sm [C.i (Ac (x_1 0)),C.i (Aa (x_1 0))]/\Sm [C.i (Ac (x_1 0)),C.i (Aa (x_1 0))]/\Sm [C.i (Aa7 bd pd ji),C.i (Aa6 bd pd ji)]/\Sm [C.i (Ac (x_1 1)),C.i (Aa (x_1 1))]/\Sm [C.i (Ac (x_1 1)),C.i (Aa (x_1 1))]/\Sm [C.i (Aa7 bd pd ji),C.i (Aa6 bd pd ji)]/\Sm [C.i (Ac (x_1 2)),C.i (Aa (x_1 2))]/\Sm [C.i (Ac (x_1 2)),C.i (Aa (x_1 2))]/\Sm [C.i (Aa7 bd pd ji),C.i (Aa6 bd pd ji)]/\Sm [C.i (Ac (x_1 3)),C.i (Aa (x_1 3))]/\Sm [C.i (Ac (x_1 3)),C.i (Aa (x_1 3))]/\Sm [C.i (Aa7 bd pd ji),C.i (Aa6 bd pd ji)]/\Sm [C.i (Ac (x_1 4)),C.i (Aa (x_1 4))]/\Sm [C.i (Ac (x_1 4)),C.i (Aa (x_1 4))]/\Sm [C.i (Aa7 bd pd ji),C.i (Aa6 bd pd ji)]/\∃(y:List (Int×Int)),y=D5 (Ah x_10) (0+1+1+1+1)/\Ah x_10=Ah y))/\∀(x_11:List (Int×Int)),x_11=D5 (Ah x_10) (0+1+1+1+1)->WL Acr (Ah x_11)->AnD (qi 0 (AbP x_11))/\AnD (qi 1 (AbP x_11))->AnD (qi 2 (AbP x_11))/\AnD (qi 3 (AbP x_11))->True/\(AnD (Ac (Af (qi 0 (AbP x_11)) (qi 1 (AbP x_11))-Af (qi 2 (AbP x_11)) (qi 3 (AbP x_11))))/\AnD (Aa (Af (qi 0 (AbP x_11)) (qi 1 (AbP x_11))-Af (qi 2 (AbP x_11)) (qi 3 (AbP x_11))))->True/\True/\True/\Cn (bNot (bNot (decide (BV (Aa7 bd pd ji) (Aa6 bd pd ji)<BV (Ac (Af (qi 0 (AbP x_11)) (qi 1 (AbP x_11))-Af (qi 2 (AbP x_11)) (qi 3 (AbP x_11)))) (Aa (Af (qi 0 (AbP x_11)) (qi 1 (AbP x_11))-Af (qi 2 (AbP x_11)) (qi 3 (AbP x_11)))))))) (false=Dh bn bd pn pd dr ji xs) (AnD (Ac (x_1 5))/\AnD (Aa (x_1 5))->pIn 0 (iLen (Ah x_11)) (0+1+1+1+1+1)/\(AnD (qi 0 (AcU x_11))/\AnD (qi 1 (AcU x_11))->True/\(AnD (Afe x_1)/\AnD (Afd x_1)->True/\(AnD (Ac (Af (qi 0 (AcU x_11)) (qi 1 (AcU x_11))-Af (Afe x_1) (Afd x_1)))/\AnD (Aa (Af (qi 0 (AcU x_11)) (qi 1 (AcU x_11))-Af (Afe x_1) (Afd x_1)))->Sm (SV.rref 6 0 4 (0+1+1+1+1+1) 0)/\Sm [C.i (Ac (x_1 5)),C.i (Aa (x_1 5))]/\Sm [C.i (Aa7 bd pd ji),C.i (Aa6 bd pd ji)]/\Sm [C.i bn,C.i bd]/\Sm [C.i pn,C.i pd]/\Sm [C.i (Aa7 bd pd ji),C.i (Aa6 bd pd ji)]/\Sm [C.i (AbW bd pn dr),C.i (AbV bd pn dr)]/\Sm [C.i (AbU bd pn dr),C.i (Abl bd pn dr)]/\Sm [C.i (Abk bd pn dr),C.i (Abj bd pn dr)]/\Sm (sg 0 [0,0] (rGet xs x.1))/\Sm [C.i (AbI bn pd xs x),C.i (AbH bn pd xs x)]/\Sm [C.i (AbG bd pd xs x),C.i (AbF bd pd xs x)]/\Sm [C.i (Ac (x_1 0)),C.i (Aa (x_1 0))]/\Sm [C.i (Ac (x_1 0)),C.i (Aa (x_1 0))]/\Sm [C.i (Aa7 bd pd ji),C.i (Aa6 bd pd ji)]/\Sm [C.i (Ac (x_1 1)),C.i (Aa (x_1 1))]/\Sm [C.i (Ac (x_1 1)),C.i (Aa (x_1 1))]/\Sm [C.i (Aa7 bd pd ji),C.i (Aa6 bd pd ji)]/\Sm [C.i (Ac (x_1 2)),C.i (Aa (x_1 2))]/\Sm [C.i (Ac (x_1 2)),C.i (Aa (x_1 2))]/\Sm [C.i (Aa7 bd pd ji),C.i (Aa6 bd pd ji)]/\Sm [C.i (Ac (x_1 3)),C.i (Aa (x_1 3))]/\Sm [C.i (Ac (x_1 3)),C.i (Aa (x_1 3))]/\Sm [C.i (Aa7 bd pd ji),C.i (Aa6 bd pd ji)]/\Sm [C.i (Ac (x_1 4)),C.i (Aa (x_1 4))]/\Sm [C.i (Ac (x_1 4)),C.i (Aa (x_1 4))]/\Sm [C.i (Aa7 bd pd ji),C.i (Aa6 bd pd ji)]/\Sm [C.i (Ac (x_1 5)),C.i (Aa (x_1 5))]/\Sm [C.i (Ac (x_1 5)),C.i (Aa (x_1 5))]/\Sm [C.i (Aa7 bd pd ji),C.i (Aa6 bd pd ji)]/\∃(y:List (Int×Int)),y=Gh (Ah x_11) (0+1+1+1+1+1) (Ac (x_1 5)) (Aa (x_1 5))/\rSet (Ah x_11) (0+1+1+1+1+1) (C.i (Ac (Af (qi 0 (AcU x_11)) (qi 1 (AcU x_11))-Af (Afe x_1) (Afd x_1)))::C.i (Aa (Af (qi 0 (AcU x_11)) (qi 1 (AcU x_11))-Af (Afe x_1) (Afd x_1)))::sg 2 [0,0] (AcU x_11))=Ah y)))/\∀(x_12:List (Int×Int)),x_12=Gh (Ah x_11) (0+1+1+1+1+1) (Ac (x_1 5)) (Aa (x_1 5))->WL Acr (Ah x_12)->(AnD (qi 0 (Acp x_12))/\AnD (qi 1 (Acp x_12))->AnD (qi 2 (Acp x_12))/\AnD (qi 3 (Acp x_12))->True/\Cn (decide (BV (qi 0 (Acp x_12)) (qi 1 (Acp x_12))<BV (qi 2 (Acp x_12)) (qi 3 (Acp x_12)))) (AnD (qi 0 (Acp x_12))/\AnD (qi 1 (Acp x_12))->Sm (SV.rref 6 0 4 (0+1+1+1+1+1) 0)/\Sm [C.i (Ac (x_1 5)),C.i (Aa (x_1 5))]/\Sm [C.i (Aa7 bd pd ji),C.i (Aa6 bd pd ji)]/\Sm [C.i bn,C.i bd]/\Sm [C.i pn,C.i pd]/\Sm [C.i (Aa7 bd pd ji),C.i (Aa6 bd pd ji)]/\Sm [C.i (AbW bd pn dr),C.i (AbV bd pn dr)]/\Sm [C.i (AbU bd pn dr),C.i (Abl bd pn dr)]/\Sm [C.i (Abk bd pn dr),C.i (Abj bd pn dr)]/\Sm (sg 0 [0,0] (rGet xs x.1))/\Sm [C.i (AbI bn pd xs x),C.i (AbH bn pd xs x)]/\Sm [C.i (AbG bd pd xs x),C.i (AbF bd pd xs x)]/\Sm [C.i (Ac (x_1 0)),C.i (Aa (x_1 0))]/\Sm [C.i (Ac (x_1 0)),C.i (Aa (x_1 0))]/\Sm [C.i (Aa7 bd pd ji),C.i (Aa6 bd pd ji)]/\Sm [C.i (Ac (x_1 1)),C.i (Aa (x_1 1))]/\Sm [C.i (Ac (x_1 1)),C.i (Aa (x_1 1))]/\Sm [C.i (Aa7 bd pd ji),C.i (Aa6 bd pd ji)]/\Sm [C.i (Ac (x_1 2)),C.i (Aa (x_1 2))]/\Sm [C.i (Ac (x_1 2)),C.i (Aa (x_1 2))]/\Sm [C.i (Aa7 bd pd ji),C.i (Aa6 bd pd ji)]/\Sm [C.i (Ac (x_1 3)),C.i (Aa (x_1 3))]/\Sm [C.i (Ac (x_1 3)),C.i (Aa (x_1 3))]/\Sm [C.i (Aa7 bd pd ji),C.i (Aa6 bd pd ji)]/\Sm [C.i (Ac (x_1 4)),C.i (Aa (x_1 4))]/\Sm [C.i (Ac (x_1 4)),C.i (Aa (x_1 4))]/\Sm [C.i (Aa7 bd pd ji),C.i (Aa6 bd pd ji)]/\Sm [C.i (Ac (x_1 5)),C.i (Aa (x_1 5))]/\Sm [C.i (Ac (x_1 5)),C.i (Aa (x_1 5))]/\Sm [C.i (Aa7 bd pd ji),C.i (Aa6 bd pd ji)]/\∃(y:List (Int×Int)),y=D5 (Ah x_12) (0+1+1+1+1+1)/\rSet (Ah x_12) (0+1+1+1+1+1) (C.i (qi 0 (Acp x_12))::C.i (qi 1 (Acp x_12))::sg 0 [0,0] (Acp x_12))=Ah y) (Sm (SV.rref 6 0 4 (0+1+1+1+1+1) 0)/\Sm [C.i (Ac (x_1 5)),C.i (Aa (x_1 5))]/\Sm [C.i (Aa7 bd pd ji),C.i (Aa6 bd pd ji)]/\Sm [C.i bn,C.i bd]/\Sm [C.i pn,C.i pd]/\Sm [C.i (Aa7 bd pd ji),C.i (Aa6 bd pd ji)]/\Sm [C.i (AbW bd pn dr),C.i (AbV bd pn dr)]/\Sm [C.i (AbU bd pn dr),C.i (Abl bd pn dr)]/\Sm [C.i (Abk bd pn dr),C.i (Abj bd pn dr)]/\Sm (sg 0 [0,0] (rGet xs x.1))/\Sm [C.i (AbI bn pd xs x),C.i (AbH bn pd xs x)]/\Sm [C.i (AbG bd pd xs x),C.i (AbF bd pd xs x)]/\Sm [C.i (Ac (x_1 0)),C.i (Aa (x_1 0))]/\Sm [C.i (Ac (x_1 0)),C.i (Aa (x_1 0))]/\Sm [C.i (Aa7 bd pd ji),C.i (Aa6 bd pd ji)]/\Sm [C.i (Ac (x_1 1)),C.i (Aa (x_1 1))]/\Sm [C.i (Ac (x_1 1)),C.i (Aa (x_1 1))]/\Sm [C.i (Aa7 bd pd ji),C.i (Aa6 bd pd ji)]/\Sm [C.i (Ac (x_1 2)),C.i (Aa (x_1 2))]/\Sm [C.i (Ac (x_1 2)),C.i (Aa (x_1 2))]/\Sm [C.i (Aa7 bd pd ji),C.i (Aa6 bd pd ji)]/\Sm [C.i (Ac (x_1 3)),C.i (Aa (x_1 3))]/\Sm [C.i (Ac (x_1 3)),C.i (Aa (x_1 3))]/\Sm [C.i (Aa7 bd pd ji),C.i (Aa6 bd pd ji)]/\Sm [C.i (Ac (x_1 4)),C.i (Aa (x_1 4))]/\Sm [C.i (Ac (x_1 4)),C.i (Aa (x_1 4))]/\Sm [C.i (Aa7 bd pd ji),C.i (Aa6 bd pd ji)]/\Sm [C.i (Ac (x_1 5)),C.i (Aa (x_1 5))]/\Sm [C.i (Ac (x_1 5)),C.i (Aa (x_1 5))]/\Sm [C.i (Aa7 bd pd ji),C.i (Aa6 bd pd ji)]/\∃(y:List (Int×Int)),y=D5 (Ah x_12) (0+1+1+1+1+1)/\Ah x_12=Ah y))/\∀(x_13:List (Int×Int)),x_13=D5 (Ah x_12) (0+1+1+1+1+1)->WL Acr (Ah x_13)->AnD (qi 0 (Acy x_13))/\AnD (qi 1 (Acy x_13))->AnD (qi 2 (Acy x_13))/\AnD (qi 3 (Acy x_13))->True/\(AnD (Ac (Af (qi 0 (Acy x_13)) (qi 1 (Acy x_13))-Af (qi 2 (Acy x_13)) (qi 3 (Acy x_13))))/\AnD (Aa (Af (qi 0 (Acy x_13)) (qi 1 (Acy x_13))-Af (qi 2 (Acy x_13)) (qi 3 (Acy x_13))))->True/\True/\True/\Cn (bNot (bNot (decide (BV (Aa7 bd pd ji) (Aa6 bd pd ji)<BV (Ac (Af (qi 0 (Acy x_13)) (qi 1 (Acy x_13))-Af (qi 2 (Acy x_13)) (qi 3 (Acy x_13)))) (Aa (Af (qi 0 (Acy x_13)) (qi 1 (Acy x_13))-Af (qi 2 (Acy x_13)) (qi 3 (Acy x_13)))))))) (false=Dh bn bd pn pd dr ji xs) (AnC (iAdd x.1 1)/\Sm [C.i bn,C.i bd]/\Sm [C.i pn,C.i pd]/\Sm dr/\Sm ji/\Sm xs/\Sm (iMul pd 65536)/\Sm (iMul pn bd)/\Sm xs/\Sm (iLen xs)/\Sm [C.i bn,C.i bd]/\Sm [C.i pn,C.i pd]/\Sm [C.i (Aa7 bd pd ji),C.i (Aa6 bd pd ji)]/\Sm [C.i (AbW bd pn dr),C.i (AbV bd pn dr)]/\Sm [C.i (AbU bd pn dr),C.i (Abl bd pn dr)]/\Sm [C.i (Abk bd pn dr),C.i (Abj bd pn dr)]/\∃(y:Int×List (Int×Int)),RH bn bd pn pd dr ji xs y.1 y.2/\iAdd x.1 1=y.1/\Ah x_13=Ah y.2/\nLt (xs.length-y.1.toNat) (xs.length-x.1.toNat))))))))))))))))))))) (true=Dh bn bd pn pd dr ji xs))))))))))):=by
 intro hw;delta Aa7 Aa6 AbI AbH AbG AbF Acy AbW AbV AbU Abl AbP AbO Acr AbN Acp Aco AcU AbM Acn AcT Afs Afr Afq Afp Abk Abj Acm AcS Afo Afn Afm Afl Afk Afj Afi Afh Afg Aff Afe Afd AcR Acl AbL AcQ;simp only[Cn_iff,Abc,true_and];simp only[iMul,iAdd,iSub,ZI,Sl,RS,eq_self,true_and,and_true,implies_true,true_implies];refine⟨λh1=> ?_,λh1=>⟨λh2=> ?_,λh2=>⟨λh3=> ?_,λh3=>⟨λh4=> ?_,λh4 _=>⟨λh5=> ?_,λh5=> ?_⟩⟩⟩⟩⟩
 · exact Nk (.inl (by simpa using h1))
 · exact Nk (.inr (.inl (by simpa[bLt]using h2)))
 · exact Nk (.inr (.inr (.inl (by simpa[bLt]using h3))))
 · exact Nk (.inr (.inr (.inr (.inl (by simpa using h4)))))
 · exact Nk (.inr (.inr (.inr (.inr (by simpa[bLt,iLen]using h5)))))
 have v1:Ai bn bd=true:=by simpa using h1
 have v2:bn<=768000:=by simpa[bLt]using h2
 have v3:bd<=768000:=by simpa[bLt]using h3
 have v4:Bv pn pd dr ji=true:=by simpa using h4
 have v5:(xs.length:Int)<=256:=by simpa[bLt,iLen]using h5
 obtain⟨n1,n2,n3,n4,n5,n6,n7,n8,n9,n10,n11,n12,n13,n14,n15,n16,n17,n18,n19,n20⟩:=Sv v1 v2 v3 v4;rw[Tm v1 v2 v3 v4 v5];clear h1 h2 h3 h4 h5;simp only[pLe,Abb];refine⟨by simp only[InR]; omega,by simp only[InR]; omega,by simp only[InR]; omega,⟨by omega,by omega⟩,λ_=>⟨by simp only[InR]; omega,⟨by omega,by omega⟩,λ_=>⟨by simp only[InR]; omega,⟨by omega,by omega⟩,λ_=>⟨⟨by omega,by omega⟩,λ_=>⟨by omega,λ_=>⟨⟨(0,PW),⟨by omega,by omega,⟨rfl,?_⟩,rfl⟩,rfl,rfl⟩,?_⟩⟩⟩⟩⟩⟩
 · intro s hs;simp only[PW,Amd,List.not_mem_nil,or_false,or_self]at hs;subst hs; simp
 rintro⟨kk,Z⟩ ⟨k0,k1,⟨hl6,hbd⟩,hdf⟩ _;simp only at k0 k1 hl6 hbd hdf ⊢;obtain⟨s0,s1,s2,s3,s4,s5,rfl⟩:=Aaf hl6;refine⟨λhk=> ?_,λhk=> ?_⟩;rotate_left
 · simp only[bLt,iLen,AlD]at hk;rw[←hdf,AlP (by omega)]; rfl
 simp only[bLt,iLen,AlE]at hk;have hx:xs.drop kk.toNat=rGet xs kk::xs.drop (kk+1).toNat:=by
  rw[Anq (show kk.toNat<xs.length by omega),show(kk+1).toNat=kk.toNat+1 by omega];congr 1;simp[rGet,List.getD_eq_getElem?_getD,show kk.toNat<xs.length by omega]
 rw[hx]at hdf;generalize rGet xs kk=x at*;have e1:(qi 0 x)=CJ x:=rfl;have e2:(qi 1 x)=CO x:=rfl;simp only[e1,e2];simp only[Ot,Al2,AlU]at hdf;rw[←hdf];refine⟨⟨k0,hk⟩,λhr=>⟨λq1=> ?_,λq1=>⟨λq2=> ?_,λq2=>⟨λq3=> ?_,λq3=>⟨λq4=> ?_,λq4=> ?_⟩⟩⟩⟩⟩
 all_goals simp only[bLt,AlE,AlD]at q1
 · have t:CX x=false:=by simp only[CX,AlD]; omega
   rw[t]; rfl
 · simp only[bLt,AlE,AlD]at q2;have t:CX x=false:=by simp only[CX,AlD]; omega
   rw[t]; rfl
 · simp only[bLt,AlE,AlD]at q2 q3;have t:CX x=false:=by simp only[CX,AlD]; omega
   rw[t]; rfl
 · simp only[bLt,AlE,AlD]at q2 q3 q4;have t:CX x=false:=by simp only[CX,AlD]; omega
   rw[t]; rfl
 simp only[bLt,AlE,AlD]at q2 q3 q4;have t:CX x=true:=by simp only[CX,AlE]; omega
 rw[t];obtain⟨m1,m2,m3,m4,m5,m6,m7,m8⟩:=XB (u:=CJ x) (v:=CO x) n1 v2 n2 v3 n3 n4 (by omega) (by omega) (by omega) (by omega);refine⟨by simp only[InR]; omega,⟨by omega,by omega⟩,λ_=>⟨by simp only[InR]; omega,⟨by omega,by omega⟩,λ_=>⟨λ_ _ _ _ _ _ _ _=>⟨λg=>BR bn bd pn pd dr g x,rfl,rfl,rfl,rfl,rfl,rfl,rfl,rfl,rfl,rfl,rfl,rfl,rfl⟩,?_⟩⟩⟩;rintro mm hmm _ _;have d0: -10000000000000000000000<=mm 0/\mm 0<=10000000000000000000000/\BR bn bd pn pd dr 0 x=mm 0:=by
  rw[hmm]; refine⟨?_,?_,rfl⟩<;>simp only[BR]<;>omega
 have d1: -10000000000000000000000<=mm 1/\mm 1<=10000000000000000000000/\BR bn bd pn pd dr 1 x=mm 1:=by
  rw[hmm]; refine⟨?_,?_,rfl⟩<;>simp only[BR]<;>omega
 have d2: -10000000000000000000000<=mm 2/\mm 2<=10000000000000000000000/\BR bn bd pn pd dr 2 x=mm 2:=by
  rw[hmm]; refine⟨?_,?_,rfl⟩<;>simp only[BR]<;>omega
 have d3: -10000000000000000000000<=mm 3/\mm 3<=10000000000000000000000/\BR bn bd pn pd dr 3 x=mm 3:=by
  rw[hmm]; refine⟨?_,?_,rfl⟩<;>simp only[BR]<;>omega
 have d4: -10000000000000000000000<=mm 4/\mm 4<=10000000000000000000000/\BR bn bd pn pd dr 4 x=mm 4:=by
  rw[hmm]; refine⟨?_,?_,rfl⟩<;>simp only[BR]<;>omega
 have d5: -10000000000000000000000<=mm 5/\mm 5<=10000000000000000000000/\BR bn bd pn pd dr 5 x=mm 5:=by
  rw[hmm]; refine⟨?_,?_,rfl⟩<;>simp only[BR]<;>omega
 rw[d0.2.2,d1.2.2,d2.2.2,d3.2.2,d4.2.2,d5.2.2];obtain⟨b0,b1,b2,b3,b4,b5⟩:=XC hbd;obtain⟨c0,c1,c2,c3,c4,c5⟩:CB 1000000000000000000000000000000 s0/\CB 1000000000000000000000000000000 s1/\CB 1000000000000000000000000000000 s2/\CB 1000000000000000000000000000000 s3/\CB 1000000000000000000000000000000 s4/\CB 1000000000000000000000000000000 s5:=by
  simp only[CB]at b0 b1 b2 b3 b4 b5 ⊢; omega
 clear hmm;have zq0:EJ [s0,s1,s2,s3,s4,s5]:=Gm c0 c1 c2 c3 c4 c5;refine⟨⟨by decide,by simp only[iLen,Ah,Al5,Al9,AmX]; omega⟩,λ_ _ _=>⟨_,rfl,Qi (g:=0) zq0 rfl (by omega) (by omega) (by omega)⟩,?_⟩;intro y1 hy1 _;rw[KR (i:=0) (g:=0) zq0 rfl (by omega) (by omega) (by omega)]at hy1;simp only[Amu,Ama,AlU,Al2]at hy1;subst hy1;have zr0:EJ [(s0.1+mm 0,s0.2),s1,s2,s3,s4,s5]:=Gm (Ar (NI b0 d0.1 d0.2.1) (by omega)) c1 c2 c3 c4 c5;refine⟨λ_ _=>⟨λhb _=>⟨_,rfl,Px (g:=0) zr0 rfl (by omega) hb⟩,λhb=>⟨_,rfl,Py (g:=0) zr0 rfl (by omega) hb⟩⟩,?_⟩;intro y2 hy2 _ _ _ _;rw[Js (i:=0) (g:=0) zr0 rfl (by omega)]at hy2;simp only[Amu,Ama,AlU,Al2]at hy2;replace hy2:y2=[Ap s0 (mm 0),s1,s2,s3,s4,s5]:=hy2;subst hy2;have zs0:EJ [Ap s0 (mm 0),s1,s2,s3,s4,s5]:=Gm (Ar (Aw b0 d0.1 d0.2.1) (by omega)) c1 c2 c3 c4 c5;rw[Qe (i:=0) (g:=0) zs0 rfl (by omega) n19 (by omega)];simp only[AlU,Al2]
 cases kq0:Gf (bd*(pd*65536)*ji) (Ap s0 (mm 0))
 · exact⟨λ_=>rfl,λh=>by simp at h⟩
 refine⟨λh=>by simp at h,λ_ _=> ?_⟩;have zq1:EJ [Ap s0 (mm 0),s1,s2,s3,s4,s5]:=Gm (Ar (Aw b0 d0.1 d0.2.1) (by omega)) c1 c2 c3 c4 c5;refine⟨⟨by decide,by simp only[iLen,Ah,Al5,Al9,AmX]; omega⟩,λ_ _ _=>⟨_,rfl,Qi (g:=1) zq1 rfl (by omega) (by omega) (by omega)⟩,?_⟩;intro y1 hy1 _;rw[KR (i:=0+1) (g:=1) zq1 rfl (by omega) (by omega) (by omega)]at hy1;simp only[Amu,Ama,AlU,Al2]at hy1;subst hy1;have zr1:EJ [Ap s0 (mm 0),(s1.1+mm 1,s1.2),s2,s3,s4,s5]:=Gm (Ar (Aw b0 d0.1 d0.2.1) (by omega)) (Ar (NI b1 d1.1 d1.2.1) (by omega)) c2 c3 c4 c5;refine⟨λ_ _=>⟨λhb _=>⟨_,rfl,Px (g:=1) zr1 rfl (by omega) hb⟩,λhb=>⟨_,rfl,Py (g:=1) zr1 rfl (by omega) hb⟩⟩,?_⟩;intro y2 hy2 _ _ _ _;rw[Js (i:=0+1) (g:=1) zr1 rfl (by omega)]at hy2;simp only[Amu,Ama,AlU,Al2]at hy2;replace hy2:y2=[Ap s0 (mm 0),Ap s1 (mm 1),s2,s3,s4,s5]:=hy2;subst hy2;have zs1:EJ [Ap s0 (mm 0),Ap s1 (mm 1),s2,s3,s4,s5]:=Gm (Ar (Aw b0 d0.1 d0.2.1) (by omega)) (Ar (Aw b1 d1.1 d1.2.1) (by omega)) c2 c3 c4 c5;rw[Qe (i:=0+1) (g:=1) zs1 rfl (by omega) n19 (by omega)];simp only[AlU,Al2]
 cases kq1:Gf (bd*(pd*65536)*ji) (Ap s1 (mm 1))
 · exact⟨λ_=>rfl,λh=>by simp at h⟩
 refine⟨λh=>by simp at h,λ_ _=> ?_⟩;have zq2:EJ [Ap s0 (mm 0),Ap s1 (mm 1),s2,s3,s4,s5]:=Gm (Ar (Aw b0 d0.1 d0.2.1) (by omega)) (Ar (Aw b1 d1.1 d1.2.1) (by omega)) c2 c3 c4 c5;refine⟨⟨by decide,by simp only[iLen,Ah,Al5,Al9,AmX]; omega⟩,λ_ _ _=>⟨_,rfl,Qi (g:=2) zq2 rfl (by omega) (by omega) (by omega)⟩,?_⟩;intro y1 hy1 _;rw[KR (i:=0+1+1) (g:=2) zq2 rfl (by omega) (by omega) (by omega)]at hy1;simp only[Amu,Ama,AlU,Al2]at hy1;subst hy1;have zr2:EJ [Ap s0 (mm 0),Ap s1 (mm 1),(s2.1+mm 2,s2.2),s3,s4,s5]:=Gm (Ar (Aw b0 d0.1 d0.2.1) (by omega)) (Ar (Aw b1 d1.1 d1.2.1) (by omega)) (Ar (NI b2 d2.1 d2.2.1) (by omega)) c3 c4 c5;refine⟨λ_ _=>⟨λhb _=>⟨_,rfl,Px (g:=2) zr2 rfl (by omega) hb⟩,λhb=>⟨_,rfl,Py (g:=2) zr2 rfl (by omega) hb⟩⟩,?_⟩;intro y2 hy2 _ _ _ _;rw[Js (i:=0+1+1) (g:=2) zr2 rfl (by omega)]at hy2;simp only[Amu,Ama,AlU,Al2]at hy2;replace hy2:y2=[Ap s0 (mm 0),Ap s1 (mm 1),Ap s2 (mm 2),s3,s4,s5]:=hy2;subst hy2;have zs2:EJ [Ap s0 (mm 0),Ap s1 (mm 1),Ap s2 (mm 2),s3,s4,s5]:=Gm (Ar (Aw b0 d0.1 d0.2.1) (by omega)) (Ar (Aw b1 d1.1 d1.2.1) (by omega)) (Ar (Aw b2 d2.1 d2.2.1) (by omega)) c3 c4 c5;rw[Qe (i:=0+1+1) (g:=2) zs2 rfl (by omega) n19 (by omega)]
 simp only[AlU,Al2]
 cases kq2:Gf (bd*(pd*65536)*ji) (Ap s2 (mm 2))
 · exact⟨λ_=>rfl,λh=>by simp at h⟩
 refine⟨λh=>by simp at h,λ_ _=> ?_⟩;have zq3:EJ [Ap s0 (mm 0),Ap s1 (mm 1),Ap s2 (mm 2),s3,s4,s5]:=Gm (Ar (Aw b0 d0.1 d0.2.1) (by omega)) (Ar (Aw b1 d1.1 d1.2.1) (by omega)) (Ar (Aw b2 d2.1 d2.2.1) (by omega)) c3 c4 c5;refine⟨⟨by decide,by simp only[iLen,Ah,Al5,Al9,AmX]; omega⟩,λ_ _ _=>⟨_,rfl,Qi (g:=3) zq3 rfl (by omega) (by omega) (by omega)⟩,?_⟩;intro y1 hy1 _;rw[KR (i:=0+1+1+1) (g:=3) zq3 rfl (by omega) (by omega) (by omega)]at hy1;simp only[Amu,Ama,AlU,Al2]at hy1;subst hy1;have zr3:EJ [Ap s0 (mm 0),Ap s1 (mm 1),Ap s2 (mm 2),(s3.1+mm 3,s3.2),s4,s5]:=Gm (Ar (Aw b0 d0.1 d0.2.1) (by omega)) (Ar (Aw b1 d1.1 d1.2.1) (by omega)) (Ar (Aw b2 d2.1 d2.2.1) (by omega)) (Ar (NI b3 d3.1 d3.2.1) (by omega)) c4 c5;refine⟨λ_ _=>⟨λhb _=>⟨_,rfl,Px (g:=3) zr3 rfl (by omega) hb⟩,λhb=>⟨_,rfl,Py (g:=3) zr3 rfl (by omega) hb⟩⟩,?_⟩;intro y2 hy2 _ _ _ _;rw[Js (i:=0+1+1+1) (g:=3) zr3 rfl (by omega)]at hy2;simp only[Amu,Ama,AlU,Al2]at hy2;replace hy2:y2=[Ap s0 (mm 0),Ap s1 (mm 1),Ap s2 (mm 2),Ap s3 (mm 3),s4,s5]:=hy2;subst hy2
 have zs3:EJ [Ap s0 (mm 0),Ap s1 (mm 1),Ap s2 (mm 2),Ap s3 (mm 3),s4,s5]:=Gm (Ar (Aw b0 d0.1 d0.2.1) (by omega)) (Ar (Aw b1 d1.1 d1.2.1) (by omega)) (Ar (Aw b2 d2.1 d2.2.1) (by omega)) (Ar (Aw b3 d3.1 d3.2.1) (by omega)) c4 c5;rw[Qe (i:=0+1+1+1) (g:=3) zs3 rfl (by omega) n19 (by omega)];simp only[AlU,Al2]
 cases kq3:Gf (bd*(pd*65536)*ji) (Ap s3 (mm 3))
 · exact⟨λ_=>rfl,λh=>by simp at h⟩
 refine⟨λh=>by simp at h,λ_ _=> ?_⟩;have zq4:EJ [Ap s0 (mm 0),Ap s1 (mm 1),Ap s2 (mm 2),Ap s3 (mm 3),s4,s5]:=Gm (Ar (Aw b0 d0.1 d0.2.1) (by omega)) (Ar (Aw b1 d1.1 d1.2.1) (by omega)) (Ar (Aw b2 d2.1 d2.2.1) (by omega)) (Ar (Aw b3 d3.1 d3.2.1) (by omega)) c4 c5;refine⟨⟨by decide,by simp only[iLen,Ah,Al5,Al9,AmX]; omega⟩,λ_ _ _=>⟨_,rfl,Qi (g:=4) zq4 rfl (by omega) (by omega) (by omega)⟩,?_⟩;intro y1 hy1 _;rw[KR (i:=0+1+1+1+1) (g:=4) zq4 rfl (by omega) (by omega) (by omega)]at hy1;simp only[Amu,Ama,AlU,Al2]at hy1;subst hy1;have zr4:EJ [Ap s0 (mm 0),Ap s1 (mm 1),Ap s2 (mm 2),Ap s3 (mm 3),(s4.1+mm 4,s4.2),s5]:=Gm (Ar (Aw b0 d0.1 d0.2.1) (by omega)) (Ar (Aw b1 d1.1 d1.2.1) (by omega)) (Ar (Aw b2 d2.1 d2.2.1) (by omega)) (Ar (Aw b3 d3.1 d3.2.1) (by omega)) (Ar (NI b4 d4.1 d4.2.1) (by omega)) c5;refine⟨λ_ _=>⟨λhb _=>⟨_,rfl,Px (g:=4) zr4 rfl (by omega) hb⟩,λhb=>⟨_,rfl,Py (g:=4) zr4 rfl (by omega) hb⟩⟩,?_⟩;intro y2 hy2 _ _ _ _;rw[Js (i:=0+1+1+1+1) (g:=4) zr4 rfl (by omega)]at hy2;simp only[Amu,Ama,AlU,Al2]at hy2;replace hy2:y2=[Ap s0 (mm 0),Ap s1 (mm 1),Ap s2 (mm 2),Ap s3 (mm 3),Ap s4 (mm 4),s5]:=hy2;subst hy2
 have zs4:EJ [Ap s0 (mm 0),Ap s1 (mm 1),Ap s2 (mm 2),Ap s3 (mm 3),Ap s4 (mm 4),s5]:=Gm (Ar (Aw b0 d0.1 d0.2.1) (by omega)) (Ar (Aw b1 d1.1 d1.2.1) (by omega)) (Ar (Aw b2 d2.1 d2.2.1) (by omega)) (Ar (Aw b3 d3.1 d3.2.1) (by omega)) (Ar (Aw b4 d4.1 d4.2.1) (by omega)) c5;rw[Qe (i:=0+1+1+1+1) (g:=4) zs4 rfl (by omega) n19 (by omega)];simp only[AlU,Al2]
 cases kq4:Gf (bd*(pd*65536)*ji) (Ap s4 (mm 4))
 · exact⟨λ_=>rfl,λh=>by simp at h⟩
 refine⟨λh=>by simp at h,λ_ _=> ?_⟩;have zq5:EJ [Ap s0 (mm 0),Ap s1 (mm 1),Ap s2 (mm 2),Ap s3 (mm 3),Ap s4 (mm 4),s5]:=Gm (Ar (Aw b0 d0.1 d0.2.1) (by omega)) (Ar (Aw b1 d1.1 d1.2.1) (by omega)) (Ar (Aw b2 d2.1 d2.2.1) (by omega)) (Ar (Aw b3 d3.1 d3.2.1) (by omega)) (Ar (Aw b4 d4.1 d4.2.1) (by omega)) c5;refine⟨⟨by decide,by simp only[iLen,Ah,Al5,Al9,AmX]; omega⟩,λ_ _ _=>⟨_,rfl,Qi (g:=5) zq5 rfl (by omega) (by omega) (by omega)⟩,?_⟩;intro y1 hy1 _;rw[KR (i:=0+1+1+1+1+1) (g:=5) zq5 rfl (by omega) (by omega) (by omega)]at hy1;simp only[Amu,Ama,AlU,Al2]at hy1;subst hy1;have zr5:EJ [Ap s0 (mm 0),Ap s1 (mm 1),Ap s2 (mm 2),Ap s3 (mm 3),Ap s4 (mm 4),(s5.1+mm 5,s5.2)]:=Gm (Ar (Aw b0 d0.1 d0.2.1) (by omega)) (Ar (Aw b1 d1.1 d1.2.1) (by omega)) (Ar (Aw b2 d2.1 d2.2.1) (by omega)) (Ar (Aw b3 d3.1 d3.2.1) (by omega)) (Ar (Aw b4 d4.1 d4.2.1) (by omega)) (Ar (NI b5 d5.1 d5.2.1) (by omega));refine⟨λ_ _=>⟨λhb _=>⟨_,rfl,Px (g:=5) zr5 rfl (by omega) hb⟩,λhb=>⟨_,rfl,Py (g:=5) zr5 rfl (by omega) hb⟩⟩,?_⟩;intro y2 hy2 _ _ _ _;rw[Js (i:=0+1+1+1+1+1) (g:=5) zr5 rfl (by omega)]at hy2;simp only[Amu,Ama,AlU,Al2]at hy2;replace hy2:y2=[Ap s0 (mm 0),Ap s1 (mm 1),Ap s2 (mm 2),Ap s3 (mm 3),Ap s4 (mm 4),Ap s5 (mm 5)]:=hy2
 subst hy2;have zs5:EJ [Ap s0 (mm 0),Ap s1 (mm 1),Ap s2 (mm 2),Ap s3 (mm 3),Ap s4 (mm 4),Ap s5 (mm 5)]:=Gm (Ar (Aw b0 d0.1 d0.2.1) (by omega)) (Ar (Aw b1 d1.1 d1.2.1) (by omega)) (Ar (Aw b2 d2.1 d2.2.1) (by omega)) (Ar (Aw b3 d3.1 d3.2.1) (by omega)) (Ar (Aw b4 d4.1 d4.2.1) (by omega)) (Ar (Aw b5 d5.1 d5.2.1) (by omega));rw[Qe (i:=0+1+1+1+1+1) (g:=5) zs5 rfl (by omega) n19 (by omega)];simp only[AlU,Al2]
 cases kq5:Gf (bd*(pd*65536)*ji) (Ap s5 (mm 5))
 · exact⟨λ_=>rfl,λh=>by simp at h⟩
 refine⟨λh=>by simp at h,λ_=> ?_⟩;refine⟨by simp only[InR]; omega,(kk+1,[Ap s0 (mm 0),Ap s1 (mm 1),Ap s2 (mm 2),Ap s3 (mm 3),Ap s4 (mm 4),Ap s5 (mm 5)]),⟨by omega,by omega,⟨rfl,?_⟩,?_⟩,rfl,rfl,by simp only; omega⟩
 · intro s hs;simp only[Amd,List.not_mem_nil,or_false]at hs;rcases hs with rfl|rfl|rfl|rfl|rfl|rfl
   · have:=Aw b0 d0.1 d0.2.1;simp only[CB]at this;omega
   · have:=Aw b1 d1.1 d1.2.1;simp only[CB]at this;omega
   · have:=Aw b2 d2.1 d2.2.1;simp only[CB]at this;omega
   · have:=Aw b3 d3.1 d3.2.1;simp only[CB]at this;omega
   · have:=Aw b4 d4.1 d4.2.1;simp only[CB]at this;omega
   · have:=Aw b5 d5.1 d5.2.1;simp only[CB]at this;omega
 · simp only;rw[←hdf,t,d0.2.2,d1.2.2,d2.2.2,d3.2.2,d4.2.2,d5.2.2,kq0,kq1,kq2,kq3,kq4,kq5];rfl
def r75:Cr PR:=K0 [r133,r134,r135,r136,r204] 75 6 {ps:=[(true,hII),(true,hII),(false,hI),(false,hI),(false,[.sl hII])],rs:=[(false,[.bool])],out:=λa=>[[.b (Dh (AnF a) (AnH a) (AnG a) (AnJ a) (AnI a) (AnM a) (L a 4 0))]]} (λa=>A75 (AnF a) (AnH a) (AnG a) (AnJ a) (AnI a) (AnM a) (L a 4 0)) λa=>Y (v75 (AnF a) (AnH a) (AnG a) (AnJ a) (AnI a) (AnM a) (L a 4 0))
end Go.Sx

noncomputable section
namespace Go
open Go.Sx
def Ie (x y z:Int):Bool:=decide (x<=y+z)&&decide (y<=x+z)
def TZ (bn bd pn pd dr ji m u v:Int):Bool:=
 Ie (u*bn*pd*65536) (m*pn*bd*65536) (m*pn*bd*dr+ji*bd*pd*65536)&&(Ie (v*bd*pd*65536) (m*pn*bd*65536) (m*pn*bd*dr+ji*bd*pd*65536)&&
  Ie (u*bn*pd*65536) (v*bd*pd*65536) (m*pn*bd*dr+ji*bd*pd*65536))
def NP (bn bd pn pd dr ji m u v:Int) (xs:List (List C)):Bool:=
 match xs with
 |[]=>true
 |x::r=>TZ bn bd pn pd dr ji (m+1) (u+CJ x) (v+CO x)&&NP bn bd pn pd dr ji (m+1) (u+CJ x) (v+CO x) r
def LZ (bn bd pn pd dr ji:Int) (xs:List (List C)):Bool:=
 match xs with
 |[]=>true
 |x::r=>NP bn bd pn pd dr ji 0 0 0 (x::r)&&LZ bn bd pn pd dr ji r
def CV (bn bd pn pd dr ji:Int) (xs:List (List C)):Bool:=
 Ai bn bd&&(decide (bn<=768000/\bd<=768000)&&(Bv pn pd dr ji&&(decide ((xs.length:Int)<=256)&&(xs.all CX&&LZ bn bd pn pd dr ji xs))))
def Vd (xs:List (List C)) (kk:Int):Prop:=0<=kk/\kk<=(xs.length:Int)/\(xs.drop kk.toNat).all CX=xs.all CX
def Vk (bn bd pn pd dr ji:Int) (xs:List (List C)) (kk:Int):Prop:=0<=kk/\kk<=(xs.length:Int)/\LZ bn bd pn pd dr ji (xs.drop kk.toNat)=LZ bn bd pn pd dr ji xs
def S9 (bn bd pn pd dr ji:Int) (xs:List (List C)) (k0 kk u v:Int):Prop:=
 0<=kk/\kk<=(xs.length:Int)-k0/\0<=u/\u<=kk*65536/\0<=v/\v<=kk*65536/\NP bn bd pn pd dr ji kk u v ((xs.drop k0.toNat).drop kk.toNat)=NP bn bd pn pd dr ji 0 0 0 (xs.drop k0.toNat)
theorem Pq {n:Int} (h0:0<=n) (h1:n<=1000000000000000000000000000000):Af (Ac n) (Aa n)=n:=by
 unfold Af Ac Aa; omega
theorem QZ {x y z:Int} (x0:0<=x) (x1:x<=1000000000000000000000000000000) (y0:0<=y) (y1:y<=1000000000000000000000000000000) (z0:0<=z) (z1:z<=1000000000000000000000000000000):J5 x y z=Ie x y z:=by
 unfold J5 Ie NJ;rw[←decide_not,←decide_not];congr 1<;>(rw[decide_eq_decide]; omega)
theorem Ou {xs:List (List C)} {k:Int} (h0:0<=k) (h1:k<(xs.length:Int)):xs.drop k.toNat=rGet xs k::xs.drop (k+1).toNat:=by
 rw[Anq (show k.toNat<xs.length by omega),show(k+1).toNat=k.toNat+1 by omega];congr 1;simp[rGet,List.getD_eq_getElem?_getD,show k.toNat<xs.length by omega]
theorem Gu {bn bd pn pd dr ji:Int} {xs:List (List C)} (h:Ai bn bd=false∨768000<bn∨768000<bd∨Bv pn pd dr ji=false∨256<(xs.length:Int)∨xs.all CX=false):false=CV bn bd pn pd dr ji xs:=by
 symm;unfold CV;rcases h with h|h|h|h|h|h
 · simp[h]
 · have:decide (bn<=768000/\bd<=768000)=false:=by simp; omega
   simp[this]
 · have:decide (bn<=768000/\bd<=768000)=false:=by simp; omega
   simp[this]
 · simp[h]
 · have:decide ((xs.length:Int)<=256)=false:=by simp; omega
   simp[this]
 · simp only[h,AmS,AlQ]
theorem Xt {bn bd pn pd dr ji:Int} {xs:List (List C)} (h1:Ai bn bd=true) (h2:bn<=768000) (h3:bd<=768000) (h4:Bv pn pd dr ji=true) (h5:(xs.length:Int)<=256) (h6:xs.all CX=true):
 CV bn bd pn pd dr ji xs=LZ bn bd pn pd dr ji xs:=by
 unfold CV;rw[h1,h4,h6];simp[h2,h3,h5]
theorem Oj {n d k j:Int} (h:EW n d=false∨k<0∨4096<k∨j<0∨65536<j):Bv n d k j=false:=by
 unfold Bv;rcases h with h|h|h|h|h
 · simp[h]
 all_goals
  have:decide (0<=k/\k<=4096/\0<=j/\j<=65536)=false:=by simp; omega
  simp[this]
theorem Yj {bn bd pn pd dr ji m u v:Int} (h1:1<=bn) (h2:bn<=768000) (h3:1<=bd) (h4:bd<=768000) (h5:1<=pd) (h6:pd<=768000) (p0:1<=pn) (p1:pn<=68719476736) (d0:0<=dr) (d1:dr<=4096) (j0:0<=ji) (j1:ji<=65536)
 (m0:0<=m) (m1:m<=257) (u0:0<=u) (u1:u<=257*65536) (v0:0<=v) (v1:v<=257*65536):
 0<=u*bn/\u*bn<=100000000000000000/\0<=u*bn*pd*65536/\u*bn*pd*65536<=100000000000000000000000000/\0<=v*bd/\v*bd<=100000000000000000/\0<=v*bd*pd*65536/\v*bd*pd*65536<=100000000000000000000000000/\
 0<=m*pn/\m*pn<=100000000000000000/\0<=m*pn*bd*65536/\m*pn*bd*65536<=100000000000000000000000000/\0<=m*pn*bd*dr/\m*pn*bd*dr<=100000000000000000000000000/\
 0<=ji*bd/\ji*bd<=100000000000000000/\0<=ji*bd*pd*65536/\ji*bd*pd*65536<=100000000000000000000000000:=by
 have a1:=Aa8 (x:=u) (X:=257*65536) (y:=bn) (Y:=768000) (by omega) (by omega) (by omega) (by omega);have a2:=Aa8 (x:=u*bn) (X:=257*65536*768000) (y:=pd) (Y:=768000) (by omega) (by omega) (by omega) (by omega);have b1:=Aa8 (x:=v) (X:=257*65536) (y:=bd) (Y:=768000) (by omega) (by omega) (by omega) (by omega);have b2:=Aa8 (x:=v*bd) (X:=257*65536*768000) (y:=pd) (Y:=768000) (by omega) (by omega) (by omega) (by omega);have c1:=Aa8 (x:=m) (X:=257) (y:=pn) (Y:=68719476736) (by omega) (by omega) (by omega) (by omega);have c2:=Aa8 (x:=m*pn) (X:=257*68719476736) (y:=bd) (Y:=768000) (by omega) (by omega) (by omega) (by omega);have c3:=Aa8 (x:=m*pn*bd) (X:=257*68719476736*768000) (y:=dr) (Y:=4096) (by omega) (by omega) (by omega) (by omega);have e1:=Aa8 (x:=ji) (X:=65536) (y:=bd) (Y:=768000) (by omega) (by omega) (by omega) (by omega);have e2:=Aa8 (x:=ji*bd) (X:=65536*768000) (y:=pd) (Y:=768000) (by omega) (by omega) (by omega) (by omega);omega
end Go
namespace Go.Sx
def A79 (bn:Int) (bd:Int) (pn:Int) (pd:Int) (dr:Int) (ji:Int) (xs:List (List C)):FuncId->Nat->LoopAnn:=λ_ ii=>bif Nat.beq ii 4 then .inv Int (λz=>Vd xs z) (λz=>[(67,.int .i64 z)]) (λ_=>[]) [] [0,1,2,3,4,5,6,10,12,13,14,15,16,17,18,19,20,21,22,23,24,25,64,65,66,67,68,88,100,101,102,106,107,108,109,175] (λz=>xs.length-z.toNat)else bif Nat.beq ii 11 then .inv Int (λz=>Vk bn bd pn pd dr ji xs z) (λz=>[(101,.int .i64 z)]) (λ_=>[]) [] [0,1,2,3,4,5,6,10,12,13,14,15,16,17,18,19,20,21,22,23,24,25,64,65,66,67,68,88,100,101,102,106,107,108,109,175] (λz=>xs.length-z.toNat)else bif Nat.beq ii 15 then .on (λsv0=>match sv0.tmps.getD 101 .undef with| .int _ kk=> .inv (Int×Int×Int) (λz=>S9 bn bd pn pd dr ji xs kk z.1 z.2.1 z.2.2) (λz=>[(108,.int .i64 z.1),(17,.int .u64 z.2.1),(18,.int .u64 z.2.2)]) (λ_=>[]) [] [0,1,2,3,4,5,6,10,12,13,14,15,16,17,18,19,20,21,22,23,24,25,64,65,66,67,68,88,100,101,102,106,107,108,109,175] (λz=>xs.length-z.1.toNat)|_=> .unroll 0)else .unroll 0
def AcK (xs:List (List C)) (x_1:Int) (x_2:Int×Int×Int):List C:=(rGet (cutRows xs (some x_1) none) x_2.1)
def AkH (bd:Int) (pn:Int) (pd:Int) (dr:Int) (ji:Int) (x_2:Int×Int×Int):Int:=(Ac (Af (Ac (iMul (Aa3 .u64 (iAdd x_2.1 1)) (Aa3 .u64 pn)*Aa3 .u64 bd*Aa3 .u64 dr)) (Aa (iMul (Aa3 .u64 (iAdd x_2.1 1)) (Aa3 .u64 pn)*Aa3 .u64 bd*Aa3 .u64 dr))+Af (Ac (iMul (Aa3 .u64 ji) (Aa3 .u64 bd)*Aa3 .u64 pd*65536)) (Aa (iMul (Aa3 .u64 ji) (Aa3 .u64 bd)*Aa3 .u64 pd*65536))))
def AkG (bd:Int) (pn:Int) (pd:Int) (dr:Int) (ji:Int) (x_2:Int×Int×Int):Int:=(Aa (Af (Ac (iMul (Aa3 .u64 (iAdd x_2.1 1)) (Aa3 .u64 pn)*Aa3 .u64 bd*Aa3 .u64 dr)) (Aa (iMul (Aa3 .u64 (iAdd x_2.1 1)) (Aa3 .u64 pn)*Aa3 .u64 bd*Aa3 .u64 dr))+Af (Ac (iMul (Aa3 .u64 ji) (Aa3 .u64 bd)*Aa3 .u64 pd*65536)) (Aa (iMul (Aa3 .u64 ji) (Aa3 .u64 bd)*Aa3 .u64 pd*65536))))
def AjX (bd:Int) (pn:Int) (pd:Int) (dr:Int) (ji:Int) (x_2:Int×Int×Int):Int:=(Af (AkH bd pn pd dr ji x_2) (AkG bd pn pd dr ji x_2))
def AkF (bn:Int) (pd:Int) (xs:List (List C)) (x_1:Int) (x_2:Int×Int×Int):Int:=(Af (Ac (iMul (iAdd x_2.2.1 (Aa3 .u64 (qi 0 (AcK xs x_1 x_2)))) (Aa3 .u64 bn)*Aa3 .u64 pd*65536)) (Aa (iMul (iAdd x_2.2.1 (Aa3 .u64 (qi 0 (AcK xs x_1 x_2)))) (Aa3 .u64 bn)*Aa3 .u64 pd*65536)))
def AkE (bd:Int) (pd:Int) (xs:List (List C)) (x_1:Int) (x_2:Int×Int×Int):Int:=(Af (Ac (iMul (iAdd x_2.2.2 (Aa3 .u64 (qi 1 (AcK xs x_1 x_2)))) (Aa3 .u64 bd)*Aa3 .u64 pd*65536)) (Aa (iMul (iAdd x_2.2.2 (Aa3 .u64 (qi 1 (AcK xs x_1 x_2)))) (Aa3 .u64 bd)*Aa3 .u64 pd*65536)))
def AkD (bd:Int) (pn:Int) (x_2:Int×Int×Int):Int:=(Af (Ac (iMul (Aa3 .u64 (iAdd x_2.1 1)) (Aa3 .u64 pn)*Aa3 .u64 bd*65536)) (Aa (iMul (Aa3 .u64 (iAdd x_2.1 1)) (Aa3 .u64 pn)*Aa3 .u64 bd*65536)))
theorem v79 (bn:Int) (bd:Int) (pn:Int) (pd:Int) (dr:Int) (ji:Int) (xs:List (List C)):AnC bn/\AnC bd/\AnC pn/\AnC pd/\AnC dr/\AnC ji/\WL hII xs->True/\True/\Cn (bNot (Ai bn bd)) (false=CV bn bd pn pd dr ji xs) (Cn (bLt 768000 bn) (false=CV bn bd pn pd dr ji xs) (Cn (bLt 768000 bd) (false=CV bn bd pn pd dr ji xs) (True/\True/\Cn (bNot (EW pn pd)) (false=CV bn bd pn pd dr ji xs) (Cn (bLt dr 0) (false=CV bn bd pn pd dr ji xs) (Cn (bLt 4096 dr) (false=CV bn bd pn pd dr ji xs) (Cn (bLt ji 0) (false=CV bn bd pn pd dr ji xs) (Cn (bLt 65536 ji) (false=CV bn bd pn pd dr ji xs) (AnE xs->Cn (bLt 256 (iLen xs)) (false=CV bn bd pn pd dr ji xs) (AnE xs->(∃(x:Int),Vd xs x/\0=x)/\∀(x:Int),Vd xs x->AnC x->Cn (bLt x (iLen xs)) (pIn 0 (iLen xs) x/\(AnC (qi 0 (rGet xs x))/\AnC (qi 1 (rGet xs x))->Cn (bLt (qi 0 (rGet xs x)) 0) (false=CV bn bd pn pd dr ji xs) (Cn (bLt 65536 (qi 0 (rGet xs x))) (false=CV bn bd pn pd dr ji xs) (Cn (bLt (qi 1 (rGet xs x)) 0) (false=CV bn bd pn pd dr ji xs) (Cn (bLt 65536 (qi 1 (rGet xs x))) (false=CV bn bd pn pd dr ji xs) (AnC (iAdd x 1)/\Sm [C.i bn,C.i bd]/\Sm [C.i pn,C.i pd]/\Sm dr/\Sm ji/\Sm xs/\Sm xs/\Sm (iLen xs)/\Sm [C.i bn,C.i bd]/\Sm [C.i pn,C.i pd]/\∃(y:Int),Vd xs y/\iAdd x 1=y/\nLt (xs.length-y.toNat) (xs.length-x.toNat))))))) (AnE xs->(∃(x:Int),Vk bn bd pn pd dr ji xs x/\0=x)/\∀(x_1:Int),Vk bn bd pn pd dr ji xs x_1->AnC x_1->Cn (bLt x_1 (iLen xs)) (geB (some x_1) none (iLen xs)/\(AnE (cutRows xs (some x_1) none)->(∃(x:Int×Int×Int),S9 bn bd pn pd dr ji xs x_1 x.1 x.2.1 x.2.2/\0=x.1/\0=x.2.1/\0=x.2.2)/\∀(x_2:Int×Int×Int),S9 bn bd pn pd dr ji xs x_1 x_2.1 x_2.2.1 x_2.2.2->AnC x_2.1/\AnD x_2.2.1/\AnD x_2.2.2->Cn (bLt x_2.1 (iLen (cutRows xs (some x_1) none))) (pIn 0 (iLen (cutRows xs (some x_1) none)) x_2.1/\(AnC (qi 0 (AcK xs x_1 x_2))/\AnC (qi 1 (AcK xs x_1 x_2))->AnC (iAdd x_2.1 1)/\AnD (iAdd x_2.2.1 (Aa3 .u64 (qi 0 (AcK xs x_1 x_2))))/\AnD (iAdd x_2.2.2 (Aa3 .u64 (qi 1 (AcK xs x_1 x_2))))/\AnD (iMul (iAdd x_2.2.1 (Aa3 .u64 (qi 0 (AcK xs x_1 x_2)))) (Aa3 .u64 bn))/\(pLe (iMul (iAdd x_2.2.1 (Aa3 .u64 (qi 0 (AcK xs x_1 x_2)))) (Aa3 .u64 bn)*Aa3 .u64 pd*65536) 340282366920938463463374607431768211455/\True)/\(AnD (Ac (iMul (iAdd x_2.2.1 (Aa3 .u64 (qi 0 (AcK xs x_1 x_2)))) (Aa3 .u64 bn)*Aa3 .u64 pd*65536))/\AnD (Aa (iMul (iAdd x_2.2.1 (Aa3 .u64 (qi 0 (AcK xs x_1 x_2)))) (Aa3 .u64 bn)*Aa3 .u64 pd*65536))->AnD (iMul (iAdd x_2.2.2 (Aa3 .u64 (qi 1 (AcK xs x_1 x_2)))) (Aa3 .u64 bd))/\(pLe (iMul (iAdd x_2.2.2 (Aa3 .u64 (qi 1 (AcK xs x_1 x_2)))) (Aa3 .u64 bd)*Aa3 .u64 pd*65536) 340282366920938463463374607431768211455/\True)/\(AnD (Ac (iMul (iAdd x_2.2.2 (Aa3 .u64 (qi 1 (AcK xs x_1 x_2)))) (Aa3 .u64 bd)*Aa3 .u64 pd*65536))/\AnD (Aa (iMul (iAdd x_2.2.2 (Aa3 .u64 (qi 1 (AcK xs x_1 x_2)))) (Aa3 .u64 bd)*Aa3 .u64 pd*65536))->AnD (iMul (Aa3 .u64 (iAdd x_2.1 1)) (Aa3 .u64 pn))/\(pLe (iMul (Aa3 .u64 (iAdd x_2.1 1)) (Aa3 .u64 pn)*Aa3 .u64 bd*65536) 340282366920938463463374607431768211455/\True)/\(AnD (Ac (iMul (Aa3 .u64 (iAdd x_2.1 1)) (Aa3 .u64 pn)*Aa3 .u64 bd*65536))/\AnD (Aa (iMul (Aa3 .u64 (iAdd x_2.1 1)) (Aa3 .u64 pn)*Aa3 .u64 bd*65536))->AnD (iMul (Aa3 .u64 (iAdd x_2.1 1)) (Aa3 .u64 pn))/\(pLe (iMul (Aa3 .u64 (iAdd x_2.1 1)) (Aa3 .u64 pn)*Aa3 .u64 bd*Aa3 .u64 dr) 340282366920938463463374607431768211455/\True)/\(AnD (Ac (iMul (Aa3 .u64 (iAdd x_2.1 1)) (Aa3 .u64 pn)*Aa3 .u64 bd*Aa3 .u64 dr))/\AnD (Aa (iMul (Aa3 .u64 (iAdd x_2.1 1)) (Aa3 .u64 pn)*Aa3 .u64 bd*Aa3 .u64 dr))->AnD (iMul (Aa3 .u64 ji) (Aa3 .u64 bd))/\(pLe (iMul (Aa3 .u64 ji) (Aa3 .u64 bd)*Aa3 .u64 pd*65536) 340282366920938463463374607431768211455/\True)/\(AnD (Ac (iMul (Aa3 .u64 ji) (Aa3 .u64 bd)*Aa3 .u64 pd*65536))/\AnD (Aa (iMul (Aa3 .u64 ji) (Aa3 .u64 bd)*Aa3 .u64 pd*65536))->True/\(AnD (AkH bd pn pd dr ji x_2)/\AnD (AkG bd pn pd dr ji x_2)->True/\True/\Cn (bNot (J5 (AkF bn pd xs x_1 x_2) (AkD bd pn x_2) (AjX bd pn pd dr ji x_2))) (false=CV bn bd pn pd dr ji xs) (True/\True/\Cn (bNot (J5 (AkE bd pd xs x_1 x_2) (AkD bd pn x_2) (AjX bd pn pd dr ji x_2))) (false=CV bn bd pn pd dr ji xs) (True/\True/\Cn (bNot (J5 (AkF bn pd xs x_1 x_2) (AkE bd pd xs x_1 x_2) (AjX bd pn pd dr ji x_2))) (false=CV bn bd pn pd dr ji xs) (AnC (iAdd x_2.1 1)/\Sm [C.i bn,C.i bd]/\Sm [C.i pn,C.i pd]/\Sm dr/\Sm ji/\Sm xs/\Sm (Aa3 .u64 bd)/\Sm (Aa3 .u64 pn)/\Sm (Aa3 .u64 pd)/\Sm x_1/\Sm xs/\Sm (iLen xs)/\Sm x/\Sm (iLen xs)/\Sm x_1/\Sm (cutRows xs (some x_1) none)/\Sm (iLen (cutRows xs (some x_1) none))/\Sm [C.i bn,C.i bd]/\Sm [C.i pn,C.i pd]/\∃(y:Int×Int×Int),S9 bn bd pn pd dr ji xs x_1 y.1 y.2.1 y.2.2/\iAdd x_2.1 1=y.1/\iAdd x_2.2.1 (Aa3 .u64 (qi 0 (AcK xs x_1 x_2)))=y.2.1/\iAdd x_2.2.2 (Aa3 .u64 (qi 1 (AcK xs x_1 x_2)))=y.2.2/\nLt (xs.length-y.1.toNat) (xs.length-x_2.1.toNat)))))))))))) (AnC (iAdd x_1 1)/\Sm [C.i bn,C.i bd]/\Sm [C.i pn,C.i pd]/\Sm dr/\Sm ji/\Sm xs/\Sm (Aa3 .u64 bd)/\Sm (Aa3 .u64 pn)/\Sm (Aa3 .u64 pd)/\Sm xs/\Sm (iLen xs)/\Sm x/\Sm (iLen xs)/\Sm [C.i bn,C.i bd]/\Sm [C.i pn,C.i pd]/\∃(y:Int),Vk bn bd pn pd dr ji xs y/\iAdd x_1 1=y/\nLt (xs.length-y.toNat) (xs.length-x_1.toNat)))) (true=CV bn bd pn pd dr ji xs))))))))))):=by
 intro hw;delta AcK AkH AkG AjX AkF AkE AkD;simp only[Cn_iff,Abc,true_and];simp only[iMul,iAdd,iSub,eq_self,true_and,and_true,implies_true,true_implies];refine⟨λh1=> ?_,λh1=>⟨λh2=> ?_,λh2=>⟨λh3=> ?_,λh3=>⟨λh4=> ?_,λh4=>⟨λg1=> ?_,λg1=>⟨λg2=> ?_,λg2=>⟨λg3=> ?_,λg3=>⟨λg4=> ?_,λg4 _=>⟨λh5=> ?_,λh5=> ?_⟩⟩⟩⟩⟩⟩⟩⟩⟩
 · exact Gu (.inl (by simpa using h1))
 · exact Gu (.inr (.inl (by simpa[bLt]using h2)))
 · exact Gu (.inr (.inr (.inl (by simpa[bLt]using h3))))
 · exact Gu (.inr (.inr (.inr (.inl (Oj (.inl (by simpa using h4)))))))
 · exact Gu (.inr (.inr (.inr (.inl (Oj (.inr (.inl (by simpa[bLt]using g1))))))))
 · exact Gu (.inr (.inr (.inr (.inl (Oj (.inr (.inr (.inl (by simpa[bLt]using g2)))))))))
 · exact Gu (.inr (.inr (.inr (.inl (Oj (.inr (.inr (.inr (.inl (by simpa[bLt]using g3))))))))))
 · exact Gu (.inr (.inr (.inr (.inl (Oj (.inr (.inr (.inr (.inr (by simpa[bLt]using g4))))))))))
 · exact Gu (.inr (.inr (.inr (.inr (.inl (by simpa[bLt,iLen]using h5))))))
 have v1:Ai bn bd=true:=by simpa using h1
 simp only[bLt,iLen,AlD]at h2 h3 h5 g1 g2 g3 g4;have v4:Bv pn pd dr ji=true:=by
  unfold Bv;have e:EW pn pd=true:=by simpa using h4
  rw[e]; simp; omega
 have hd:=L9 v4;have hb:1<=bn/\1<=bd:=by
  have h:=v1;simp only[Ai,AlE]at h; omega
 clear h1 h4;simp only[pLe,iLen];refine λ_=>⟨⟨0,⟨by omega,by omega,rfl⟩,rfl⟩,?_⟩
 rintro k ⟨k0,k1,hk⟩ _;refine⟨λhlt=> ?_,λhge=> ?_⟩
 · simp only[bLt,AlE]at hlt;rw[Ou k0 hlt]at hk;generalize rGet xs k=x at*;have e1:(qi 0 x)=CJ x:=rfl;have e2:(qi 1 x)=CO x:=rfl;simp only[e1,e2];have no:CX x=false->false=CV bn bd pn pd dr ji xs:=λh=>Gu (.inr (.inr (.inr (.inr (.inr (by rw[←hk,Anb,h]; rfl))))));refine⟨⟨k0,hlt⟩,λ_=>⟨λq1=> ?_,λq1=>⟨λq2=> ?_,λq2=>⟨λq3=> ?_,λq3=>⟨λq4=> ?_,λq4=> ?_⟩⟩⟩⟩⟩
   · simp only[bLt,AlE]at q1;exact no (by simp only[CX,AlD]; omega)
   · simp only[bLt,AlE]at q2;exact no (by simp only[CX,AlD]; omega)
   · simp only[bLt,AlE]at q3;exact no (by simp only[CX,AlD]; omega)
   · simp only[bLt,AlE]at q4;exact no (by simp only[CX,AlD]; omega)
   · simp only[bLt,AlD]at q1 q2 q3 q4;have t:CX x=true:=by simp only[CX,AlE]; omega
     refine⟨by simp only[InR]; omega,k+1,⟨by omega,by omega,?_⟩,rfl,by omega⟩;rw[←hk,Anb,t]; rfl
 simp only[bLt,AlD]at hge;have hall:xs.all CX=true:=by
  rw[←hk,AlP (by omega)]; rfl
 rw[Xt v1 (by omega) (by omega) v4 (by omega) hall];refine λ_=>⟨⟨0,⟨by omega,by omega,rfl⟩,rfl⟩,?_⟩
 rintro i ⟨i0,i1,hi⟩ _;refine⟨λhlt=> ?_,λhge=> ?_⟩;rotate_left
 · simp only[bLt,AlD]at hge;rw[←hi,AlP (by omega)]; rfl
 simp only[bLt,AlE]at hlt;rw[Ou i0 hlt,LZ,←Ou i0 hlt]at hi;have hc:cutRows xs (some i) none=xs.drop i.toNat:=rfl;have hlen:((xs.drop i.toNat).length:Int)=(xs.length:Int)-i:=by rw[Amk]; omega
 simp only[hc,hlen,S9];refine⟨⟨i0,by omega⟩,λ_=>⟨⟨(0,0,0),⟨by simp only; omega,by simp only; omega,by simp only; omega,by simp only; omega,by simp only; omega,by simp only; omega,rfl⟩,rfl,rfl,rfl⟩,?_⟩⟩;have hin:∀y∈xs.drop i.toNat,CX y=true:=λy hy=>Al6.1 hall y (Al3 hy);generalize xs.drop i.toNat=ys at*;rintro⟨k,u,v⟩ ⟨k0,k1,u0,u1,w0,w1,hr⟩ _;simp only at k0 k1 u0 u1 w0 w1 hr ⊢;refine⟨λhlt=> ?_,λhge=> ?_⟩;rotate_left
 · simp only[bLt,AlD]at hge;refine⟨by simp only[InR]; omega,i+1,⟨by omega,by omega,?_⟩,rfl,by omega⟩;have e:ys.drop k.toNat=[]:=AlP (by omega);rw[←hi,←hr,e]; rfl
 simp only[bLt,AlE]at hlt;rw[Ou k0 (by omega)]at hr;have hx:CX (rGet ys k)=true:=hin _ (by
  simp only[rGet,List.getD_eq_getElem?_getD];rw[List.getElem?_eq_getElem (show k.toNat<ys.length by omega)];exact Anf _)
 generalize rGet ys k=x at*;have e1:(qi 0 x)=CJ x:=rfl;have e2:(qi 1 x)=CO x:=rfl;simp only[e1,e2];simp only[CX,AlE]at hx;simp only[NP]at hr;rw[BH (x:=CJ x) (by omega) (by omega),BH (x:=CO x) (by omega) (by omega),BH (x:=bn) (by omega) (by omega),BH (x:=bd) (by omega) (by omega),BH (x:=pd) (by omega) (by omega),BH (x:=pn) (by omega) (by omega),BH (x:=dr) (by omega) (by omega),BH (x:=ji) (by omega) (by omega),BH (x:=k+1) (by omega) (by omega)];obtain⟨a1,a2,a3,a4,a5,a6,a7,a8,a9,a10,a11,a12,a13,a14,a15,a16,a17,a18⟩:=Yj (bn:=bn) (bd:=bd) (pn:=pn) (pd:=pd) (dr:=dr) (ji:=ji) (m:=k+1) (u:=u+CJ x) (v:=v+CO x)
  hb.1 (by omega) hb.2 (by omega) (by omega) (by omega) (by omega) (by omega) (by omega) (by omega) (by omega) (by omega) (by omega) (by omega) (by omega) (by omega) (by omega) (by omega)
 have hok:TZ bn bd pn pd dr ji (k+1) (u+CJ x) (v+CO x)=(Ie ((u+CJ x)*bn*pd*65536) ((k+1)*pn*bd*65536) ((k+1)*pn*bd*dr+ji*bd*pd*65536)&&(Ie ((v+CO x)*bd*pd*65536) ((k+1)*pn*bd*65536) ((k+1)*pn*bd*dr+ji*bd*pd*65536)&&
  Ie ((u+CJ x)*bn*pd*65536) ((v+CO x)*bd*pd*65536) ((k+1)*pn*bd*dr+ji*bd*pd*65536))):=rfl
 rw[hok]at hr;clear hok;generalize (u+CJ x)*bn*pd*65536=U at*;generalize (v+CO x)*bd*pd*65536=V at*;generalize (k+1)*pn*bd*65536=N at*;generalize (k+1)*pn*bd*dr=A at*;generalize ji*bd*pd*65536=B at*;generalize (u+CJ x)*bn=U1 at*;generalize (v+CO x)*bd=V1 at*;generalize (k+1)*pn=N1 at*;generalize ji*bd=B1 at*;rw[Pq (n:=A) (by omega) (by omega),Pq (n:=B) (by omega) (by omega),Pq (n:=A+B) (by omega) (by omega),Pq (n:=U) (by omega) (by omega),Pq (n:=V) (by omega) (by omega),Pq (n:=N) (by omega) (by omega)];rw[QZ (x:=U) (y:=N) (z:=A+B) (by omega) (by omega) (by omega) (by omega) (by omega) (by omega),QZ (x:=V) (y:=N) (z:=A+B) (by omega) (by omega) (by omega) (by omega) (by omega) (by omega),QZ (x:=U) (y:=V) (z:=A+B) (by omega) (by omega) (by omega) (by omega) (by omega) (by omega)];generalize Ie U N (A+B)=p1 at*;generalize Ie V N (A+B)=p2 at*;generalize Ie U V (A+B)=p3 at*;simp only[InR];refine⟨⟨k0,by omega⟩,λ_=>⟨by omega,by omega,by omega,by omega,by omega,λ_=>⟨by omega,by omega,λ_=>⟨by omega,by omega,λ_=>⟨by omega,by omega,λ_=>⟨by omega,by omega,λ_ _=> ?_⟩⟩⟩⟩⟩⟩;have bad:(p1&&(p2&&p3))=false->false=LZ bn bd pn pd dr ji xs:=λh=>by rw[←hi,←hr,h]; rfl
 have good:(p1&&(p2&&p3))=true->NP bn bd pn pd dr ji (k+1) (u+CJ x) (v+CO x) (ys.drop (k+1).toNat)=NP bn bd pn pd dr ji 0 0 0 ys:=λh=>by rw[←hr,h]; rfl
 refine⟨λf1=>bad (by cases p1<;>simp_all),λf1=>⟨λf2=>bad (by cases p2<;>simp_all),λf2=>⟨λf3=>bad (by cases p3<;>simp_all),λf3=>⟨by omega,(k+1,u+CJ x,v+CO x),⟨by simp only; omega,by simp only; omega,by simp only; omega,by simp only; omega,by simp only; omega,by simp only; omega,good (by cases p1<;>cases p2<;>cases p3<;>simp_all)⟩,rfl,rfl,rfl,by simp only; omega⟩⟩⟩⟩
def r79:Cr PR:=K0 [r143,r144,r145,r146,r147] 79 6 {ps:=[(true,hII),(true,hII),(false,hI),(false,hI),(false,[.sl hII])],rs:=[(false,[.bool])],out:=λa=>[[.b (CV (AnF a) (AnH a) (AnG a) (AnJ a) (AnI a) (AnM a) (L a 4 0))]]} (λa=>A79 (AnF a) (AnH a) (AnG a) (AnJ a) (AnI a) (AnM a) (L a 4 0)) λa=>Y (v79 (AnF a) (AnH a) (AnG a) (AnJ a) (AnI a) (AnM a) (L a 4 0))
end Go.Sx
namespace Go
def Hg (L:Int):Int->List Int->Bool
 |_,[]=>true
 |s,a::bs=>decide (s+a<=L)&&Hg L (s+a) bs
def I5 (L:Int):List Int->Bool
 |[]=>true
 |a::bs=>Hg L 0 (a::bs)&&I5 L bs
def JY (L:Int):Int->Int->List Int->Bool
 |_,_,[]=>true
 |n,l,a::bs=>decide (n+a-min l (n+a)<=L)&&JY L (n+a) (min l (n+a)) bs
theorem NC {L:Int}:∀ {bs:List Int} {s t:Int},s<=t->Hg L t bs=true->Hg L s bs=true
 |[],_,_,_,_=>rfl
 |a::bs,s,t,h,p=>by
  simp only[Hg,AlG,AlE]at p ⊢;exact⟨by omega,NC (by omega) p.2⟩
theorem Uk {L:Int}:∀ {bs:List Int},I5 L bs=true->Hg L 0 bs=true
 |[],_=>rfl
 |a::bs,h=>by simp only[I5,AlG]at h; exact h.1
theorem Uh {L:Int} (hL:0<=L):∀ {bs:List Int} {n l:Int},l<=n->(JY L n l bs=true↔Hg L (n-l) bs=true/\I5 L bs=true)
 |[],_,_,_=>by simp[JY,Hg,I5]
 |a::bs,n,l,h=>by
  have ih:=Uh hL (bs:=bs) (n:=n+a) (l:=min l (n+a)) (by omega);simp only[JY,Hg,I5,AlG,AlE,ih];constructor
  · rintro⟨h1,h2,h3⟩;have b:Hg L (n-l+a) bs=true:=NC (by omega) h2;exact⟨⟨by omega,b⟩,⟨by omega,NC (by omega) b⟩,h3⟩
  · rintro⟨⟨h1,h2⟩,⟨h3,h4⟩,h5⟩;refine⟨by omega,?_,h5⟩;rcases Int.le_total l (n+a)with h6|h6
    · rw[Int.min_eq_left h6]; exact NC (by omega) h2
    · rw[Int.min_eq_right h6]; exact NC (by omega) (Uk h5)
theorem Xz {L:Int} (hL:0<=L) (bs:List Int):JY L 0 0 bs=I5 L bs:=by
 rw[Bool.eq_iff_iff,Uh hL (AlO 0)];exact⟨λh=>h.2,λh=>⟨Uk h,h⟩⟩
open Go.Sx
def JW (bn bd pn pd dr:Int) (g:Nat) (m u v:Int):Int:=
 match g with
 |0=>u*(bn*(pd*65536))-m*(pn*bd)*65536-m*(pn*bd*dr)
 |1=>m*(pn*bd)*65536-m*(pn*bd*dr)-u*(bn*(pd*65536))
 |2=>v*(bd*(pd*65536))-m*(pn*bd)*65536-m*(pn*bd*dr)
 |3=>m*(pn*bd)*65536-m*(pn*bd*dr)-v*(bd*(pd*65536))
 |4=>u*(bn*(pd*65536))-v*(bd*(pd*65536))-m*(pn*bd*dr)
 |_=>v*(bd*(pd*65536))-u*(bn*(pd*65536))-m*(pn*bd*dr)
theorem X5 (bn bd pn pd dr m u v:Int) (x:List C) (g:Nat):JW bn bd pn pd dr g (m+1) (u+CJ x) (v+CO x)=JW bn bd pn pd dr g m u v+BR bn bd pn pd dr g x:=by
 have e1:CJ x*bn*(pd*65536)=CJ x*(bn*(pd*65536)):=Am4 _ _ _;have e2:CO x*bd*(pd*65536)=CO x*(bd*(pd*65536)):=Am4 _ _ _;have e3:pn*bd*(65536+dr)=pn*bd*65536+pn*bd*dr:=Int.mul_add _ _ _;have e4:pn*bd*(65536-dr)=pn*bd*65536-pn*bd*dr:=Int.mul_sub _ _ _;unfold JW BR;rw[e1,e2,e3,e4];clear e1 e2 e3 e4;generalize bn*(pd*65536)=c1;generalize bd*(pd*65536)=c2;generalize pn*bd*dr=e;generalize pn*bd=W;generalize CJ x=p;generalize CO x=q;rw[Amt u p c1,Amt v q c2,Amt m 1 W,Amt m 1 e,AmR,AmR];rcases g with _|_|_|_|_|g<;>simp only<;>omega
theorem YF (bn bd pn pd dr ji m u v:Int):TZ bn bd pn pd dr ji m u v=
 (decide (JW bn bd pn pd dr 0 m u v<=bd*(pd*65536)*ji)&&(decide (JW bn bd pn pd dr 1 m u v<=bd*(pd*65536)*ji)&&(decide (JW bn bd pn pd dr 2 m u v<=bd*(pd*65536)*ji)&&
 (decide (JW bn bd pn pd dr 3 m u v<=bd*(pd*65536)*ji)&&(decide (JW bn bd pn pd dr 4 m u v<=bd*(pd*65536)*ji)&&decide (JW bn bd pn pd dr 5 m u v<=bd*(pd*65536)*ji)))))):=by
 have e1:u*bn*pd*65536=u*(bn*(pd*65536)):=by simp only[Am4]
 have e2:v*bd*pd*65536=v*(bd*(pd*65536)):=by simp only[Am4]
 have e3:m*pn*bd*65536=m*(pn*bd)*65536:=by simp only[Am4]
 have e4:m*pn*bd*dr=m*(pn*bd*dr):=by simp only[Am4]
 have e5:ji*bd*pd*65536=bd*(pd*65536)*ji:=by rw[Amo (bd*(pd*65536)) ji]; simp only[Am4]
 unfold TZ Ie;rw[e1,e2,e3,e4,e5];simp only[JW];generalize bd*(pd*65536)*ji=J;generalize u*(bn*(pd*65536))=U;generalize v*(bd*(pd*65536))=V;generalize m*(pn*bd*dr)=D;generalize m*(pn*bd)*65536=N;rw[Bool.eq_iff_iff];simp only[AlG,AlE];omega
theorem Ub (bn bd pn pd dr ji:Int):∀(xs:List (List C)) (m u v:Int),NP bn bd pn pd dr ji m u v xs=
 (Hg (bd*(pd*65536)*ji) (JW bn bd pn pd dr 0 m u v) (xs.map (BR bn bd pn pd dr 0))&&(Hg (bd*(pd*65536)*ji) (JW bn bd pn pd dr 1 m u v) (xs.map (BR bn bd pn pd dr 1))&&
 (Hg (bd*(pd*65536)*ji) (JW bn bd pn pd dr 2 m u v) (xs.map (BR bn bd pn pd dr 2))&&(Hg (bd*(pd*65536)*ji) (JW bn bd pn pd dr 3 m u v) (xs.map (BR bn bd pn pd dr 3))&&
 (Hg (bd*(pd*65536)*ji) (JW bn bd pn pd dr 4 m u v) (xs.map (BR bn bd pn pd dr 4))&&Hg (bd*(pd*65536)*ji) (JW bn bd pn pd dr 5 m u v) (xs.map (BR bn bd pn pd dr 5)))))))
 |[],m,u,v=>rfl
 |x::r,m,u,v=>by
  rw[NP,Ub bn bd pn pd dr ji r,YF];simp only[AmQ,Hg,X5];ac_rfl
theorem TL (bn bd pn pd dr ji:Int):∀(xs:List (List C)),LZ bn bd pn pd dr ji xs=
 (I5 (bd*(pd*65536)*ji) (xs.map (BR bn bd pn pd dr 0))&&(I5 (bd*(pd*65536)*ji) (xs.map (BR bn bd pn pd dr 1))&&(I5 (bd*(pd*65536)*ji) (xs.map (BR bn bd pn pd dr 2))&&
 (I5 (bd*(pd*65536)*ji) (xs.map (BR bn bd pn pd dr 3))&&(I5 (bd*(pd*65536)*ji) (xs.map (BR bn bd pn pd dr 4))&&I5 (bd*(pd*65536)*ji) (xs.map (BR bn bd pn pd dr 5)))))))
 |[]=>rfl
 |x::r=>by
  have z:∀g,JW bn bd pn pd dr g 0 0 0=0:=λg=>by unfold JW; split<;>simp
  rw[LZ,TL bn bd pn pd dr ji r,Ub];simp only[z,AmQ,I5];ac_rfl
theorem U0 (J:Int) (m:Nat->List C->Int):∀(xs:List (List C)) (s0 s1 s2 s3 s4 s5:Int×Int),Ot J m [s0,s1,s2,s3,s4,s5] xs=
 (xs.all CX&&(JY J s0.1 s0.2 (xs.map (m 0))&&(JY J s1.1 s1.2 (xs.map (m 1))&&(JY J s2.1 s2.2 (xs.map (m 2))&&(JY J s3.1 s3.2 (xs.map (m 3))&&(JY J s4.1 s4.2 (xs.map (m 4))&&JY J s5.1 s5.2 (xs.map (m 5))))))))
 |[],_,_,_,_,_,_=>rfl
 |x::r,s0,s1,s2,s3,s4,s5=>by
  simp only[Ot,Al2,AlU];rw[U0 J m r];simp only[AmQ,Anb,JY,Gf,Ap];ac_rfl
theorem WB (bn bd pn pd dr ji:Int) (xs:List (List C)):Dh bn bd pn pd dr ji xs=CV bn bd pn pd dr ji xs:=by
 unfold Dh CV
 cases h1:Ai bn bd
 · rfl
 cases h2:decide (bn<=768000/\bd<=768000)
 · rfl
 cases h3:Bv pn pd dr ji
 · rfl
 simp only[AlE]at h2;obtain⟨n1,n2,n3,n4,n5,n6,n7,n8,n9,n10,n11,n12,n13,n14,n15,n16,n17,n18,n19,n20⟩:=Sv h1 h2.1 h2.2 h3;congr 3;congr 1;unfold PW;rw[U0,TL];simp only[Xz n19]
end Go

