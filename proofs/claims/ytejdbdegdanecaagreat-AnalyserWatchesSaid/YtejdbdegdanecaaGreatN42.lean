import Derived.Test.YtejdbdegdanecaaGreatSxUse
import Derived.Test.YtejdbdegdanecaaGreatN28
import Derived.Test.YtejdbdegdanecaaGreatM28
set_option linter.unusedVariables false
set_option linter.unusedSimpArgs false
set_option maxRecDepth 100000
set_option maxHeartbeats 4000000
noncomputable section
namespace Go.Sx
def KN (u:List (Cr PR)) (f n:Nat) (ct:Ct) {t:TypeId} {e:List Sh} (A:List (List C)->FuncId->Nat->LoopAnn)
 (h:∀args,AdE (hyp (wfP.go (ofRess ct.ps args)) (vcF PR (look (tbR u)) (λ_=>false) (A args) n f (ofRess ct.ps args) [] λsv heap=>Ahg t e ((((ct.out args).headD []).headD default).list) sv heap)))
 (h1:∀args,∃y,(((ct.out args).headD []).headD default).list=[y]:=by exact λ_=>⟨_,rfl⟩)
 (hbx:ct.bx=none:=by rfl) (how:ct.ow=none:=by rfl) (hfr:ct.fr=some (t,e):=by rfl) (hfm:ct.fm=some .bx:=by rfl):Cr PR:=
 ⟨f,ct,Ahz Aa8 (AdQ u) (λ_=>false) A n f ct (λa=>⟨AiA (h a).out⟩) h1 hbx how hfr hfm⟩
end Go.Sx
namespace Go
open Go.Sx
def Aw (l:List (List C)) (k n:Int):Int:=if k<(l.length:Int)then qi 0 (rGet l k) % n else 0
def Aj (l:List (List C)) (k:Int):Int:=if k<(l.length:Int)then k+1 else k
def D8 (l:List (List C)) (k:Int):Nat->Int
 |0=>k
 |n+1=>Aj l (D8 l k n)
def TW:List (List C):=[[.s (ByteArray.mk (Array.mk [115,112,101,97,107,101,114,45,49]))],[.s (ByteArray.mk (Array.mk [104,101,97,100,115,101,116,45,50]))],[.s (ByteArray.mk (Array.mk [115,112,101,97,107,101,114]))]]
def PT:List (List C):=[[.l [[.i 48000,.i 48000]]],[.l [[.i 44100,.i 44100]]],[.l [[.i 44100,.i 48000]]]]
def P7:List (List C):=[[.l [[.l [[.i 1],[.i 2]]]]],[.l [[.l [[.i 3]]]]],[.l [[.l [[.i 3]]],[.l [[.i 1],[.i 2]]]]]]
def QS (l:List (List C)) (k id dir:Int):List C:=[.i id,.s (if dir=2 then ByteArray.mk (Array.mk [109,105,99,45,49])else qs 0 (rGet TW (Aw l k 3))),.i dir,.i 0,.i (Aw l (D8 l k 1) 100),.i (Aw l (D8 l k 2) 300),.i (1+Aw l (D8 l k 3) 3),.l [[.i 20,.l (ql 0 (rGet PT (Aw l (D8 l k 4) 3))),.l (ql 0 (rGet P7 (Aw l (D8 l k 5) 3))),.l [[.i 16,.i 4096]]]]]
def Jo (n i:Int):List (List C):=(List.range (i-1).toNat).map fun(k:Nat)=>[.i ((k:Int)+1)]
def NJ (n:Int):List (List C):=if n=1 then[[.i 3]]else if n<=8 then Jo n (n+1)else[]
def KQ (s i c:Int):Int:=if s<0∨1099511627776<s∨i<0∨1099511627776<i∨c<0∨7<c then 0 else((s*7919+i*104729+c*1299709) % 2001-1000)*256
def X4 (s f i c:Int):List C:=[.i (KQ s (f+i) c)]
def JM (s f i m:Int):List (List C):=(List.range m.toNat).map fun(c:Nat)=>X4 s f i c
def G8 (s f ch n:Int):List (List C):=(List.range n.toNat).flatMap fun(i:Nat)=>JM s f i ch
def Hy (s f ch n:Int):List C:=if 1<=ch/\ch<=8/\0<=n/\n<=65536 then[.i ch,.l (G8 s f ch n)]else[]
end Go
namespace Go.Sx
theorem v7 (l:List (List C)):WL hI l->Sm l/\Sm (0:Int):=by
 intro hw;exact⟨rfl,rfl⟩
def r7:Cr PR:=KN [] 7 6 {ps:=[(false,hL)],rs:=[],pre:=λ_=>True,out:=λa=>[[.l [[.l (L a 0 0),.i 0]]]],fr:=some (108,[.sl hI,.int .i64]),fm:=some .bx} U λa=>Y (v7 (L a 0 0))
end Go.Sx
namespace Go.Sx
theorem v8 (v:Int) (n:Int):InR .i64 v/\InR .i64 n->pLe 1 n/\True->pNe n 0/\Cn (bLt (iRem v n) 0) (InR .i64 (iAdd (iRem v n) n)/\iAdd (iRem v n) n=v % n) (iRem v n=v % n):=by
 intro hw hp;simp only[D,E];have n1:1<=n:=hp.1;have hi:=hw.2;have e:=Int.mul_tdiv_add_tmod v n;have e2:=Int.mul_ediv_add_emod v n;have c:=Int.tmod_lt_of_pos v (show 0<n by omega);have c2:=Int.lt_tmod_of_pos v (show 0<n by omega);have c3:v % n=if v.tmod n<0 then v.tmod n+n else v.tmod n:=by
  split
  · rename_i g;rw[←Int.emod_eq_of_lt (show 0<=v.tmod n+n by omega) (show v.tmod n+n<n by omega),Int.add_emod_right]
    conv=>lhs; rw[←e,Int.mul_add_emod_self_left]
  · rename_i g;rw[←Int.emod_eq_of_lt (show 0<=v.tmod n by omega) (show v.tmod n<n by omega)]
    conv=>lhs; rw[←e,Int.mul_add_emod_self_left]
 simp only[InR]at*;refine⟨by omega,λg=>⟨by omega,?_⟩,λg=> ?_⟩
 · rw[c3,if_pos g]
 · rw[c3,if_neg g]
def r8:Cr PR:=K [] 8 6 {ps:=[(false,hI),(false,hI)],rs:=[(false,hI)],pre:=λa=>pLe 1 (I a 1 0)/\True,out:=λa=>[[.i ((I a 0 0) % (I a 1 0))]]} U λa=>Y (v8 (I a 0 0) (I a 1 0))
end Go.Sx
namespace Go.Sx
theorem v11 (l:List (List C)) (k:Int) (n:Int):WL hI l/\InR .i64 k/\InR .i64 n->pLe 0 k/\pLe 1 n->pLe (iLen l) 9223372036854775807->True/\Cn (bNot (bLt k (iLen l))) (Sm l/\k=Aj l k/\0=Aw l k n) (InR .i64 (iAdd k 1)/\InR .i64 (iSub (iAdd k 1) 1)/\pIn 0 (iLen l) (iSub (iAdd k 1) 1)/\(InR .i64 (qi 0 (rGet l (iSub (iAdd k 1) 1)))->(pLe 1 n/\True)/\(InR .i64 (qi 0 (rGet l (iSub (iAdd k 1) 1)) % n)->Sm l/\iAdd k 1=Aj l k/\qi 0 (rGet l (iSub (iAdd k 1) 1)) % n=Aw l k n))):=by
 intro hw hp;simp only[D,E];obtain⟨wl,wk,wn⟩:=hw;obtain⟨k0,n1⟩:=hp;intro hl;refine⟨λh=>⟨?_,?_⟩,λh=> ?_⟩
 · unfold Aj; rw[if_neg (by omega)]
 · unfold Aw; rw[if_neg (by omega)]
 · have e:k+1-1=k:=by omega
   simp only[InR,e]at*;refine⟨by omega,by omega,by omega,λ_=>⟨by omega,λ_=>⟨?_,?_⟩⟩⟩
   · unfold Aj; rw[if_pos (by omega)]
   · unfold Aw; rw[if_pos (by omega)]
def r11:Cr PR:=KB [r8] 11 6 {ps:=[(false,hI)],rs:=[(false,hI)],pre:=λa=>pLe 0 (I a 0 1)/\pLe 1 (I a 1 0),out:=λa=>[[.l (L a 0 0),.i (Aj (L a 0 0) (I a 0 1))],[.i (Aw (L a 0 0) (I a 0 1) (I a 1 0))]],bx:=some (108,[.sl hI,.int .i64])} U λa=>Y (v11 (L a 0 0) (I a 0 1) (I a 1 0))
end Go.Sx
namespace Go.Sx
theorem v21 (l:List (List C)) (k:Int) (a:Int) (b:Int):WL hI l/\InR .i64 k/\InR .i64 a/\InR .i64 b->pLe 0 k/\pLe a b/\pLe (-1000000) a/\pLe b 1000000->InR .i64 (iSub b a)/\InR .i64 (iAdd (iSub b a) 1)/\(pLe 0 k/\pLe 1 (iAdd (iSub b a) 1))/\(InR .i64 (Aw l k (iAdd (iSub b a) 1))->InR .i64 (iAdd a (Aw l k (iAdd (iSub b a) 1)))/\Sm l/\Sm (Aj l k)/\iAdd a (Aw l k (iAdd (iSub b a) 1))=a+Aw l k (b-a+1)):=by
 intro hw hp;simp only[D,E];obtain⟨k0,ab,a0,b0⟩:=hp;have m0:0<=Aw l k (b-a+1):=by unfold Aw; split; exact Int.emod_nonneg _ (by omega); exact Int.le_refl _
 have m1:Aw l k (b-a+1)<b-a+1:=by unfold Aw; split; exact Int.emod_lt_of_pos _ (by omega); omega
 simp only[InR]at*;exact⟨by omega,by omega,by omega,λ_=>by omega⟩
def r21:Cr PR:=KB [r11] 21 6 {ps:=[(false,hI),(false,hI)],rs:=[(false,hI)],pre:=λa=>pLe 0 (I a 0 1)/\(pLe (I a 1 0) (I a 2 0)/\(pLe (-1000000) (I a 1 0)/\pLe (I a 2 0) 1000000)),out:=λa=>[[.l (L a 0 0),.i (Aj (L a 0 0) (I a 0 1))],[.i ((I a 1 0)+Aw (L a 0 0) (I a 0 1) ((I a 2 0)- (I a 1 0)+1))]],bx:=some (108,[.sl hI,.int .i64])} U λa=>Y (v21 (L a 0 0) (I a 0 1) (I a 1 0) (I a 2 0))
end Go.Sx
namespace Go.Sx
def Agn (x:List C) (ma:Int):List C:=(IA [C.i 4,C.i ma,C.l [[C.i 1],[C.i 2]],C.i 64] (ql 7 x))
theorem v50 (x:List C) (ma:Int):WD hD x/\InR .i64 ma->pLe (iLen [[C.i 1],[C.i 2]]) 1000/\(InR .i64 (qi 0 (Agn x ma))/\InR .i64 (qi 1 (Agn x ma))/\WL hI (ql 2 (Agn x ma))/\InR .i64 (qi 3 (Agn x ma))->qi 1 (Agn x ma)=qi 1 (Agn x ma)):=by
 intro hw;delta Agn;exact⟨by decide,λ_=>rfl⟩
def r50:Cr PR:=K0 [r17] 50 6 {ps:=[(true,hD),(false,hI)],rs:=[(false,hI)],pre:=λ_=>True,out:=λa=>[[.i (qi 1 (IA [.i 4,.i (I a 1 0),.l [[.i 1],[.i 2]],.i 64] (ql 7 (arg 0 a))))]]} U λa=>Y (v50 (arg 0 a) (I a 1 0))
end Go.Sx
namespace Go.Sx
theorem v49 (r:Int) (m:Int) (p:Int):InR .i64 r/\InR .i64 m/\InR .i64 p->pLe 0 r/\pLe r 2147483647/\pLe 0 m/\pLe m 192000/\pLe (-65536) p/\pLe p 65536->InR .i64 (iAdd 65536 p)/\InR .i64 (iMul r (iAdd 65536 p))/\InR .i64 (iMul m 65536)/\True/\(InR .i64 (Au (iMul r (iAdd 65536 p)) (iMul m 65536) (iMul r (iAdd 65536 p)))/\InR .i64 (Au (iMul r (iAdd 65536 p)) (iMul m 65536) (iMul m 65536))/\InR .i64 (BX (iMul r (iAdd 65536 p)) (iMul m 65536))->[[C.i 0,C.i (Au (iMul r (iAdd 65536 p)) (iMul m 65536) (iMul r (iAdd 65536 p))),C.i (Au (iMul r (iAdd 65536 p)) (iMul m 65536) (iMul m 65536))]]=[[C.i 0,C.i (Au (r*(65536+p)) (m*65536) (r*(65536+p))),C.i (Au (r*(65536+p)) (m*65536) (m*65536))]]):=by
 intro hw hp;simp only[D,E];obtain⟨r0,r1,m0,m1,p0,p1⟩:=hp;have a:=Int.mul_nonneg r0 (show 0<=65536+p by omega);have b:=Int.mul_le_mul r1 (show 65536+p<=131072 by omega) (by omega) (by omega);simp only[InR]at*;exact⟨by omega,by omega,by omega,λ_=>trivial⟩
def r49:Cr PR:=K [r100] 49 6 {ps:=[(false,hI),(false,hI),(false,hI)],rs:=[(true,[.sl hS])],pre:=λa=>pLe 0 (I a 0 0)/\(pLe (I a 0 0) 2147483647/\(pLe 0 (I a 1 0)/\(pLe (I a 1 0) 192000/\(pLe (-65536) (I a 2 0)/\pLe (I a 2 0) 65536)))),out:=λa=>[[.l [[.i 0,.i (Au ((I a 0 0)*(65536+(I a 2 0))) ((I a 1 0)*65536) ((I a 0 0)*(65536+(I a 2 0)))),.i (Au ((I a 0 0)*(65536+(I a 2 0))) ((I a 1 0)*65536) ((I a 1 0)*65536))]]]]} U λa=>Y (v49 (I a 0 0) (I a 1 0) (I a 2 0))
end Go.Sx

set_option linter.unusedVariables false
set_option linter.unusedSimpArgs false
set_option maxRecDepth 100000
set_option maxHeartbeats 4000000
namespace Go
open Go.Sx
def Aac (l:List (List C)) (k:Int) (x:List C):Int:=(0-qi 5 x).tdiv 2+Aw l k ((qi 5 x).tdiv 2- (0-qi 5 x).tdiv 2+1)
def LP (x:List C) (ma:Int):Int:=qi 1 (IA [.i 4,.i ma,.l [[.i 1],[.i 2]],.i 64] (ql 7 x))
def Wj (l:List (List C)) (k:Int) (x:List C) (ma:Int):Int:=LP x ma*(65536+Aac l k x)
def WA (l:List (List C)) (k:Int) (x:List C) (ma:Int):List (List C):=[[.i 0,.i (Au (Wj l k x ma) (ma*65536) (Wj l k x ma)),.i (Au (Wj l k x ma) (ma*65536) (ma*65536))]]
theorem HY {l:List (List C)} {k:Int} (h:0<=k):0<=Aj l k:=by unfold Aj; split<;>omega
theorem KY (l:List (List C)) (k:Int) {n:Int} (h:1<=n):0<=Aw l k n/\Aw l k n<n:=by
 unfold Aw; split
 · exact⟨Int.emod_nonneg _ (by omega),Int.emod_lt_of_pos _ (by omega)⟩
 · omega
end Go
namespace Go.Sx
def Acu (l:List (List C)) (k:Int):Int:=(Aj l (Aj l (Aj l (Aj l k))))
def Afd (l:List (List C)) (k:Int):Int:=(Aw l (Aj l (Acu l k)) 3)
theorem v16 (l:List (List C)) (k:Int) (id:Int) (dir:Int):WL hI l/\InR .i64 k/\InR .u64 id/\InR .i64 dir->pLe 0 k/\True->(pLe 0 k/\pLe 1 3)/\(InR .i64 (Aw l k 3)->pIn 0 (iLen TW) (Aw l k 3)/\(AiR (qs 0 (rGet TW (Aw l k 3)))->(pLe 0 (Aj l k)/\pLe 1 100)/\(InR .i64 (Aw l (Aj l k) 100)->(pLe 0 (Aj l (Aj l k))/\pLe 1 300)/\(InR .i64 (Aw l (Aj l (Aj l k)) 300)->(pLe 0 (Aj l (Aj l (Aj l k)))/\pLe 1 3/\pLe (-1000000) 1/\pLe 3 1000000)/\(InR .i64 (1+Aw l (Aj l (Aj l (Aj l k))) (3-1+1))->Cn (bEq dir 2) ((pLe 0 (Acu l k)/\pLe 1 3)/\(InR .i64 (Aw l (Acu l k) 3)->pIn 0 (iLen PT) (Aw l (Acu l k) 3)/\(WL (hI++(hI++[])) (ql 0 (rGet PT (Aw l (Acu l k) 3)))->(pLe 0 (Aj l (Acu l k))/\pLe 1 3)/\(InR .i64 (Afd l k)->pIn 0 (iLen P7) (Afd l k)/\(WL hL (ql 0 (rGet P7 (Afd l k)))->Sm l/\Aj l (Aj l (Acu l k))=D8 l k 6/\[C.i id,C.s (ByteArray.mk (Array.mk [109,105,99,45,49])),C.i dir,C.i 0,C.i (Aw l (Aj l k) 100),C.i (Aw l (Aj l (Aj l k)) 300),C.i (1+Aw l (Aj l (Aj l (Aj l k))) (3-1+1)),C.l [[C.i 20,C.l (ql 0 (rGet PT (Aw l (Acu l k) 3))),C.l (ql 0 (rGet P7 (Afd l k))),C.l [[C.i 16,C.i 4096]]]]]=sg 0 [0,2,0,0,0,0,0,3] (QS l k id dir)))))) ((pLe 0 (Acu l k)/\pLe 1 3)/\(InR .i64 (Aw l (Acu l k) 3)->pIn 0 (iLen PT) (Aw l (Acu l k) 3)/\(WL (hI++(hI++[])) (ql 0 (rGet PT (Aw l (Acu l k) 3)))->(pLe 0 (Aj l (Acu l k))/\pLe 1 3)/\(InR .i64 (Afd l k)->pIn 0 (iLen P7) (Afd l k)/\(WL hL (ql 0 (rGet P7 (Afd l k)))->Sm l/\Aj l (Aj l (Acu l k))=D8 l k 6/\[C.i id,C.s (qs 0 (rGet TW (Aw l k 3))),C.i dir,C.i 0,C.i (Aw l (Aj l k) 100),C.i (Aw l (Aj l (Aj l k)) 300),C.i (1+Aw l (Aj l (Aj l (Aj l k))) (3-1+1)),C.l [[C.i 20,C.l (ql 0 (rGet PT (Aw l (Acu l k) 3))),C.l (ql 0 (rGet P7 (Afd l k))),C.l [[C.i 16,C.i 4096]]]]]=sg 0 [0,2,0,0,0,0,0,3] (QS l k id dir))))))))))):=by
 intro hw hp;delta Acu Afd;obtain⟨k0,_⟩:=hp;have t1:=HY (l:=l) k0;have t2:=HY (l:=l) t1;have t3:=HY (l:=l) t2;have t4:=HY (l:=l) t3;have t5:=HY (l:=l) t4;have n0:=KY l k (n:=3) (by decide);have n5:=KY l (Aj l (Aj l (Aj l (Aj l k)))) (n:=3) (by decide);have n6:=KY l (Aj l (Aj l (Aj l (Aj l (Aj l k))))) (n:=3) (by decide);simp only[D,E];refine⟨⟨k0,by decide⟩,λ_=>⟨n0,λ_=>⟨⟨t1,by decide⟩,λ_=>⟨⟨t2,by decide⟩,λ_=>⟨⟨t3,by decide,by decide,by decide⟩,λ_=>⟨λh=>⟨⟨t4,by decide⟩,λ_=>⟨n5,λ_=>⟨⟨t5,by decide⟩,λ_=>⟨n6,λ_=>⟨rfl,?_⟩⟩⟩⟩⟩,λh=>⟨⟨t4,by decide⟩,λ_=>⟨n5,λ_=>⟨⟨t5,by decide⟩,λ_=>⟨n6,λ_=>⟨rfl,?_⟩⟩⟩⟩⟩⟩⟩⟩⟩⟩⟩
 · unfold QS; rw[if_pos h]; rfl
 · unfold QS; rw[if_neg h]; rfl
def r16:Cr PR:=KB [r11,r21,(mark 1000116),(mark 1000120),(mark 1000122)] 16 6 {ps:=[(false,[.int .u64]),(false,hI)],rs:=[(true,hD)],pre:=λa=>pLe 0 (I a 0 1)/\True,out:=λa=>[[.l (L a 0 0),.i (D8 (L a 0 0) (I a 0 1) 6)],rb [0,2,0,0,0,0,0,3] (QS (L a 0 0) (I a 0 1) (I a 1 0) (I a 2 0))],bx:=some (108,[.sl hI,.int .i64])} U λa=>Y (v16 (L a 0 0) (I a 0 1) (I a 1 0) (I a 2 0))
end Go.Sx
namespace Go.Sx
def Aki (l:List (List C)) (k:Int) (x:List C) (ma:Int):Int:=(Au (qi 1 (IA [C.i 4,C.i ma,C.l [[C.i 1],[C.i 2]],C.i 64] (ql 7 x))*(65536+(iQuo (iSub 0 (qi 5 x)) 2+Aw l k (iQuo (qi 5 x) 2-iQuo (iSub 0 (qi 5 x)) 2+1)))) (ma*65536) (qi 1 (IA [C.i 4,C.i ma,C.l [[C.i 1],[C.i 2]],C.i 64] (ql 7 x))*(65536+(iQuo (iSub 0 (qi 5 x)) 2+Aw l k (iQuo (qi 5 x) 2-iQuo (iSub 0 (qi 5 x)) 2+1)))))
def Akh (l:List (List C)) (k:Int) (x:List C) (ma:Int):Int:=(Au (qi 1 (IA [C.i 4,C.i ma,C.l [[C.i 1],[C.i 2]],C.i 64] (ql 7 x))*(65536+(iQuo (iSub 0 (qi 5 x)) 2+Aw l k (iQuo (qi 5 x) 2-iQuo (iSub 0 (qi 5 x)) 2+1)))) (ma*65536) (ma*65536))
theorem v19 (l:List (List C)) (k:Int) (x:List C) (ma:Int):WL hI l/\InR .i64 k/\WD hD x/\InR .i64 ma->pLe 0 k/\pLe 0 (qi 5 x)/\pLe (qi 5 x) 300/\pLe 0 ma/\pLe ma 192000/\pLe 0 (LP x ma)/\pLe (LP x ma) 2147483647->True/\(InR .i64 (LP x ma)->InR .i64 (iSub 0 (qi 5 x))/\(pNe 2 0/\InR .i64 (iQuo (iSub 0 (qi 5 x)) 2))/\(pNe 2 0/\InR .i64 (iQuo (qi 5 x) 2))/\(pLe 0 k/\pLe (iQuo (iSub 0 (qi 5 x)) 2) (iQuo (qi 5 x) 2)/\pLe (-1000000) (iQuo (iSub 0 (qi 5 x)) 2)/\pLe (iQuo (qi 5 x) 2) 1000000)/\(InR .i64 (iQuo (iSub 0 (qi 5 x)) 2+Aw l k (iQuo (qi 5 x) 2-iQuo (iSub 0 (qi 5 x)) 2+1))->(pLe 0 (LP x ma)/\pLe (LP x ma) 2147483647/\pLe 0 ma/\pLe ma 192000/\pLe (-65536) (iQuo (iSub 0 (qi 5 x)) 2+Aw l k (iQuo (qi 5 x) 2-iQuo (iSub 0 (qi 5 x)) 2+1))/\pLe (iQuo (iSub 0 (qi 5 x)) 2+Aw l k (iQuo (qi 5 x) 2-iQuo (iSub 0 (qi 5 x)) 2+1)) 65536)/\(WL hLm [[C.i 0,C.i (Aki l k x ma),C.i (Akh l k x ma)]]->Sm l/\Sm (Aj l k)/\[[C.i 0,C.i (Aki l k x ma),C.i (Akh l k x ma)]]=WA l k x ma))):=by
 intro hw hp;delta Aki Akh;obtain⟨k0,d0,d1,m0,m1,r0,r1⟩:=hp;have e1:(0-qi 5 x).tdiv 2= -((qi 5 x)/2):=by rw[Int.zero_sub,Int.neg_tdiv,Int.tdiv_eq_ediv_of_nonneg d0]
 have e2:(qi 5 x).tdiv 2=(qi 5 x)/2:=Int.tdiv_eq_ediv_of_nonneg d0;have n0:=KY l k (n:=(qi 5 x).tdiv 2- (0-qi 5 x).tdiv 2+1) (by rw[e1,e2]; omega);have hx:InR .i64 (qi 5 x):=hw.2.2.1.i 5;simp only[D,E];simp only[InR]at*;refine λ_=>⟨by omega,⟨by decide,by omega⟩,⟨by decide,by omega⟩,⟨k0,by omega,by omega,by omega⟩,λ_=>⟨⟨r0,r1,m0,m1,by omega,by omega⟩,λ_=>rfl⟩⟩
def r19:Cr PR:=KB [r50,r21,r49] 19 6 {ps:=[(true,hD),(false,hI)],rs:=[(true,[.sl hS])],pre:=λa=>pLe 0 (I a 0 1)/\(pLe 0 (qi 5 (arg 1 a))/\(pLe (qi 5 (arg 1 a)) 300/\(pLe 0 (I a 2 0)/\(pLe (I a 2 0) 192000/\(pLe 0 (LP (arg 1 a) (I a 2 0))/\pLe (LP (arg 1 a) (I a 2 0)) 2147483647))))),out:=λa=>[[.l (L a 0 0),.i (Aj (L a 0 0) (I a 0 1))],[.l (WA (L a 0 0) (I a 0 1) (arg 1 a) (I a 2 0))]],bx:=some (108,[.sl hI,.int .i64])} U λa=>Y (v19 (L a 0 0) (I a 0 1) (arg 1 a) (I a 2 0))
end Go.Sx

set_option linter.unusedVariables false
set_option linter.unusedSimpArgs false
set_option maxRecDepth 100000
set_option maxHeartbeats 4000000
namespace Go
open Go.Sx
def Sj (n z:Int):Prop:=1<=z/\(z=1∨n<=8/\z<=n+1)
theorem Aab (n:Int) {z:Int} (h:1<=z):Jo n (z+1)=Jo n z++[[.i z]]:=by
 unfold Jo;rw[show(z+1-1).toNat=(z-1).toNat+1 by omega,List.range_succ,List.map_append,List.map_singleton,show(((z-1).toNat:Nat):Int)+1=z by omega]
theorem Zx (s f i:Int) {c:Int} (h:0<=c):JM s f i (c+1)=JM s f i c++[X4 s f i c]:=by
 unfold JM;rw[show(c+1).toNat=c.toNat+1 by omega,List.range_succ,List.map_append,List.map_singleton,show((c.toNat:Nat):Int)=c by omega]
theorem WT (s f ch:Int) {i:Int} (h:0<=i):G8 s f ch (i+1)=G8 s f ch i++JM s f i ch:=by
 unfold G8;rw[show(i+1).toNat=i.toNat+1 by omega,List.range_succ,List.flatMap_append,List.flatMap_singleton,show((i.toNat:Nat):Int)=i by omega]
theorem WV (s f i m:Int):(JM s f i m).length=m.toNat:=by unfold JM; rw[List.length_map,List.length_range]
theorem ZE (s f ch:Int) (h:0<=ch) (n:Nat):((G8 s f ch n).length:Int)=n*ch:=by
 induction n with
 |zero=>simp[G8]
 |succ n ih=>rw[show((n+1:Nat):Int)=(n:Int)+1 from rfl,WT s f ch (by omega),List.length_append,Int.natCast_add,ih,WV,Int.add_mul]; omega
end Go
namespace Go.Sx
def A23 (n:Int):FuncId->Nat->LoopAnn:=λ_ _=> .ghost 3 hI 3 (.on (λsv0=>match sv0.tmps.getD 3 .undef with| .own rr _=> .inv Int (λz=>Sj n z) (λz=>[(4,.int .i64 z),(3,.own rr 0)]) (λz=>[(rr,.row hI 3 0 (Jo n z))]) [rr] [0,2,3,4,6,14] (λz=>(n+1-z).toNat)|_=> .unroll 0))
theorem v23 (n:Int):InR .i64 n->Cn (bEq n 1) ([[C.i 3]]=NJ n) ((∃(x:Int),Sj n x/\1=x/\[]=Jo n x)/\∀(x:Int),Sj n x->InR .i64 x/\WL hI (Jo n x)->Cn (bLe x n) (Cn (bLe n 8) (Aar 8 (iLen (Jo n x++[[C.i x]]))/\InR .i64 (iAdd x 1)/\Sm n/\∃(y:Int),Sj n y/\iAdd x 1=y/\Jo n x++[[C.i x]]=Jo n y/\nLt (n+1-y).toNat (n+1-x).toNat) (Jo n x=NJ n)) (Jo n x=NJ n)):=by
 intro hw;simp only[D,E];have no:n≠1->∀x,Sj n x->¬(x<=n/\n<=8)->Jo n x=NJ n:=λh x ⟨x1,a⟩ b=>by
  unfold NJ;rw[if_neg h];unfold Jo;split
  · rw[show(x-1).toNat=(n+1-1).toNat by omega]
  · rw[show(x-1).toNat=0 by omega]; rfl
 refine⟨λh=>by unfold NJ; rw[if_pos h],λh=>⟨⟨1,⟨Int.le_refl _,.inl rfl⟩,rfl,rfl⟩,λx hI _=>⟨λa=>⟨λb=> ?_,λb=>no h x hI (by omega)⟩,λa=>no h x hI (by omega)⟩⟩⟩;obtain⟨x1,c⟩:=hI;refine⟨?_,by simp only[InR]; omega,x+1,⟨by omega,.inr ⟨b,by omega⟩⟩,rfl,(Aab n x1).symm,by omega⟩;rw[List.length_append,List.length_singleton]; unfold Jo; rw[List.length_map,List.length_range]; omega
def r23:Cr PR:=K0 [] 23 6 {ps:=[(false,hI)],rs:=[(false,hL)],pre:=λ_=>True,out:=λa=>[[.l (NJ (I a 0 0))]]} (λa=>A23 (I a 0 0)) λa=>Y (v23 (I a 0 0))
end Go.Sx
namespace Go.Sx
theorem v63 (s:Int) (i:Int) (c:Int):InR .i64 s/\InR .i64 i/\InR .i64 c->Cn (bLt s 0) (0=KQ s i c) (Cn (bLt 1099511627776 s) (0=KQ s i c) (Cn (bLt i 0) (0=KQ s i c) (Cn (bLt 1099511627776 i) (0=KQ s i c) (Cn (bLt c 0) (0=KQ s i c) (Cn (bLt 7 c) (0=KQ s i c) (InR .i64 (iMul s 7919)/\InR .i64 (iMul i 104729)/\InR .i64 (iAdd (iMul s 7919) (iMul i 104729))/\InR .i64 (iMul c 1299709)/\InR .i64 (iAdd (iAdd (iMul s 7919) (iMul i 104729)) (iMul c 1299709))/\pNe 2001 0/\InR .i64 (iSub (iRem (iAdd (iAdd (iMul s 7919) (iMul i 104729)) (iMul c 1299709)) 2001) 1000)/\InR .i32 (iMul (Aaj .i32 (iSub (iRem (iAdd (iAdd (iMul s 7919) (iMul i 104729)) (iMul c 1299709)) 2001) 1000)) 256)/\iMul (Aaj .i32 (iSub (iRem (iAdd (iAdd (iMul s 7919) (iMul i 104729)) (iMul c 1299709)) 2001) 1000)) 256=KQ s i c)))))):=by
 intro hw;simp only[D,E];unfold KQ;refine⟨λh=>(if_pos (by omega)).symm,λ_=>⟨λh=>(if_pos (by omega)).symm,λ_=>⟨λh=>(if_pos (by omega)).symm,λ_=>⟨λh=>(if_pos (by omega)).symm,λ_=>⟨λh=>(if_pos (by omega)).symm,λ_=>⟨λh=>(if_pos (by omega)).symm,λ_=> ?_⟩⟩⟩⟩⟩⟩;have w:Aaj .i32 ((s*7919+i*104729+c*1299709) % 2001-1000)=(s*7919+i*104729+c*1299709) % 2001-1000:=InR.wrap (by simp only[InR]; omega);rw[if_neg (by omega),Int.tmod_eq_emod_of_nonneg (show 0<=s*7919+i*104729+c*1299709 by omega),w];simp only[InR];exact⟨by omega,by omega,by omega,by omega,by omega,by decide,by omega,by omega,trivial⟩
def r63:Cr PR:=K0 [] 63 6 {ps:=[(false,hI),(false,hI),(false,hI)],rs:=[(false,hW)],pre:=λ_=>True,out:=λa=>[[.i (KQ (I a 0 0) (I a 1 0) (I a 2 0))]]} U λa=>Y (v63 (I a 0 0) (I a 1 0) (I a 2 0))
end Go.Sx
namespace Go.Sx
def A26 (s:Int) (f:Int) (ch:Int) (n:Int):FuncId->Nat->LoopAnn:=λ_ ii=>bif Nat.beq ii 5 then .ghostB 9 1 hW 21 (.inv Int (λz=>Bh n z) (λz=>[(10,.int .i64 z)]) (λz=>[(1,.box [.int .i64 ch,.own 2 0] 95),(2,.row hW 21 0 (G8 s f ch z))]) [1,2] [0,1,2,3,8,9,10,11,25,31,36] (λz=>(n-z).toNat))else .on (λsv0=>match sv0.tmps.getD 10 .undef with| .int _ zi=> .inv Int (λz=>Bh ch z) (λz=>[(11,.int .i64 z)]) (λz=>[(1,.box [.int .i64 ch,.own 2 0] 95),(2,.row hW 21 0 (G8 s f ch zi++JM s f zi z))]) [1,2] [0,1,2,3,8,9,10,11,25,31,36] (λz=>(ch-z).toNat)|_=> .unroll 0)
theorem v26 (s:Int) (f:Int) (ch:Int) (n:Int):InR .i64 s/\InR .i64 f/\InR .i64 ch/\InR .i64 n->pLe (-1152921504606846976) f/\pLe f 1152921504606846976->Cn (bLt ch 1) (0=qi 0 (Hy s f ch n)/\[]=ql 1 (Hy s f ch n)) (Cn (bLt 8 ch) (0=qi 0 (Hy s f ch n)/\[]=ql 1 (Hy s f ch n)) (Cn (bLt n 0) (0=qi 0 (Hy s f ch n)/\[]=ql 1 (Hy s f ch n)) (Cn (bLt 65536 n) (0=qi 0 (Hy s f ch n)/\[]=ql 1 (Hy s f ch n)) ((∃(x:Int),Bh n x/\0=x/\Sm ch/\[]=G8 s f ch x)/\∀(x:Int),Bh n x->InR .i64 x/\InR .i64 ch/\WL hW (G8 s f ch x)->Cn (bLt x n) ((∃(x_1:Int),Bh ch x_1/\0=x_1/\Sm ch/\G8 s f ch x=G8 s f ch x++JM s f x x_1)/\∀(x_1:Int),Bh ch x_1->InR .i64 x_1/\InR .i64 ch/\WL hW (G8 s f ch x++JM s f x x_1)->Cn (bLt x_1 ch) (InR .i64 (iAdd f x)/\True/\(InR .i32 (KQ s (iAdd f x) x_1)->Aar 4 (iLen (G8 s f ch x++JM s f x x_1++[[C.i (KQ s (iAdd f x) x_1)]]))/\InR .i64 (iAdd x_1 1)/\Sm s/\Sm f/\Sm ch/\Sm n/\Sm x/\∃(y:Int),Bh ch y/\iAdd x_1 1=y/\Sm ch/\G8 s f ch x++JM s f x x_1++[[C.i (KQ s (iAdd f x) x_1)]]=G8 s f ch x++JM s f x y/\nLt (ch-y).toNat (ch-x_1).toNat)) (InR .i64 (iAdd x 1)/\Sm s/\Sm f/\Sm ch/\Sm n/\∃(y:Int),Bh n y/\iAdd x 1=y/\Sm ch/\G8 s f ch x++JM s f x x_1=G8 s f ch y/\nLt (n-y).toNat (n-x).toNat)) (ch=qi 0 (Hy s f ch n)/\G8 s f ch x=ql 1 (Hy s f ch n)))))):=by
 intro hw hp;simp only[D,E];obtain⟨f0,f1⟩:=hp;have no:¬(1<=ch/\ch<=8/\0<=n/\n<=65536)->0=qi 0 (Hy s f ch n)/\[]=ql 1 (Hy s f ch n):=λh=>by
  unfold Hy; rw[if_neg h]; exact⟨rfl,rfl⟩
 refine⟨λh=>no (by omega),λh1=>⟨λh=>no (by omega),λh2=>⟨λh=>no (by omega),λh3=>⟨λh=>no (by omega),λh4=> ?_⟩⟩⟩⟩;refine⟨⟨0,⟨Int.le_refl _,by omega⟩,rfl,rfl⟩,λx ⟨x0,x1⟩ _=>⟨λa=>⟨⟨0,⟨Int.le_refl _,by omega⟩,rfl,(List.append_nil _).symm⟩,λc ⟨c0,c1⟩ _=>⟨λb=>⟨by simp only[InR]; omega,λ_=>⟨?_,by simp only[InR]; omega,c+1,⟨by omega,by omega⟩,rfl,?_,by omega⟩⟩,λb=>⟨by simp only[InR]; omega,x+1,⟨by omega,by omega⟩,rfl,?_,by omega⟩⟩⟩,λa=> ?_⟩⟩
 · have q:=ZE s f ch (by omega) x.toNat;rw[show((x.toNat:Nat):Int)=x by omega]at q;have r:=Int.mul_le_mul (show x<=65536 by omega) (show ch<=8 by omega) (by omega) (by omega);rw[List.length_append,List.length_append,List.length_singleton,WV]; omega
 · rw[Zx s f x c0,List.append_assoc]; rfl
 · rw[WT s f ch x0,show c=ch by omega]
 · unfold Hy; rw[if_pos ⟨by omega,by omega,by omega,by omega⟩,show x=n by omega]; exact⟨rfl,rfl⟩
def r26:Cr PR:=K [r63] 26 8 {ps:=[(false,hI),(false,hI),(false,hI),(false,hI)],rs:=[(true,hK)],pre:=λa=>pLe (-1152921504606846976) (I a 1 0)/\pLe (I a 1 0) 1152921504606846976,out:=λa=>[rb [0,3] (Hy (I a 0 0) (I a 1 0) (I a 2 0) (I a 3 0))]} (λa=>A26 (I a 0 0) (I a 1 0) (I a 2 0) (I a 3 0)) λa=>Y (v26 (I a 0 0) (I a 1 0) (I a 2 0) (I a 3 0))
end Go.Sx

set_option linter.unusedVariables false
set_option linter.unusedSimpArgs false
set_option maxRecDepth 100000
set_option maxHeartbeats 4000000
namespace Go.Sx
abbrev hCp:List Sh:=[.int .u64,.int .i64,.sl hW]
end Go.Sx
namespace Go
open Go.Sx
def XN (e o:List C) (n:Int):List C:=Hy (Aaj .i64 (qi 0 o)) (qi 2 e*100) (iLen (ql 10 o)) n
def ZV (e o:List C) (n:Int):List C:=[.i (qi 0 o),.i (qi 0 (XN e o n)),.l (ql 1 (XN e o n))]
def QB (e:List C) (i:Int):List (List C):=if qi 2 (rGet (ql 3 e) i)=2 then[ZV e (rGet (ql 3 e) i) (qi 0 (rGet (I7 e) i))]else[]
def Ip (e:List C) (n:Int):List (List C):=(List.range n.toNat).flatMap fun(i:Nat)=>QB e i
def Gs (e:List C):List (List C):=if Hf e=0 then Ip e ((ql 3 e).length:Int)else[]
def QM (e:List C) (z:Int):Prop:=Bh ((ql 3 e).length:Int) z/\(Hf e≠0->z=0)
theorem WZ (e:List C) {i:Int} (h:0<=i):Ip e (i+1)=Ip e i++QB e i:=by
 unfold Ip;rw[show(i+1).toNat=i.toNat+1 by omega,List.range_succ,List.flatMap_append,List.flatMap_singleton,show((i.toNat:Nat):Int)=i by omega]
theorem ZH (e:List C) (n:Nat):(Ip e n).length<=n:=by
 induction n with
 |zero=>simp[Ip]
 |succ n ih=>
  rw[show((n+1:Nat):Int)=(n:Int)+1 from rfl,WZ e (by omega),List.length_append]
  have:(QB e n).length<=1:=by unfold QB; split<;>simp
  omega
end Go
namespace Go.Sx
def A29 (e:List C):FuncId->Nat->LoopAnn:=λ_ _=> .ghost 5 hCp 176 (.on (λsv0=>match sv0.tmps.getD 5 .undef with| .own rr _=> .inv Int (λz=>QM e z) (λz=>[(6,.int .i64 z),(5,.own rr 0)]) (λz=>[(rr,.row hCp 176 0 (Ip e z))]) [rr] [0,1,2,3,4,5,6,7,21,33] (λz=>(ql 3 e).length-z.toNat)|_=> .unroll 0))
def Ah0 (e:List C) (x:Int):List C:=(Hy (Aaj .i64 (qi 0 (rGet (ql 3 e) x))) (iMul (qi 2 e) 100) (iLen (ql 10 (rGet (ql 3 e) x))) (qi 0 (rGet (I7 e) x)))
theorem v29 (e:List C):WD hE e->True/\(WL hI (I7 e)/\InR .i64 (Hf e)->(∃(x:Int),QM e x/\0=x/\[]=Ip e x)/\∀(x:Int),QM e x->InR .i64 x/\WL hCp (Ip e x)->pLe (iLen (ql 3 e)) 9223372036854775807->Cn (bLt x (iLen (ql 3 e))) (Cn (bEq (Hf e) 0) (pIn 0 (iLen (ql 3 e)) x/\(WD hD (rGet (ql 3 e) x)->Cn (bEq (qi 2 (rGet (ql 3 e) x)) 2) (InR .i64 (iMul (qi 2 e) 100)/\pIn 0 (iLen (ql 3 e)) x/\(WD hOu (rGet (ql 3 e) x)->True/\(WL hI (ql 10 (rGet (ql 3 e) x))->pLe (iLen (ql 10 (rGet (ql 3 e) x))) 9223372036854775807->pIn 0 (iLen (I7 e)) x/\(InR .i64 (qi 0 (rGet (I7 e) x))->(pLe (-1152921504606846976) (iMul (qi 2 e) 100)/\pLe (iMul (qi 2 e) 100) 1152921504606846976)/\(InR .i64 (qi 0 (Ah0 e x))/\WL hW (ql 1 (Ah0 e x))->Aar 40 (iLen (Ip e x++[C.i (qi 0 (rGet (ql 3 e) x))::sg 0 [0,3] (Ah0 e x)]))/\InR .i64 (iAdd x 1)/\Sm (sg 0 [0,0,0,3,3] e)/\Sm (I7 e)/\Sm (Hf e)/\Sm (sg 0 [0,0,0,3,3] e)/\∃(y:Int),QM e y/\iAdd x 1=y/\Ip e x++[C.i (qi 0 (rGet (ql 3 e) x))::sg 0 [0,3] (Ah0 e x)]=Ip e y/\nLt ((ql 3 e).length-y.toNat) ((ql 3 e).length-x.toNat)))))) (InR .i64 (iAdd x 1)/\Sm (sg 0 [0,0,0,3,3] e)/\Sm (I7 e)/\Sm (Hf e)/\Sm (sg 0 [0,0,0,3,3] e)/\∃(y:Int),QM e y/\iAdd x 1=y/\Ip e x=Ip e y/\nLt ((ql 3 e).length-y.toNat) ((ql 3 e).length-x.toNat)))) (Ip e x=Gs e)) (Ip e x=Gs e)):=by
 intro hw;delta Ah0;simp only[D,E];have no:Hf e≠0->∀x,QM e x->Ip e x=Gs e:=λh x hI=>by
  unfold Gs; rw[if_neg h,hI.2 h]; rfl
 refine λ_=>⟨⟨0,⟨⟨Int.le_refl _,by omega⟩,λ_=>rfl⟩,rfl,rfl⟩,λx hI _ _=>⟨λhl=>⟨λe0=> ?_,λh=>no h x hI⟩,λhl=> ?_⟩⟩
 · obtain ⟨⟨x0, x1⟩, x2⟩ := hI;have v : BH e = true := by
    cases h:BH e with
    |true=>rfl
    |false=>rw[show Hf e=1 from if_pos h]at e0; omega
   have b:=Rt v;have b1:=(Lp v).1;have q2:=UZ (pe:=qi 1 e) (by omega);have c0:0<=qi 2 e:=by omega
   have c1:qi 2 e<=1099511627776:=by have:=Int.mul_le_mul_of_nonneg_left (show 1<=qi 1 e by omega) c0; omega
   have ul:((I7 e).length:Int)=(ql 3 e).length:=by
    unfold I7; rw[if_pos e0]; unfold Me; rw[List.length_map,List.length_take]; omega
   have hr:InR .i64 (x+1):=by simp only[InR]; omega
   have ts:=WZ e x0;refine⟨⟨x0,hl⟩,λ_=>⟨λd2=>⟨by simp only[InR]; omega,⟨x0,hl⟩,λ_ _ _=>⟨⟨x0,by omega⟩,λ_=>⟨⟨by omega,by omega⟩,λ_=>⟨?_,hr,x+1,⟨⟨by omega,by omega⟩,λh=>absurd e0 h⟩,rfl,?_,by omega⟩⟩⟩⟩,λd2=>⟨hr,x+1,⟨⟨by omega,by omega⟩,λh=>absurd e0 h⟩,rfl,?_,by omega⟩⟩⟩
   · have:=ZH e x.toNat;rw[show((x.toNat:Nat):Int)=x by omega]at this;rw[List.length_append,List.length_singleton]; omega
   · rw[ts]; unfold QB; rw[if_pos d2]; rfl
   · rw[ts]; unfold QB; rw[if_neg d2,List.append_nil]
 · by_cases h:Hf e=0
   · unfold Gs; rw[if_pos h,show x=((ql 3 e).length:Int) by have:=hI.1.2; omega]
   · exact no h x hI
def r29:Cr PR:=K0 [r70,r71,r26] 29 8 {ps:=[(true,hE)],rs:=[(false,[.sl hCp])],pre:=λ_=>True,out:=λa=>[[.l (Gs (arg 0 a))]]} (λa=>A29 (arg 0 a)) λa=>Y (v29 (arg 0 a))
end Go.Sx

set_option linter.unusedVariables false
set_option linter.unusedSimpArgs false
set_option maxRecDepth 100000
set_option maxHeartbeats 4000000
namespace Go.Sx
abbrev hDk:List Sh:=[.sl hI,.int .i64]
end Go.Sx
namespace Go
open Go.Sx
def Gp:List (List C):=[[.i 48000],[.i 44100]]
def FH:List (List C):=[[.i 16],[.i 32]]
def Ul:List (List C):=[[.i 8388607],[.i 65536]]
def UO:List (List C):=[[.i 48000],[.i 24000],[.i 44100]]
def UY (l:List (List C)) (k:Int):List C:=I4 (qi 0 (rGet Gp (Aw l k 2))) (qi 0 (rGet FH (Aw l (Aj l k) 2)))
def KL (l:List (List C)) (k id:Int):List C:=QS l (Aj l k) id (1+(Aaj .i64 id).tdiv 3)
def LG (l:List (List C)) (k id:Int) (e:List C):List C:=IA [.i 4,.i (qi 0 e),.l [[.i 1],[.i 2]],.i 64] (ql 7 (KL l k id))
def Wv (l:List (List C)) (k id:Int) (e:List C):List (List C):=WA l (D8 l (Aj l k) 6) (KL l k id) (qi 0 e)
def WB (l:List (List C)) (k id:Int) (e:List C):List C:=IL (KL l k id) (qi 0 (LG l k id e)) (qi 1 (LG l k id e)) (ql 2 (LG l k id e)) (qi 3 (LG l k id e)) (Wv l k id e) (qi 0 e) (qi 1 e)
def UJ (l:List (List C)) (k id:Int) (e:List C):Int:=Gz (KL l k id) (qi 0 (LG l k id e)) (qi 1 (LG l k id e)) (ql 2 (LG l k id e)) (qi 3 (LG l k id e)) (Wv l k id e) (qi 0 e) (qi 1 e)
def NG (l:List (List C)) (k id:Int) (e:List C):List C:=KW e (WB l k id e) (qi 0 (rGet Ul (Aw l (Aj l (D8 l (Aj l k) 6)) 2))) 100 65536
def FB (l:List (List C)) (k id:Int) (e:List C):Int×List C:=
 if Aw l k 3=0 then(Aj l k,e)else
 if UJ l k id e=0 then(D8 l k 9,NG l k id e)else(D8 l k 8,e)
def Gu (l:List (List C)) (k:Int):Nat->Int×List C
 |0=>(D8 l k 2,UY l k)
 |n+1=>FB l (Gu l k n).1 (n+1) (Gu l k n).2
def O8 (l:List (List C)) (k:Int) (z:Int×Int×List C):Prop:=1<=z.1/\z.1<=4/\z.2=Gu l k (z.1-1).toNat
def Qb (l:List (List C)) (k id:Int) (e:List C):List C:=JJ e id (1+id.tdiv 3) (NJ (1+Aw l (Aj l k) (3-1+1))) (qi 0 (rGet UO (Aw l (Aj l (Aj l k)) 3))) 400 2
def QP (l:List (List C)) (k:Int):Int:=Aaj .u64 (Aw l (Aj l (Aj l (Aj l k))) 4)
def O0 (l:List (List C)) (k id:Int) (e:List C):List C:=if IX (Qb l k id e) id (QP l k)=0 then J4 (Qb l k id e) id (QP l k)else Qb l k id e
def JI (l:List (List C)) (k id:Int):List C:=Hy id 0 (1+Aw l (Aj l k) (3-1+1)) (Aw l (Aj l (Aj l (Aj l (Aj l k)))) 300)
def Nw (l:List (List C)) (k id:Int) (e:List C):List C:=if 1+id.tdiv 3=1 then KO (O0 l k id e) id (qi 0 (JI l k id)) (ql 1 (JI l k id))else O0 l k id e
def SK (l:List (List C)) (k id:Int) (e:List C):List C:=if FX (Nw l k id e) id 1=0 then GI (Nw l k id e) id 1 else Nw l k id e
def MM (l:List (List C)) (k id:Int) (e:List C):Int×List C:=if Aw l k 4=0 then(Aj l k,e)else(if 1+id.tdiv 3=1 then D8 l k 5 else D8 l k 4,SK l k id e)
def Fh (l:List (List C)) (k:Int):Nat->Int×List C
 |0=>Gu l k 3
 |n+1=>MM l (Fh l k n).1 (n+1) (Fh l k n).2
def Il (l:List (List C)) (k:Int) (z:Int×Int×List C):Prop:=1<=z.1/\z.1<=4/\z.2=Fh l k (z.1-1).toNat
def NF (e:List C):List C:=if Gv e (Gs e)=0 then Iy e (Gs e)else e
def Qd (e:List C):Nat->List C
 |0=>e
 |n+1=>NF (Qd e n)
def NZ (l:List (List C)) (k:Int):Int:=Aw l (Fh l k 3).1 4
def Tc (l:List (List C)) (k:Int) (z:Int×List C):Prop:=0<=z.1/\z.1<=NZ l k/\z.2=Qd (Fh l k 3).2 (NZ l k-z.1).toNat
def MK (l:List (List C)) (k:Int):Int:=Aj l (Fh l k 3).1
def EO (l:List (List C)) (k:Int):List C:=Qd (Fh l k 3).2 (NZ l k).toNat
end Go
namespace Go
open Go.Sx
theorem WR {f:List C->Bool} {g:List C->List C->Bool}:∀ {xs:List (List C)} {o:Option (List C)},JF f g o xs=true->∀x∈xs,f x=true
 |[],_,_,_,h=>by cases h
 |y::r,o,h,x,hx=>by
  simp only[JF,Bool.and_eq_true]at h;rcases List.mem_cons.1 hx with rfl|hx
  · exact h.1.1
  · exact WR h.2 x hx
theorem AiF {P:List C->Prop} {f:List C->List C->List C}:∀ {xs:List (List C)} {a:List C},P a->(∀a,∀x∈xs,P a->P (f a x))->P (xs.foldl f a)
 |[],_,ha,_=>ha
 |x::r,a,ha,h=>AiF (xs:=r) (h a x List.mem_cons_self ha) λb y hy hb=>h b y (List.mem_cons_of_mem _ hy) hb
theorem Zw (xs:List (List C)) (n:Int):0<=qi 0 (F8 xs n)/\qi 0 (F8 xs n)<=2147483647:=by
 refine AiF (P:=λs=>0<=qi 0 s/\qi 0 s<=2147483647) ⟨by decide,by decide⟩ λs x hx hs=> ?_;have h:EQ x=true:=by
  unfold AA at hx
  cases hv:DF xs
  · rw[hv]at hx; cases hx
  · rw[hv]at hx;unfold DF at hv;rw[Bool.and_eq_true]at hv;exact WR hv.1 x hx
 have h:=of_decide_eq_true h;unfold Uo;split
 · show 0<=max (qi 0 x) (min (qi 1 x) n)/\max (qi 0 x) (min (qi 1 x) n)<=_;omega
 · exact hs
theorem ZK (w:List C) (l:List (List C)):0<=qi 1 (IA w l)/\qi 1 (IA w l)<=2147483647:=by
 refine AiF (P:=λs=>0<=qi 1 s/\qi 1 s<=2147483647) ⟨by decide,by decide⟩ λs x hx hs=> ?_;unfold Uj;split
 · exact Zw (ql 1 x) (qi 1 w)
 · exact hs
theorem ZC (r p:Int):0<=qi 0 (I4 r p)/\qi 0 (I4 r p)<=192000:=by
 unfold I4 LQ;by_cases g:8000<=r/\r<=192000/\16<=p/\p<=8192
 · rw[if_pos g,if_pos rfl]; show 0<=r/\r<=192000; omega
 · rw[if_neg g,if_neg (by decide)]; exact⟨by decide,by decide⟩
theorem Zy (l:List (List C)) (k:Int) (n:Nat):0<=qi 0 (Gu l k n).2/\qi 0 (Gu l k n).2<=192000:=by
 induction n with
 |zero=>exact ZC _ _
 |succ n ih=>
  show 0<=qi 0 (FB l (Gu l k n).1 (n+1) (Gu l k n).2).2/\qi 0 (FB l (Gu l k n).1 (n+1) (Gu l k n).2).2<=192000
  generalize Gu l k n=z at*
  unfold FB
  split
  · exact ih
  · split
    · show 0<=qi 0 (NG l z.1 (n+1) z.2)/\qi 0 (NG l z.1 (n+1) z.2)<=192000
      unfold NG KW
      split
      · exact ih
      · exact⟨by decide,by decide⟩
    · exact ih
theorem PV {l:List (List C)} {k:Int} (h:0<=k):∀n,0<=D8 l k n
 |0=>h
 |n+1=>HY (PV h n)
theorem WU (l:List (List C)) {k:Int} (h:0<=k) (n:Nat):0<=(Gu l k n).1:=by
 induction n with
 |zero=>exact PV h 2
 |succ n ih=>
  show 0<=(FB l (Gu l k n).1 (n+1) (Gu l k n).2).1
  generalize Gu l k n=z at*
  unfold FB
  split
  · exact HY ih
  · split
    · exact PV ih 9
    · exact PV ih 8
theorem Vh (l:List (List C)) {k:Int} (h:0<=k) (n:Nat):0<=(Fh l k n).1:=by
 induction n with
 |zero=>exact WU l h 3
 |succ n ih=>
  show 0<=(MM l (Fh l k n).1 (n+1) (Fh l k n).2).1
  generalize Fh l k n=z at*
  unfold MM
  split
  · exact HY ih
  · dsimp only
    split
    · exact PV ih 5
    · exact PV ih 4
end Go
namespace Go.Sx
def A6 (l:List (List C)) (k:Int):FuncId->Nat->LoopAnn:=λ_ ii=>bif Nat.beq ii 3 then .on (λsv0=>match sv0.tmps.getD 3 .undef with| .ref kk _=> .inv (Int×Int×List C) (λz=>O8 l k z) (λz=>[(5,.int .u64 z.1)]) (λz=>[(0,.box (ofCs hDk [.l l,.i z.2.1]) 108),(kk,.box (ofCs hE z.2.2) 27)]) [0,kk] [0,2,3,5,6,7,9,10,11,12,13,14,15,16,17,18,20,21,37,42,77,91,96,126,129,148,153,165] (λz=>(4-z.1).toNat)|_=> .unroll 0)else bif Nat.beq ii 12 then .on (λsv0=>match sv0.tmps.getD 3 .undef with| .ref kk _=> .inv (Int×Int×List C) (λz=>Il l k z) (λz=>[(11,.int .i64 z.1)]) (λz=>[(0,.box (ofCs hDk [.l l,.i z.2.1]) 108),(kk,.box (ofCs hE z.2.2) 27)]) [0,kk] [0,2,3,5,6,7,9,10,11,12,13,14,15,16,17,18,20,21,37,42,77,91,96,126,129,148,153,165] (λz=>(4-z.1).toNat)|_=> .unroll 0)else .on (λsv0=>match sv0.tmps.getD 3 .undef with| .ref kk _=> .inv (Int×List C) (λz=>Tc l k z) (λz=>[(18,.int .i64 z.1)]) (λz=>[(kk,.box (ofCs hE z.2) 27)]) [kk] [0,2,3,5,6,7,9,10,11,12,13,14,15,16,17,18,20,21,37,42,77,91,96,126,129,148,153,165] (λz=>z.1.toNat)|_=> .unroll 0)
def m6_0 (l:List (List C)) (x_1:Int×Int×List C):List C:=(KO (J4 (Qb l x_1.2.1 x_1.1 x_1.2.2) x_1.1 (QP l x_1.2.1)) x_1.1 (qi 0 (JI l x_1.2.1 x_1.1)) (ql 1 (JI l x_1.2.1 x_1.1)))
def m6_1 (l:List (List C)) (x_1:Int×Int×List C):List C:=(J4 (Qb l x_1.2.1 x_1.1 x_1.2.2) x_1.1 (QP l x_1.2.1))
def m6_2 (l:List (List C)) (x_1:Int×Int×List C):List C:=(Qb l x_1.2.1 x_1.1 x_1.2.2)
def m6_3 (l:List (List C)) (x_1:Int×Int×List C):List C:=(KO (m6_2 l x_1) x_1.1 (qi 0 (JI l x_1.2.1 x_1.1)) (ql 1 (JI l x_1.2.1 x_1.1)))
def m6_4 (l:List (List C)) (x_1:Int×Int×List C):Int:=(Aj l (Aj l (Aj l x_1.2.1)))
def m6_5 (x_1:Int×Int×List C) (y:Int×Int×List C):Prop:=nLt (4-y.1).toNat (4-x_1.1).toNat
theorem v6 (l:List (List C)) (k:Int):WL hI l/\InR .i64 k->pLe 0 k/\True->(pLe 0 k/\pLe 1 2)/\(InR .i64 (Aw l k 2)->pIn 0 (iLen Gp) (Aw l k 2)/\(InR .i64 (qi 0 (rGet Gp (Aw l k 2)))->(pLe 0 (Aj l k)/\pLe 1 2)/\(InR .i64 (Aw l (Aj l k) 2)->pIn 0 (iLen FH) (Aw l (Aj l k) 2)/\(InR .i64 (qi 0 (rGet FH (Aw l (Aj l k) 2)))->True/\(WD hE (I4 (qi 0 (rGet Gp (Aw l k 2))) (qi 0 (rGet FH (Aw l (Aj l k) 2))))/\InR .i64 (LQ (qi 0 (rGet Gp (Aw l k 2))) (qi 0 (rGet FH (Aw l (Aj l k) 2))))->(∃(x:Int×Int×List C),O8 l k x/\1=x.1/\Sm l/\Aj l (Aj l k)=x.2.1/\sg 0 [0,0,0,3,3] (I4 (qi 0 (rGet Gp (Aw l k 2))) (qi 0 (rGet FH (Aw l (Aj l k) 2))))=sg 0 [0,0,0,3,3] x.2.2)/\∀(x:Int×Int×List C),O8 l k x->InR .u64 x.1/\WL hI l/\InR .i64 x.2.1/\WD hE x.2.2->Cn (bLe x.1 3) ((pLe 0 x.2.1/\pLe 1 3)/\(InR .i64 (Aw l x.2.1 3)->Cn (bEq (Aw l x.2.1 3) 0) (InR .u64 (iAdd x.1 1)/\Sm Gp/\Sm FH/\∃(y:Int×Int×List C),O8 l k y/\iAdd x.1 1=y.1/\Sm l/\Aj l x.2.1=y.2.1/\sg 0 [0,0,0,3,3] x.2.2=sg 0 [0,0,0,3,3] y.2.2/\nLt (4-y.1).toNat (4-x.1).toNat) ((pNe 3 0/\InR .i64 (iQuo (Aaj .i64 x.1) 3))/\InR .i64 (iAdd 1 (iQuo (Aaj .i64 x.1) 3))/\(pLe 0 (Aj l x.2.1)/\True)/\(WD hD (KL l x.2.1 x.1)->pLe (iLen [[C.i 1],[C.i 2]]) 1000/\(InR .i64 (qi 0 (LG l x.2.1 x.1 x.2.2))/\InR .i64 (qi 1 (LG l x.2.1 x.1 x.2.2))/\WL hI (ql 2 (LG l x.2.1 x.1 x.2.2))/\InR .i64 (qi 3 (LG l x.2.1 x.1 x.2.2))->(pLe 0 (D8 l (Aj l x.2.1) 6)/\pLe 0 (qi 5 (KL l x.2.1 x.1))/\pLe (qi 5 (KL l x.2.1 x.1)) 300/\pLe 0 (qi 0 x.2.2)/\pLe (qi 0 x.2.2) 192000/\pLe 0 (LP (KL l x.2.1 x.1) (qi 0 x.2.2))/\pLe (LP (KL l x.2.1 x.1) (qi 0 x.2.2)) 2147483647)/\(WL hLm (Wv l x.2.1 x.1 x.2.2)->True/\(WD hV (WB l x.2.1 x.1 x.2.2)/\InR .i64 (UJ l x.2.1 x.1 x.2.2)->Cn (bEq (UJ l x.2.1 x.1 x.2.2) 0) ((pLe 0 (Aj l (D8 l (Aj l x.2.1) 6))/\pLe 1 2)/\(InR .i64 (Aw l (Aj l (D8 l (Aj l x.2.1) 6)) 2)->pIn 0 (iLen Ul) (Aw l (Aj l (D8 l (Aj l x.2.1) 6)) 2)/\(InR .i64 (qi 0 (rGet Ul (Aw l (Aj l (D8 l (Aj l x.2.1) 6)) 2)))->True/\(WD hE (NG l x.2.1 x.1 x.2.2)/\InR .i64 (Ku x.2.2 (WB l x.2.1 x.1 x.2.2) (qi 0 (rGet Ul (Aw l (Aj l (D8 l (Aj l x.2.1) 6)) 2))) 100 65536)->InR .u64 (iAdd x.1 1)/\Sm Gp/\Sm FH/\∃(y:Int×Int×List C),O8 l k y/\iAdd x.1 1=y.1/\Sm l/\Aj l (Aj l (D8 l (Aj l x.2.1) 6))=y.2.1/\sg 0 [0,0,0,3,3] (NG l x.2.1 x.1 x.2.2)=sg 0 [0,0,0,3,3] y.2.2/\nLt (4-y.1).toNat (4-x.1).toNat)))) (InR .u64 (iAdd x.1 1)/\Sm Gp/\Sm FH/\∃(y:Int×Int×List C),O8 l k y/\iAdd x.1 1=y.1/\Sm l/\Aj l (D8 l (Aj l x.2.1) 6)=y.2.1/\sg 0 [0,0,0,3,3] x.2.2=sg 0 [0,0,0,3,3] y.2.2/\nLt (4-y.1).toNat (4-x.1).toNat)))))))) ((∃(x_1:Int×Int×List C),Il l k x_1/\1=x_1.1/\Sm l/\x.2.1=x_1.2.1/\sg 0 [0,0,0,3,3] x.2.2=sg 0 [0,0,0,3,3] x_1.2.2)/\∀(x_1:Int×Int×List C),Il l k x_1->InR .i64 x_1.1/\WL hI l/\InR .i64 x_1.2.1/\WD hE x_1.2.2->Cn (bLe x_1.1 3) ((pLe 0 x_1.2.1/\pLe 1 4)/\(InR .i64 (Aw l x_1.2.1 4)->Cn (bEq (Aw l x_1.2.1 4) 0) (InR .i64 (iAdd x_1.1 1)/\Sm x.1/\Sm Gp/\Sm FH/\∃(y:Int×Int×List C),Il l k y/\iAdd x_1.1 1=y.1/\Sm l/\Aj l x_1.2.1=y.2.1/\sg 0 [0,0,0,3,3] x_1.2.2=sg 0 [0,0,0,3,3] y.2.2/\(m6_5 x_1 y)) ((pNe 3 0/\InR .i64 (iQuo x_1.1 3))/\InR .i64 (iAdd 1 (iQuo x_1.1 3))/\(pLe 0 (Aj l x_1.2.1)/\pLe 1 3/\pLe (-1000000) 1/\pLe 3 1000000)/\(InR .i64 (1+Aw l (Aj l x_1.2.1) (3-1+1))->True/\(WL hI (NJ (1+Aw l (Aj l x_1.2.1) (3-1+1)))->(pLe 0 (Aj l (Aj l x_1.2.1))/\pLe 1 3)/\(InR .i64 (Aw l (Aj l (Aj l x_1.2.1)) 3)->pIn 0 (iLen UO) (Aw l (Aj l (Aj l x_1.2.1)) 3)/\(InR .i64 (qi 0 (rGet UO (Aw l (Aj l (Aj l x_1.2.1)) 3)))->True/\(WD hE (m6_2 l x_1)/\InR .i64 (G6 x_1.2.2 x_1.1 (iAdd 1 (iQuo x_1.1 3)) (NJ (1+Aw l (Aj l x_1.2.1) (3-1+1))) (qi 0 (rGet UO (Aw l (Aj l (Aj l x_1.2.1)) 3))) 400 2)->(pLe 0 (m6_4 l x_1)/\pLe 1 4)/\(InR .i64 (Aw l (m6_4 l x_1) 4)->True/\(WD hE (m6_1 l x_1)/\InR .i64 (IX (m6_2 l x_1) x_1.1 (QP l x_1.2.1))->Cn (bEq (IX (m6_2 l x_1) x_1.1 (QP l x_1.2.1)) 0) (Cn (bEq (iAdd 1 (iQuo x_1.1 3)) 1) ((pLe 0 (Aj l (m6_4 l x_1))/\pLe 1 300)/\(InR .i64 (Aw l (Aj l (m6_4 l x_1)) 300)->(pLe (-1152921504606846976) 0/\pLe 0 1152921504606846976)/\(InR .i64 (qi 0 (JI l x_1.2.1 x_1.1))/\WL hW (ql 1 (JI l x_1.2.1 x_1.1))->True/\(WD hE (m6_0 l x_1)/\InR .i64 (Lt (m6_1 l x_1) x_1.1 (qi 0 (JI l x_1.2.1 x_1.1)) (ql 1 (JI l x_1.2.1 x_1.1)))->True/\(WD hE (GI (m6_0 l x_1) x_1.1 1)/\InR .i64 (FX (m6_0 l x_1) x_1.1 1)->Cn (bEq (FX (m6_0 l x_1) x_1.1 1) 0) (InR .i64 (iAdd x_1.1 1)/\Sm x.1/\Sm Gp/\Sm FH/\∃(y:Int×Int×List C),Il l k y/\iAdd x_1.1 1=y.1/\Sm l/\Aj l (Aj l (m6_4 l x_1))=y.2.1/\sg 0 [0,0,0,3,3] (GI (m6_0 l x_1) x_1.1 1)=sg 0 [0,0,0,3,3] y.2.2/\(m6_5 x_1 y)) (InR .i64 (iAdd x_1.1 1)/\Sm x.1/\Sm Gp/\Sm FH/\∃(y:Int×Int×List C),Il l k y/\iAdd x_1.1 1=y.1/\Sm l/\Aj l (Aj l (m6_4 l x_1))=y.2.1/\sg 0 [0,0,0,3,3] (m6_0 l x_1)=sg 0 [0,0,0,3,3] y.2.2/\(m6_5 x_1 y))))))) (True/\(WD hE (GI (m6_1 l x_1) x_1.1 1)/\InR .i64 (FX (m6_1 l x_1) x_1.1 1)->Cn (bEq (FX (m6_1 l x_1) x_1.1 1) 0) (InR .i64 (iAdd x_1.1 1)/\Sm x.1/\Sm Gp/\Sm FH/\∃(y:Int×Int×List C),Il l k y/\iAdd x_1.1 1=y.1/\Sm l/\Aj l (m6_4 l x_1)=y.2.1/\sg 0 [0,0,0,3,3] (GI (m6_1 l x_1) x_1.1 1)=sg 0 [0,0,0,3,3] y.2.2/\(m6_5 x_1 y)) (InR .i64 (iAdd x_1.1 1)/\Sm x.1/\Sm Gp/\Sm FH/\∃(y:Int×Int×List C),Il l k y/\iAdd x_1.1 1=y.1/\Sm l/\Aj l (m6_4 l x_1)=y.2.1/\sg 0 [0,0,0,3,3] (m6_1 l x_1)=sg 0 [0,0,0,3,3] y.2.2/\(m6_5 x_1 y))))) (Cn (bEq (iAdd 1 (iQuo x_1.1 3)) 1) ((pLe 0 (Aj l (m6_4 l x_1))/\pLe 1 300)/\(InR .i64 (Aw l (Aj l (m6_4 l x_1)) 300)->(pLe (-1152921504606846976) 0/\pLe 0 1152921504606846976)/\(InR .i64 (qi 0 (JI l x_1.2.1 x_1.1))/\WL hW (ql 1 (JI l x_1.2.1 x_1.1))->True/\(WD hE (m6_3 l x_1)/\InR .i64 (Lt (m6_2 l x_1) x_1.1 (qi 0 (JI l x_1.2.1 x_1.1)) (ql 1 (JI l x_1.2.1 x_1.1)))->True/\(WD hE (GI (m6_3 l x_1) x_1.1 1)/\InR .i64 (FX (m6_3 l x_1) x_1.1 1)->Cn (bEq (FX (m6_3 l x_1) x_1.1 1) 0) (InR .i64 (iAdd x_1.1 1)/\Sm x.1/\Sm Gp/\Sm FH/\∃(y:Int×Int×List C),Il l k y/\iAdd x_1.1 1=y.1/\Sm l/\Aj l (Aj l (m6_4 l x_1))=y.2.1/\sg 0 [0,0,0,3,3] (GI (m6_3 l x_1) x_1.1 1)=sg 0 [0,0,0,3,3] y.2.2/\(m6_5 x_1 y)) (InR .i64 (iAdd x_1.1 1)/\Sm x.1/\Sm Gp/\Sm FH/\∃(y:Int×Int×List C),Il l k y/\iAdd x_1.1 1=y.1/\Sm l/\Aj l (Aj l (m6_4 l x_1))=y.2.1/\sg 0 [0,0,0,3,3] (m6_3 l x_1)=sg 0 [0,0,0,3,3] y.2.2/\(m6_5 x_1 y))))))) (True/\(WD hE (GI (m6_2 l x_1) x_1.1 1)/\InR .i64 (FX (m6_2 l x_1) x_1.1 1)->Cn (bEq (FX (m6_2 l x_1) x_1.1 1) 0) (InR .i64 (iAdd x_1.1 1)/\Sm x.1/\Sm Gp/\Sm FH/\∃(y:Int×Int×List C),Il l k y/\iAdd x_1.1 1=y.1/\Sm l/\Aj l (m6_4 l x_1)=y.2.1/\sg 0 [0,0,0,3,3] (GI (m6_2 l x_1) x_1.1 1)=sg 0 [0,0,0,3,3] y.2.2/\(m6_5 x_1 y)) (InR .i64 (iAdd x_1.1 1)/\Sm x.1/\Sm Gp/\Sm FH/\∃(y:Int×Int×List C),Il l k y/\iAdd x_1.1 1=y.1/\Sm l/\Aj l (m6_4 l x_1)=y.2.1/\sg 0 [0,0,0,3,3] (m6_2 l x_1)=sg 0 [0,0,0,3,3] y.2.2/\(m6_5 x_1 y))))))))))))))) ((pLe 0 x_1.2.1/\pLe 1 4)/\(InR .i64 (Aw l x_1.2.1 4)->(∃(x:Int×List C),Tc l k x/\Aw l x_1.2.1 4=x.1/\sg 0 [0,0,0,3,3] x_1.2.2=sg 0 [0,0,0,3,3] x.2)/\∀(x_2:Int×List C),Tc l k x_2->InR .i64 x_2.1/\WD hE x_2.2->Cn (bLt 0 x_2.1) (True/\(WL hCp (Gs x_2.2)->True/\(InR .i64 (qi 0 (Cj x_2.2 (Gs x_2.2)))/\WL hPl (ql 1 (Cj x_2.2 (Gs x_2.2)))/\WL hHd (ql 2 (Cj x_2.2 (Gs x_2.2)))/\WL hGl (ql 3 (Cj x_2.2 (Gs x_2.2)))/\WD hE (Iy x_2.2 (Gs x_2.2))/\InR .i64 (Gv x_2.2 (Gs x_2.2))->Cn (bEq (Gv x_2.2 (Gs x_2.2)) 0) (InR .i64 (iSub x_2.1 1)/\Sm x.1/\Sm x_1.1/\Sm [C.l l,C.i (Aj l x_1.2.1)]/\Sm Gp/\Sm FH/\∃(y:Int×List C),Tc l k y/\iSub x_2.1 1=y.1/\sg 0 [0,0,0,3,3] (Iy x_2.2 (Gs x_2.2))=sg 0 [0,0,0,3,3] y.2/\nLt y.1.toNat x_2.1.toNat) (InR .i64 (iSub x_2.1 1)/\Sm x.1/\Sm x_1.1/\Sm [C.l l,C.i (Aj l x_1.2.1)]/\Sm Gp/\Sm FH/\∃(y:Int×List C),Tc l k y/\iSub x_2.1 1=y.1/\sg 0 [0,0,0,3,3] x_2.2=sg 0 [0,0,0,3,3] y.2/\nLt y.1.toNat x_2.1.toNat)))) (Sm l/\Aj l x_1.2.1=MK l k/\sg 0 [0,0,0,3,3] x_2.2=sg 0 [0,0,0,3,3] (EO l k)))))))))):=by
  intro hw hp;delta m6_0 m6_1 m6_2 m6_3 m6_4 m6_5;obtain⟨k0,_⟩:=hp;have t1:=HY (l:=l) k0;have n0:=KY l k (n:=2) (by decide);have n1:=KY l (Aj l k) (n:=2) (by decide);have st:∀ {x:Int×Int×List C},O8 l k x->x.1<=3->O8 l k (x.1+1,FB l x.2.1 x.1 x.2.2):=λ{x} ⟨a,b,c⟩ h=>⟨by simp only; omega,by simp only; omega,by
    show FB l x.2.1 x.1 x.2.2=Gu l k (x.1+1-1).toNat;rw[show(x.1+1-1).toNat=(x.1-1).toNat+1 by omega,Gu,←c,show(((x.1-1).toNat:Nat):Int)+1=x.1 by omega]⟩
  simp only[D,E];refine⟨⟨k0,by decide⟩,λ_=>⟨n0,λ_=>⟨⟨t1,by decide⟩,λ_=>⟨n1,λ_ _=>⟨⟨(1,D8 l k 2,UY l k),⟨Int.le_refl (1:Int),(by decide:(1:Int)<=4),rfl⟩,rfl,rfl,rfl⟩,λx hI wx=>⟨λa=> ?_,λa=> ?_⟩⟩⟩⟩⟩⟩
  · have s:=st hI a;obtain⟨i1,i2,i3⟩:=hI;have p0:=WU l k0 (x.1-1).toNat;have q0:=Zy l k (x.1-1).toNat;rw[←i3]at p0 q0;have r0:=HY (l:=l) p0;have r6:=PV (l:=l) r0 6;have dr:0<=qi 5 (KL l x.2.1 x.1)/\qi 5 (KL l x.2.1 x.1)<=300:=by
      have:=KY l (D8 l (Aj l x.2.1) 2) (n:=300) (by decide);show 0<=Aw l (D8 l (Aj l x.2.1) 2) 300/\Aw l (D8 l (Aj l x.2.1) 2) 300<=300;omega
    have kr:0<=LP (KL l x.2.1 x.1) (qi 0 x.2.2)/\LP (KL l x.2.1 x.1) (qi 0 x.2.2)<=2147483647:=ZK _ _;have m9:=KY l (Aj l (D8 l (Aj l x.2.1) 6)) (n:=2) (by decide);have iw:Aaj .i64 x.1=x.1:=InR.wrap (by simp only[InR]; omega);have nx:InR .u64 (x.1+1):=by simp only[InR]; omega
    have dv:InR .i64 (x.1.tdiv 3)/\InR .i64 (1+x.1.tdiv 3):=by
      rw[Int.tdiv_eq_ediv_of_nonneg (by omega)]; simp only[InR]; omega
    rw[iw];refine⟨⟨p0,by decide⟩,λ_=>⟨λh=>⟨nx,_,s,rfl,?_,?_⟩,λh=>⟨⟨by decide,dv.1⟩,dv.2,r0,λ_=>⟨by decide,λ_=>⟨⟨r6,dr.1,dr.2,q0.1,q0.2,kr.1,kr.2⟩,λ_ _=>⟨λg=>⟨⟨HY r6,by decide⟩,λ_=>⟨m9,λ_ _=>⟨nx,_,s,rfl,?_,?_⟩⟩⟩,λg=>⟨nx,_,s,rfl,?_,?_⟩⟩⟩⟩⟩⟩⟩
    · have e:FB l x.2.1 x.1 x.2.2=(Aj l x.2.1,x.2.2):=if_pos h;show _=(FB l x.2.1 x.1 x.2.2).1;exact(show _=_ from rfl).trans (congrArg Prod.fst e).symm
    · have e:FB l x.2.1 x.1 x.2.2=(Aj l x.2.1,x.2.2):=if_pos h;refine⟨?_,by show(4- (x.1+1)).toNat<(4-x.1).toNat; omega⟩;show _=sg 0 [0,0,0,3,3] (FB l x.2.1 x.1 x.2.2).2;rw[e]
    · have e:FB l x.2.1 x.1 x.2.2=(D8 l x.2.1 9,NG l x.2.1 x.1 x.2.2):=(if_neg h).trans (if_pos g);show _=(FB l x.2.1 x.1 x.2.2).1;exact(show _=_ from rfl).trans (congrArg Prod.fst e).symm
    · have e:FB l x.2.1 x.1 x.2.2=(D8 l x.2.1 9,NG l x.2.1 x.1 x.2.2):=(if_neg h).trans (if_pos g);refine⟨?_,by show(4- (x.1+1)).toNat<(4-x.1).toNat; omega⟩;show _=sg 0 [0,0,0,3,3] (FB l x.2.1 x.1 x.2.2).2;rw[e]
    · have e:FB l x.2.1 x.1 x.2.2=(D8 l x.2.1 8,x.2.2):=(if_neg h).trans (if_neg g);show _=(FB l x.2.1 x.1 x.2.2).1;exact(show _=_ from rfl).trans (congrArg Prod.fst e).symm
    · have e:FB l x.2.1 x.1 x.2.2=(D8 l x.2.1 8,x.2.2):=(if_neg h).trans (if_neg g);refine⟨?_,by show(4- (x.1+1)).toNat<(4-x.1).toNat; omega⟩;show _=sg 0 [0,0,0,3,3] (FB l x.2.1 x.1 x.2.2).2;rw[e]
  · obtain⟨i1,i2,i3⟩:=hI;have x4:x.1=4:=by omega
    have x2:x.2=Fh l k 0:=by rw[i3,x4]; rfl
    have sw:∀ {y:Int×Int×List C},Il l k y->y.1<=3->Il l k (y.1+1,MM l y.2.1 y.1 y.2.2):=λ{y} ⟨a,b,c⟩ h=>⟨by simp only; omega,by simp only; omega,by
      show MM l y.2.1 y.1 y.2.2=Fh l k (y.1+1-1).toNat;rw[show(y.1+1-1).toNat=(y.1-1).toNat+1 by omega,Fh,←c,show(((y.1-1).toNat:Nat):Int)+1=y.1 by omega]⟩
    refine⟨⟨(1,x.2),⟨Int.le_refl (1:Int),(by decide:(1:Int)<=4),x2⟩,rfl,rfl,rfl⟩,λy hy wy=>⟨λb=> ?_,λb=> ?_⟩⟩
    · have s:=sw hy b;obtain⟨j1,j2,j3⟩:=hy;have p0:=Vh l k0 (y.1-1).toNat;rw[←j3]at p0;have p1:=HY (l:=l) p0;have p2:=HY (l:=l) p1;have p3:=HY (l:=l) p2;have p4:=HY (l:=l) p3;have m3:=KY l (Aj l (Aj l y.2.1)) (n:=3) (by decide);have nx:InR .i64 (y.1+1):=by simp only[InR]; omega
      have dv:InR .i64 (y.1.tdiv 3)/\InR .i64 (1+y.1.tdiv 3):=by
        rw[Int.tdiv_eq_ediv_of_nonneg (by omega)]; simp only[InR]; omega
      have leaf:∀ {kk:Int} {ee:List C},MM l y.2.1 y.1 y.2.2=(kk,ee)->(InR .i64 (y.1+1)/\∃z,Il l k z/\y.1+1=z.1/\kk=z.2.1/\sg 0 [0,0,0,3,3] ee=sg 0 [0,0,0,3,3] z.2.2/\(4-z.1).toNat<(4-y.1).toNat):=λ{kk ee} e=>⟨nx,_,s,rfl,(congrArg Prod.fst e).symm,by show _=sg 0 [0,0,0,3,3] (MM l y.2.1 y.1 y.2.2).2; rw[e],by show(4- (y.1+1)).toNat<(4-y.1).toNat; omega⟩
      refine⟨⟨p0,by decide⟩,λ_=>⟨λh=>leaf (if_pos h),λh=> ?_⟩⟩;have fin:∀ {E3:List C} {kk:Int},Nw l y.2.1 y.1 y.2.2=E3->(if 1+y.1.tdiv 3=1 then D8 l y.2.1 5 else D8 l y.2.1 4)=kk->(FX E3 y.1 1=0->(InR .i64 (y.1+1)/\∃z,Il l k z/\y.1+1=z.1/\kk=z.2.1/\sg 0 [0,0,0,3,3] (GI E3 y.1 1)=sg 0 [0,0,0,3,3] z.2.2/\(4-z.1).toNat<(4-y.1).toNat))/\(¬FX E3 y.1 1=0->(InR .i64 (y.1+1)/\∃z,Il l k z/\y.1+1=z.1/\kk=z.2.1/\sg 0 [0,0,0,3,3] E3=sg 0 [0,0,0,3,3] z.2.2/\(4-z.1).toNat<(4-y.1).toNat)):=λ{E3 kk} e3 ek=>⟨λd=>leaf (by unfold MM SK; rw[if_neg h,e3,if_pos d,ek]),λd=>leaf (by unfold MM SK; rw[if_neg h,e3,if_neg d,ek])⟩
      refine⟨⟨by decide,dv.1⟩,dv.2,⟨p1,by decide,by decide,by decide⟩,λ_ _=>⟨⟨p2,by decide⟩,λ_=>⟨m3,λ_ _=>⟨⟨p3,by decide⟩,λ_ _=>⟨λg=>⟨λf=>⟨⟨p4,by decide⟩,λ_=>⟨⟨by decide,by decide⟩,λ_ _ _=>fin (by unfold Nw O0; rw[if_pos f,if_pos g]) (if_pos f)⟩⟩,λf _=>fin (by unfold Nw O0; rw[if_neg f,if_pos g]) (if_neg f)⟩,λg=>⟨λf=>⟨⟨p4,by decide⟩,λ_=>⟨⟨by decide,by decide⟩,λ_ _ _=>fin (by unfold Nw O0; rw[if_pos f,if_neg g]) (if_pos f)⟩⟩,λf _=>fin (by unfold Nw O0; rw[if_neg f,if_neg g]) (if_neg f)⟩⟩⟩⟩⟩⟩
    · have y4:y.1=4:=by have:=hy.1; have:=hy.2.1; omega
      have y2:y.2=Fh l k 3:=by rw[hy.2.2,y4]; rfl
      have p0:=Vh l k0 3;have n4:=KY l y.2.1 (n:=4) (by decide);have nn:NZ l k=Aw l y.2.1 4:=by unfold NZ; rw[y2]
      rw[←y2]at p0;refine⟨⟨p0,by decide⟩,λ_=>⟨⟨(Aw l y.2.1 4,y.2.2),⟨n4.1,by rw[nn]; exact Int.le_refl _,by rw[nn]; show y.2.2=Qd _ (Aw l y.2.1 4-Aw l y.2.1 4).toNat; rw[Int.sub_self,y2]; rfl⟩,rfl,rfl⟩,λz ⟨z0,z1,z2⟩ wz=>⟨λc=> ?_,λc=> ?_⟩⟩⟩
      · have e:Qd (Fh l k 3).2 (NZ l k- (z.1-1)).toNat=NF z.2:=by
          rw[z2,show(NZ l k- (z.1-1)).toNat=(NZ l k-z.1).toNat+1 by omega]; rfl
        have nx:InR .i64 (z.1-1):=by have:=n4.2; simp only[InR]; omega
        refine λ_ _=>⟨λg=>⟨nx,(z.1-1,NF z.2),⟨by simp only; omega,by simp only; omega,e.symm⟩,rfl,?_⟩,λg=>⟨nx,(z.1-1,NF z.2),⟨by simp only; omega,by simp only; omega,e.symm⟩,rfl,?_⟩⟩
        · have f:NF z.2=Iy z.2 (Gs z.2):=if_pos g;exact⟨by show _=sg 0 [0,0,0,3,3] (NF z.2); rw[f],by show(z.1-1).toNat<z.1.toNat; omega⟩
        · have f:NF z.2=z.2:=if_neg g;exact⟨by show _=sg 0 [0,0,0,3,3] (NF z.2); rw[f],by show(z.1-1).toNat<z.1.toNat; omega⟩
      · have z3:z.1=0:=by omega
        refine⟨?_,?_⟩
        · unfold MK; rw[y2]
        · unfold EO; rw[z2,z3,Int.sub_zero]
def r6:Cr PR:=KB [r11,r21,r15,r16,r17,r19,r18,r20,r23,r22,r24,r26,r25,r27,r29,r28,(mark 1000022)] 6 10 {ps:=[],rs:=[(true,hE)],pre:=λa=>pLe 0 (I a 0 1)/\True,out:=λa=>[[.l (L a 0 0),.i (MK (L a 0 0) (I a 0 1))],rb [0,0,0,3,3] (EO (L a 0 0) (I a 0 1))],bx:=some (108,[.sl hI,.int .i64])} (λa=>A6 (L a 0 0) (I a 0 1)) λa=>Y (v6 (L a 0 0) (I a 0 1))
end Go.Sx

