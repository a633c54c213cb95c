import Derived.Test.YtejdbdegdanecaaGreatSxUse
import Derived.Test.YtejdbdegdanecaaGreatN28
import Derived.Test.YtejdbdegdanecaaGreatM28
set_option linter.unusedVariables false
set_option linter.unusedSimpArgs false
set_option maxRecDepth 100000
set_option maxHeartbeats 4000000
noncomputable section
namespace Go.Sx
def KN (u:List (Cr PR)) (f n:Nat) (ct:Ct) {t:TypeId} {e:List Sh} (A:List (List C)->FuncId->Nat->LoopAnn)
 (h:∀args,Ad6 (hyp (wfP.go (ofRess ct.ps args)) (vcF PR (look (tbR u)) (λ_=>false) (A args) n f (ofRess ct.ps args) [] λsv heap=>Ah1 t e ((((ct.out args).headD []).headD default).list) sv heap)))
 (h1:∀args,∃y,(((ct.out args).headD []).headD default).list=[y]:=by exact λ_=>⟨_,rfl⟩)
 (hbx:ct.bx=none:=by rfl) (how:ct.ow=none:=by rfl) (hfr:ct.fr=some (t,e):=by rfl) (hfm:ct.fm=some .bx:=by rfl):Cr PR:=
 ⟨f,ct,Aik AbT (AeA u) (λ_=>false) A n f ct (λa=>⟨Ajk (h a).out⟩) h1 hbx how hfr hfm⟩
end Go.Sx
namespace Go
open Go.Sx
def Au (l:List (List C)) (k n:Int):Int:=if k<(l.length:Int)then qi 0 (rGet l k) % n else 0
def Aj (l:List (List C)) (k:Int):Int:=if k<(l.length:Int)then k+1 else k
def Dk (l:List (List C)) (k:Int):Nat->Int
 |0=>k
 |n+1=>Aj l (Dk l k n)
def VG:List (List C):=[[.s (ByteArray.mk (Array.mk [115,112,101,97,107,101,114,45,49]))],[.s (ByteArray.mk (Array.mk [104,101,97,100,115,101,116,45,50]))],[.s (ByteArray.mk (Array.mk [115,112,101,97,107,101,114]))]]
def QE:List (List C):=[[.l [[.i 48000,.i 48000]]],[.l [[.i 44100,.i 44100]]],[.l [[.i 44100,.i 48000]]]]
def Qp:List (List C):=[[.l [[.l [[.i 1],[.i 2]]]]],[.l [[.l [[.i 3]]]]],[.l [[.l [[.i 3]]],[.l [[.i 1],[.i 2]]]]]]
def Ry (l:List (List C)) (k id dir:Int):List C:=[.i id,.s (if dir=2 then ByteArray.mk (Array.mk [109,105,99,45,49])else qs 0 (rGet VG (Au l k 3))),.i dir,.i 0,.i (Au l (Dk l k 1) 100),.i (Au l (Dk l k 2) 300),.i (1+Au l (Dk l k 3) 3),.l [[.i 20,.l (ql 0 (rGet QE (Au l (Dk l k 4) 3))),.l (ql 0 (rGet Qp (Au l (Dk l k 5) 3))),.l [[.i 16,.i 4096]]]]]
def JH (n i:Int):List (List C):=(List.range (i-1).toNat).map fun(k:Nat)=>[.i ((k:Int)+1)]
def Oh (n:Int):List (List C):=if n=1 then[[.i 3]]else if n<=8 then JH n (n+1)else[]
def LQ (s i c:Int):Int:=if s<0∨1099511627776<s∨i<0∨1099511627776<i∨c<0∨7<c then 0 else((s*7919+i*104729+c*1299709) % 2001-1000)*256
def YJ (s f i c:Int):List C:=[.i (LQ s (f+i) c)]
def KA (s f i m:Int):List (List C):=(List.range m.toNat).map fun(c:Nat)=>YJ s f i c
def H9 (s f ch n:Int):List (List C):=(List.range n.toNat).flatMap fun(i:Nat)=>KA s f i ch
def Ij (s f ch n:Int):List C:=if 1<=ch/\ch<=8/\0<=n/\n<=65536 then[.i ch,.l (H9 s f ch n)]else[]
end Go
namespace Go.Sx
theorem v7 (l:List (List C)):WL hI l->Sm l/\Sm (0:Int):=by
 intro hw;exact⟨rfl,rfl⟩
def r7:Cr PR:=KN [] 7 6 {ps:=[(false,hL)],rs:=[],out:=λa=>[[.l [[.l (L a 0 0),.i 0]]]],fr:=some (108,[.sl hI,.int .i64]),fm:=some .bx} U λa=>Y (v7 (L a 0 0))
theorem v8 (v:Int) (n:Int):AnC v/\AnC n->pLe 1 n/\True->pNe n 0/\Cn (bLt (iRem v n) 0) (AnC (iAdd (iRem v n) n)/\iAdd (iRem v n) n=v % n) (iRem v n=v % n):=by
 intro hw hp;simp only[D,E];have n1:1<=n:=hp.1;have hi:=hw.2;have e:=Int.mul_tdiv_add_tmod v n;have e2:=Anc v n;have c:=Int.tmod_lt_of_pos v (show 0<n by omega);have c2:=Int.lt_tmod_of_pos v (show 0<n by omega);have c3:v % n=if v.tmod n<0 then v.tmod n+n else v.tmod n:=by
  split
  · rename_i g;rw[←Int.emod_eq_of_lt (show 0<=v.tmod n+n by omega) (show v.tmod n+n<n by omega),Int.add_emod_right]
    conv=>lhs; rw[←e,Int.mul_add_emod_self_left]
  · rename_i g;rw[←Int.emod_eq_of_lt (show 0<=v.tmod n by omega) (show v.tmod n<n by omega)]
    conv=>lhs; rw[←e,Int.mul_add_emod_self_left]
 simp only[InR]at*;refine⟨by omega,λg=>⟨by omega,?_⟩,λg=> ?_⟩
 · rw[c3,if_pos g]
 · rw[c3,if_neg g]
def r8:Cr PR:=K [] 8 6 {ps:=[(false,hI),(false,hI)],rs:=[(false,hI)],pre:=λa=>pLe 1 (AnG a)/\True,out:=λa=>[[.i ((AnF a) % (AnG a))]]} U λa=>Y (v8 (AnF a) (AnG a))
theorem v11 (l:List (List C)) (k:Int) (n:Int):WL hI l/\AnC k/\AnC n->pLe 0 k/\pLe 1 n->AnE l->True/\Cn (bNot (bLt k (iLen l))) (Sm l/\k=Aj l k/\0=Au l k n) (AnC (iAdd k 1)/\AnC (iSub (iAdd k 1) 1)/\pIn 0 (iLen l) (iSub (iAdd k 1) 1)/\(AnC (qi 0 (rGet l (iSub (iAdd k 1) 1)))->(pLe 1 n/\True)/\(AnC (qi 0 (rGet l (iSub (iAdd k 1) 1)) % n)->Sm l/\iAdd k 1=Aj l k/\qi 0 (rGet l (iSub (iAdd k 1) 1)) % n=Au l k n))):=by
 intro hw hp;simp only[D,E];obtain⟨wl,wk,wn⟩:=hw;obtain⟨k0,n1⟩:=hp;intro hl;refine⟨λh=>⟨?_,?_⟩,λh=> ?_⟩
 · unfold Aj; rw[if_neg (by omega)]
 · unfold Au; rw[if_neg (by omega)]
 · have e:k+1-1=k:=by omega
   simp only[InR,e]at*;refine⟨by omega,by omega,by omega,λ_=>⟨by omega,λ_=>⟨?_,?_⟩⟩⟩
   · unfold Aj; rw[if_pos (by omega)]
   · unfold Au; rw[if_pos (by omega)]
def r11:Cr PR:=KB [r8] 11 6 {ps:=[(false,hI)],rs:=[(false,hI)],pre:=λa=>pLe 0 (AnH a)/\pLe 1 (AnG a),out:=λa=>[[.l (L a 0 0),.i (Aj (L a 0 0) (AnH a))],[.i (Au (L a 0 0) (AnH a) (AnG a))]],bx:=some (108,[.sl hI,.int .i64])} U λa=>Y (v11 (L a 0 0) (AnH a) (AnG a))
theorem v21 (l:List (List C)) (k:Int) (a:Int) (b:Int):WL hI l/\AnC k/\AnC a/\AnC b->pLe 0 k/\pLe a b/\pLe (-1000000) a/\pLe b 1000000->AnC (iSub b a)/\AnC (iAdd (iSub b a) 1)/\(pLe 0 k/\pLe 1 (iAdd (iSub b a) 1))/\(AnC (Au l k (iAdd (iSub b a) 1))->AnC (iAdd a (Au l k (iAdd (iSub b a) 1)))/\Sm l/\Sm (Aj l k)/\iAdd a (Au l k (iAdd (iSub b a) 1))=a+Au l k (b-a+1)):=by
 intro hw hp;simp only[D,E];obtain⟨k0,ab,a0,b0⟩:=hp;have m0:0<=Au l k (b-a+1):=by unfold Au; split; exact AmB _ (by omega); exact AlO _
 have m1:Au l k (b-a+1)<b-a+1:=by unfold Au; split; exact Aml _ (by omega); omega
 simp only[InR]at*;exact⟨by omega,by omega,by omega,λ_=>by omega⟩
def r21:Cr PR:=KB [r11] 21 6 {ps:=[(false,hI),(false,hI)],rs:=[(false,hI)],pre:=λa=>pLe 0 (AnH a)/\(pLe (AnG a) (AnI a)/\(pLe (-1000000) (AnG a)/\pLe (AnI a) 1000000)),out:=λa=>[[.l (L a 0 0),.i (Aj (L a 0 0) (AnH a))],[.i ((AnG a)+Au (L a 0 0) (AnH a) ((AnI a)- (AnG a)+1))]],bx:=some (108,[.sl hI,.int .i64])} U λa=>Y (v21 (L a 0 0) (AnH a) (AnG a) (AnI a))
def Ag7 (x:List C) (ma:Int):List C:=(II [C.i 4,C.i ma,C.l [[C.i 1],[C.i 2]],C.i 64] (ql 7 x))
theorem v50 (x:List C) (ma:Int):WD hD x/\AnC ma->pLe (iLen [[C.i 1],[C.i 2]]) 1000/\(AnC (qi 0 (Ag7 x ma))/\AnC (qi 1 (Ag7 x ma))/\WL hI (ql 2 (Ag7 x ma))/\AnC (qi 3 (Ag7 x ma))->qi 1 (Ag7 x ma)=qi 1 (Ag7 x ma)):=by
 intro hw;delta Ag7;exact⟨by decide,λ_=>rfl⟩
def r50:Cr PR:=K0 [r17] 50 6 {ps:=[(true,hD),(false,hI)],rs:=[(false,hI)],out:=λa=>[[.i (qi 1 (II [.i 4,.i (AnG a),.l [[.i 1],[.i 2]],.i 64] (ql 7 (AnQ a))))]]} U λa=>Y (v50 (AnQ a) (AnG a))
theorem v49 (r:Int) (m:Int) (p:Int):AnC r/\AnC m/\AnC p->pLe 0 r/\pLe r 2147483647/\pLe 0 m/\pLe m 192000/\pLe (-65536) p/\pLe p 65536->AnC (iAdd 65536 p)/\AnC (iMul r (iAdd 65536 p))/\AnC (iMul m 65536)/\True/\(AnC (Aq (iMul r (iAdd 65536 p)) (iMul m 65536) (iMul r (iAdd 65536 p)))/\AnC (Aq (iMul r (iAdd 65536 p)) (iMul m 65536) (iMul m 65536))/\AnC (CU (iMul r (iAdd 65536 p)) (iMul m 65536))->[[C.i 0,C.i (Aq (iMul r (iAdd 65536 p)) (iMul m 65536) (iMul r (iAdd 65536 p))),C.i (Aq (iMul r (iAdd 65536 p)) (iMul m 65536) (iMul m 65536))]]=[[C.i 0,C.i (Aq (r*(65536+p)) (m*65536) (r*(65536+p))),C.i (Aq (r*(65536+p)) (m*65536) (m*65536))]]):=by
 intro hw hp;simp only[D,E];obtain⟨r0,r1,m0,m1,p0,p1⟩:=hp;have a:=Al1 r0 (show 0<=65536+p by omega);have b:=AmY r1 (show 65536+p<=131072 by omega) (by omega) (by omega);simp only[InR]at*;exact⟨by omega,by omega,by omega,λ_=>trivial⟩
def r49:Cr PR:=K [r100] 49 6 {ps:=[(false,hI),(false,hI),(false,hI)],rs:=[(true,[.sl hS])],pre:=λa=>pLe 0 (AnF a)/\(pLe (AnF a) 2147483647/\(pLe 0 (AnG a)/\(pLe (AnG a) 192000/\(pLe (-65536) (AnI a)/\pLe (AnI a) 65536)))),out:=λa=>[[.l [[.i 0,.i (Aq ((AnF a)*(65536+(AnI a))) ((AnG a)*65536) ((AnF a)*(65536+(AnI a)))),.i (Aq ((AnF a)*(65536+(AnI a))) ((AnG a)*65536) ((AnG a)*65536))]]]]} U λa=>Y (v49 (AnF a) (AnG a) (AnI a))
end Go.Sx

namespace Go
open Go.Sx
def TK (l:List (List C)) (k:Int) (x:List C):Int:=(0-qi 5 x).tdiv 2+Au l k ((qi 5 x).tdiv 2- (0-qi 5 x).tdiv 2+1)
def MM (x:List C) (ma:Int):Int:=qi 1 (II [.i 4,.i ma,.l [[.i 1],[.i 2]],.i 64] (ql 7 x))
def WV (l:List (List C)) (k:Int) (x:List C) (ma:Int):Int:=MM x ma*(65536+TK l k x)
def WI (l:List (List C)) (k:Int) (x:List C) (ma:Int):List (List C):=[[.i 0,.i (Aq (WV l k x ma) (ma*65536) (WV l k x ma)),.i (Aq (WV l k x ma) (ma*65536) (ma*65536))]]
theorem Ik {l:List (List C)} {k:Int} (h:0<=k):0<=Aj l k:=by unfold Aj; split<;>omega
theorem Iq (l:List (List C)) (k:Int) {n:Int} (h:1<=n):0<=Au l k n/\Au l k n<n:=by
 unfold Au; split
 · exact⟨AmB _ (by omega),Aml _ (by omega)⟩
 · omega
end Go
namespace Go.Sx
def Adf (l:List (List C)) (k:Int):Int:=(Aj l (Aj l (Aj l (Aj l k))))
def AfX (l:List (List C)) (k:Int):Int:=(Au l (Aj l (Adf l k)) 3)
theorem v16 (l:List (List C)) (k:Int) (id:Int) (dir:Int):WL hI l/\AnC k/\AnD id/\AnC dir->pLe 0 k/\True->(pLe 0 k/\pLe 1 3)/\(AnC (Au l k 3)->pIn 0 (iLen VG) (Au l k 3)/\(AjB (qs 0 (rGet VG (Au l k 3)))->(pLe 0 (Aj l k)/\pLe 1 100)/\(AnC (Au l (Aj l k) 100)->(pLe 0 (Aj l (Aj l k))/\pLe 1 300)/\(AnC (Au l (Aj l (Aj l k)) 300)->(pLe 0 (Aj l (Aj l (Aj l k)))/\pLe 1 3/\pLe (-1000000) 1/\pLe 3 1000000)/\(AnC (1+Au l (Aj l (Aj l (Aj l k))) (3-1+1))->Cn (bEq dir 2) ((pLe 0 (Adf l k)/\pLe 1 3)/\(AnC (Au l (Adf l k) 3)->pIn 0 (iLen QE) (Au l (Adf l k) 3)/\(WL (hI++(hI++[])) (ql 0 (rGet QE (Au l (Adf l k) 3)))->(pLe 0 (Aj l (Adf l k))/\pLe 1 3)/\(AnC (AfX l k)->pIn 0 (iLen Qp) (AfX l k)/\(WL hL (ql 0 (rGet Qp (AfX l k)))->Sm l/\Aj l (Aj l (Adf l k))=Dk l k 6/\[C.i id,C.s (ByteArray.mk (Array.mk [109,105,99,45,49])),C.i dir,C.i 0,C.i (Au l (Aj l k) 100),C.i (Au l (Aj l (Aj l k)) 300),C.i (1+Au l (Aj l (Aj l (Aj l k))) (3-1+1)),C.l [[C.i 20,C.l (ql 0 (rGet QE (Au l (Adf l k) 3))),C.l (ql 0 (rGet Qp (AfX l k))),C.l [[C.i 16,C.i 4096]]]]]=sg 0 [0,2,0,0,0,0,0,3] (Ry l k id dir)))))) ((pLe 0 (Adf l k)/\pLe 1 3)/\(AnC (Au l (Adf l k) 3)->pIn 0 (iLen QE) (Au l (Adf l k) 3)/\(WL (hI++(hI++[])) (ql 0 (rGet QE (Au l (Adf l k) 3)))->(pLe 0 (Aj l (Adf l k))/\pLe 1 3)/\(AnC (AfX l k)->pIn 0 (iLen Qp) (AfX l k)/\(WL hL (ql 0 (rGet Qp (AfX l k)))->Sm l/\Aj l (Aj l (Adf l k))=Dk l k 6/\[C.i id,C.s (qs 0 (rGet VG (Au l k 3))),C.i dir,C.i 0,C.i (Au l (Aj l k) 100),C.i (Au l (Aj l (Aj l k)) 300),C.i (1+Au l (Aj l (Aj l (Aj l k))) (3-1+1)),C.l [[C.i 20,C.l (ql 0 (rGet QE (Au l (Adf l k) 3))),C.l (ql 0 (rGet Qp (AfX l k))),C.l [[C.i 16,C.i 4096]]]]]=sg 0 [0,2,0,0,0,0,0,3] (Ry l k id dir))))))))))):=by
 intro hw hp;delta Adf AfX;obtain⟨k0,_⟩:=hp;have t1:=Ik (l:=l) k0;have t2:=Ik (l:=l) t1;have t3:=Ik (l:=l) t2;have t4:=Ik (l:=l) t3;have t5:=Ik (l:=l) t4;have n0:=Iq l k (n:=3) (by decide);have n5:=Iq l (Aj l (Aj l (Aj l (Aj l k)))) (n:=3) (by decide);have n6:=Iq l (Aj l (Aj l (Aj l (Aj l (Aj l k))))) (n:=3) (by decide);simp only[D,E];refine⟨⟨k0,by decide⟩,λ_=>⟨n0,λ_=>⟨⟨t1,by decide⟩,λ_=>⟨⟨t2,by decide⟩,λ_=>⟨⟨t3,by decide,by decide,by decide⟩,λ_=>⟨λh=>⟨⟨t4,by decide⟩,λ_=>⟨n5,λ_=>⟨⟨t5,by decide⟩,λ_=>⟨n6,λ_=>⟨rfl,?_⟩⟩⟩⟩⟩,λh=>⟨⟨t4,by decide⟩,λ_=>⟨n5,λ_=>⟨⟨t5,by decide⟩,λ_=>⟨n6,λ_=>⟨rfl,?_⟩⟩⟩⟩⟩⟩⟩⟩⟩⟩⟩
 · unfold Ry; rw[if_pos h]; rfl
 · unfold Ry; rw[if_neg h]; rfl
def r16:Cr PR:=KB [r11,r21,(mark 1000116),(mark 1000120),(mark 1000122)] 16 6 {ps:=[(false,[.int .u64]),(false,hI)],rs:=[(true,hD)],pre:=λa=>pLe 0 (AnH a)/\True,out:=λa=>[[.l (L a 0 0),.i (Dk (L a 0 0) (AnH a) 6)],rb [0,2,0,0,0,0,0,3] (Ry (L a 0 0) (AnH a) (AnG a) (AnI a))],bx:=some (108,[.sl hI,.int .i64])} U λa=>Y (v16 (L a 0 0) (AnH a) (AnG a) (AnI a))
def Ak3 (l:List (List C)) (k:Int) (x:List C) (ma:Int):Int:=(Aq (qi 1 (II [C.i 4,C.i ma,C.l [[C.i 1],[C.i 2]],C.i 64] (ql 7 x))*(65536+(iQuo (iSub 0 (qi 5 x)) 2+Au l k (iQuo (qi 5 x) 2-iQuo (iSub 0 (qi 5 x)) 2+1)))) (ma*65536) (qi 1 (II [C.i 4,C.i ma,C.l [[C.i 1],[C.i 2]],C.i 64] (ql 7 x))*(65536+(iQuo (iSub 0 (qi 5 x)) 2+Au l k (iQuo (qi 5 x) 2-iQuo (iSub 0 (qi 5 x)) 2+1)))))
def Ak2 (l:List (List C)) (k:Int) (x:List C) (ma:Int):Int:=(Aq (qi 1 (II [C.i 4,C.i ma,C.l [[C.i 1],[C.i 2]],C.i 64] (ql 7 x))*(65536+(iQuo (iSub 0 (qi 5 x)) 2+Au l k (iQuo (qi 5 x) 2-iQuo (iSub 0 (qi 5 x)) 2+1)))) (ma*65536) (ma*65536))
theorem v19 (l:List (List C)) (k:Int) (x:List C) (ma:Int):WL hI l/\AnC k/\WD hD x/\AnC ma->pLe 0 k/\pLe 0 (qi 5 x)/\pLe (qi 5 x) 300/\pLe 0 ma/\pLe ma 192000/\pLe 0 (MM x ma)/\pLe (MM x ma) 2147483647->True/\(AnC (MM x ma)->AnC (iSub 0 (qi 5 x))/\(pNe 2 0/\AnC (iQuo (iSub 0 (qi 5 x)) 2))/\(pNe 2 0/\AnC (iQuo (qi 5 x) 2))/\(pLe 0 k/\pLe (iQuo (iSub 0 (qi 5 x)) 2) (iQuo (qi 5 x) 2)/\pLe (-1000000) (iQuo (iSub 0 (qi 5 x)) 2)/\pLe (iQuo (qi 5 x) 2) 1000000)/\(AnC (iQuo (iSub 0 (qi 5 x)) 2+Au l k (iQuo (qi 5 x) 2-iQuo (iSub 0 (qi 5 x)) 2+1))->(pLe 0 (MM x ma)/\pLe (MM x ma) 2147483647/\pLe 0 ma/\pLe ma 192000/\pLe (-65536) (iQuo (iSub 0 (qi 5 x)) 2+Au l k (iQuo (qi 5 x) 2-iQuo (iSub 0 (qi 5 x)) 2+1))/\pLe (iQuo (iSub 0 (qi 5 x)) 2+Au l k (iQuo (qi 5 x) 2-iQuo (iSub 0 (qi 5 x)) 2+1)) 65536)/\(WL hLm [[C.i 0,C.i (Ak3 l k x ma),C.i (Ak2 l k x ma)]]->Sm l/\Sm (Aj l k)/\[[C.i 0,C.i (Ak3 l k x ma),C.i (Ak2 l k x ma)]]=WI l k x ma))):=by
 intro hw hp;delta Ak3 Ak2;obtain⟨k0,d0,d1,m0,m1,r0,r1⟩:=hp;have e1:(0-qi 5 x).tdiv 2= -((qi 5 x)/2):=by rw[Int.zero_sub,Int.neg_tdiv,AlI d0]
 have e2:(qi 5 x).tdiv 2=(qi 5 x)/2:=AlI d0;have n0:=Iq l k (n:=(qi 5 x).tdiv 2- (0-qi 5 x).tdiv 2+1) (by rw[e1,e2]; omega);have hx:AnC (qi 5 x):=hw.2.2.1.i 5;simp only[D,E];simp only[InR]at*;refine λ_=>⟨by omega,⟨by decide,by omega⟩,⟨by decide,by omega⟩,⟨k0,by omega,by omega,by omega⟩,λ_=>⟨⟨r0,r1,m0,m1,by omega,by omega⟩,λ_=>rfl⟩⟩
def r19:Cr PR:=KB [r50,r21,r49] 19 6 {ps:=[(true,hD),(false,hI)],rs:=[(true,[.sl hS])],pre:=λa=>pLe 0 (AnH a)/\(pLe 0 (qi 5 (AnR a))/\(pLe (qi 5 (AnR a)) 300/\(pLe 0 (AnI a)/\(pLe (AnI a) 192000/\(pLe 0 (MM (AnR a) (AnI a))/\pLe (MM (AnR a) (AnI a)) 2147483647))))),out:=λa=>[[.l (L a 0 0),.i (Aj (L a 0 0) (AnH a))],[.l (WI (L a 0 0) (AnH a) (AnR a) (AnI a))]],bx:=some (108,[.sl hI,.int .i64])} U λa=>Y (v19 (L a 0 0) (AnH a) (AnR a) (AnI a))
end Go.Sx

namespace Go
open Go.Sx
def TN (n z:Int):Prop:=1<=z/\(z=1∨n<=8/\z<=n+1)
theorem AaL (n:Int) {z:Int} (h:1<=z):JH n (z+1)=JH n z++[[.i z]]:=by
 unfold JH;rw[show(z+1-1).toNat=(z-1).toNat+1 by omega,AmI,AmN,Ane,show(((z-1).toNat:Nat):Int)+1=z by omega]
theorem Aaw (s f i:Int) {c:Int} (h:0<=c):KA s f i (c+1)=KA s f i c++[YJ s f i c]:=by
 unfold KA;rw[show(c+1).toNat=c.toNat+1 by omega,AmI,AmN,Ane,show((c.toNat:Nat):Int)=c by omega]
theorem XP (s f ch:Int) {i:Int} (h:0<=i):H9 s f ch (i+1)=H9 s f ch i++KA s f i ch:=by
 unfold H9;rw[show(i+1).toNat=i.toNat+1 by omega,AmI,AmW,AmL,show((i.toNat:Nat):Int)=i by omega]
theorem XG (s f i m:Int):(KA s f i m).length=m.toNat:=by unfold KA; rw[Al5,List.length_range]
theorem Aap (s f ch:Int) (h:0<=ch) (n:Nat):((H9 s f ch n).length:Int)=n*ch:=by
 induction n with
 |zero=>simp[H9]
 |succ n ih=>rw[show((n+1:Nat):Int)=(n:Int)+1 from rfl,XP s f ch (by omega),AlF,Amr,ih,XG,Amt]; omega
end Go
namespace Go.Sx
def A23 (n:Int):FuncId->Nat->LoopAnn:=λ_ _=> .ghost 3 hI 3 (.on (λsv0=>match sv0.tmps.getD 3 .undef with| .own rr _=> .inv Int (λz=>TN n z) (λz=>[(4,.int .i64 z),(3,.own rr 0)]) (λz=>[(rr,.row hI 3 0 (JH n z))]) [rr] [0,2,3,4,6,14] (λz=>(n+1-z).toNat)|_=> .unroll 0))
theorem v23 (n:Int):AnC n->Cn (bEq n 1) ([[C.i 3]]=Oh n) ((∃(x:Int),TN n x/\1=x/\[]=JH n x)/\∀(x:Int),TN n x->AnC x/\WL hI (JH n x)->Cn (bLe x n) (Cn (bLe n 8) (Abb 8 (iLen (JH n x++[[C.i x]]))/\AnC (iAdd x 1)/\Sm n/\∃(y:Int),TN n y/\iAdd x 1=y/\JH n x++[[C.i x]]=JH n y/\nLt (n+1-y).toNat (n+1-x).toNat) (JH n x=Oh n)) (JH n x=Oh n)):=by
 intro hw;simp only[D,E];have no:n≠1->∀x,TN n x->¬(x<=n/\n<=8)->JH n x=Oh n:=λh x ⟨x1,a⟩ b=>by
  unfold Oh;rw[if_neg h];unfold JH;split
  · rw[show(x-1).toNat=(n+1-1).toNat by omega]
  · rw[show(x-1).toNat=0 by omega]; rfl
 refine⟨λh=>by unfold Oh; rw[if_pos h],λh=>⟨⟨1,⟨AlO _,.inl rfl⟩,rfl,rfl⟩,λx hI _=>⟨λa=>⟨λb=> ?_,λb=>no h x hI (by omega)⟩,λa=>no h x hI (by omega)⟩⟩⟩;obtain⟨x1,c⟩:=hI;refine⟨?_,by simp only[InR]; omega,x+1,⟨by omega,.inr ⟨b,by omega⟩⟩,rfl,(AaL n x1).symm,by omega⟩;rw[AlF,AlJ]; unfold JH; rw[Al5,List.length_range]; omega
def r23:Cr PR:=K0 [] 23 6 {ps:=[(false,hI)],rs:=[(false,hL)],out:=λa=>[[.l (Oh (AnF a))]]} (λa=>A23 (AnF a)) λa=>Y (v23 (AnF a))
theorem v63 (s:Int) (i:Int) (c:Int):AnC s/\AnC i/\AnC c->Cn (bLt s 0) (0=LQ s i c) (Cn (bLt 1099511627776 s) (0=LQ s i c) (Cn (bLt i 0) (0=LQ s i c) (Cn (bLt 1099511627776 i) (0=LQ s i c) (Cn (bLt c 0) (0=LQ s i c) (Cn (bLt 7 c) (0=LQ s i c) (AnC (iMul s 7919)/\AnC (iMul i 104729)/\AnC (iAdd (iMul s 7919) (iMul i 104729))/\AnC (iMul c 1299709)/\AnC (iAdd (iAdd (iMul s 7919) (iMul i 104729)) (iMul c 1299709))/\pNe 2001 0/\AnC (iSub (iRem (iAdd (iAdd (iMul s 7919) (iMul i 104729)) (iMul c 1299709)) 2001) 1000)/\InR .i32 (iMul (Aa3 .i32 (iSub (iRem (iAdd (iAdd (iMul s 7919) (iMul i 104729)) (iMul c 1299709)) 2001) 1000)) 256)/\iMul (Aa3 .i32 (iSub (iRem (iAdd (iAdd (iMul s 7919) (iMul i 104729)) (iMul c 1299709)) 2001) 1000)) 256=LQ s i c)))))):=by
 intro hw;simp only[D,E];unfold LQ;refine⟨λh=>(if_pos (by omega)).symm,λ_=>⟨λh=>(if_pos (by omega)).symm,λ_=>⟨λh=>(if_pos (by omega)).symm,λ_=>⟨λh=>(if_pos (by omega)).symm,λ_=>⟨λh=>(if_pos (by omega)).symm,λ_=>⟨λh=>(if_pos (by omega)).symm,λ_=> ?_⟩⟩⟩⟩⟩⟩;have w:Aa3 .i32 ((s*7919+i*104729+c*1299709) % 2001-1000)=(s*7919+i*104729+c*1299709) % 2001-1000:=InR.wrap (by simp only[InR]; omega);rw[if_neg (by omega),AmP (show 0<=s*7919+i*104729+c*1299709 by omega),w];simp only[InR];exact⟨by omega,by omega,by omega,by omega,by omega,by decide,by omega,by omega,trivial⟩
def r63:Cr PR:=K0 [] 63 6 {ps:=[(false,hI),(false,hI),(false,hI)],rs:=[(false,hW)],out:=λa=>[[.i (LQ (AnF a) (AnG a) (AnI a))]]} U λa=>Y (v63 (AnF a) (AnG a) (AnI a))
def A26 (s:Int) (f:Int) (ch:Int) (n:Int):FuncId->Nat->LoopAnn:=λ_ ii=>bif Nat.beq ii 5 then .ghostB 9 1 hW 21 (.inv Int (λz=>BA n z) (λz=>[(10,.int .i64 z)]) (λz=>[(1,.box [.int .i64 ch,.own 2 0] 95),(2,.row hW 21 0 (H9 s f ch z))]) [1,2] [0,1,2,3,8,9,10,11,25,31,36] (λz=>(n-z).toNat))else .on (λsv0=>match sv0.tmps.getD 10 .undef with| .int _ zi=> .inv Int (λz=>BA ch z) (λz=>[(11,.int .i64 z)]) (λz=>[(1,.box [.int .i64 ch,.own 2 0] 95),(2,.row hW 21 0 (H9 s f ch zi++KA s f zi z))]) [1,2] [0,1,2,3,8,9,10,11,25,31,36] (λz=>(ch-z).toNat)|_=> .unroll 0)
theorem v26 (s:Int) (f:Int) (ch:Int) (n:Int):AnC s/\AnC f/\AnC ch/\AnC n->pLe (-1152921504606846976) f/\pLe f 1152921504606846976->Cn (bLt ch 1) (0=qi 0 (Ij s f ch n)/\[]=ql 1 (Ij s f ch n)) (Cn (bLt 8 ch) (0=qi 0 (Ij s f ch n)/\[]=ql 1 (Ij s f ch n)) (Cn (bLt n 0) (0=qi 0 (Ij s f ch n)/\[]=ql 1 (Ij s f ch n)) (Cn (bLt 65536 n) (0=qi 0 (Ij s f ch n)/\[]=ql 1 (Ij s f ch n)) ((∃(x:Int),BA n x/\0=x/\Sm ch/\[]=H9 s f ch x)/\∀(x:Int),BA n x->AnC x/\AnC ch/\WL hW (H9 s f ch x)->Cn (bLt x n) ((∃(x_1:Int),BA ch x_1/\0=x_1/\Sm ch/\H9 s f ch x=H9 s f ch x++KA s f x x_1)/\∀(x_1:Int),BA ch x_1->AnC x_1/\AnC ch/\WL hW (H9 s f ch x++KA s f x x_1)->Cn (bLt x_1 ch) (AnC (iAdd f x)/\True/\(InR .i32 (LQ s (iAdd f x) x_1)->Abb 4 (iLen (H9 s f ch x++KA s f x x_1++[[C.i (LQ s (iAdd f x) x_1)]]))/\AnC (iAdd x_1 1)/\Sm s/\Sm f/\Sm ch/\Sm n/\Sm x/\∃(y:Int),BA ch y/\iAdd x_1 1=y/\Sm ch/\H9 s f ch x++KA s f x x_1++[[C.i (LQ s (iAdd f x) x_1)]]=H9 s f ch x++KA s f x y/\nLt (ch-y).toNat (ch-x_1).toNat)) (AnC (iAdd x 1)/\Sm s/\Sm f/\Sm ch/\Sm n/\∃(y:Int),BA n y/\iAdd x 1=y/\Sm ch/\H9 s f ch x++KA s f x x_1=H9 s f ch y/\nLt (n-y).toNat (n-x).toNat)) (ch=qi 0 (Ij s f ch n)/\H9 s f ch x=ql 1 (Ij s f ch n)))))):=by
 intro hw hp;simp only[D,E];obtain⟨f0,f1⟩:=hp;have no:¬(1<=ch/\ch<=8/\0<=n/\n<=65536)->0=qi 0 (Ij s f ch n)/\[]=ql 1 (Ij s f ch n):=λh=>by
  unfold Ij; rw[if_neg h]; exact⟨rfl,rfl⟩
 refine⟨λh=>no (by omega),λh1=>⟨λh=>no (by omega),λh2=>⟨λh=>no (by omega),λh3=>⟨λh=>no (by omega),λh4=> ?_⟩⟩⟩⟩;refine⟨⟨0,⟨AlO _,by omega⟩,rfl,rfl⟩,λx ⟨x0,x1⟩ _=>⟨λa=>⟨⟨0,⟨AlO _,by omega⟩,rfl,(Ame _).symm⟩,λc ⟨c0,c1⟩ _=>⟨λb=>⟨by simp only[InR]; omega,λ_=>⟨?_,by simp only[InR]; omega,c+1,⟨by omega,by omega⟩,rfl,?_,by omega⟩⟩,λb=>⟨by simp only[InR]; omega,x+1,⟨by omega,by omega⟩,rfl,?_,by omega⟩⟩⟩,λa=> ?_⟩⟩
 · have q:=Aap s f ch (by omega) x.toNat;rw[show((x.toNat:Nat):Int)=x by omega]at q;have r:=AmY (show x<=65536 by omega) (show ch<=8 by omega) (by omega) (by omega);rw[AlF,AlF,AlJ,XG]; omega
 · rw[Aaw s f x c0,Amn]; rfl
 · rw[XP s f ch x0,show c=ch by omega]
 · unfold Ij; rw[if_pos ⟨by omega,by omega,by omega,by omega⟩,show x=n by omega]; exact⟨rfl,rfl⟩
def r26:Cr PR:=K [r63] 26 8 {ps:=[(false,hI),(false,hI),(false,hI),(false,hI)],rs:=[(true,hK)],pre:=λa=>pLe (-1152921504606846976) (AnG a)/\pLe (AnG a) 1152921504606846976,out:=λa=>[rb [0,3] (Ij (AnF a) (AnG a) (AnI a) (AnM a))]} (λa=>A26 (AnF a) (AnG a) (AnI a) (AnM a)) λa=>Y (v26 (AnF a) (AnG a) (AnI a) (AnM a))
end Go.Sx

namespace Go.Sx
abbrev hCp:List Sh:=[.int .u64,.int .i64,.sl hW]
end Go.Sx
namespace Go
open Go.Sx
def YC (e o:List C) (n:Int):List C:=Ij (Aa3 .i64 (qi 0 o)) (qi 2 e*100) (iLen (ql 10 o)) n
def AaX (e o:List C) (n:Int):List C:=[.i (qi 0 o),.i (qi 0 (YC e o n)),.l (ql 1 (YC e o n))]
def Rx (e:List C) (i:Int):List (List C):=if qi 2 (rGet (ql 3 e) i)=2 then[AaX e (rGet (ql 3 e) i) (qi 0 (rGet (I8 e) i))]else[]
def IZ (e:List C) (n:Int):List (List C):=(List.range n.toNat).flatMap fun(i:Nat)=>Rx e i
def GL (e:List C):List (List C):=if H5 e=0 then IZ e ((ql 3 e).length:Int)else[]
def Rq (e:List C) (z:Int):Prop:=BA ((ql 3 e).length:Int) z/\(H5 e≠0->z=0)
theorem XR (e:List C) {i:Int} (h:0<=i):IZ e (i+1)=IZ e i++Rx e i:=by
 unfold IZ;rw[show(i+1).toNat=i.toNat+1 by omega,AmI,AmW,AmL,show((i.toNat:Nat):Int)=i by omega]
theorem Aax (e:List C) (n:Nat):(IZ e n).length<=n:=by
 induction n with
 |zero=>simp[IZ]
 |succ n ih=>
  rw[show((n+1:Nat):Int)=(n:Int)+1 from rfl,XR e (by omega),AlF]
  have:(Rx e n).length<=1:=by unfold Rx; split<;>simp
  omega
end Go
namespace Go.Sx
def A29 (e:List C):FuncId->Nat->LoopAnn:=λ_ _=> .ghost 5 hCp 176 (.on (λsv0=>match sv0.tmps.getD 5 .undef with| .own rr _=> .inv Int (λz=>Rq e z) (λz=>[(6,.int .i64 z),(5,.own rr 0)]) (λz=>[(rr,.row hCp 176 0 (IZ e z))]) [rr] [0,1,2,3,4,5,6,7,21,33] (λz=>(ql 3 e).length-z.toNat)|_=> .unroll 0))
def AiM (e:List C) (x:Int):List C:=(Ij (Aa3 .i64 (qi 0 (rGet (ql 3 e) x))) (iMul (qi 2 e) 100) (iLen (ql 10 (rGet (ql 3 e) x))) (qi 0 (rGet (I8 e) x)))
theorem v29 (e:List C):WD hE e->True/\(WL hI (I8 e)/\AnC (H5 e)->(∃(x:Int),Rq e x/\0=x/\[]=IZ e x)/\∀(x:Int),Rq e x->AnC x/\WL hCp (IZ e x)->AnE (ql 3 e)->Cn (bLt x (iLen (ql 3 e))) (Cn (bEq (H5 e) 0) (pIn 0 (iLen (ql 3 e)) x/\(WD hD (rGet (ql 3 e) x)->Cn (bEq (qi 2 (rGet (ql 3 e) x)) 2) (AnC (iMul (qi 2 e) 100)/\pIn 0 (iLen (ql 3 e)) x/\(WD hOu (rGet (ql 3 e) x)->True/\(WL hI (ql 10 (rGet (ql 3 e) x))->AnE (ql 10 (rGet (ql 3 e) x))->pIn 0 (iLen (I8 e)) x/\(AnC (qi 0 (rGet (I8 e) x))->(pLe (-1152921504606846976) (iMul (qi 2 e) 100)/\pLe (iMul (qi 2 e) 100) 1152921504606846976)/\(AnC (qi 0 (AiM e x))/\WL hW (ql 1 (AiM e x))->Abb 40 (iLen (IZ e x++[C.i (qi 0 (rGet (ql 3 e) x))::sg 0 [0,3] (AiM e x)]))/\AnC (iAdd x 1)/\Sm (sg 0 [0,0,0,3,3] e)/\Sm (I8 e)/\Sm (H5 e)/\Sm (sg 0 [0,0,0,3,3] e)/\∃(y:Int),Rq e y/\iAdd x 1=y/\IZ e x++[C.i (qi 0 (rGet (ql 3 e) x))::sg 0 [0,3] (AiM e x)]=IZ e y/\nLt ((ql 3 e).length-y.toNat) ((ql 3 e).length-x.toNat)))))) (AnC (iAdd x 1)/\Sm (sg 0 [0,0,0,3,3] e)/\Sm (I8 e)/\Sm (H5 e)/\Sm (sg 0 [0,0,0,3,3] e)/\∃(y:Int),Rq e y/\iAdd x 1=y/\IZ e x=IZ e y/\nLt ((ql 3 e).length-y.toNat) ((ql 3 e).length-x.toNat)))) (IZ e x=GL e)) (IZ e x=GL e)):=by
 intro hw;delta AiM;simp only[D,E];have no:H5 e≠0->∀x,Rq e x->IZ e x=GL e:=λh x hI=>by
  unfold GL; rw[if_neg h,hI.2 h]; rfl
 refine λ_=>⟨⟨0,⟨⟨AlO _,by omega⟩,λ_=>rfl⟩,rfl,rfl⟩,λx hI _ _=>⟨λhl=>⟨λe0=> ?_,λh=>no h x hI⟩,λhl=> ?_⟩⟩
 · obtain ⟨⟨x0, x1⟩, x2⟩ := hI;have v : BZ e = true := by
    cases h:BZ e with
    |true=>rfl
    |false=>rw[show H5 e=1 from if_pos h]at e0; omega
   have b:=RY v;have b1:=(L8 v).1;have q2:=UU (pe:=qi 1 e) (by omega);have c0:0<=qi 2 e:=by omega
   have c1:qi 2 e<=1099511627776:=by have:=Al0 (show 1<=qi 1 e by omega) c0; omega
   have ul:((I8 e).length:Int)=(ql 3 e).length:=by
    unfold I8; rw[if_pos e0]; unfold MX; rw[Al5,AlN]; omega
   have hr:AnC (x+1):=by simp only[InR]; omega
   have ts:=XR e x0;refine⟨⟨x0,hl⟩,λ_=>⟨λd2=>⟨by simp only[InR]; omega,⟨x0,hl⟩,λ_ _ _=>⟨⟨x0,by omega⟩,λ_=>⟨⟨by omega,by omega⟩,λ_=>⟨?_,hr,x+1,⟨⟨by omega,by omega⟩,λh=>absurd e0 h⟩,rfl,?_,by omega⟩⟩⟩⟩,λd2=>⟨hr,x+1,⟨⟨by omega,by omega⟩,λh=>absurd e0 h⟩,rfl,?_,by omega⟩⟩⟩
   · have:=Aax e x.toNat;rw[show((x.toNat:Nat):Int)=x by omega]at this;rw[AlF,AlJ]; omega
   · rw[ts]; unfold Rx; rw[if_pos d2]; rfl
   · rw[ts]; unfold Rx; rw[if_neg d2,Ame]
 · by_cases h:H5 e=0
   · unfold GL; rw[if_pos h,show x=((ql 3 e).length:Int) by have:=hI.1.2; omega]
   · exact no h x hI
def r29:Cr PR:=K0 [r70,r71,r26] 29 8 {ps:=[(true,hE)],rs:=[(false,[.sl hCp])],out:=λa=>[[.l (GL (AnQ a))]]} (λa=>A29 (AnQ a)) λa=>Y (v29 (AnQ a))
end Go.Sx

namespace Go.Sx
abbrev hDk:List Sh:=[.sl hI,.int .i64]
end Go.Sx
namespace Go
open Go.Sx
def G9:List (List C):=[[.i 48000],[.i 44100]]
def FI:List (List C):=[[.i 16],[.i 32]]
def UE:List (List C):=[[.i 8388607],[.i 65536]]
def UD:List (List C):=[[.i 48000],[.i 24000],[.i 44100]]
def Rh (l:List (List C)) (k:Int):List C:=Ip (qi 0 (rGet G9 (Au l k 2))) (qi 0 (rGet FI (Au l (Aj l k) 2)))
def EK (l:List (List C)) (k id:Int):List C:=Ry l (Aj l k) id (1+(Aa3 .i64 id).tdiv 3)
def GZ (l:List (List C)) (k id:Int) (e:List C):List C:=II [.i 4,.i (qi 0 e),.l [[.i 1],[.i 2]],.i 64] (ql 7 (EK l k id))
def Tj (l:List (List C)) (k id:Int) (e:List C):List (List C):=WI l (Dk l (Aj l k) 6) (EK l k id) (qi 0 e)
def JO (l:List (List C)) (k id:Int) (e:List C):List C:=Jh (EK l k id) (qi 0 (GZ l k id e)) (qi 1 (GZ l k id e)) (ql 2 (GZ l k id e)) (qi 3 (GZ l k id e)) (Tj l k id e) (qi 0 e) (qi 1 e)
def Tq (l:List (List C)) (k id:Int) (e:List C):Int:=G7 (EK l k id) (qi 0 (GZ l k id e)) (qi 1 (GZ l k id e)) (ql 2 (GZ l k id e)) (qi 3 (GZ l k id e)) (Tj l k id e) (qi 0 e) (qi 1 e)
def Me (l:List (List C)) (k id:Int) (e:List C):List C:=J4 e (JO l k id e) (qi 0 (rGet UE (Au l (Aj l (Dk l (Aj l k) 6)) 2))) 100 65536
def FT (l:List (List C)) (k id:Int) (e:List C):Int×List C:=
 if Au l k 3=0 then(Aj l k,e)else
 if Tq l k id e=0 then(Dk l k 9,Me l k id e)else(Dk l k 8,e)
def Hf (l:List (List C)) (k:Int):Nat->Int×List C
 |0=>(Dk l k 2,Rh l k)
 |n+1=>FT l (Hf l k n).1 (n+1) (Hf l k n).2
def PV (l:List (List C)) (k:Int) (z:Int×Int×List C):Prop:=1<=z.1/\z.1<=4/\z.2=Hf l k (z.1-1).toNat
def Qq (l:List (List C)) (k id:Int) (e:List C):List C:=Kv e id (1+id.tdiv 3) (Oh (1+Au l (Aj l k) (3-1+1))) (qi 0 (rGet UD (Au l (Aj l (Aj l k)) 3))) 400 2
def RD (l:List (List C)) (k:Int):Int:=Aa3 .u64 (Au l (Aj l (Aj l (Aj l k))) 4)
def PU (l:List (List C)) (k id:Int) (e:List C):List C:=if Jn (Qq l k id e) id (RD l k)=0 then KI (Qq l k id e) id (RD l k)else Qq l k id e
def Kt (l:List (List C)) (k id:Int):List C:=Ij id 0 (1+Au l (Aj l k) (3-1+1)) (Au l (Aj l (Aj l (Aj l (Aj l k)))) 300)
def Oc (l:List (List C)) (k id:Int) (e:List C):List C:=if 1+id.tdiv 3=1 then Lr (PU l k id e) id (qi 0 (Kt l k id)) (ql 1 (Kt l k id))else PU l k id e
def SG (l:List (List C)) (k id:Int) (e:List C):List C:=if Gt (Oc l k id e) id 1=0 then GR (Oc l k id e) id 1 else Oc l k id e
def Ny (l:List (List C)) (k id:Int) (e:List C):Int×List C:=if Au l k 4=0 then(Aj l k,e)else(if 1+id.tdiv 3=1 then Dk l k 5 else Dk l k 4,SG l k id e)
def Fp (l:List (List C)) (k:Int):Nat->Int×List C
 |0=>Hf l k 3
 |n+1=>Ny l (Fp l k n).1 (n+1) (Fp l k n).2
def IM (l:List (List C)) (k:Int) (z:Int×Int×List C):Prop:=1<=z.1/\z.1<=4/\z.2=Fp l k (z.1-1).toNat
def Oa (e:List C):List C:=if GN e (GL e)=0 then Io e (GL e)else e
def Qy (e:List C):Nat->List C
 |0=>e
 |n+1=>Oa (Qy e n)
def Nl (l:List (List C)) (k:Int):Int:=Au l (Fp l k 3).1 4
def TB (l:List (List C)) (k:Int) (z:Int×List C):Prop:=0<=z.1/\z.1<=Nl l k/\z.2=Qy (Fp l k 3).2 (Nl l k-z.1).toNat
def KH (l:List (List C)) (k:Int):Int:=Aj l (Fp l k 3).1
def Ba (l:List (List C)) (k:Int):List C:=Qy (Fp l k 3).2 (Nl l k).toNat
theorem XK {f:List C->Bool} {g:List C->List C->Bool}:∀ {xs:List (List C)} {o:Option (List C)},KJ f g o xs=true->∀x∈xs,f x=true
 |[],_,_,_,h=>by cases h
 |y::r,o,h,x,hx=>by
  simp only[KJ,AlG]at h;rcases Amd.1 hx with rfl|hx
  · exact h.1.1
  · exact XK h.2 x hx
theorem Ajp {P:List C->Prop} {f:List C->List C->List C}:∀ {xs:List (List C)} {a:List C},P a->(∀a,∀x∈xs,P a->P (f a x))->P (xs.foldl f a)
 |[],_,ha,_=>ha
 |x::r,a,ha,h=>Ajp (xs:=r) (h a x List.mem_cons_self ha) λb y hy hb=>h b y (List.mem_cons_of_mem _ hy) hb
theorem Aaq (xs:List (List C)) (n:Int):0<=qi 0 (Gw xs n)/\qi 0 (Gw xs n)<=2147483647:=by
 refine Ajp (P:=λs=>0<=qi 0 s/\qi 0 s<=2147483647) ⟨by decide,by decide⟩ λs x hx hs=> ?_;have h:Fg x=true:=by
  unfold AA at hx
  cases hv:DX xs
  · rw[hv]at hx; cases hx
  · rw[hv]at hx;unfold DX at hv;rw[AlG]at hv;exact XK hv.1 x hx
 have h:=Amb h;unfold U7;split
 · show 0<=max (qi 0 x) (min (qi 1 x) n)/\max (qi 0 x) (min (qi 1 x) n)<=_;omega
 · exact hs
theorem AaK (w:List C) (l:List (List C)):0<=qi 1 (II w l)/\qi 1 (II w l)<=2147483647:=by
 refine Ajp (P:=λs=>0<=qi 1 s/\qi 1 s<=2147483647) ⟨by decide,by decide⟩ λs x hx hs=> ?_;unfold U6;split
 · exact Aaq (ql 1 x) (qi 1 w)
 · exact hs
theorem Aar (r p:Int):0<=qi 0 (Ip r p)/\qi 0 (Ip r p)<=192000:=by
 unfold Ip MH;by_cases g:8000<=r/\r<=192000/\16<=p/\p<=8192
 · rw[if_pos g,if_pos rfl]; show 0<=r/\r<=192000; omega
 · rw[if_neg g,if_neg (by decide)]; exact⟨by decide,by decide⟩
theorem Aau (l:List (List C)) (k:Int) (n:Nat):0<=qi 0 (Hf l k n).2/\qi 0 (Hf l k n).2<=192000:=by
 induction n with
 |zero=>exact Aar _ _
 |succ n ih=>
  show 0<=qi 0 (FT l (Hf l k n).1 (n+1) (Hf l k n).2).2/\qi 0 (FT l (Hf l k n).1 (n+1) (Hf l k n).2).2<=192000
  generalize Hf l k n=z at*
  unfold FT
  split
  · exact ih
  · split
    · show 0<=qi 0 (Me l z.1 (n+1) z.2)/\qi 0 (Me l z.1 (n+1) z.2)<=192000
      unfold Me J4
      split
      · exact ih
      · exact⟨by decide,by decide⟩
    · exact ih
theorem Qv {l:List (List C)} {k:Int} (h:0<=k):∀n,0<=Dk l k n
 |0=>h
 |n+1=>Ik (Qv h n)
theorem XN (l:List (List C)) {k:Int} (h:0<=k) (n:Nat):0<=(Hf l k n).1:=by
 induction n with
 |zero=>exact Qv h 2
 |succ n ih=>
  show 0<=(FT l (Hf l k n).1 (n+1) (Hf l k n).2).1
  generalize Hf l k n=z at*
  unfold FT
  split
  · exact Ik ih
  · split
    · exact Qv ih 9
    · exact Qv ih 8
theorem VL (l:List (List C)) {k:Int} (h:0<=k) (n:Nat):0<=(Fp l k n).1:=by
 induction n with
 |zero=>exact XN l h 3
 |succ n ih=>
  show 0<=(Ny l (Fp l k n).1 (n+1) (Fp l k n).2).1
  generalize Fp l k n=z at*
  unfold Ny
  split
  · exact Ik ih
  · dsimp only
    split
    · exact Qv ih 5
    · exact Qv ih 4
end Go
namespace Go.Sx
def A6 (l:List (List C)) (k:Int):FuncId->Nat->LoopAnn:=λ_ ii=>bif Nat.beq ii 3 then .on (λsv0=>match sv0.tmps.getD 3 .undef with| .ref kk _=> .inv (Int×Int×List C) (λz=>PV l k z) (λz=>[(5,.int .u64 z.1)]) (λz=>[(0,.box (ofCs hDk [.l l,.i z.2.1]) 108),(kk,.box (ofCs hE z.2.2) 27)]) [0,kk] [0,2,3,5,6,7,9,10,11,12,13,14,15,16,17,18,20,21,37,42,77,91,96,126,129,148,153,165] (λz=>(4-z.1).toNat)|_=> .unroll 0)else bif Nat.beq ii 12 then .on (λsv0=>match sv0.tmps.getD 3 .undef with| .ref kk _=> .inv (Int×Int×List C) (λz=>IM l k z) (λz=>[(11,.int .i64 z.1)]) (λz=>[(0,.box (ofCs hDk [.l l,.i z.2.1]) 108),(kk,.box (ofCs hE z.2.2) 27)]) [0,kk] [0,2,3,5,6,7,9,10,11,12,13,14,15,16,17,18,20,21,37,42,77,91,96,126,129,148,153,165] (λz=>(4-z.1).toNat)|_=> .unroll 0)else .on (λsv0=>match sv0.tmps.getD 3 .undef with| .ref kk _=> .inv (Int×List C) (λz=>TB l k z) (λz=>[(18,.int .i64 z.1)]) (λz=>[(kk,.box (ofCs hE z.2) 27)]) [kk] [0,2,3,5,6,7,9,10,11,12,13,14,15,16,17,18,20,21,37,42,77,91,96,126,129,148,153,165] (λz=>z.1.toNat)|_=> .unroll 0)
def m6_0 (l:List (List C)) (x_1:Int×Int×List C):List C:=(Lr (KI (Qq l x_1.2.1 x_1.1 x_1.2.2) x_1.1 (RD l x_1.2.1)) x_1.1 (qi 0 (Kt l x_1.2.1 x_1.1)) (ql 1 (Kt l x_1.2.1 x_1.1)))
def m6_1 (l:List (List C)) (x_1:Int×Int×List C):List C:=(KI (Qq l x_1.2.1 x_1.1 x_1.2.2) x_1.1 (RD l x_1.2.1))
def m6_2 (l:List (List C)) (x_1:Int×Int×List C):List C:=(Qq l x_1.2.1 x_1.1 x_1.2.2)
def m6_3 (l:List (List C)) (x_1:Int×Int×List C):List C:=(Lr (m6_2 l x_1) x_1.1 (qi 0 (Kt l x_1.2.1 x_1.1)) (ql 1 (Kt l x_1.2.1 x_1.1)))
def m6_4 (l:List (List C)) (x_1:Int×Int×List C):Int:=(Aj l (Aj l (Aj l x_1.2.1)))
def m6_5 (x_1:Int×Int×List C) (y:Int×Int×List C):Prop:=nLt (4-y.1).toNat (4-x_1.1).toNat
theorem v6 (l:List (List C)) (k:Int):WL hI l/\AnC k->pLe 0 k/\True->(pLe 0 k/\pLe 1 2)/\(AnC (Au l k 2)->pIn 0 (iLen G9) (Au l k 2)/\(AnC (qi 0 (rGet G9 (Au l k 2)))->(pLe 0 (Aj l k)/\pLe 1 2)/\(AnC (Au l (Aj l k) 2)->pIn 0 (iLen FI) (Au l (Aj l k) 2)/\(AnC (qi 0 (rGet FI (Au l (Aj l k) 2)))->True/\(WD hE (Ip (qi 0 (rGet G9 (Au l k 2))) (qi 0 (rGet FI (Au l (Aj l k) 2))))/\AnC (MH (qi 0 (rGet G9 (Au l k 2))) (qi 0 (rGet FI (Au l (Aj l k) 2))))->(∃(x:Int×Int×List C),PV l k x/\1=x.1/\Sm l/\Aj l (Aj l k)=x.2.1/\sg 0 [0,0,0,3,3] (Ip (qi 0 (rGet G9 (Au l k 2))) (qi 0 (rGet FI (Au l (Aj l k) 2))))=sg 0 [0,0,0,3,3] x.2.2)/\∀(x:Int×Int×List C),PV l k x->AnD x.1/\WL hI l/\AnC x.2.1/\WD hE x.2.2->Cn (bLe x.1 3) ((pLe 0 x.2.1/\pLe 1 3)/\(AnC (Au l x.2.1 3)->Cn (bEq (Au l x.2.1 3) 0) (AnD (iAdd x.1 1)/\Sm G9/\Sm FI/\∃(y:Int×Int×List C),PV l k y/\iAdd x.1 1=y.1/\Sm l/\Aj l x.2.1=y.2.1/\sg 0 [0,0,0,3,3] x.2.2=sg 0 [0,0,0,3,3] y.2.2/\nLt (4-y.1).toNat (4-x.1).toNat) ((pNe 3 0/\AnC (iQuo (Aa3 .i64 x.1) 3))/\AnC (iAdd 1 (iQuo (Aa3 .i64 x.1) 3))/\(pLe 0 (Aj l x.2.1)/\True)/\(WD hD (EK l x.2.1 x.1)->pLe (iLen [[C.i 1],[C.i 2]]) 1000/\(AnC (qi 0 (GZ l x.2.1 x.1 x.2.2))/\AnC (qi 1 (GZ l x.2.1 x.1 x.2.2))/\WL hI (ql 2 (GZ l x.2.1 x.1 x.2.2))/\AnC (qi 3 (GZ l x.2.1 x.1 x.2.2))->(pLe 0 (Dk l (Aj l x.2.1) 6)/\pLe 0 (qi 5 (EK l x.2.1 x.1))/\pLe (qi 5 (EK l x.2.1 x.1)) 300/\pLe 0 (qi 0 x.2.2)/\pLe (qi 0 x.2.2) 192000/\pLe 0 (MM (EK l x.2.1 x.1) (qi 0 x.2.2))/\pLe (MM (EK l x.2.1 x.1) (qi 0 x.2.2)) 2147483647)/\(WL hLm (Tj l x.2.1 x.1 x.2.2)->True/\(WD hV (JO l x.2.1 x.1 x.2.2)/\AnC (Tq l x.2.1 x.1 x.2.2)->Cn (bEq (Tq l x.2.1 x.1 x.2.2) 0) ((pLe 0 (Aj l (Dk l (Aj l x.2.1) 6))/\pLe 1 2)/\(AnC (Au l (Aj l (Dk l (Aj l x.2.1) 6)) 2)->pIn 0 (iLen UE) (Au l (Aj l (Dk l (Aj l x.2.1) 6)) 2)/\(AnC (qi 0 (rGet UE (Au l (Aj l (Dk l (Aj l x.2.1) 6)) 2)))->True/\(WD hE (Me l x.2.1 x.1 x.2.2)/\AnC (J6 x.2.2 (JO l x.2.1 x.1 x.2.2) (qi 0 (rGet UE (Au l (Aj l (Dk l (Aj l x.2.1) 6)) 2))) 100 65536)->AnD (iAdd x.1 1)/\Sm G9/\Sm FI/\∃(y:Int×Int×List C),PV l k y/\iAdd x.1 1=y.1/\Sm l/\Aj l (Aj l (Dk l (Aj l x.2.1) 6))=y.2.1/\sg 0 [0,0,0,3,3] (Me l x.2.1 x.1 x.2.2)=sg 0 [0,0,0,3,3] y.2.2/\nLt (4-y.1).toNat (4-x.1).toNat)))) (AnD (iAdd x.1 1)/\Sm G9/\Sm FI/\∃(y:Int×Int×List C),PV l k y/\iAdd x.1 1=y.1/\Sm l/\Aj l (Dk l (Aj l x.2.1) 6)=y.2.1/\sg 0 [0,0,0,3,3] x.2.2=sg 0 [0,0,0,3,3] y.2.2/\nLt (4-y.1).toNat (4-x.1).toNat)))))))) ((∃(x_1:Int×Int×List C),IM l k x_1/\1=x_1.1/\Sm l/\x.2.1=x_1.2.1/\sg 0 [0,0,0,3,3] x.2.2=sg 0 [0,0,0,3,3] x_1.2.2)/\∀(x_1:Int×Int×List C),IM l k x_1->AnC x_1.1/\WL hI l/\AnC x_1.2.1/\WD hE x_1.2.2->Cn (bLe x_1.1 3) ((pLe 0 x_1.2.1/\pLe 1 4)/\(AnC (Au l x_1.2.1 4)->Cn (bEq (Au l x_1.2.1 4) 0) (AnC (iAdd x_1.1 1)/\Sm x.1/\Sm G9/\Sm FI/\∃(y:Int×Int×List C),IM l k y/\iAdd x_1.1 1=y.1/\Sm l/\Aj l x_1.2.1=y.2.1/\sg 0 [0,0,0,3,3] x_1.2.2=sg 0 [0,0,0,3,3] y.2.2/\(m6_5 x_1 y)) ((pNe 3 0/\AnC (iQuo x_1.1 3))/\AnC (iAdd 1 (iQuo x_1.1 3))/\(pLe 0 (Aj l x_1.2.1)/\pLe 1 3/\pLe (-1000000) 1/\pLe 3 1000000)/\(AnC (1+Au l (Aj l x_1.2.1) (3-1+1))->True/\(WL hI (Oh (1+Au l (Aj l x_1.2.1) (3-1+1)))->(pLe 0 (Aj l (Aj l x_1.2.1))/\pLe 1 3)/\(AnC (Au l (Aj l (Aj l x_1.2.1)) 3)->pIn 0 (iLen UD) (Au l (Aj l (Aj l x_1.2.1)) 3)/\(AnC (qi 0 (rGet UD (Au l (Aj l (Aj l x_1.2.1)) 3)))->True/\(WD hE (m6_2 l x_1)/\AnC (Hr x_1.2.2 x_1.1 (iAdd 1 (iQuo x_1.1 3)) (Oh (1+Au l (Aj l x_1.2.1) (3-1+1))) (qi 0 (rGet UD (Au l (Aj l (Aj l x_1.2.1)) 3))) 400 2)->(pLe 0 (m6_4 l x_1)/\pLe 1 4)/\(AnC (Au l (m6_4 l x_1) 4)->True/\(WD hE (m6_1 l x_1)/\AnC (Jn (m6_2 l x_1) x_1.1 (RD l x_1.2.1))->Cn (bEq (Jn (m6_2 l x_1) x_1.1 (RD l x_1.2.1)) 0) (Cn (bEq (iAdd 1 (iQuo x_1.1 3)) 1) ((pLe 0 (Aj l (m6_4 l x_1))/\pLe 1 300)/\(AnC (Au l (Aj l (m6_4 l x_1)) 300)->(pLe (-1152921504606846976) 0/\pLe 0 1152921504606846976)/\(AnC (qi 0 (Kt l x_1.2.1 x_1.1))/\WL hW (ql 1 (Kt l x_1.2.1 x_1.1))->True/\(WD hE (m6_0 l x_1)/\AnC (MN (m6_1 l x_1) x_1.1 (qi 0 (Kt l x_1.2.1 x_1.1)) (ql 1 (Kt l x_1.2.1 x_1.1)))->True/\(WD hE (GR (m6_0 l x_1) x_1.1 1)/\AnC (Gt (m6_0 l x_1) x_1.1 1)->Cn (bEq (Gt (m6_0 l x_1) x_1.1 1) 0) (AnC (iAdd x_1.1 1)/\Sm x.1/\Sm G9/\Sm FI/\∃(y:Int×Int×List C),IM l k y/\iAdd x_1.1 1=y.1/\Sm l/\Aj l (Aj l (m6_4 l x_1))=y.2.1/\sg 0 [0,0,0,3,3] (GR (m6_0 l x_1) x_1.1 1)=sg 0 [0,0,0,3,3] y.2.2/\(m6_5 x_1 y)) (AnC (iAdd x_1.1 1)/\Sm x.1/\Sm G9/\Sm FI/\∃(y:Int×Int×List C),IM l k y/\iAdd x_1.1 1=y.1/\Sm l/\Aj l (Aj l (m6_4 l x_1))=y.2.1/\sg 0 [0,0,0,3,3] (m6_0 l x_1)=sg 0 [0,0,0,3,3] y.2.2/\(m6_5 x_1 y))))))) (True/\(WD hE (GR (m6_1 l x_1) x_1.1 1)/\AnC (Gt (m6_1 l x_1) x_1.1 1)->Cn (bEq (Gt (m6_1 l x_1) x_1.1 1) 0) (AnC (iAdd x_1.1 1)/\Sm x.1/\Sm G9/\Sm FI/\∃(y:Int×Int×List C),IM l k y/\iAdd x_1.1 1=y.1/\Sm l/\Aj l (m6_4 l x_1)=y.2.1/\sg 0 [0,0,0,3,3] (GR (m6_1 l x_1) x_1.1 1)=sg 0 [0,0,0,3,3] y.2.2/\(m6_5 x_1 y)) (AnC (iAdd x_1.1 1)/\Sm x.1/\Sm G9/\Sm FI/\∃(y:Int×Int×List C),IM l k y/\iAdd x_1.1 1=y.1/\Sm l/\Aj l (m6_4 l x_1)=y.2.1/\sg 0 [0,0,0,3,3] (m6_1 l x_1)=sg 0 [0,0,0,3,3] y.2.2/\(m6_5 x_1 y))))) (Cn (bEq (iAdd 1 (iQuo x_1.1 3)) 1) ((pLe 0 (Aj l (m6_4 l x_1))/\pLe 1 300)/\(AnC (Au l (Aj l (m6_4 l x_1)) 300)->(pLe (-1152921504606846976) 0/\pLe 0 1152921504606846976)/\(AnC (qi 0 (Kt l x_1.2.1 x_1.1))/\WL hW (ql 1 (Kt l x_1.2.1 x_1.1))->True/\(WD hE (m6_3 l x_1)/\AnC (MN (m6_2 l x_1) x_1.1 (qi 0 (Kt l x_1.2.1 x_1.1)) (ql 1 (Kt l x_1.2.1 x_1.1)))->True/\(WD hE (GR (m6_3 l x_1) x_1.1 1)/\AnC (Gt (m6_3 l x_1) x_1.1 1)->Cn (bEq (Gt (m6_3 l x_1) x_1.1 1) 0) (AnC (iAdd x_1.1 1)/\Sm x.1/\Sm G9/\Sm FI/\∃(y:Int×Int×List C),IM l k y/\iAdd x_1.1 1=y.1/\Sm l/\Aj l (Aj l (m6_4 l x_1))=y.2.1/\sg 0 [0,0,0,3,3] (GR (m6_3 l x_1) x_1.1 1)=sg 0 [0,0,0,3,3] y.2.2/\(m6_5 x_1 y)) (AnC (iAdd x_1.1 1)/\Sm x.1/\Sm G9/\Sm FI/\∃(y:Int×Int×List C),IM l k y/\iAdd x_1.1 1=y.1/\Sm l/\Aj l (Aj l (m6_4 l x_1))=y.2.1/\sg 0 [0,0,0,3,3] (m6_3 l x_1)=sg 0 [0,0,0,3,3] y.2.2/\(m6_5 x_1 y))))))) (True/\(WD hE (GR (m6_2 l x_1) x_1.1 1)/\AnC (Gt (m6_2 l x_1) x_1.1 1)->Cn (bEq (Gt (m6_2 l x_1) x_1.1 1) 0) (AnC (iAdd x_1.1 1)/\Sm x.1/\Sm G9/\Sm FI/\∃(y:Int×Int×List C),IM l k y/\iAdd x_1.1 1=y.1/\Sm l/\Aj l (m6_4 l x_1)=y.2.1/\sg 0 [0,0,0,3,3] (GR (m6_2 l x_1) x_1.1 1)=sg 0 [0,0,0,3,3] y.2.2/\(m6_5 x_1 y)) (AnC (iAdd x_1.1 1)/\Sm x.1/\Sm G9/\Sm FI/\∃(y:Int×Int×List C),IM l k y/\iAdd x_1.1 1=y.1/\Sm l/\Aj l (m6_4 l x_1)=y.2.1/\sg 0 [0,0,0,3,3] (m6_2 l x_1)=sg 0 [0,0,0,3,3] y.2.2/\(m6_5 x_1 y))))))))))))))) ((pLe 0 x_1.2.1/\pLe 1 4)/\(AnC (Au l x_1.2.1 4)->(∃(x:Int×List C),TB l k x/\Au l x_1.2.1 4=x.1/\sg 0 [0,0,0,3,3] x_1.2.2=sg 0 [0,0,0,3,3] x.2)/\∀(x_2:Int×List C),TB l k x_2->AnC x_2.1/\WD hE x_2.2->Cn (bLt 0 x_2.1) (True/\(WL hCp (GL x_2.2)->True/\(AnC (qi 0 (CZ x_2.2 (GL x_2.2)))/\WL hPl (ql 1 (CZ x_2.2 (GL x_2.2)))/\WL hHd (ql 2 (CZ x_2.2 (GL x_2.2)))/\WL hGl (ql 3 (CZ x_2.2 (GL x_2.2)))/\WD hE (Io x_2.2 (GL x_2.2))/\AnC (GN x_2.2 (GL x_2.2))->Cn (bEq (GN x_2.2 (GL x_2.2)) 0) (AnC (iSub x_2.1 1)/\Sm x.1/\Sm x_1.1/\Sm [C.l l,C.i (Aj l x_1.2.1)]/\Sm G9/\Sm FI/\∃(y:Int×List C),TB l k y/\iSub x_2.1 1=y.1/\sg 0 [0,0,0,3,3] (Io x_2.2 (GL x_2.2))=sg 0 [0,0,0,3,3] y.2/\nLt y.1.toNat x_2.1.toNat) (AnC (iSub x_2.1 1)/\Sm x.1/\Sm x_1.1/\Sm [C.l l,C.i (Aj l x_1.2.1)]/\Sm G9/\Sm FI/\∃(y:Int×List C),TB l k y/\iSub x_2.1 1=y.1/\sg 0 [0,0,0,3,3] x_2.2=sg 0 [0,0,0,3,3] y.2/\nLt y.1.toNat x_2.1.toNat)))) (Sm l/\Aj l x_1.2.1=KH l k/\sg 0 [0,0,0,3,3] x_2.2=sg 0 [0,0,0,3,3] (Ba l k)))))))))):=by
  intro hw hp;delta m6_0 m6_1 m6_2 m6_3 m6_4 m6_5;obtain⟨k0,_⟩:=hp;have t1:=Ik (l:=l) k0;have n0:=Iq l k (n:=2) (by decide);have n1:=Iq l (Aj l k) (n:=2) (by decide);have st:∀ {x:Int×Int×List C},PV l k x->x.1<=3->PV l k (x.1+1,FT l x.2.1 x.1 x.2.2):=λ{x} ⟨a,b,c⟩ h=>⟨by simp only; omega,by simp only; omega,by
    show FT l x.2.1 x.1 x.2.2=Hf l k (x.1+1-1).toNat;rw[show(x.1+1-1).toNat=(x.1-1).toNat+1 by omega,Hf,←c,show(((x.1-1).toNat:Nat):Int)+1=x.1 by omega]⟩
  simp only[D,E];refine⟨⟨k0,by decide⟩,λ_=>⟨n0,λ_=>⟨⟨t1,by decide⟩,λ_=>⟨n1,λ_ _=>⟨⟨(1,Dk l k 2,Rh l k),⟨AlO (1:Int),(by decide:(1:Int)<=4),rfl⟩,rfl,rfl,rfl⟩,λx hI wx=>⟨λa=> ?_,λa=> ?_⟩⟩⟩⟩⟩⟩
  · have s:=st hI a;obtain⟨i1,i2,i3⟩:=hI;have p0:=XN l k0 (x.1-1).toNat;have q0:=Aau l k (x.1-1).toNat;rw[←i3]at p0 q0;have r0:=Ik (l:=l) p0;have r6:=Qv (l:=l) r0 6;have dr:0<=qi 5 (EK l x.2.1 x.1)/\qi 5 (EK l x.2.1 x.1)<=300:=by
      have:=Iq l (Dk l (Aj l x.2.1) 2) (n:=300) (by decide);show 0<=Au l (Dk l (Aj l x.2.1) 2) 300/\Au l (Dk l (Aj l x.2.1) 2) 300<=300;omega
    have kr:0<=MM (EK l x.2.1 x.1) (qi 0 x.2.2)/\MM (EK l x.2.1 x.1) (qi 0 x.2.2)<=2147483647:=AaK _ _;have m9:=Iq l (Aj l (Dk l (Aj l x.2.1) 6)) (n:=2) (by decide);have iw:Aa3 .i64 x.1=x.1:=InR.wrap (by simp only[InR]; omega);have nx:AnD (x.1+1):=by simp only[InR]; omega
    have dv:AnC (x.1.tdiv 3)/\AnC (1+x.1.tdiv 3):=by
      rw[AlI (by omega)]; simp only[InR]; omega
    rw[iw];refine⟨⟨p0,by decide⟩,λ_=>⟨λh=>⟨nx,_,s,rfl,?_,?_⟩,λh=>⟨⟨by decide,dv.1⟩,dv.2,r0,λ_=>⟨by decide,λ_=>⟨⟨r6,dr.1,dr.2,q0.1,q0.2,kr.1,kr.2⟩,λ_ _=>⟨λg=>⟨⟨Ik r6,by decide⟩,λ_=>⟨m9,λ_ _=>⟨nx,_,s,rfl,?_,?_⟩⟩⟩,λg=>⟨nx,_,s,rfl,?_,?_⟩⟩⟩⟩⟩⟩⟩
    · have e:FT l x.2.1 x.1 x.2.2=(Aj l x.2.1,x.2.2):=if_pos h;show _=(FT l x.2.1 x.1 x.2.2).1;exact(show _=_ from rfl).trans (congrArg Prod.fst e).symm
    · have e:FT l x.2.1 x.1 x.2.2=(Aj l x.2.1,x.2.2):=if_pos h;refine⟨?_,by show(4- (x.1+1)).toNat<(4-x.1).toNat; omega⟩;show _=sg 0 [0,0,0,3,3] (FT l x.2.1 x.1 x.2.2).2;rw[e]
    · have e:FT l x.2.1 x.1 x.2.2=(Dk l x.2.1 9,Me l x.2.1 x.1 x.2.2):=(if_neg h).trans (if_pos g);show _=(FT l x.2.1 x.1 x.2.2).1;exact(show _=_ from rfl).trans (congrArg Prod.fst e).symm
    · have e:FT l x.2.1 x.1 x.2.2=(Dk l x.2.1 9,Me l x.2.1 x.1 x.2.2):=(if_neg h).trans (if_pos g);refine⟨?_,by show(4- (x.1+1)).toNat<(4-x.1).toNat; omega⟩;show _=sg 0 [0,0,0,3,3] (FT l x.2.1 x.1 x.2.2).2;rw[e]
    · have e:FT l x.2.1 x.1 x.2.2=(Dk l x.2.1 8,x.2.2):=(if_neg h).trans (if_neg g);show _=(FT l x.2.1 x.1 x.2.2).1;exact(show _=_ from rfl).trans (congrArg Prod.fst e).symm
    · have e:FT l x.2.1 x.1 x.2.2=(Dk l x.2.1 8,x.2.2):=(if_neg h).trans (if_neg g);refine⟨?_,by show(4- (x.1+1)).toNat<(4-x.1).toNat; omega⟩;show _=sg 0 [0,0,0,3,3] (FT l x.2.1 x.1 x.2.2).2;rw[e]
  · obtain⟨i1,i2,i3⟩:=hI;have x4:x.1=4:=by omega
    have x2:x.2=Fp l k 0:=by rw[i3,x4]; rfl
    have sw:∀ {y:Int×Int×List C},IM l k y->y.1<=3->IM l k (y.1+1,Ny l y.2.1 y.1 y.2.2):=λ{y} ⟨a,b,c⟩ h=>⟨by simp only; omega,by simp only; omega,by
      show Ny l y.2.1 y.1 y.2.2=Fp l k (y.1+1-1).toNat;rw[show(y.1+1-1).toNat=(y.1-1).toNat+1 by omega,Fp,←c,show(((y.1-1).toNat:Nat):Int)+1=y.1 by omega]⟩
    refine⟨⟨(1,x.2),⟨AlO (1:Int),(by decide:(1:Int)<=4),x2⟩,rfl,rfl,rfl⟩,λy hy wy=>⟨λb=> ?_,λb=> ?_⟩⟩
    · have s:=sw hy b;obtain⟨j1,j2,j3⟩:=hy;have p0:=VL l k0 (y.1-1).toNat;rw[←j3]at p0;have p1:=Ik (l:=l) p0;have p2:=Ik (l:=l) p1;have p3:=Ik (l:=l) p2;have p4:=Ik (l:=l) p3;have m3:=Iq l (Aj l (Aj l y.2.1)) (n:=3) (by decide);have nx:AnC (y.1+1):=by simp only[InR]; omega
      have dv:AnC (y.1.tdiv 3)/\AnC (1+y.1.tdiv 3):=by
        rw[AlI (by omega)]; simp only[InR]; omega
      have leaf:∀ {kk:Int} {ee:List C},Ny l y.2.1 y.1 y.2.2=(kk,ee)->(AnC (y.1+1)/\∃z,IM l k z/\y.1+1=z.1/\kk=z.2.1/\sg 0 [0,0,0,3,3] ee=sg 0 [0,0,0,3,3] z.2.2/\(4-z.1).toNat<(4-y.1).toNat):=λ{kk ee} e=>⟨nx,_,s,rfl,(congrArg Prod.fst e).symm,by show _=sg 0 [0,0,0,3,3] (Ny l y.2.1 y.1 y.2.2).2; rw[e],by show(4- (y.1+1)).toNat<(4-y.1).toNat; omega⟩
      refine⟨⟨p0,by decide⟩,λ_=>⟨λh=>leaf (if_pos h),λh=> ?_⟩⟩;have fin:∀ {E3:List C} {kk:Int},Oc l y.2.1 y.1 y.2.2=E3->(if 1+y.1.tdiv 3=1 then Dk l y.2.1 5 else Dk l y.2.1 4)=kk->(Gt E3 y.1 1=0->(AnC (y.1+1)/\∃z,IM l k z/\y.1+1=z.1/\kk=z.2.1/\sg 0 [0,0,0,3,3] (GR E3 y.1 1)=sg 0 [0,0,0,3,3] z.2.2/\(4-z.1).toNat<(4-y.1).toNat))/\(¬Gt E3 y.1 1=0->(AnC (y.1+1)/\∃z,IM l k z/\y.1+1=z.1/\kk=z.2.1/\sg 0 [0,0,0,3,3] E3=sg 0 [0,0,0,3,3] z.2.2/\(4-z.1).toNat<(4-y.1).toNat)):=λ{E3 kk} e3 ek=>⟨λd=>leaf (by unfold Ny SG; rw[if_neg h,e3,if_pos d,ek]),λd=>leaf (by unfold Ny SG; rw[if_neg h,e3,if_neg d,ek])⟩
      refine⟨⟨by decide,dv.1⟩,dv.2,⟨p1,by decide,by decide,by decide⟩,λ_ _=>⟨⟨p2,by decide⟩,λ_=>⟨m3,λ_ _=>⟨⟨p3,by decide⟩,λ_ _=>⟨λg=>⟨λf=>⟨⟨p4,by decide⟩,λ_=>⟨⟨by decide,by decide⟩,λ_ _ _=>fin (by unfold Oc PU; rw[if_pos f,if_pos g]) (if_pos f)⟩⟩,λf _=>fin (by unfold Oc PU; rw[if_neg f,if_pos g]) (if_neg f)⟩,λg=>⟨λf=>⟨⟨p4,by decide⟩,λ_=>⟨⟨by decide,by decide⟩,λ_ _ _=>fin (by unfold Oc PU; rw[if_pos f,if_neg g]) (if_pos f)⟩⟩,λf _=>fin (by unfold Oc PU; rw[if_neg f,if_neg g]) (if_neg f)⟩⟩⟩⟩⟩⟩
    · have y4:y.1=4:=by have:=hy.1; have:=hy.2.1; omega
      have y2:y.2=Fp l k 3:=by rw[hy.2.2,y4]; rfl
      have p0:=VL l k0 3;have n4:=Iq l y.2.1 (n:=4) (by decide);have nn:Nl l k=Au l y.2.1 4:=by unfold Nl; rw[y2]
      rw[←y2]at p0;refine⟨⟨p0,by decide⟩,λ_=>⟨⟨(Au l y.2.1 4,y.2.2),⟨n4.1,by rw[nn]; exact AlO _,by rw[nn]; show y.2.2=Qy _ (Au l y.2.1 4-Au l y.2.1 4).toNat; rw[Int.sub_self,y2]; rfl⟩,rfl,rfl⟩,λz ⟨z0,z1,z2⟩ wz=>⟨λc=> ?_,λc=> ?_⟩⟩⟩
      · have e:Qy (Fp l k 3).2 (Nl l k- (z.1-1)).toNat=Oa z.2:=by
          rw[z2,show(Nl l k- (z.1-1)).toNat=(Nl l k-z.1).toNat+1 by omega]; rfl
        have nx:AnC (z.1-1):=by have:=n4.2; simp only[InR]; omega
        refine λ_ _=>⟨λg=>⟨nx,(z.1-1,Oa z.2),⟨by simp only; omega,by simp only; omega,e.symm⟩,rfl,?_⟩,λg=>⟨nx,(z.1-1,Oa z.2),⟨by simp only; omega,by simp only; omega,e.symm⟩,rfl,?_⟩⟩
        · have f:Oa z.2=Io z.2 (GL z.2):=if_pos g;exact⟨by show _=sg 0 [0,0,0,3,3] (Oa z.2); rw[f],by show(z.1-1).toNat<z.1.toNat; omega⟩
        · have f:Oa z.2=z.2:=if_neg g;exact⟨by show _=sg 0 [0,0,0,3,3] (Oa z.2); rw[f],by show(z.1-1).toNat<z.1.toNat; omega⟩
      · have z3:z.1=0:=by omega
        refine⟨?_,?_⟩
        · unfold KH; rw[y2]
        · unfold Ba; rw[z2,z3,Int.sub_zero]
def r6:Cr PR:=KB [r11,r21,r15,r16,r17,r19,r18,r20,r23,r22,r24,r26,r25,r27,r29,r28,(mark 1000022)] 6 10 {ps:=[],rs:=[(true,hE)],pre:=λa=>pLe 0 (AnH a)/\True,out:=λa=>[[.l (L a 0 0),.i (KH (L a 0 0) (AnH a))],rb [0,0,0,3,3] (Ba (L a 0 0) (AnH a))],bx:=some (108,[.sl hI,.int .i64])} (λa=>A6 (L a 0 0) (AnH a)) λa=>Y (v6 (L a 0 0) (AnH a))
end Go.Sx

