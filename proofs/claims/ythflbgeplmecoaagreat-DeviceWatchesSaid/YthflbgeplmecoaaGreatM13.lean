import Derived.Test.YthflbgeplmecoaaGreatSxUse
import Derived.Test.YthflbgeplmecoaaGreatM03
import Derived.RangeFuncNested
import Derived.RangeFuncBound
import Derived.RangeFuncCalls
import Derived.RangeFuncLeaves
import Derived.Shelf.Abstract
import Derived.Shelf.RegionOpen
import Derived.WalkKit
import Derived.OwnWalkIn
import Derived.TacticsInMore
import Derived.LoopNIn
import Derived.LoopIn
import Derived.Test.YthflbgeplmecoaaGreatSxOpen
set_option linter.unusedVariables false
set_option linter.unusedSimpArgs false
set_option maxRecDepth 100000
set_option maxHeartbeats 4000000
namespace Go
open Go.Sx
def Sp.cu (n d:Int):Bool:=Sp.rvalid n d&&decide (d≤n*1024∧n≤d*1024)
def Sp.cvR (p:Int) (xs:List (List C)):Bool:=
 match xs with
 |[]=>true
 |x::r=>(Sp.cu (qi 1 x) (qi 2 x)&&decide (qi 0 x≤1099511627776∧p<qi 0 x))&&Sp.cvR (qi 0 x) r
def Sp.cvA (xs:List (List C)):Bool:=
 match xs with
 |[]=>true
 |x::r=>(Sp.cu (qi 1 x) (qi 2 x)&&decide (qi 0 x=0))&&Sp.cvR (qi 0 x) r
def Sp.cval (xs:List (List C)):Bool:=Sp.cvA xs&&decide (1≤(xs.length:Int)∧(xs.length:Int)≤64)
def Sp.cvI (xs:List (List C)) (i:Int):Prop:=0≤i∧i≤(xs.length:Int)∧(1≤i→Sp.cvR (qi 0 (rGet xs (i-1))) (xs.drop i.toNat)=Sp.cvA xs)
def Sp.nwV (n d:Int):List (List C):=bif Sp.cu n d then[[.i 0,.i n,.i d]]else[]
def Sp.nwE (n d:Int):Int:=bif Sp.cu n d then 0 else 1
def Sp.lastF (xs:List (List C)):Int:=qi 0 (rGet xs ((xs.length:Int)-1))
def Sp.chE (xs:List (List C)) (f n d:Int):Int:=if Sp.cval xs=false then 1 else if f≤Sp.lastF xs∨1099511627776<f then 2 else if Sp.cu n d=false then 1 else if(xs.length:Int)=64 then 3 else 0
def Sp.chV (xs:List (List C)) (f n d:Int):List (List C):=if Sp.chE xs f n d=0 then xs++[[.i f,.i n,.i d]]else[]
end Go
namespace Go
open Go.Sx
theorem Sp.drop_cons {xs:List (List C)} {k:Int} (h0:0≤k) (h1:k<(xs.length:Int)):xs.drop k.toNat=rGet xs k::xs.drop (k+1).toNat:=by
 rw[List.drop_eq_getElem_cons (show k.toNat<xs.length by omega),show(k+1).toNat=k.toNat+1 by omega]
 congr 1
 simp[rGet,List.getD_eq_getElem?_getD,show k.toNat<xs.length by omega]
section
variable {xs:List (List C)} {i:Int}
theorem Sp.cvI_next (h:Sp.cvI xs i) (hi:i<(xs.length:Int)) (h1:Sp.cu (qi 1 (rGet xs i)) (qi 2 (rGet xs i))=true) (h2:qi 0 (rGet xs i)≤1099511627776) (h3:i=0→qi 0 (rGet xs i)=0) (h4:0<i→qi 0 (rGet xs (i-1))<qi 0 (rGet xs i)):Sp.cvI xs (i+1):=by
 obtain⟨i0,i1,hr⟩:=h
 refine⟨by omega,by omega,fun _=> ?_⟩
 rw[show i+1-1=i by omega]
 have hd:=Sp.drop_cons i0 hi
 by_cases hz:i=0
 · subst hz
   have hx:xs=rGet xs 0::xs.drop (0+1:Int).toNat:=hd
   have:Sp.cvA xs=Sp.cvA (rGet xs 0::xs.drop (0+1:Int).toNat):=congrArg Sp.cvA hx
   rw[this,Sp.cvA,h1,decide_eq_true (h3 rfl)]; rfl
 · rw[←hr (by omega),hd,Sp.cvR,h1,decide_eq_true (And.intro h2 (h4 (by omega)))]; rfl
theorem Sp.cvI_bad (h:Sp.cvI xs i) (hi:i<(xs.length:Int)) (hb:Sp.cu (qi 1 (rGet xs i)) (qi 2 (rGet xs i))=false∨1099511627776<qi 0 (rGet xs i)∨(i=0∧qi 0 (rGet xs i)≠0)∨(0<i∧qi 0 (rGet xs i)≤qi 0 (rGet xs (i-1)))):false=Sp.cval xs:=by
 obtain⟨i0,i1,hr⟩:=h
 have hd:=Sp.drop_cons i0 hi
 have key:Sp.cvA xs=false:=by
  by_cases hz:i=0
  · subst hz
    have hx:xs=rGet xs 0::xs.drop (0+1:Int).toNat:=hd
    have:Sp.cvA xs=Sp.cvA (rGet xs 0::xs.drop (0+1:Int).toNat):=congrArg Sp.cvA hx
    rw[this,Sp.cvA]
    rcases hb with hb|hb|hb|hb
    · rw[hb]; rfl
    · rw[decide_eq_false (show¬qi 0 (rGet xs 0)=0 by omega),Bool.and_false]; rfl
    · rw[decide_eq_false hb.2,Bool.and_false]; rfl
    · omega
  · rw[←hr (by omega),hd,Sp.cvR]
    rcases hb with hb|hb|hb|hb
    · rw[hb]; rfl
    · rw[decide_eq_false (by omega),Bool.and_false]; rfl
    · omega
    · rw[decide_eq_false (by omega),Bool.and_false]; rfl
 unfold Sp.cval
 rw[key]; rfl
theorem Sp.cvI_end (h:Sp.cvI xs i) (hi:¬i<(xs.length:Int)):Sp.cval xs=decide (1≤(xs.length:Int)∧(xs.length:Int)≤64):=by
 obtain⟨i0,i1,hr⟩:=h
 unfold Sp.cval
 by_cases hz:xs.length=0
 · have:xs=[]:=List.eq_nil_of_length_eq_zero hz
   subst this; rfl
 · rw[←hr (by omega),List.drop_eq_nil_of_le (by omega)]; rfl
end
end Go
namespace Go
open Go.Sx
theorem Sp.cval_len {xs:List (List C)} (h:Sp.cval xs=true):1≤(xs.length:Int)∧(xs.length:Int)≤64:=by
 unfold Sp.cval at h
 rw[Bool.and_eq_true,decide_eq_true_eq]at h
 exact h.2
theorem Sp.cval_one (n d:Int):Sp.cval [[C.i 0,C.i n,C.i d]]=Sp.cu n d:=by
 unfold Sp.cval
 simp only[Sp.cvA,Sp.cvR]
 rw[show qi 0 [C.i 0,C.i n,C.i d]=0 from rfl,show qi 1 [C.i 0,C.i n,C.i d]=n from rfl,show qi 2 [C.i 0,C.i n,C.i d]=d from rfl]
 simp
section
variable {xs:List (List C)} {f n d v:Int}
theorem Sp.chV_no (h:Sp.chE xs f n d=v) (hv:v≠0):[]=Sp.chV xs f n d∧v=Sp.chE xs f n d:=by
 unfold Sp.chV
 rw[if_neg (by rw[h]; exact hv)]
 exact⟨rfl,h.symm⟩
theorem Sp.chV_yes (h:Sp.chE xs f n d=0):xs++[[C.i f,C.i n,C.i d]]=Sp.chV xs f n d∧0=Sp.chE xs f n d:=by
 unfold Sp.chV
 rw[if_pos h]
 exact⟨rfl,h.symm⟩
theorem Sp.chE1 (h:Sp.cval xs=false):Sp.chE xs f n d=1:=by unfold Sp.chE; rw[if_pos h]
theorem Sp.chE2 (h:Sp.cval xs=true) (hf:f≤Sp.lastF xs∨1099511627776<f):Sp.chE xs f n d=2:=by unfold Sp.chE; rw[if_neg (by simp[h]),if_pos hf]
theorem Sp.chE3 (h:Sp.cval xs=true) (hf:¬(f≤Sp.lastF xs∨1099511627776<f)) (hc:Sp.cu n d=false):Sp.chE xs f n d=1:=by unfold Sp.chE; rw[if_neg (by simp[h]),if_neg hf,if_pos hc]
theorem Sp.chE4 (h:Sp.cval xs=true) (hf:¬(f≤Sp.lastF xs∨1099511627776<f)) (hc:Sp.cu n d=true) (hl:(xs.length:Int)=64):Sp.chE xs f n d=3:=by unfold Sp.chE; rw[if_neg (by simp[h]),if_neg hf,if_neg (by simp[hc]),if_pos hl]
theorem Sp.chE0 (h:Sp.cval xs=true) (hf:¬(f≤Sp.lastF xs∨1099511627776<f)) (hc:Sp.cu n d=true) (hl:¬(xs.length:Int)=64):Sp.chE xs f n d=0:=by unfold Sp.chE; rw[if_neg (by simp[h]),if_neg hf,if_neg (by simp[hc]),if_neg hl]
end
end Go
namespace Go.Sx
theorem v153 (n:Int) (d:Int):InR .i64 n∧InR .i64 d→True∧Cn (Sp.rvalid n d) (InR .i64 (iMul n 1024)∧Cn (bLe d (iMul n 1024)) (InR .i64 (iMul d 1024)∧bLe n (iMul d 1024)=Sp.cu n d) (false=Sp.cu n d)) (false=Sp.cu n d):=by
 intro hw
 simp only[Cn_iff,Sm_iff,true_and]
 try simp only[iAdd,iSub,iMul,iLen,eq_self,true_and,and_true,true_implies,implies_true]
 have hc:Sp.cu n d=(Sp.rvalid n d&&decide (d≤n*1024∧n≤d*1024)):=rfl
 refine⟨fun h=> ?_,fun h=>by rw[hc,h]; rfl⟩
 have hr:=h
 simp only[Sp.rvalid,decide_eq_true_eq]at hr
 rw[hc,h,Bool.true_and]
 simp only[bLe,decide_eq_true_eq,decide_eq_false_iff_not,InR]
 exact⟨by omega,fun h1=>⟨by omega,by rw[decide_eq_decide]; omega⟩,fun h1=>by symm; rw[decide_eq_false_iff_not]; omega⟩
def r153:Cr PR:=K0 [r144] 153 6 {ps:=[(true,hII)],rs:=[(false,[.bool])],pre:=fun _=>True,out:=fun a=>[[.b (Sp.cu (I a 0 0) (I a 0 1))]]} U fun a=>Y (v153 (I a 0 0) (I a 0 1))
end Go.Sx
namespace Go.Sx
theorem v137 (n:Int) (d:Int):InR .i64 n∧InR .i64 d→True∧Cn (Sp.rvalid n d) (True∧(InR .i64 (Sp.cmp n d 1 1024)→Cn (bLe 0 (Sp.cmp n d 1 1024)) (True∧(InR .i64 (Sp.cmp n d 1024 1)→bLe (Sp.cmp n d 1024 1) 0=Sp.cu n d)) (false=Sp.cu n d))) (false=Sp.cu n d):=by
 intro hw
 simp only[Cn_iff,Sm_iff,true_and]
 try simp only[iAdd,iSub,iMul,iLen,eq_self,true_and,and_true,true_implies,implies_true]
 have hc:Sp.cu n d=(Sp.rvalid n d&&decide (d≤n*1024∧n≤d*1024)):=rfl
 refine⟨fun h=> ?_,fun h=>by rw[hc,h]; rfl⟩
 have hr:=h
 simp only[Sp.rvalid,decide_eq_true_eq]at hr
 have r1:Sp.rvalid 1 1024=true:=by decide+kernel
 have r2:Sp.rvalid 1024 1=true:=by decide+kernel
 have k1:Sp.cmp n d 1 1024=if n*1024<1*d then-1 else if n*1024=1*d then 0 else 1:=by unfold Sp.cmp; rw[if_neg (by simp[h,r1])]
 have k2:Sp.cmp n d 1024 1=if n*1<1024*d then-1 else if n*1=1024*d then 0 else 1:=by unfold Sp.cmp; rw[if_neg (by simp[h,r2])]
 rw[hc,h,Bool.true_and,k1,k2]
 simp only[bLe,decide_eq_true_eq,decide_eq_false_iff_not]
 refine fun _=>⟨fun h1 _=> ?_,fun h1=> ?_⟩
 · rw[decide_eq_decide]
   split at h1<;>split<;>(try split)<;>(try split at h1)<;>omega
 · symm; rw[decide_eq_false_iff_not]
   split at h1<;>(try split at h1)<;>omega
def r137:Cr PR:=K0 [r76,r203] 137 6 {ps:=[(true,hII)],rs:=[(false,[.bool])],pre:=fun _=>True,out:=fun a=>[[.b (Sp.cu (I a 0 0) (I a 0 1))]]} U fun a=>Y (v137 (I a 0 0) (I a 0 1))
end Go.Sx
namespace Go.Sx
def A97 (xs:List (List C)):FuncId→Nat→LoopAnn:=fun _ ii=>bif Nat.beq ii 2 then .inv Int (fun z=>Sp.cvI xs z) (fun z=>[(8,.int .i64 z)]) (fun _=>[]) [] [0,1,2,3,4,6,7,8,9,46] (fun z=>xs.length-z.toNat)else .unroll 0
def m97_0 (xs:List (List C)) (x:Int):Prop:=InR .i64 (iAdd x 1)∧Sm [C.l xs]∧Sm xs∧Sm (iLen xs)∧Sm [C.l xs]∧∃(y:Int),Sp.cvI xs y∧iAdd x 1=y∧nLt (xs.length-y.toNat) (xs.length-x.toNat)
def m97_1 (xs:List (List C)) (x:Int):Prop:=InR .i64 (iSub x 1)∧pIn 0 (iLen xs) (iSub x 1)∧(InR .i64 (qi 0 (rGet xs (iSub x 1)))→Cn (bLe (qi 0 (rGet xs x)) (qi 0 (rGet xs (iSub x 1)))) (false=Sp.cval xs) ((m97_0 xs x)))
theorem v97 (xs:List (List C)):WL hS xs→pLe (iLen xs) 9223372036854775807→(∃(x:Int),Sp.cvI xs x∧0=x)∧∀(x:Int),Sp.cvI xs x→InR .i64 x→Cn (bLt x (iLen xs)) (pIn 0 (iLen xs) x∧(InR .i64 (qi 0 (rGet xs x))∧InR .i64 (qi 1 (rGet xs x))∧InR .i64 (qi 2 (rGet xs x))→True∧True∧Cn (bNot (Sp.cu (qi 1 (rGet xs x)) (qi 2 (rGet xs x)))) (false=Sp.cval xs) (Cn (bLt 1099511627776 (qi 0 (rGet xs x))) (false=Sp.cval xs) (Cn (bEq x 0) (Cn (bNe (qi 0 (rGet xs x)) 0) (false=Sp.cval xs) (Cn (bLt 0 x) ((m97_1 xs x)) ((m97_0 xs x)))) (Cn (bLt 0 x) ((m97_1 xs x)) ((m97_0 xs x))))))) (pLe (iLen xs) 9223372036854775807→Cn (bLe 1 (iLen xs)) (pLe (iLen xs) 9223372036854775807→bLe (iLen xs) 64=Sp.cval xs) (false=Sp.cval xs)):=by
 intro hw
 delta m97_0 m97_1
 simp only[Cn_iff,Sm_iff,true_and]
 try simp only[iAdd,iSub,iMul,iLen,eq_self,true_and,and_true,true_implies,implies_true]
 skip
 have hm:xs.length≤9223372036854775807:=hw.1
 intro _
 refine⟨⟨0,⟨by omega,by omega,fun h=>by omega⟩,rfl⟩,?_⟩
 rintro i hI _
 have hI':=hI
 obtain⟨i0,i1,_⟩:=hI'
 refine⟨fun hlt=> ?_,fun hge=> ?_⟩
 rotate_left
 · simp only[bLt,decide_eq_false_iff_not]at hge
   rw[Sp.cvI_end hI hge]
   simp only[pLe,bLe]
   repeat' (first|apply And.intro|intro _)
   all_goals (first|assumption|(rw[decide_eq_decide]; simp only[decide_eq_true_eq]at*; omega)|(symm; rw[decide_eq_false_iff_not]; simp only[decide_eq_false_iff_not]at*; omega))
 simp only[bLt,decide_eq_true_eq]at hlt
 refine⟨⟨i0,hlt⟩,fun _=> ?_⟩
 have B:=fun hb=>Sp.cvI_bad hI hlt hb
 have N:Sp.cu (qi 1 (rGet xs i)) (qi 2 (rGet xs i))=true→qi 0 (rGet xs i)≤1099511627776→(i=0→qi 0 (rGet xs i)=0)→(0<i→qi 0 (rGet xs (i-1))<qi 0 (rGet xs i))→InR IntKind.i64 (i+1)∧∃y,Sp.cvI xs y∧i+1=y∧xs.length-y.toNat<xs.length-i.toNat:=fun a b c d=>by
  exact⟨by simp only[InR]; omega,i+1,Sp.cvI_next hI hlt a b c d,rfl,by omega⟩
 generalize Sp.cu (qi 1 (rGet xs i)) (qi 2 (rGet xs i))=c at*
 generalize qi 0 (rGet xs i)=F at*
 generalize qi 0 (rGet xs (i-1))=L at*
 have B2:c=true→(1099511627776<F∨i=0∧F≠0∨0<i∧F≤L)→false=Sp.cval xs:=fun _ h=>B (.inr h)
 cases c
 · have b:=B (.inl rfl)
   clear B N B2
   simp only[bNot,Bool.not_false,Bool.true_eq_false,false_implies,true_implies,true_and]
   repeat' (first|exact b|apply And.intro|intro _)
   all_goals (first|trivial|assumption)
 · have N:=N rfl
   have B2:=B2 rfl
   clear B
   simp only[bNot,Bool.not_true,Bool.false_eq_true,false_implies,true_implies,true_and,and_true,bLt,bLe,bEq,bNe,decide_eq_true_eq,decide_eq_false_iff_not,Bool.not_eq_true',Bool.not_eq_false',Decidable.not_not,pIn]
   have R:InR IntKind.i64 (i-1):=by simp only[InR]; omega
   repeat' (first|exact R|exact B2 (by omega)|exact N (by omega) (by omega) (by omega)|apply And.intro|intro _)
   all_goals omega
def r97:Cr PR:=K0 [r153] 97 6 {ps:=[(true,[.sl hS])],rs:=[(false,[.bool])],pre:=fun _=>True,out:=fun a=>[[.b (Sp.cval (L a 0 0))]]} (fun a=>A97 (L a 0 0)) fun a=>Y (v97 (L a 0 0))
end Go.Sx
namespace Go.Sx
def A75 (xs:List (List C)):FuncId→Nat→LoopAnn:=fun _ ii=>bif Nat.beq ii 2 then .inv Int (fun z=>Sp.cvI xs z) (fun z=>[(8,.int .i64 z)]) (fun _=>[]) [] [0,1,2,3,4,6,7,8,9,46] (fun z=>xs.length-z.toNat)else .unroll 0
def m75_0 (xs:List (List C)) (x:Int):Prop:=InR .i64 (iAdd x 1)∧Sm [C.l xs]∧Sm xs∧Sm (iLen xs)∧Sm [C.l xs]∧∃(y:Int),Sp.cvI xs y∧iAdd x 1=y∧nLt (xs.length-y.toNat) (xs.length-x.toNat)
def m75_1 (xs:List (List C)) (x:Int):Prop:=InR .i64 (iSub x 1)∧pIn 0 (iLen xs) (iSub x 1)∧(InR .i64 (qi 0 (rGet xs (iSub x 1)))→Cn (bLe (qi 0 (rGet xs x)) (qi 0 (rGet xs (iSub x 1)))) (false=Sp.cval xs) (Cn (bLt 1099511627776 (qi 0 (rGet xs x))) (false=Sp.cval xs) ((m75_0 xs x))))
theorem v75 (xs:List (List C)):WL hS xs→pLe (iLen xs) 9223372036854775807→(∃(x:Int),Sp.cvI xs x∧0=x)∧∀(x:Int),Sp.cvI xs x→InR .i64 x→Cn (bLt x (iLen xs)) (pIn 0 (iLen xs) x∧(InR .i64 (qi 0 (rGet xs x))∧InR .i64 (qi 1 (rGet xs x))∧InR .i64 (qi 2 (rGet xs x))→True∧True∧Cn (bNot (Sp.cu (qi 1 (rGet xs x)) (qi 2 (rGet xs x)))) (false=Sp.cval xs) (Cn (bEq x 0) (Cn (bNe (qi 0 (rGet xs x)) 0) (false=Sp.cval xs) (Cn (bLt 0 x) ((m75_1 xs x)) (Cn (bLt 1099511627776 (qi 0 (rGet xs x))) (false=Sp.cval xs) ((m75_0 xs x))))) (Cn (bLt 0 x) ((m75_1 xs x)) (Cn (bLt 1099511627776 (qi 0 (rGet xs x))) (false=Sp.cval xs) ((m75_0 xs x))))))) (pLe (iLen xs) 9223372036854775807→Cn (bLe 1 (iLen xs)) (pLe (iLen xs) 9223372036854775807→bLe (iLen xs) 64=Sp.cval xs) (false=Sp.cval xs)):=by
 intro hw
 delta m75_0 m75_1
 simp only[Cn_iff,Sm_iff,true_and]
 try simp only[iAdd,iSub,iMul,iLen,eq_self,true_and,and_true,true_implies,implies_true]
 skip
 have hm:xs.length≤9223372036854775807:=hw.1
 intro _
 refine⟨⟨0,⟨by omega,by omega,fun h=>by omega⟩,rfl⟩,?_⟩
 rintro i hI _
 have hI':=hI
 obtain⟨i0,i1,_⟩:=hI'
 refine⟨fun hlt=> ?_,fun hge=> ?_⟩
 rotate_left
 · simp only[bLt,decide_eq_false_iff_not]at hge
   rw[Sp.cvI_end hI hge]
   simp only[pLe,bLe]
   repeat' (first|apply And.intro|intro _)
   all_goals (first|assumption|(rw[decide_eq_decide]; simp only[decide_eq_true_eq]at*; omega)|(symm; rw[decide_eq_false_iff_not]; simp only[decide_eq_false_iff_not]at*; omega))
 simp only[bLt,decide_eq_true_eq]at hlt
 refine⟨⟨i0,hlt⟩,fun _=> ?_⟩
 have B:=fun hb=>Sp.cvI_bad hI hlt hb
 have N:Sp.cu (qi 1 (rGet xs i)) (qi 2 (rGet xs i))=true→qi 0 (rGet xs i)≤1099511627776→(i=0→qi 0 (rGet xs i)=0)→(0<i→qi 0 (rGet xs (i-1))<qi 0 (rGet xs i))→InR IntKind.i64 (i+1)∧∃y,Sp.cvI xs y∧i+1=y∧xs.length-y.toNat<xs.length-i.toNat:=fun a b c d=>by
  exact⟨by simp only[InR]; omega,i+1,Sp.cvI_next hI hlt a b c d,rfl,by omega⟩
 generalize Sp.cu (qi 1 (rGet xs i)) (qi 2 (rGet xs i))=c at*
 generalize qi 0 (rGet xs i)=F at*
 generalize qi 0 (rGet xs (i-1))=L at*
 have B2:c=true→(1099511627776<F∨i=0∧F≠0∨0<i∧F≤L)→false=Sp.cval xs:=fun _ h=>B (.inr h)
 cases c
 · have b:=B (.inl rfl)
   clear B N B2
   simp only[bNot,Bool.not_false,Bool.true_eq_false,false_implies,true_implies,true_and]
   repeat' (first|exact b|apply And.intro|intro _)
   all_goals (first|trivial|assumption)
 · have N:=N rfl
   have B2:=B2 rfl
   clear B
   simp only[bNot,Bool.not_true,Bool.false_eq_true,false_implies,true_implies,true_and,and_true,bLt,bLe,bEq,bNe,decide_eq_true_eq,decide_eq_false_iff_not,Bool.not_eq_true',Bool.not_eq_false',Decidable.not_not,pIn]
   have R:InR IntKind.i64 (i-1):=by simp only[InR]; omega
   repeat' (first|exact R|exact B2 (by omega)|exact N (by omega) (by omega) (by omega)|apply And.intro|intro _)
   all_goals omega
def r75:Cr PR:=K0 [r137] 75 6 {ps:=[(true,[.sl hS])],rs:=[(false,[.bool])],pre:=fun _=>True,out:=fun a=>[[.b (Sp.cval (L a 0 0))]]} (fun a=>A75 (L a 0 0)) fun a=>Y (v75 (L a 0 0))
end Go.Sx
namespace Go.Sx
theorem v62 (n:Int) (d:Int):InR .i64 n∧InR .i64 d→True∧True∧Cn (bNot (Sp.cval [[C.i 0,C.i n,C.i d]])) ([]=Sp.nwV n d∧1=Sp.nwE n d) ([[C.i 0,C.i n,C.i d]]=Sp.nwV n d∧0=Sp.nwE n d):=by
 intro hw
 simp only[Cn_iff,Sm_iff,true_and]
 try simp only[iAdd,iSub,iMul,iLen,eq_self,true_and,and_true,true_implies,implies_true]
 rw[Sp.cval_one]
 unfold Sp.nwV Sp.nwE
 cases Sp.cu n d<;>simp[bNot]
def r62:Cr PR:=K0 [r75] 62 6 {ps:=[(true,hII)],rs:=[(true,[.sl hS]),(false,hI)],pre:=fun _=>True,out:=fun a=>[[.l (Sp.nwV (I a 0 0) (I a 0 1))],[.i (Sp.nwE (I a 0 0) (I a 0 1))]]} U fun a=>Y (v62 (I a 0 0) (I a 0 1))
end Go.Sx
namespace Go.Sx
theorem v105 (xs:List (List C)) (f:Int) (n:Int) (d:Int):WL hS xs∧InR .i64 f∧InR .i64 n∧InR .i64 d→True∧True∧Cn (bNot (Sp.cval xs)) ([]=Sp.chV xs f n d∧1=Sp.chE xs f n d) (pLe (iLen xs) 9223372036854775807→InR .i64 (iSub (iLen xs) 1)∧pIn 0 (iLen xs) (iSub (iLen xs) 1)∧(InR .i64 (qi 0 (rGet xs (iSub (iLen xs) 1)))→Cn (bLe f (qi 0 (rGet xs (iSub (iLen xs) 1)))) ([]=Sp.chV xs f n d∧2=Sp.chE xs f n d) (Cn (bLt 1099511627776 f) ([]=Sp.chV xs f n d∧2=Sp.chE xs f n d) (True∧True∧Cn (bNot (Sp.cu n d)) ([]=Sp.chV xs f n d∧1=Sp.chE xs f n d) (pLe (iLen xs) 9223372036854775807→Cn (bLe 64 (iLen xs)) ([]=Sp.chV xs f n d∧3=Sp.chE xs f n d) (pRoom 24 (iLen xs)∧pRoom 24 (iLen (xs++[[C.i f,C.i n,C.i d]]))∧xs++[[C.i f,C.i n,C.i d]]=Sp.chV xs f n d∧0=Sp.chE xs f n d)))))):=by
 intro hw
 simp only[Cn_iff,Sm_iff,true_and]
 try simp only[iAdd,iSub,iMul,iLen,eq_self,true_and,and_true,true_implies,implies_true]
 simp only[pLe]
 have el:qi 0 (rGet xs ((xs.length:Int)-1))=Sp.lastF xs:=rfl
 simp only[el]
 refine⟨fun hv=> ?_,fun hv _=> ?_⟩
 · exact Sp.chV_no (Sp.chE1 (by simpa[bNot]using hv)) (by omega)
 have hv:Sp.cval xs=true:=by simpa[bNot]using hv
 have hl:=Sp.cval_len hv
 refine⟨by simp only[InR]; omega,⟨by omega,by omega⟩,fun _=>⟨fun h1=> ?_,fun h1=>⟨fun h2=> ?_,fun h2=>⟨fun h3=> ?_,fun h3 _=>⟨fun h4=> ?_,fun h4=> ?_⟩⟩⟩⟩⟩
 · exact Sp.chV_no (Sp.chE2 hv (.inl (by simpa[bLe]using h1))) (by omega)
 · exact Sp.chV_no (Sp.chE2 hv (.inr (by simpa[bLt]using h2))) (by omega)
 · simp only[bLe,bLt,decide_eq_false_iff_not]at h1 h2
   exact Sp.chV_no (Sp.chE3 hv (by omega) (by simpa[bNot]using h3)) (by omega)
 · simp only[bLe,bLt,decide_eq_false_iff_not,decide_eq_true_eq]at h1 h2 h4
   have hc:Sp.cu n d=true:=by simpa[bNot]using h3
   have e4:Sp.chE xs f n d=3:=Sp.chE4 hv (by omega) hc (by omega)
   exact Sp.chV_no e4 (by omega)
 · simp only[bLe,bLt,decide_eq_false_iff_not,decide_eq_true_eq]at h1 h2 h4
   have hc:Sp.cu n d=true:=by simpa[bNot]using h3
   have e4:Sp.chE xs f n d=0:=Sp.chE0 hv (by omega) hc (by omega)
   have y:=Sp.chV_yes e4
   exact⟨by simp only[pRoom]; omega,by simp only[pRoom,List.length_append,List.length_cons,List.length_nil]; omega,y⟩
def r105:Cr PR:=K0 [r75,r137] 105 6 {ps:=[(true,[.sl hS]),(false,hI),(true,hII)],rs:=[(true,[.sl hS]),(false,hI)],pre:=fun _=>True,out:=fun a=>[[.l (Sp.chV (L a 0 0) (I a 1 0) (I a 2 0) (I a 2 1))],[.i (Sp.chE (L a 0 0) (I a 1 0) (I a 2 0) (I a 2 1))]]} U fun a=>Y (v105 (L a 0 0) (I a 1 0) (I a 2 0) (I a 2 1))
end Go.Sx
namespace Go.Sx
end Go.Sx

set_option linter.unusedVariables false
set_option linter.unusedSimpArgs false
set_option maxRecDepth 100000
set_option maxHeartbeats 4000000
namespace Go
open Go.Sx
def Sp.pok (f n d u b:Int):Prop:=Sp.cu n d=true∧0≤f∧f≤u∧u≤1099511627776∧0≤b∧b≤1024*f
def Sp.pat (f n d b t:Int):Int:=b+(t-f)*n/d
end Go
namespace Go
open Go.Sx
theorem Sp.cu_rv {n d:Int} (h:Sp.cu n d=true):Sp.rvalid n d=true∧1≤n∧1≤d∧n≤68719476736∧d≤68719476736∧d≤n*1024∧n≤d*1024:=by
 unfold Sp.cu at h
 rw[Bool.and_eq_true,decide_eq_true_eq]at h
 have h1:=h.1
 simp only[Sp.rvalid,decide_eq_true_eq]at h1
 exact⟨h.1,h1.1,h1.2.1,h1.2.2.1,h1.2.2.2.1,h.2.1,h.2.2⟩
theorem Sp.flo_cu {m n d:Int} (h:Sp.cu n d=true) (h0:0≤m) (h1:m≤1099511627776):0≤m*n/d∧m*n/d≤1024*m∧Sp.floV m n d=m*n/d∧Sp.floE m n d=0:=by
 obtain⟨hv,a1,b1,a2,b2,c1,c2⟩:=Sp.cu_rv h
 have k0:0≤m*n/d:=Int.ediv_nonneg (Int.mul_nonneg h0 (by omega)) (by omega)
 have k1:m*n/d≤1024*m:=by
  have h3:m*n≤m*(d*1024):=Int.mul_le_mul_of_nonneg_left c2 h0
  have h4:=Int.ediv_le_ediv (show 0<d by omega) h3
  rw[show m*(d*1024)=(1024*m)*d by rw[Int.mul_comm d 1024,←Int.mul_assoc,Int.mul_comm m 1024],Int.mul_ediv_cancel _ (by omega)]at h4
  exact h4
 have kc:Sp.chk m n d=0:=by unfold Sp.chk; rw[if_neg (by simp[hv]),if_neg (by omega)]
 have ki:Sp.inr (Sp.flo m n d)=true:=by unfold Sp.inr Sp.flo; rw[decide_eq_true_eq]; omega
 have ke:Sp.floE m n d=0:=by unfold Sp.floE; rw[if_neg (by simp[kc]),ki]; rfl
 exact⟨k0,k1,by unfold Sp.floV; rw[if_pos ke]; rfl,ke⟩
end Go
namespace Go.Sx
theorem v196 (f:Int) (n:Int) (d:Int) (u:Int) (b:Int) (t:Int):WD hP [C.i f,C.i n,C.i d,C.i u,C.i b]∧InR .i64 t→Sp.pok f n d u b∧f≤t∧t≤u→InR .i64 (iSub t f)∧True∧(InR .i64 (Sp.floV (iSub t f) n d)∧InR .i64 (Sp.floE (iSub t f) n d)→InR .i64 (iAdd b (Sp.floV (iSub t f) n d))∧iAdd b (Sp.floV (iSub t f) n d)=Sp.pat f n d b t):=by
 intro hw hp
 try simp only[iAdd,iSub,iMul,iLen,eq_self,true_and,and_true,true_implies,implies_true]
 obtain⟨⟨hc,h0,h1,h2,h3,h4⟩,h5,h6⟩:=hp
 obtain⟨k0,k1,k2,k3⟩:=Sp.flo_cu (m:=t-f) hc (by omega) (by omega)
 rw[k2]
 simp only[InR]
 exact⟨by omega,fun _=>⟨by omega,rfl⟩⟩
def r196:Cr PR:=K [r244] 196 6 {ps:=[(true,hP),(false,hI)],rs:=[(false,hI)],pre:=fun a=>Sp.pok (I a 0 0) (I a 0 1) (I a 0 2) (I a 0 3) (I a 0 4)∧((I a 0 0)≤(I a 1 0)∧(I a 1 0)≤(I a 0 3)),out:=fun a=>[[.i (Sp.pat (I a 0 0) (I a 0 1) (I a 0 2) (I a 0 4) (I a 1 0))]]} U fun a=>Y (v196 (I a 0 0) (I a 0 1) (I a 0 2) (I a 0 3) (I a 0 4) (I a 1 0))
end Go.Sx

set_option linter.unusedVariables false
set_option linter.unusedSimpArgs false
namespace Go
open Go.Sx
structure Pc where
 f:Int
 n:Int
 d:Int
 u:Int
 b:Int
def Sp.unt (xs:List (List C)) (k:Nat):Int:=if k+1<xs.length then qi 0 (rGet xs ((k:Int)+1))else 1099511627776
def Sp.beg (xs:List (List C)):Nat→Int
 |0=>0
 |k+1=>Sp.pat (qi 0 (rGet xs k)) (qi 1 (rGet xs k)) (qi 2 (rGet xs k)) (Sp.beg xs k) (Sp.unt xs k)
def Pc.ok (p:Pc):Prop:=Sp.pok p.f p.n p.d p.u p.b
def Pc.enc (p:Pc):Value:= .agg #[.int .i64 p.f,.int .i64 p.n,.int .i64 p.d,.int .i64 p.u,.int .i64 p.b]
abbrev Pq:= {p:Pc//p.ok}
end Go
namespace Go.Proofs
open Go.RowKit Go.Shelf Go.Sx
attribute [local go_sem] Oper.semAt_some
def KpB (O:Nat→Prop) (A B:World):Prop:=A.heap.size≤B.heap.size∧∀(k:Nat) (o:Obj),A.heap[k]? =some o→o.isCells=true→¬O k→B.heap[k]? =some o
theorem KpB.refl (O:Nat→Prop) (A:World):KpB O A A:=⟨Nat.le_refl _,fun _ _ h _ _=>h⟩
theorem KpB.trans {O:Nat→Prop} {A B D:World} (h:KpB O A B) (k:KpB O B D):KpB O A D:=⟨Nat.le_trans h.1 k.1,fun i o h1 h2 h3=>k.2 i o (h.2 i o h1 h2 h3) h2 h3⟩
theorem KpB.alloc (O:Nat→Prop) (A:World) (o:Obj):KpB O A (A.alloc o):=⟨by simp,fun k ob h _ _=>(Below.heap_alloc A o k (Array.getElem?_eq_some_iff.1 h).1).trans h⟩
theorem KpB.below {O:Nat→Prop} {A B:World} (h:Below A.heap.size A B):KpB O A B:=⟨h.size,fun k ob h1 _ _=>(h.block k (Array.getElem?_eq_some_iff.1 h1).1).trans h1⟩
theorem KpB.cell {O:Nat→Prop} {A B:World} (h:KpB O A B) {c o:Nat} {v:Value} (hn:¬O c) (h1:A.cell? ⟨c,o,none⟩=some v):B.cell? ⟨c,o,none⟩=some v:=by
 obtain⟨ob,h2,h3⟩:=cells_of_cell h1
 exact(World.cell?_of_block ((h.2 c ob h2 h3 hn).trans h2.symm)).trans h1
theorem cell_al {W:World} {a:Addr} {v:Value} (o:Obj) (h:W.cell? a=some v):(W.alloc o).cell? a=some v:=cell_kept h (World.grownBy_alloc W o none) (fun r e=>by cases e)
theorem grown_below {A B:World} (h:Below A.heap.size A B):A.grownBy B none:=⟨h.os,h.tape,h.output,h.size,fun k hk _=>h.block k hk⟩
theorem calls_ct {P:Program} {f:FuncId} {ct:Ct} (hs:SoundCt P f ct) (he:entersB P f=true) (hbx:ct.bx=none) {args:List (List C)} {vals:List Value} {w:World} (hw:Wfs (ofRess ct.ps args)) (hp:ct.pre args) (hv:VRs (V0 w) (ofRess ct.ps args) vals) (how:ct.ow=none:=by rfl) (hfr:ct.fr=none:=by rfl):
 Calls P f vals.toArray w fun e w'=>∃v,e= .returned v∧Below w.heap.size w w'∧VR {V0 w with w:=w'} (ct.sv args) v:=by
 rcases hs.runs hbx how hfr (V0 w) args vals (fun k b hd=>hd.elim) (fun b hb=>hb.elim) hw hp hv with⟨_,h⟩|⟨v,w',h,_⟩
 · exact h
 · exfalso
   unfold entersB at he
   cases hf:P.funcs[f]? with
   |none=>simp[hf]at he
   |some fn=>
    simp only[hf,Bool.and_eq_true,Bool.not_eq_true']at he
    simp only[callFunc,Sem.run_bind,run_program,Result.andThen_ok,hf]at h
    have hb:fn.body.isNone=false:=by simpa using he.1
    simp[he.2,hb]at h
theorem at_in (n:Nat) (f m d u b t:Int) (hok:Sp.pok f m d u b) (ht:f≤t∧t≤u) (w:World):
 CallsIn Fence.wide n Go.Proofs.Tryz.prog 196 #[.agg #[.int .i64 f,.int .i64 m,.int .i64 d,.int .i64 u,.int .i64 b],.int .i64 t] w fun e w'=>e= .returned (.int .i64 (Sp.pat f m d b t))∧Below w.heap.size w w':=by
 refine callsIn_wide.2 ?_
 obtain⟨_,h1,h2,h3,h4,_,h5⟩:=Sp.cu_rv hok.1
 obtain⟨k0,k1,k2,k3,k4,k5⟩:=hok
 have:=calls_ct (P:=Go.Proofs.Tryz.prog) (w:=w) (show SoundCt Go.Proofs.Tryz.prog 196 r196.ct from r196.s) (by kernel_rfl) rfl (args:=[[.i f,.i m,.i d,.i u,.i b],[.i t]]) (vals:=[.agg #[.int .i64 f,.int .i64 m,.int .i64 d,.int .i64 u,.int .i64 b],.int .i64 t])
  (show Wfs [.agg [.int .i64 f,.int .i64 m,.int .i64 d,.int .i64 u,.int .i64 b],.int .i64 t] by simp only[Wfs,Wf,InR,and_true]; omega)
  (show Sp.pok f m d u b∧(f≤t∧t≤u)from⟨⟨k0,k1,k2,k3,k4,k5⟩,ht⟩)
  (show VRs (V0 w) [.agg [.int .i64 f,.int .i64 m,.int .i64 d,.int .i64 u,.int .i64 b],.int .i64 t] _ by
   simp only[VRs,VR]
   exact⟨_,_,rfl,⟨[.int .i64 f,.int .i64 m,.int .i64 d,.int .i64 u,.int .i64 b],rfl,by simp[Value.oneCell'],_,_,rfl,rfl,_,_,rfl,rfl,_,_,rfl,rfl,_,_,rfl,rfl,_,_,rfl,rfl,rfl⟩,_,_,rfl,rfl,rfl⟩)
 refine this.mono fun e w'=> ?_
 rintro⟨v,rfl,hb,hv⟩
 have hv':v= .int .i64 (Sp.pat f m d b t):=hv
 rw[hv']
 exact⟨rfl,hb⟩
set_option maxRecDepth 100000 in
set_option maxHeartbeats 2000000 in
theorem pieces1_in (n:Nat) (hn:2≤n) (l Bs b off cap len:Nat) (F N D U G:Nat→Int) (O:Nat→Prop) (J Jx:List Pq→World→Prop)
    (W:World) (hO:∀k,O k→k<W.heap.size) (hJ:AbidesFrom W.heap.size J)
    (hY:∀pre x W1,J pre W1→pre.length<len→YieldAt Fence.wide (n-1) Go.Proofs.Tryz.prog l #[(x.1).enc] W1 fun e W'=>
      (e= .returned (.bool true)∧J (pre++[x]) W'∧KpB O W1 W')∨(e= .returned (.bool false)∧Jx (pre++[x]) W'))
    (hBs:W.cell? ⟨Bs,0,none⟩=some (.slice (some ⟨b,off,none⟩) len cap))
    (hc:∀k:Nat,k<len→W.cell? ⟨b,off+k*3,none⟩=some (.int .i64 (F k))∧W.cell? ⟨b,off+k*3+1,none⟩=some (.int .i64 (N k))∧W.cell? ⟨b,off+k*3+2,none⟩=some (.int .i64 (D k)))
    (hU:∀k,k+1<len→U k=F (k+1)) (hU':∀k,¬k+1<len→U k=1099511627776) (hG0:G 0=0) (hG:∀k,k<len→G (k+1)=Sp.pat (F k) (N k) (D k) (G k) (U k))
    (hOb:¬O b) (hOs:¬O Bs) (hok:∀k:Nat,k<len→(Pc.mk (F k) (N k) (D k) (U k) (G k)).ok) (hl64:len≤64)
    (h0:J [] W):
    CallsIn Fence.wide n Go.Proofs.Tryz.prog 243 #[.func (.yield l) #[] #[],.pointer (some ⟨Bs,0,none⟩)] W fun e W'=>(∃v,e= .returned v)∧
      ((∃ys:List Pq,ys.map (·.1)=(List.range len).map (fun k=>Pc.mk (F k) (N k) (D k) (U k) (G k))∧J ys W')∨(∃pre:List Pq,(∃k,k≤len∧pre.map (·.1)=(List.range k).map (fun k=>Pc.mk (F k) (N k) (D k) (U k) (G k)))∧Jx pre W')):=by
  refine callsIn_of_wp Go.Proofs.Tryz.func243 rfl trivial ?_ rfl
  simp only[Go.Proofs.Tryz.ntmps243,List.size_toArray,List.length_cons,List.length_nil,Nat.reduceAdd,Nat.reduceSub,Array.replicate_succ,Array.replicate_zero,List.push_toArray,List.append_toArray,List.nil_append,List.cons_append]
  gi_wp2
  gi_loopw [3,10] (fun bg i wr=>∃(k:Nat) (pre:List Pq),k≤len∧i= .int .i64 k∧bg= .int .i64 (G k)∧pre.map (·.1)=(List.range k).map (fun k=>Pc.mk (F k) (N k) (D k) (U k) (G k))∧J pre wr∧KpB O W wr) (fun _ i _=>len- (intOf i).toNat)
  case atStart=>exact⟨0,[],Nat.zero_le _,rfl,by rw[hG0],rfl,h0,KpB.refl O W⟩
  case round=>
    obtain⟨k,pre,hk,rfl,rfl,hpre,hJs,hkp⟩:=hrel
    have cellK:∀ {c o:Nat} {v:Value},¬O c→W.cell? ⟨c,o,none⟩=some v→wr.cell? ⟨c,o,none⟩=some v:=by
      intro c o v hn h
      obtain⟨ob,h1,h2⟩:=cells_of_cell h
      exact(World.cell?_of_block ((hkp.2 c ob h1 h2 hn).trans h1.symm)).trans h
    have hBs':=cellK hOs hBs
    by_cases hlt:k<len
    · have hlen:pre.length<len:=by
        have:=congrArg List.length hpre
        simp at this
        omega
      have c0:=cellK hOb (hc k hlt).1
      have c1:=cellK hOb (hc k hlt).2.1
      have c2:=cellK hOb (hc k hlt).2.2
      have hB2:∀o1 o2,((wr.alloc o1).alloc o2).cell? ⟨Bs,0,none⟩=some (.slice (some ⟨b,off,none⟩) len cap):=fun o1 o2=>cell_al _ (cell_al _ hBs')
      by_cases hlast:k+1<len
      · have c3:∀o1 o2,((wr.alloc o1).alloc o2).cell? ⟨b,off+(k+1)*3,none⟩=some (.int .i64 (F (k+1))):=fun o1 o2=>cell_al _ (cell_al _ (cellK hOb (hc (k+1) hlast).1))
        have hi:((k:Int)+1).toNat=k+1:=by omega
        obtain⟨W1,hW1⟩:∃W1,W1=(wr.alloc (.cells #[.int .i64 (F k),.int .i64 (N k),.int .i64 (D k)] 112)).alloc (.cells #[.int .i64 (F k),.int .i64 (N k),.int .i64 (D k),.int .i64 (F (k+1)),.int .i64 (G k)] 236):=⟨_,rfl⟩
        have eU:U k=F (k+1):=hU k hlast
        have ok1:(Pc.mk (F k) (N k) (D k) (F (k+1)) (G k)).ok:=by have:=hok k hlt; rwa [eU]at this
        have g1:wr.grownBy W1 none:=by rw[hW1]; exact grown_below (((Below.refl _ wr).alloc (Nat.le_refl _) _).alloc (by simp) _)
        have J1:J pre W1:=hJ _ _ _ none hJs g1 (fun r e=>by cases e)
        have sz1:W1.heap.size=wr.heap.size+2:=by rw[hW1]; simp
        have kp1:KpB O W W1:=hkp.trans (by rw[hW1]; exact(KpB.alloc O wr _).trans (KpB.alloc O _ _))
        have nO:¬O (wr.heap.size+1):=fun h=>by have:=hO _ h; have:=hkp.1; omega
        obtain⟨fn,tmps,assign,body,hy,hR⟩:=hY pre (⟨_,ok1⟩:Pq) W1 J1 hlen
        have cx:∀(j:Nat) (v:Value),(#[Value.int .i64 (F k),.int .i64 (N k),.int .i64 (D k),.int .i64 (F (k+1)),.int .i64 (G k)]:Array Value)[j]? =some v→∀W3,KpB O W1 W3→W3.cell? ⟨wr.heap.size+1,j,none⟩=some v:=fun j v h W3 hk=>
          hk.cell nO (by rw[hW1]; exact(World.cell?_alloc_at _ _ _ _ (by simp)).trans h)
        dsimp only[Pc.enc]at hy
        have hnext:(pre++[(⟨_,ok1⟩:Pq)]).map (·.1)=(List.range (k+1)).map (fun k=>Pc.mk (F k) (N k) (D k) (U k) (G k)):=by
          rw[List.map_append,hpre,List.range_succ,List.map_append]; simp[eU]
        have hGk:=hG k hlt
        rw[eU]at hGk
        rw[hW1]at hy
        clear hc hok hU hU' hG hY hpre cellK
        gi_wp2
        rw[←hW1]
        refine⟨fun _=>by omega,hR.mono ?_⟩
        rintro e W3 (⟨rfl,hJ3,hk3⟩|⟨rfl,hJx3⟩)
        · have y0:=cx 0 _ rfl W3 hk3
          have y1:=cx 1 _ rfl W3 hk3
          have y2:=cx 2 _ rfl W3 hk3
          have y3:=cx 3 _ rfl W3 hk3
          have y4:=cx 4 _ rfl W3 hk3
          clear cx
          have h196:Fence.wide.fn 196:=trivial
          have hn1:1≤n:=by omega
          gi_wp2_with (gi_at_call 196; refine(at_in _ _ _ _ _ _ _ ok1 ⟨by have:=ok1; exact this.2.2.1,Int.le_refl _⟩ _).mono ?_; rintro e W4 ⟨rfl,hb4⟩)
          go_roundw
          case rel=>exact⟨k+1,pre++[(⟨_,ok1⟩:Pq)],by omega,by simp,by rw[hGk],hnext,hJ _ _ _ none hJ3 (grown_below hb4) (fun r e=>by cases e),(kp1.trans hk3).trans (KpB.below hb4)⟩
          case measure=>simp[intOf]; omega
        · gi_wp2
          refine bodyPost_ret (results_none rfl _ _ _) rfl ?_
          exact⟨⟨_,rfl⟩,.inr ⟨_,⟨k+1,by omega,hnext⟩,hJx3⟩⟩
      · obtain⟨W1,hW1⟩:∃W1,W1=(wr.alloc (.cells #[.int .i64 (F k),.int .i64 (N k),.int .i64 (D k)] 112)).alloc (.cells #[.int .i64 (F k),.int .i64 (N k),.int .i64 (D k),.int .i64 (1099511627776),.int .i64 (G k)] 236):=⟨_,rfl⟩
        have eU:U k=1099511627776:=hU' k hlast
        have ok1:(Pc.mk (F k) (N k) (D k) (1099511627776) (G k)).ok:=by have:=hok k hlt; rwa [eU]at this
        have g1:wr.grownBy W1 none:=by rw[hW1]; exact grown_below (((Below.refl _ wr).alloc (Nat.le_refl _) _).alloc (by simp) _)
        have J1:J pre W1:=hJ _ _ _ none hJs g1 (fun r e=>by cases e)
        have sz1:W1.heap.size=wr.heap.size+2:=by rw[hW1]; simp
        have kp1:KpB O W W1:=hkp.trans (by rw[hW1]; exact(KpB.alloc O wr _).trans (KpB.alloc O _ _))
        have nO:¬O (wr.heap.size+1):=fun h=>by have:=hO _ h; have:=hkp.1; omega
        obtain⟨fn,tmps,assign,body,hy,hR⟩:=hY pre (⟨_,ok1⟩:Pq) W1 J1 hlen
        have cx:∀(j:Nat) (v:Value),(#[Value.int .i64 (F k),.int .i64 (N k),.int .i64 (D k),.int .i64 (1099511627776),.int .i64 (G k)]:Array Value)[j]? =some v→∀W3,KpB O W1 W3→W3.cell? ⟨wr.heap.size+1,j,none⟩=some v:=fun j v h W3 hk=>
          hk.cell nO (by rw[hW1]; exact(World.cell?_alloc_at _ _ _ _ (by simp)).trans h)
        dsimp only[Pc.enc]at hy
        have hnext:(pre++[(⟨_,ok1⟩:Pq)]).map (·.1)=(List.range (k+1)).map (fun k=>Pc.mk (F k) (N k) (D k) (U k) (G k)):=by
          rw[List.map_append,hpre,List.range_succ,List.map_append]; simp[eU]
        have hGk:=hG k hlt
        rw[eU]at hGk
        rw[hW1]at hy
        clear hc hok hU hU' hG hY hpre cellK
        gi_wp2
        rw[←hW1]
        refine⟨fun _=>by omega,hR.mono ?_⟩
        rintro e W3 (⟨rfl,hJ3,hk3⟩|⟨rfl,hJx3⟩)
        · have y0:=cx 0 _ rfl W3 hk3
          have y1:=cx 1 _ rfl W3 hk3
          have y2:=cx 2 _ rfl W3 hk3
          have y3:=cx 3 _ rfl W3 hk3
          have y4:=cx 4 _ rfl W3 hk3
          clear cx
          have h196:Fence.wide.fn 196:=trivial
          have hn1:1≤n:=by omega
          gi_wp2_with (gi_at_call 196; refine(at_in _ _ _ _ _ _ _ ok1 ⟨by have:=ok1; exact this.2.2.1,Int.le_refl _⟩ _).mono ?_; rintro e W4 ⟨rfl,hb4⟩)
          go_roundw
          case rel=>exact⟨k+1,pre++[(⟨_,ok1⟩:Pq)],by omega,by simp,by rw[hGk],hnext,hJ _ _ _ none hJ3 (grown_below hb4) (fun r e=>by cases e),(kp1.trans hk3).trans (KpB.below hb4)⟩
          case measure=>simp[intOf]; omega
        · gi_wp2
          refine bodyPost_ret (results_none rfl _ _ _) rfl ?_
          exact⟨⟨_,rfl⟩,.inr ⟨_,⟨k+1,by omega,hnext⟩,hJx3⟩⟩
    · obtain rfl:k=len:=by omega
      gi_wp2
      go_end0
      exact⟨⟨_,rfl⟩,.inl ⟨_,hpre,hJs⟩⟩
end Go.Proofs
namespace Go
def Pc.val (p:Pc) (t:Int):Int:=Sp.pat p.f p.n p.d p.b t
def Sp.nOf (t:Int) (l:List Pc):Int:=l.foldl (fun _ p=>p.val (min t p.u)) 0
theorem Sp.nOf_snoc (t:Int) (l:List Pc) (p:Pc):Sp.nOf t (l++[p])=p.val (min t p.u):=by simp[Sp.nOf]
end Go
namespace Go.Proofs
open Go.RowKit Go.Shelf Go.Sx
attribute [local go_sem] Oper.semAt_some
theorem KpB.putObj {O:Nat→Prop} {W:World} {l:Nat} {o o':Obj} (h:W.heap[l]? =some o) (hc:o.isCells=false):KpB O W (W.putObj l o'):=
 ⟨(grownBy_putObj' W l o').size,fun k ob h1 h2 _=>((grownBy_putObj' W l o').block k (Array.getElem?_eq_some_iff.1 h1).1 (fun e=>by cases e; rw[h]at h1; cases h1; rw[hc]at h2; cases h2)).trans h1⟩
theorem KpB.setCell {O:Nat→Prop} {W:World} {b:Nat} (h:O b) (v:Value):KpB O W (W.setCell ⟨b,0,none⟩ v):=
 ⟨(grownBy_setCell' W b v).size,fun k ob h1 h2 hn=>((grownBy_setCell' W b v).block k (Array.getElem?_eq_some_iff.1 h1).1 (fun e=>by cases e; exact hn h)).trans h1⟩
theorem keepsFrom_below {B:Nat} {W W':World} (h:Below W.heap.size W W'):KeepsFrom B W W':=⟨h.size,fun k o _ hk _=>(h.block k (Array.getElem?_eq_some_iff.1 hk).1).trans hk⟩
theorem cells_own (B:Nat) (c:Array Value) (t:TypeId):Own (fun(_:Unit) W=>W.heap[B]? =some (.cells c t (0,0))):=fun s X Y row hs hg hrow=>
 (grownBy_keeps_cells hg (fun r e=>hrow r e) hs rfl).trans hs
structure Pcs (W:World) (b off len:Nat) (F N D U G:Nat→Int):Prop where
 hb:b<W.heap.size
 hc:∀k:Nat,k<len→W.cell? ⟨b,off+k*3,none⟩=some (.int .i64 (F k))∧W.cell? ⟨b,off+k*3+1,none⟩=some (.int .i64 (N k))∧W.cell? ⟨b,off+k*3+2,none⟩=some (.int .i64 (D k))
 hU:∀k,k+1<len→U k=F (k+1)
 hU':∀k,¬k+1<len→U k=1099511627776
 hG0:G 0=0
 hG:∀k,k<len→G (k+1)=Sp.pat (F k) (N k) (D k) (G k) (U k)
 hok:∀k:Nat,k<len→(Pc.mk (F k) (N k) (D k) (U k) (G k)).ok
 hl:len≤64
def pv (l:List Pq):List Pc:=l.map (·.1)
theorem pv_snoc (l:List Pq) (x:Pq):pv (l++[x])=pv l++[x.1]:=by simp only[pv,List.map_append,List.map_cons,List.map_nil]
def Sp.pl (F N D U G:Nat→Int) (k:Nat):List Pc:=(List.range k).map fun k=>Pc.mk (F k) (N k) (D k) (U k) (G k)
theorem pieces_stops (n:Nat) (hn:2≤n) (Bs b off cap len:Nat) (F N D U G:Nat→Int) (O:Nat→Prop) (w:World) (hO:∀k,O k→k<w.heap.size) (hOb:¬O b) (hOs:¬O Bs) (hs:Bs<w.heap.size)
 (hBs:w.cell? ⟨Bs,0,none⟩=some (.slice (some ⟨b,off,none⟩) len cap)) (hp:Pcs w b off len F N D U G):
 SeqStopsK Fence.wide n Go.Proofs.Tryz.prog 243 #[.pointer (some ⟨Bs,0,none⟩)] (fun x:Pq=> #[(x.1).enc]) (KpB O) (fun ys=>ys.map (·.1)=Sp.pl F N D U G len) (fun pre=>∃k,k≤len∧pre.map (·.1)=Sp.pl F N D U G k) len w:=fun l J Jx W hW hJ hJx hY h0=>by
 have hc:∀k:Nat,k<len→W.cell? ⟨b,off+k*3,none⟩=some (.int .i64 (F k))∧W.cell? ⟨b,off+k*3+1,none⟩=some (.int .i64 (N k))∧W.cell? ⟨b,off+k*3+2,none⟩=some (.int .i64 (D k)):=fun k hk=>by
  obtain⟨h1,h2,h3⟩:=hp.hc k hk
  exact⟨(hW.cell (p:=⟨b,off+k*3,none⟩) hp.hb).trans h1,(hW.cell (p:=⟨b,off+k*3+1,none⟩) hp.hb).trans h2,(hW.cell (p:=⟨b,off+k*3+2,none⟩) hp.hb).trans h3⟩
 exact pieces1_in n hn l Bs b off cap len F N D U G O J Jx W (fun k h=>Nat.lt_of_lt_of_le (hO k h) hW.size) hJ hY ((hW.cell (p:=⟨Bs,0,none⟩) hs).trans hBs) hc hp.hU hp.hU' hp.hG0 hp.hG hOb hOs hp.hok hp.hl h0
set_option maxHeartbeats 1000000 in
theorem pieces_in (n:Nat) (a:Option Addr) (len cap:Nat) (w:World):
 CallsIn Fence.wide n Go.Proofs.Tryz.prog 195 #[.agg #[.slice a len cap]] w fun e w'=>e= .returned (.func (.func 243) #[] #[.pointer (some ⟨w.heap.size,0,none⟩)])∧w'=w.alloc (.cells #[.slice a len cap] 35):=by
 refine callsIn_of_wp Go.Proofs.Tryz.func195 rfl trivial ?_ rfl
 simp only[Go.Proofs.Tryz.ntmps195,List.size_toArray,List.length_cons,List.length_nil,Nat.reduceAdd,Nat.reduceSub,Array.replicate_succ,Array.replicate_zero,List.push_toArray,List.append_toArray,List.nil_append,List.cons_append]
 gi_wp2
 go_ret
 exact⟨rfl,rfl⟩
theorem Pcs.below {A B:World} {b off len:Nat} {F N D U G:Nat→Int} (h:Pcs A b off len F N D U G) (hb:Below A.heap.size A B):Pcs B b off len F N D U G:=
 {h with
  hb:=Nat.lt_of_lt_of_le h.hb hb.size
  hc:=fun k hk=>by
   obtain⟨h1,h2,h3⟩:=h.hc k hk
   exact⟨(hb.cell (p:=⟨b,off+k*3,none⟩) h.hb).trans h1,(hb.cell (p:=⟨b,off+k*3+1,none⟩) h.hb).trans h2,(hb.cell (p:=⟨b,off+k*3+2,none⟩) h.hb).trans h3⟩}
set_option maxRecDepth 100000 in
set_option maxHeartbeats 4000000 in
theorem position_in (n:Nat) (hn:6≤n) (b off cap len:Nat) (t:Int) (F N D' U G:Nat→Int) (w:World) (hp:Pcs w b off len F N D' U G) (ht:0≤t∧t≤1099511627776):
 CallsIn Fence.wide n Go.Proofs.Tryz.prog 127 #[.agg #[.slice (some ⟨b,off,none⟩) len cap],.int .i64 t] w fun e W'=>∃v,e= .returned (.int .i64 v)∧Below w.heap.size w W'∧
  ((v=Sp.nOf t (Sp.pl F N D' U G len)∧∀k,k<len→F k≤t)∨(∃k,k<len∧v=Sp.nOf t (Sp.pl F N D' U G k)∧(∀j,j<k→F j≤t)∧t<F k)):=by
 have h1:1≤n:=by omega
 refine callsIn_of_wp_marks Go.Proofs.Tryz.func127 rfl trivial ?_ rfl
 simp only[Go.Proofs.Tryz.ntmps127,List.size_toArray,List.length_cons,List.length_nil,Nat.reduceAdd,Nat.reduceSub,Array.replicate_succ,Array.replicate_zero,List.push_toArray,List.append_toArray,List.nil_append,List.cons_append]
 have h195:Fence.wide.fn 195:=trivial
 gi_wp2_with (gi_at_call 195; refine(pieces_in (n-1) _ _ _ _).mono ?_; rintro e w' ⟨rfl,rfl⟩)
 have bT:=(((Boxed.new (w.alloc (.cells #[.slice (some ⟨b,off,none⟩) len cap] 35)) 2 (.int .i64 t)).alloc (.cells #[.int .i64 0] 2)).alloc (.cells #[.slice (some ⟨b,off,none⟩) len cap] 35))
 have bN:=(Boxed.new ((w.alloc (.cells #[.slice (some ⟨b,off,none⟩) len cap] 35)).alloc (.cells #[.int .i64 t] 2)) 2 (.int .i64 0)).alloc (.cells #[.slice (some ⟨b,off,none⟩) len cap] 35)
 have bC:=Boxed.new (((w.alloc (.cells #[.slice (some ⟨b,off,none⟩) len cap] 35)).alloc (.cells #[.int .i64 t] 2)).alloc (.cells #[.int .i64 0] 2)) 35 (.slice (some ⟨b,off,none⟩) len cap)
 simp only[World.size_alloc]at bT bN bC
 have hB0:Below w.heap.size w ((((w.alloc (.cells #[.slice (some ⟨b,off,none⟩) len cap] 35)).alloc (.cells #[.int .i64 t] 2)).alloc (.cells #[.int .i64 0] 2)).alloc (.cells #[.slice (some ⟨b,off,none⟩) len cap] 35)):=
  ((((Below.refl _ w).alloc (Nat.le_refl _) _).alloc (by simp) _).alloc (by simp; omega) _).alloc (by simp; omega) _
 have hsz:((((w.alloc (.cells #[.slice (some ⟨b,off,none⟩) len cap] 35)).alloc (.cells #[.int .i64 t] 2)).alloc (.cells #[.int .i64 0] 2)).alloc (.cells #[.slice (some ⟨b,off,none⟩) len cap] 35)).heap.size=w.heap.size+4:=by simp
 obtain⟨W0,hW0⟩:∃W0,(((w.alloc (.cells #[.slice (some ⟨b,off,none⟩) len cap] 35)).alloc (.cells #[.int .i64 t] 2)).alloc (.cells #[.int .i64 0] 2)).alloc (.cells #[.slice (some ⟨b,off,none⟩) len cap] 35)=W0:=⟨_,rfl⟩
 rw[hW0]at bT bN bC hB0 hsz ⊢
 clear hW0
 refine wpIn_rangeFunc_ownH rfl h1 (gf:=243) (lb:= #[.pointer (some ⟨w.heap.size+1+1+1,0,none⟩)]) rfl trivial (enters_of Go.Proofs.Tryz.func243 (by kernel_rfl) rfl)
  (pieces_stops (n-1) (by omega) (w.heap.size+1+1+1) b off cap len F N D' U G (fun k=>k=w.heap.size+1+1) W0 (fun k h=>by omega) (by have:=hp.hb; omega) (by omega) (by omega) bC.cell (hp.below hB0)) (fun h k=>KpB.trans h k) (fun W l o o' _ h1 h2 _=>KpB.putObj h1 h2) (Below.refl _ _) (fun _=>rfl)
  (fun pre W=>((Boxed W (w.heap.size+1+1) 2 (.int .i64 (Sp.nOf t (pv pre)))∧Boxed W (w.heap.size+1) 2 (.int .i64 t))∧(∀p∈pre,p.1.f≤t))∧Below w.heap.size w W)
  (fun c pre W=>((∃ini last,c= .exit 0∧pre=ini++[last]∧(∀p∈ini,p.1.f≤t)∧t<last.1.f∧Boxed W (w.heap.size+1+1) 2 (.int .i64 (Sp.nOf t (pv ini)))))∧Below w.heap.size w W)
  (OwnFrom.and (OwnFrom.and (OwnFrom.and (Own.from (boxed_own _ _ _) _) (Own.from (boxed_own _ _ _) _)) (ownFrom_pure _ _)) (ownFrom_below (Nat.le_refl _) (by omega)))
  (fun c=>OwnFrom.and (fun s X Y row hs hg hr=>by obtain⟨ini,last,h1,h2,h3,h4,h5⟩:=hs; exact⟨ini,last,h1,h2,h3,h4,boxed_own _ 2 (fun(_:Unit)=>Value.int .i64 (Sp.nOf t (pv ini))) () X Y row h5 hg (fun r e=>(hr r e).2)⟩) (ownFrom_below (Nat.le_refl _) (by omega)))
  ⟨⟨⟨bN,bT⟩,by simp⟩,hB0⟩
  (fun x a' W=>∃Bx,w.heap.size+1+1<Bx∧W.heap[Bx]? =some (.cells #[.int .i64 x.1.f,.int .i64 x.1.n,.int .i64 x.1.d,.int .i64 x.1.u,.int .i64 x.1.b] 236 (0,0))∧a'= {tmps:= #[Value.agg #[Value.slice (some {block:=b,off:=off}) len cap],Value.int IntKind.i64 t,Value.pointer (some {block:=w.heap.size,off:=0}),Value.pointer (some {block:=w.heap.size+1,off:=0}),Value.int IntKind.i64 0,Value.pointer (some {block:=w.heap.size+1+1,off:=0}),.pointer (some ⟨Bx,0,none⟩),Value.agg #[Value.slice (some {block:=b,off:=off}) len cap],Value.func (Fn.func 243) #[] #[Value.pointer (some {block:=w.heap.size+1+1+1,off:=0})],.agg #[.int .i64 x.1.f,.int .i64 x.1.n,.int .i64 x.1.d,.int .i64 x.1.u,.int .i64 x.1.b],undef,undef,undef,undef,undef,undef,undef,undef,undef,undef,undef,undef],defers:=[]})
  (fun x a' _ X Y row hs hg hr=>by obtain⟨Bx,h1,h2,h3⟩:=hs; exact⟨Bx,h1,cells_own Bx _ _ () X Y row h2 hg (fun r e=>(hr r e).2),h3⟩)
  ?assign ?body ?done ?stop
 case assign=>
  rintro l pre x W K ⟨⟨⟨bN1,bT1⟩,hpre⟩,hB1⟩ hK
  simp only[Pc.enc]
  gi_wp2
  exact hK _ _ ((KeepsOthers.alloc _ _).from _) (KpB.alloc _ _ _) ⟨⟨⟨bN1.alloc _,bT1.alloc _⟩,hpre⟩,hB1.alloc hB1.size _⟩ ⟨W.heap.size,bN1.lt,World.alloc_heap_new W _,rfl⟩
 case body=>
  rintro l pre x a' W hl ⟨r,hr⟩ ⟨⟨⟨bN1,bT1⟩,hpre⟩,hB1⟩ ⟨Bx,hBx,hX,rfl⟩ hlt
  have cN:=bN1.cell
  have fN:=bN1.frozen
  have cT:=bT1.cell
  have hcell:∀j:Nat,W.cell? ⟨Bx,j,none⟩=(#[Value.int .i64 x.1.f,.int .i64 x.1.n,.int .i64 x.1.d,.int .i64 x.1.u,.int .i64 x.1.b]:Array Value)[j]? :=fun j=>by simp only[World.cell?,hX]; rfl
  have x0:=hcell 0
  have x1:=hcell 1
  have x2:=hcell 2
  have x3:=hcell 3
  have x4:=hcell 4
  have h1':1≤n-1-1:=by omega
  have h196:Fence.wide.fn 196:=trivial
  by_cases hft:t<x.1.f
  · gi_wp2
    exact⟨KeepsFrom.refl _ _,⟨pre,x,rfl,rfl,hpre,hft,bN1⟩,hB1⟩
  rcases Int.lt_or_le x.1.u t with hm|hm
  rotate_left
  · have hxf:x.1.f≤t:=by omega
    have hat:=at_in (n-1-1-1) x.1.f x.1.n x.1.d x.1.u x.1.b (t) x.2 ⟨by have:=x.2.2.2.1; omega,by omega⟩ W
    gi_wp2_with (gi_at_call 196; refine(CallsIn.inRound l hat).mono ?_; rintro e W4 ⟨rfl,hb4⟩; have bN4:=bN1.kept (grown_below hb4) (by simp); have bT4:=bT1.kept (grown_below hb4) (by simp); have cN4:=bN4.cell; have fN4:=bN4.frozen)
    all_goals (first|omega|refine⟨(keepsFrom_below hb4).trans ((KeepsOthers.setCell _ _ _).from _),(KpB.below hb4).trans (KpB.setCell (O:=fun k=>k=w.heap.size+1+1) rfl _),⟨⟨by rw[pv_snoc,Sp.nOf_snoc,show min t x.1.u=t by omega]; exact bN4.set _,bT4.other (by omega) _⟩,fun p hp'=>(List.mem_append.1 hp').elim (hpre p) (fun e=>by simp at e; subst e; exact hxf)⟩,(hB1.trans (hb4.mono hB1.size)).setCell (p:=⟨w.heap.size+1+1,0,none⟩) (by simp; omega) _⟩)
  · have hxf:x.1.f≤t:=by omega
    have hat:=at_in (n-1-1-1) x.1.f x.1.n x.1.d x.1.u x.1.b (x.1.u) x.2 ⟨by have:=x.2.2.2.1; omega,by omega⟩ W
    gi_wp2_with (gi_at_call 196; refine(CallsIn.inRound l hat).mono ?_; rintro e W4 ⟨rfl,hb4⟩; have bN4:=bN1.kept (grown_below hb4) (by simp); have bT4:=bT1.kept (grown_below hb4) (by simp); have cN4:=bN4.cell; have fN4:=bN4.frozen)
    all_goals (first|omega|refine⟨(keepsFrom_below hb4).trans ((KeepsOthers.setCell _ _ _).from _),(KpB.below hb4).trans (KpB.setCell (O:=fun k=>k=w.heap.size+1+1) rfl _),⟨⟨by rw[pv_snoc,Sp.nOf_snoc,show min t x.1.u=x.1.u by omega]; exact bN4.set _,bT4.other (by omega) _⟩,fun p hp'=>(List.mem_append.1 hp').elim (hpre p) (fun e=>by simp at e; subst e; exact hxf)⟩,(hB1.trans (hb4.mono hB1.size)).setCell (p:=⟨w.heap.size+1+1,0,none⟩) (by simp; omega) _⟩)
 case done=>
  rintro D ys W hD hys ⟨⟨⟨bN1,bT1⟩,hpre⟩,hB1⟩ hK
  have cN:=bN1.cell
  gi_wp2
  refine⟨by simp,.inl ⟨_,_,rfl,run_takeDeferred hK,?_⟩⟩
  refine⟨_,results_tmp rfl _ _ _,_,rfl,hB1.trans (belowK_b (w:=w) (Nat.le_refl _) W D _ _ (by omega) hK rfl rfl),.inl ⟨by rw[show pv ys=Sp.pl F N D' U G len from hys],fun k hk=> ?_⟩⟩
  have hm:Pc.mk (F k) (N k) (D' k) (U k) (G k)∈pv ys:=by rw[show pv ys=Sp.pl F N D' U G len from hys]; exact List.mem_map.2 ⟨k,List.mem_range.2 hk,rfl⟩
  obtain⟨p,hp1,hp2⟩:=List.mem_map.1 hm
  have:=hpre p hp1
  rw[hp2]at this
  exact this
 case stop=>
  rintro D c pre W hD ⟨k,hk,hkp⟩ ⟨⟨ini,last,rfl,rfl,hini,hlast,bN1⟩,hB1⟩ hK
  have cN:=bN1.cell
  gi_wp2
  refine⟨by simp,.inl ⟨_,_,rfl,run_takeDeferred hK,?_⟩⟩
  have hkp':pv ini++[last.1]=Sp.pl F N D' U G k:=by rw[←hkp]; exact(pv_snoc ini last).symm
  obtain⟨k',rfl⟩:∃k',k=k'+1:=by
   cases k with
   |zero=>simp[Sp.pl]at hkp'
   |succ k'=>exact⟨k',rfl⟩
  rw[show Sp.pl F N D' U G (k'+1)=Sp.pl F N D' U G k'++[Pc.mk (F k') (N k') (D' k') (U k') (G k')] by simp[Sp.pl,List.range_succ]]at hkp'
  obtain⟨e1,e2⟩:=List.append_inj' hkp' rfl
  have e2:last.1=Pc.mk (F k') (N k') (D' k') (U k') (G k'):=by simpa using e2
  rw[e2]at hlast
  refine⟨_,results_tmp rfl _ _ _,_,rfl,hB1.trans (belowK_b (w:=w) (Nat.le_refl _) W D _ _ (by omega) hK rfl rfl),.inr ⟨k',by omega,by rw[e1],fun j hj=> ?_,hlast⟩⟩
  have hm:Pc.mk (F j) (N j) (D' j) (U j) (G j)∈pv ini:=by rw[e1]; exact List.mem_map.2 ⟨j,List.mem_range.2 hj,rfl⟩
  obtain⟨p,hp1,hp2⟩:=List.mem_map.1 hm
  have:=hini p hp1
  rw[hp2]at this
  exact this
end Go.Proofs

set_option linter.unusedVariables false
set_option linter.unusedSimpArgs false
set_option maxRecDepth 100000
set_option maxHeartbeats 4000000
namespace Go
open Go.Sx
def Sp.prt (xs:List (List C)) (t:Int) (k:Nat):Int:=(min t (Sp.unt xs k)-qi 0 (rGet xs k))*qi 1 (rGet xs k)/qi 2 (rGet xs k)
def Sp.psum (xs:List (List C)) (t:Int):Nat→Int
 |0=>0
 |k+1=>Sp.psum xs t k+Sp.prt xs t k
def Sp.cnt (xs:List (List C)) (t:Int):Nat:=(xs.takeWhile fun x=>decide (qi 0 x≤t)).length
def Sp.posn (xs:List (List C)) (t:Int):Int:=Sp.psum xs t (Sp.cnt xs t)
def Sp.pval (xs:List (List C)) (k:Nat) (t:Int):Int:=Sp.pat (qi 0 (rGet xs k)) (qi 1 (rGet xs k)) (qi 2 (rGet xs k)) (Sp.beg xs k) t
end Go
namespace Go.Sx
def ct127:Ct:= {ps:=[(true,[.sl hS]),(false,hI)],rs:=[(false,hI)],pre:=fun a=>Sp.cval (L a 0 0)=true∧(pLe 0 (I a 1 0)∧pLe (I a 1 0) 1099511627776),out:=fun a=>[[.i (Sp.posn (L a 0 0) (I a 1 0))]]}
end Go.Sx
namespace Go.Proofs
open Go.RowKit Go.Shelf Go.Sx
attribute [local go_sem] Oper.semAt_some
theorem rGet_cons {x:List C} {r:List (List C)} {j:Int} (h:0≤j):rGet (x::r) (j+1)=rGet r j:=by
 unfold rGet
 rw[show(j+1).toNat=j.toNat+1 by omega]; rfl
theorem Sp.cvR_facts:∀ {xs:List (List C)} {p:Int},Sp.cvR p xs=true→∀k:Nat,k<xs.length→Sp.cu (qi 1 (rGet xs k)) (qi 2 (rGet xs k))=true∧p<qi 0 (rGet xs k)∧qi 0 (rGet xs k)≤1099511627776∧(k+1<xs.length→qi 0 (rGet xs k)<qi 0 (rGet xs ((k:Int)+1)))
 |[],p,_,k,hk=>by simp at hk
 |x::r,p,h,k,hk=>by
  simp only[Sp.cvR,Bool.and_eq_true,decide_eq_true_eq]at h
  have ih:=Sp.cvR_facts h.2
  cases k with
  |zero=>
   refine⟨h.1.1,h.1.2.2,h.1.2.1,fun h1=> ?_⟩
   have:=(ih 0 (by simpa using h1)).2.1
   simpa[rGet]using this
  |succ k=>
   have i1:=ih k (by simpa using hk)
   have e1:rGet (x::r) ((k+1:Nat):Int)=rGet r k:=rGet_cons (j:=(k:Int)) (by omega)
   have e2:rGet (x::r) (((k+1:Nat):Int)+1)=rGet r ((k:Int)+1):=rGet_cons (j:=(k:Int)+1) (by omega)
   rw[e1,e2]
   exact⟨i1.1,by omega,i1.2.2.1,fun h1=>i1.2.2.2 (by simp at h1; omega)⟩
theorem Sp.cval_facts {xs:List (List C)} (h:Sp.cval xs=true):(1≤xs.length∧xs.length≤64)∧qi 0 (rGet xs 0)=0∧∀k:Nat,k<xs.length→Sp.cu (qi 1 (rGet xs k)) (qi 2 (rGet xs k))=true∧0≤qi 0 (rGet xs k)∧qi 0 (rGet xs k)≤1099511627776∧(k+1<xs.length→qi 0 (rGet xs k)<qi 0 (rGet xs ((k:Int)+1))):=by
 have hl:=Sp.cval_len h
 refine⟨by omega,?_⟩
 unfold Sp.cval at h
 rw[Bool.and_eq_true]at h
 cases xs with
 |nil=>simp at hl
 |cons x r=>
  have h1:=h.1
  simp only[Sp.cvA,Bool.and_eq_true,decide_eq_true_eq]at h1
  have e0:rGet (x::r) 0=x:=by simp[rGet]
  have f:=Sp.cvR_facts h1.2
  refine⟨by rw[e0]; exact h1.1.2,fun k hk=> ?_⟩
  cases k with
  |zero=>
   have e0':rGet (x::r) ((0:Nat):Int)=x:=by simp[rGet]
   rw[e0']
   refine⟨h1.1.1,by omega,by omega,fun h2=> ?_⟩
   have:=(f 0 (by simpa using h2)).2.1
   simpa[rGet]using this
  |succ k=>
   have i1:=f k (by simpa using hk)
   have e1:rGet (x::r) ((k+1:Nat):Int)=rGet r k:=rGet_cons (j:=(k:Int)) (by omega)
   have e2:rGet (x::r) (((k+1:Nat):Int)+1)=rGet r ((k:Int)+1):=rGet_cons (j:=(k:Int)+1) (by omega)
   rw[e1,e2]
   exact⟨i1.1,by omega,i1.2.2.1,fun h1=>i1.2.2.2 (by simp at h1; omega)⟩
theorem Sp.unt_facts {xs:List (List C)} (h:Sp.cval xs=true) {k:Nat} (hk:k<xs.length):qi 0 (rGet xs k)≤Sp.unt xs k∧Sp.unt xs k≤1099511627776:=by
 obtain⟨hl,h0,hf⟩:=Sp.cval_facts h
 obtain⟨a,b,c,d⟩:=hf k hk
 unfold Sp.unt
 split
 · rename_i h1
   have:=(hf (k+1) h1).2.2.1
   rw[show((k+1:Nat):Int)=(k:Int)+1 by omega]at this
   exact⟨Int.le_of_lt (d h1),this⟩
 · omega
theorem Sp.unt_next {xs:List (List C)} {k:Nat} (h:k+1<xs.length):Sp.unt xs k=qi 0 (rGet xs ((k+1:Nat):Int)):=by unfold Sp.unt; rw[if_pos h]; rfl
theorem Sp.pok_of {xs:List (List C)} (h:Sp.cval xs=true):∀(k:Nat),k<xs.length→Sp.pok (qi 0 (rGet xs k)) (qi 1 (rGet xs k)) (qi 2 (rGet xs k)) (Sp.unt xs k) (Sp.beg xs k)
 |0,hk=>by
  obtain⟨hl,h0,hf⟩:=Sp.cval_facts h
  obtain⟨u1,u2⟩:=Sp.unt_facts h hk
  obtain⟨a,b,c,d⟩:=hf 0 hk
  exact⟨a,b,u1,u2,Int.le_refl _,by show(0:Int)≤_; omega⟩
 |k+1,hk=>by
  obtain⟨hl,h0,hf⟩:=Sp.cval_facts h
  obtain⟨u1,u2⟩:=Sp.unt_facts h hk
  obtain⟨a,b,c,d⟩:=hf (k+1) hk
  obtain⟨p1,p2,p3,p4,p5,p6⟩:=Sp.pok_of h k (by omega)
  obtain⟨f1,f2,_,_⟩:=Sp.flo_cu (m:=Sp.unt xs k-qi 0 (rGet xs k)) p1 (by omega) (by omega)
  have hn:=Sp.unt_next hk
  refine⟨a,b,u1,u2,?_,?_⟩
  · show 0≤Sp.pat _ _ _ _ _
    unfold Sp.pat; omega
  · show Sp.pat _ _ _ _ _≤_
    unfold Sp.pat; omega
theorem ints3 {w:World} {ok:Nat→Prop} {cs:List C} {b o:Nat} (h:RepCs w ok [.int .i64,.int .i64,.int .i64] cs b o):
 w.cell? ⟨b,o,none⟩=some (.int .i64 (qi 0 cs))∧w.cell? ⟨b,o+1,none⟩=some (.int .i64 (qi 1 cs))∧w.cell? ⟨b,o+2,none⟩=some (.int .i64 (qi 2 cs)):=by
 simp only[RepCs,RepC]at h
 obtain⟨⟨u,h1,_,rfl⟩,⟨v,h2,_,rfl⟩,⟨z,h3,_,rfl⟩,_⟩:=h
 exact⟨h1,h2,h3⟩
theorem pcs_of {w:World} {ok:Nat→Prop} (hok:∀b,ok b→b<w.heap.size) {xs:List (List C)} {v:Value} (h:RepC w ok (.sl [.int .i64,.int .i64,.int .i64]) (.l xs) v) (hv:Sp.cval xs=true):
 ∃b off cap,v= .slice (some ⟨b,off,none⟩) xs.length cap∧Pcs w b off xs.length (fun k=>qi 0 (rGet xs k)) (fun k=>qi 1 (rGet xs k)) (fun k=>qi 2 (rGet xs k)) (fun k=>Sp.unt xs k) (fun k=>Sp.beg xs k):=by
 have hl:=Sp.cval_len hv
 simp only[RepC,C.list]at h
 obtain⟨a,n,cap,rfl,h1,h2,rfl,h4⟩:=h
 rcases h4 with h4|⟨b,o,rfl,hb,hc⟩
 · omega
 refine⟨b,o,cap,rfl,⟨hok b hb,fun k hk=> ?_,fun k hk=>Sp.unt_next hk,fun k hk=>by simp only[Sp.unt]; rw[if_neg hk],rfl,fun k hk=>rfl,fun k hk=>Sp.pok_of hv k hk,by omega⟩⟩
 have:=ints3 (hc k hk)
 have e:rGet xs k=xs.getD k []:=by simp[rGet]
 simp only[e]
 simpa using this
theorem Sp.cnt_eq {xs:List (List C)} {t:Int}:∀ {i:Nat},i≤xs.length→(∀j:Nat,j<i→qi 0 (rGet xs j)≤t)→(i<xs.length→t<qi 0 (rGet xs i))→Sp.cnt xs t=i:=by
 unfold Sp.cnt
 induction xs with
 |nil=>intro i hi _ _; simp at hi; simp[hi]
 |cons x r ih=>
  intro i hi h1 h2
  cases i with
  |zero=>
   have:=h2 (by simp)
   have e:rGet (x::r) ((0:Nat):Int)=x:=by simp[rGet]
   rw[e]at this
   rw[List.takeWhile_cons_of_neg (by simpa using this)]; rfl
  |succ i=>
   have e0:rGet (x::r) ((0:Nat):Int)=x:=by simp[rGet]
   have h0:=h1 0 (by omega)
   rw[e0]at h0
   rw[List.takeWhile_cons_of_pos (by simpa using h0)]
   simp only[List.length_cons]
   rw[ih (i:=i) (by simpa using hi) (fun j hj=> ?_) (fun hj=> ?_)]
   · have:=h1 (j+1) (by omega)
     rwa [show rGet (x::r) ((j+1:Nat):Int)=rGet r j from rGet_cons (j:=(j:Int)) (by omega)]at this
   · have:=h2 (by simpa using hj)
     rwa [show rGet (x::r) ((i+1:Nat):Int)=rGet r i from rGet_cons (j:=(i:Int)) (by omega)]at this
theorem Sp.psum_beg {xs:List (List C)} {t:Int}:∀ {k:Nat},k<xs.length→(∀j:Nat,j≤k→qi 0 (rGet xs j)≤t)→Sp.psum xs t k=Sp.beg xs k
 |0,_,_=>rfl
 |k+1,hk,h=>by
  have ih:=Sp.psum_beg (k:=k) (by omega) (fun j hj=>h j (by omega))
  have hn:=Sp.unt_next hk
  have:=h (k+1) (Nat.le_refl _)
  simp only[Sp.psum,Sp.prt,Sp.beg,Sp.pat,ih]
  rw[show min t (Sp.unt xs k)=Sp.unt xs k by omega]
theorem Sp.psum_val {xs:List (List C)} {t:Int} {k:Nat} (hk:k<xs.length) (h:∀j:Nat,j≤k→qi 0 (rGet xs j)≤t):Sp.psum xs t (k+1)=Sp.pval xs k (min t (Sp.unt xs k)):=by
 simp only[Sp.psum,Sp.prt,Sp.pval,Sp.pat,Sp.psum_beg hk h]
theorem Sp.nOf_psum {xs:List (List C)} {t:Int}:∀ {i:Nat},i≤xs.length→(∀j:Nat,j<i→qi 0 (rGet xs j)≤t)→
 Sp.nOf t (Sp.pl (fun k=>qi 0 (rGet xs k)) (fun k=>qi 1 (rGet xs k)) (fun k=>qi 2 (rGet xs k)) (fun k=>Sp.unt xs k) (fun k=>Sp.beg xs k) i)=Sp.psum xs t i
 |0,_,_=>rfl
 |i+1,hi,h=>by
  rw[Sp.psum_val (by omega) (fun j hj=>h j (by omega))]
  simp only[Sp.pl,List.range_succ,List.map_append,List.map_cons,List.map_nil]
  rw[Sp.nOf_snoc]; rfl
theorem Sp.beg_next {xs:List (List C)} (k:Nat):Sp.beg xs (k+1)=Sp.pval xs k (Sp.unt xs k):=rfl
theorem Sp.pval_bd {xs:List (List C)} (h:Sp.cval xs=true) {k:Nat} (hk:k<xs.length) {s:Int} (h0:qi 0 (rGet xs k)≤s) (h1:s≤Sp.unt xs k):0≤Sp.beg xs k∧Sp.beg xs k≤Sp.pval xs k s∧Sp.pval xs k s≤1024*s:=by
 obtain⟨p1,p2,p3,p4,p5,p6⟩:=Sp.pok_of h k hk
 obtain⟨f1,f2,_,_⟩:=Sp.flo_cu (m:=s-qi 0 (rGet xs k)) p1 (by omega) (by omega)
 unfold Sp.pval Sp.pat
 omega
theorem Sp.cf_mono {xs:List (List C)} (h:Sp.cval xs=true):∀ {k j:Nat},k<xs.length→j≤k→qi 0 (rGet xs j)≤qi 0 (rGet xs k)
 |0,j,_,hj=>by obtain rfl:j=0:=(by omega); exact Int.le_refl _
 |k+1,j,hk,hj=>by
  by_cases e:j=k+1
  · subst e; exact Int.le_refl _
  · have h1:=Sp.cf_mono h (k:=k) (j:=j) (by omega) (by omega)
    have h2:=((Sp.cval_facts h).2.2 k (by omega)).2.2.2 hk
    rw[show((k+1:Nat):Int)=(k:Int)+1 by omega]
    omega
theorem Sp.seg {xs:List (List C)} (h:Sp.cval xs=true) {t:Int} (h0:0≤t) (h1:t≤1099511627776):∃k,k<xs.length∧qi 0 (rGet xs k)≤t∧(k+1<xs.length→t<qi 0 (rGet xs ((k+1:Nat):Int)))∧t≤Sp.unt xs k:=by
  obtain⟨hl,z,hf⟩:=Sp.cval_facts h
  have key:∀n k:Nat,xs.length-k=n→k<xs.length→qi 0 (rGet xs k)≤t→∃k,k<xs.length∧qi 0 (rGet xs k)≤t∧(k+1<xs.length→t<qi 0 (rGet xs ((k+1:Nat):Int))):=by
    intro n
    induction n with
    |zero=>intro k hk hk' _; omega
    |succ n ih=>
      intro k hn hk hc
      by_cases hs:k+1<xs.length∧qi 0 (rGet xs ((k+1:Nat):Int))≤t
      · exact ih (k+1) (by omega) hs.1 hs.2
      · exact⟨k,hk,hc,fun h=>by
          rcases Int.lt_or_le t (qi 0 (rGet xs ((k+1:Nat):Int)))with h2|h2
          · exact h2
          · exact(hs ⟨h,h2⟩).elim⟩
  obtain⟨k,a,b,c⟩:=key _ 0 rfl (by omega) (by rw[show((0:Nat):Int)=0 by rfl,z]; exact h0)
  refine⟨k,a,b,c,?_⟩
  by_cases hs:k+1<xs.length
  · rw[Sp.unt_next hs]; have:=c hs; omega
  · unfold Sp.unt; rw[if_neg hs]; exact h1
theorem Sp.posn_at {xs:List (List C)} (h:Sp.cval xs=true) {k:Nat} (hk:k<xs.length) {t:Int} (h0:qi 0 (rGet xs k)≤t) (h1:t≤Sp.unt xs k):Sp.posn xs t=Sp.pval xs k t:=by
  have below:∀j:Nat,j≤k→qi 0 (rGet xs j)≤t:=fun j hj=>by have:=Sp.cf_mono h hk hj; omega
  by_cases hs:k+1<xs.length∧qi 0 (rGet xs ((k+1:Nat):Int))≤t
  · have e:t=Sp.unt xs k:=by have:=Sp.unt_next hs.1; omega
    have below':∀j:Nat,j≤k+1→qi 0 (rGet xs j)≤t:=fun j hj=>by have:=Sp.cf_mono h hs.1 hj; omega
    have hc:Sp.cnt xs t=k+2:=Sp.cnt_eq (by omega) (fun j hj=>below' j (by omega)) fun h2=>by
      have:=((Sp.cval_facts h).2.2 (k+1) hs.1).2.2.2 h2
      rw[show((k+2:Nat):Int)=((k+1:Nat):Int)+1 by omega]
      have:=Sp.unt_next hs.1
      omega
    unfold Sp.posn
    rw[hc,Sp.psum_val hs.1 below']
    have u:=Sp.unt_facts h hs.1
    have e2:=Sp.unt_next hs.1
    rw[show min t (Sp.unt xs (k+1))=qi 0 (rGet xs ((k+1:Nat):Int)) by omega]
    have e3:Sp.pval xs (k+1) (qi 0 (rGet xs ((k+1:Nat):Int)))=Sp.beg xs (k+1):=by unfold Sp.pval Sp.pat; simp
    rw[e3,Sp.beg_next,e]
  · have hc:Sp.cnt xs t=k+1:=Sp.cnt_eq (by omega) (fun j hj=>below j (by omega)) fun h2=>by
      rcases Int.lt_or_le t (qi 0 (rGet xs ((k+1:Nat):Int)))with h3|h3
      · exact h3
      · exact(hs ⟨h2,h3⟩).elim
    unfold Sp.posn
    rw[hc,Sp.psum_val hk below,show min t (Sp.unt xs k)=t by omega]
theorem Sp.posn_bd {xs:List (List C)} (h:Sp.cval xs=true) {t:Int} (h0:0≤t) (h1:t≤1099511627776):0≤Sp.posn xs t∧Sp.posn xs t≤1024*t:=by
 obtain⟨k,a,b,c,d⟩:=Sp.seg h h0 h1
 rw[Sp.posn_at h a b d]
 have:=Sp.pval_bd h a b d
 omega
theorem s127:SoundCt Go.Proofs.Tryz.prog 127 ct127:=by
 refine⟨fun args ha hp=> ?_,fun _ _ _ V args vals hD hbad ha hp hv=> ?_,fun t e h=>(by cases h),fun t e r _ h=>(by cases h),fun t e _ _ h=>(by cases h)⟩
 · have hp':Sp.cval (L args 0 0)=true∧(0≤(I args 1 0)∧(I args 1 0)≤1099511627776):=hp
   show Wfs [.int .i64 (Sp.posn _ _)]
   have:=Sp.posn_bd hp'.1 hp'.2.1 hp'.2.2
   simp only[Wfs,Wf,InR,and_true]
   omega
 · have e:ofRess ct127.ps args=[.agg [.sl [.int .i64,.int .i64,.int .i64] (L args 0 0)],.int .i64 (I args 1 0)]:=rfl
   rw[e]at hv ha
   have hp':Sp.cval (L args 0 0)=true∧(0≤(I args 1 0)∧(I args 1 0)≤1099511627776):=hp
   have eo:ct127.sv args= .int .i64 (Sp.posn (L args 0 0) (I args 1 0)):=rfl
   rw[eo]
   generalize (L args 0 0)=xs at*
   generalize (I args 1 0)=t at*
   simp only[VRs,VR]at hv
   obtain⟨_,_,rfl,⟨_,rfl,_,v0,_,rfl,hr,rfl⟩,_,_,rfl,rfl,rfl⟩:=hv
   obtain⟨b,off,cap,rfl,hP⟩:=pcs_of (fun b h=>h.1) hr hp'.1
   refine runs_of_calls (by kernel_rfl) ((callsIn_wide.1 (position_in 6 (Nat.le_refl _) b off cap xs.length t _ _ _ _ _ V.w hP hp'.2)).mono fun e W'=> ?_)
   rintro⟨v,rfl,hb,hres⟩
   refine⟨_,rfl,hb,?_⟩
   show _=_
   congr 1
   unfold Sp.posn
   rcases hres with⟨rfl,hall⟩|⟨k,hk,rfl,hall,hlt⟩
   · rw[Sp.cnt_eq (i:=xs.length) (Nat.le_refl _) hall (fun h=>by omega),Sp.nOf_psum (Nat.le_refl _) hall]
   · rw[Sp.cnt_eq (i:=k) (by omega) hall (fun _=>hlt),Sp.nOf_psum (by omega) hall]
end Go.Proofs
namespace Go.Sx
def r127:Cr PR:=⟨127,ct127,Go.Proofs.s127⟩
end Go.Sx

set_option linter.unusedVariables false
set_option linter.unusedSimpArgs false
set_option maxRecDepth 100000
set_option maxHeartbeats 4000000
namespace Go
open Go.Sx
def Sp.btE (xs:List (List C)) (t u:Int):Int:=if Sp.cval xs=false then 1 else if t<0∨1099511627776<u∨u<t then 2 else 0
def Sp.btV (xs:List (List C)) (t u:Int):Int:=if Sp.btE xs t u=0 then Sp.posn xs u-Sp.posn xs t else 0
end Go
open Go.Proofs
namespace Go
open Go.Sx Go.Proofs
end Go
namespace Go.Sx
end Go.Sx
namespace Go.Sx
theorem v63 (xs:List (List C)) (t:Int) (u:Int):WL hS xs∧InR .i64 t∧InR .i64 u→True∧True∧Cn (bNot (Sp.cval xs)) (0=Sp.btV xs t u∧1=Sp.btE xs t u) (Cn (bLt t 0) (0=Sp.btV xs t u∧2=Sp.btE xs t u) (Cn (bLt 1099511627776 u) (0=Sp.btV xs t u∧2=Sp.btE xs t u) (Cn (bLt u t) (0=Sp.btV xs t u∧2=Sp.btE xs t u) ((Sp.cval xs=true∧pLe 0 u∧pLe u 1099511627776)∧(InR .i64 (Sp.posn xs u)→(Sp.cval xs=true∧pLe 0 t∧pLe t 1099511627776)∧(InR .i64 (Sp.posn xs t)→InR .i64 (iSub (Sp.posn xs u) (Sp.posn xs t))∧iSub (Sp.posn xs u) (Sp.posn xs t)=Sp.btV xs t u∧0=Sp.btE xs t u)))))):=by
 intro hw
 simp only[Cn_iff,Sm_iff,true_and]
 try simp only[iAdd,iSub,iMul,iLen,eq_self,true_and,and_true,true_implies,implies_true]
 unfold Sp.btV Sp.btE
 cases hv:Sp.cval xs
 · simp[bNot]
 · have B:∀s:Int,0≤s→s≤1099511627776→0≤Sp.posn xs s∧Sp.posn xs s≤1024*s:=fun s a b=>Sp.posn_bd hv a b
   simp only[bNot,bLt,pLe,InR,decide_eq_true_eq,decide_eq_false_iff_not,Bool.not_true,Bool.false_eq_true,Bool.true_eq_false,false_implies,true_implies,true_and,and_true,if_false]
   repeat' (first|apply And.intro|intro _)
   all_goals first|omega|(have:=B t (by omega) (by omega); have:=B u (by omega) (by omega); omega)|(rw[if_pos (by omega)]; try rfl; done)|(rw[if_neg (by omega)]; first|rfl|simp)|skip
def r63:Cr PR:=K0 [r97,r127] 63 6 {ps:=[(true,[.sl hS]),(false,hI),(false,hI)],rs:=[(false,hI),(false,hI)],pre:=fun _=>True,out:=fun a=>[[.i (Sp.btV (L a 0 0) (I a 1 0) (I a 2 0))],[.i (Sp.btE (L a 0 0) (I a 1 0) (I a 2 0))]]} U fun a=>Y (v63 (L a 0 0) (I a 1 0) (I a 2 0))
end Go.Sx
namespace Go.Sx
end Go.Sx

set_option linter.unusedVariables false
set_option linter.unusedSimpArgs false
set_option maxRecDepth 100000
set_option maxHeartbeats 4000000
namespace Go
open Go.Sx
def Sp.dT (l:List (List C)) (n:Int):List (List C):=if l=[]∨n≤1 then l else l.drop 1
def Sp.dN (l:List (List C)) (n:Int):Int:=if l=[]∨n≤1 then 0 else qi 0 (rGet l 0) % n
def Sp.raT:List (List C):=[[C.i 1,C.i 1],[C.i 147,C.i 160],[C.i 2,C.i 1],[C.i 65537,C.i 65536],[C.i 1,C.i 3],[C.i 1024,C.i 1],[C.i 1,C.i 1024],[C.i 999,C.i 1000]]
def Sp.raN (l:List (List C)):Int:=qi 0 (rGet Sp.raT (Sp.dN l 8))
def Sp.raD (l:List (List C)):Int:=qi 1 (rGet Sp.raT (Sp.dN l 8))
end Go
namespace Go
open Go.Sx Go.Proofs
theorem Sp.dN_bd {l:List (List C)} {n:Int} (h:1≤n):0≤Sp.dN l n∧Sp.dN l n<n:=by
 unfold Sp.dN
 split
 · omega
 · exact⟨Int.emod_nonneg _ (by omega),Int.emod_lt_of_pos _ (by omega)⟩
end Go
namespace Go.Sx
theorem v40 (l:List (List C)) (n:Int):WL hB l∧InR .i64 n→True→pLe (iLen l) 9223372036854775807→Cn (bEq (iLen l) 0) (l=Sp.dT l n∧0=Sp.dN l n) (Cn (bLe n 1) (l=Sp.dT l n∧0=Sp.dN l n) (pIn 0 (iLen l) 0∧(InR .u8 (qi 0 (rGet l 0))→geB (some 1) none (iLen l)∧pNe n 0∧cutRows l (some 1) none=Sp.dT l n∧iRem (qi 0 (rGet l 0)) n=Sp.dN l n))):=by
 intro hw hp
 simp only[Cn_iff,Sm_iff,true_and]
 try simp only[iAdd,iSub,iMul,iLen,eq_self,true_and,and_true,true_implies,implies_true]
 intro _
 unfold Sp.dT Sp.dN
 cases l with
 |nil=>simp[bEq]
 |cons x r=>
  refine⟨fun h=>by simp[bEq]at h; omega,fun _=>⟨fun h=> ?_,fun h=>⟨by simp[pIn],fun hr=>⟨by simp[geB]; omega,by simp only[bLe,decide_eq_false_iff_not]at h; simp only[pNe]; omega,?_⟩⟩⟩⟩
  · have h':n≤1:=by simpa[bLe]using h
    rw[if_pos (.inr h'),if_pos (.inr h')]; exact⟨rfl,rfl⟩
  simp only[InR]at hr
  have hn:¬n≤1:=by simpa[bLe]using h
  rw[if_neg (by simp[hn]),if_neg (by simp[hn])]
  exact⟨by simp[cutRows],by rw[←Int.tmod_eq_emod_of_nonneg hr.1]⟩
def r40:Cr PR:=KB [] 40 6 {ps:=[(false,hI)],rs:=[(false,hI)],pre:=fun _=>True,out:=fun a=>[[.l (Sp.dT (L a 0 0) (I a 1 0))],[.i (Sp.dN (L a 0 0) (I a 1 0))]],bx:=some (117,[.sl hB])} U fun a=>Y (v40 (L a 0 0) (I a 1 0))
end Go.Sx
namespace Go.Sx
def m104_0 (l:List (List C)):List C:=(rGet [[C.i 1,C.i 1],[C.i 147,C.i 160],[C.i 2,C.i 1],[C.i 65537,C.i 65536],[C.i 1,C.i 3],[C.i 1024,C.i 1],[C.i 1,C.i 1024],[C.i 999,C.i 1000]] (Sp.dN l 8))
theorem v104 (l:List (List C)):WL hB l→True→True∧(InR .i64 (Sp.dN l 8)→pIn 0 (↑8) (Sp.dN l 8)∧(InR .i64 (qi 0 (m104_0 l))∧InR .i64 (qi 1 (m104_0 l))→Sm (Sp.dT l 8)∧qi 0 (m104_0 l)=Sp.raN l∧qi 1 (m104_0 l)=Sp.raD l)):=by
 intro hw hp
 delta m104_0
 simp only[Cn_iff,Sm_iff,true_and]
 try simp only[iAdd,iSub,iMul,iLen,eq_self,true_and,and_true,true_implies,implies_true]
 have:=Sp.dN_bd (l:=l) (n:=8) (by omega)
 exact fun _=>⟨this,fun _=>⟨rfl,rfl⟩⟩
def r104:Cr PR:=KB [r40] 104 6 {ps:=[],rs:=[(true,hII)],pre:=fun _=>True,out:=fun a=>[[.l (Sp.dT (L a 0 0) 8)],[.i (Sp.raN (L a 0 0)),.i (Sp.raD (L a 0 0))]],bx:=some (117,[.sl hB])} U fun a=>Y (v104 (L a 0 0))
end Go.Sx

set_option linter.unusedVariables false
set_option linter.unusedSimpArgs false
set_option maxRecDepth 100000
set_option maxHeartbeats 4000000
namespace Go
open Go.Sx
def Sp.mkL:Nat→Int→List (List C)→List (List C)→List (List C)×List (List C)
 |0,_,l,c=>(l,c)
 |n+1,a,l,c=>Sp.mkL n (a+(1+Sp.dN l 90)) (Sp.dT (Sp.dT l 90) 8) (if Sp.chE c (a+(1+Sp.dN l 90)) (Sp.raN (Sp.dT l 90)) (Sp.raD (Sp.dT l 90))=0 then Sp.chV c (a+(1+Sp.dN l 90)) (Sp.raN (Sp.dT l 90)) (Sp.raD (Sp.dT l 90))else c)
def Sp.mkR (l:List (List C)):List (List C)×List (List C):=Sp.mkL (Sp.dN (Sp.dT l 8) 5).toNat 0 (Sp.dT (Sp.dT l 8) 5) (Sp.nwV (Sp.raN l) (Sp.raD l))
def Sp.mkD (l:List (List C)):List (List C):=(Sp.mkR l).1
def Sp.mkC (l:List (List C)):List (List C):=(Sp.mkR l).2
def Sp.mcJ (l:List (List C)) (a n:Int) (k c:List (List C)):Prop:=(0≤n∧0≤a∧a+90*n≤1000)∧Sp.mkL n.toNat a k c=Sp.mkR l
end Go
namespace Go
open Go.Sx Go.Proofs
end Go
namespace Go.Sx
def A49 (l:List (List C)):FuncId→Nat→LoopAnn:=fun _ _=>(.on (fun sv0=>match sv0.tmps.getD 0 .undef,sv0.tmps.getD 3 .undef with| .ref kk _,.ref jj _=> .inv (Int×Int×List (List C)×List (List C)) (fun z=>Sp.mcJ l z.1 z.2.1 z.2.2.1 z.2.2.2) (fun z=>[(5,.int .i64 z.1),(6,.int .i64 z.2.1)]) (fun z=>[(kk,.box [.sl [.int .u8] z.2.2.1] 117),(jj,.box [.sl [.int .i64,.int .i64,.int .i64] z.2.2.2] 35)]) [kk,jj] [0,2,3,5,6,7,8,18,35] (fun z=>z.2.1.toNat)|_,_=> .unroll 0))
theorem v49 (l:List (List C)):WL hB l→True→True∧(InR .i64 (Sp.raN l)∧InR .i64 (Sp.raD l)→True∧(WL hS (Sp.nwV (Sp.raN l) (Sp.raD l))∧InR .i64 (Sp.nwE (Sp.raN l) (Sp.raD l))→True∧(InR .i64 (Sp.dN (Sp.dT l 8) 5)→(∃(x:Int×Int×List (List C)×List (List C)),Sp.mcJ l x.1 x.2.1 x.2.2.1 x.2.2.2∧0=x.1∧Sp.dN (Sp.dT l 8) 5=x.2.1∧Sp.dT (Sp.dT l 8) 5=x.2.2.1∧Sp.nwV (Sp.raN l) (Sp.raD l)=x.2.2.2)∧∀(x:Int×Int×List (List C)×List (List C)),Sp.mcJ l x.1 x.2.1 x.2.2.1 x.2.2.2→InR .i64 x.1∧InR .i64 x.2.1∧WL hB x.2.2.1∧WL hS x.2.2.2→Cn (bLt 0 x.2.1) (True∧(InR .i64 (Sp.dN x.2.2.1 90)→InR .i64 (iAdd 1 (Sp.dN x.2.2.1 90))∧InR .i64 (iAdd x.1 (iAdd 1 (Sp.dN x.2.2.1 90)))∧True∧(InR .i64 (Sp.raN (Sp.dT x.2.2.1 90))∧InR .i64 (Sp.raD (Sp.dT x.2.2.1 90))→True∧(WL hS (Sp.chV x.2.2.2 (iAdd x.1 (iAdd 1 (Sp.dN x.2.2.1 90))) (Sp.raN (Sp.dT x.2.2.1 90)) (Sp.raD (Sp.dT x.2.2.1 90)))∧InR .i64 (Sp.chE x.2.2.2 (iAdd x.1 (iAdd 1 (Sp.dN x.2.2.1 90))) (Sp.raN (Sp.dT x.2.2.1 90)) (Sp.raD (Sp.dT x.2.2.1 90)))→Cn (bEq (Sp.chE x.2.2.2 (iAdd x.1 (iAdd 1 (Sp.dN x.2.2.1 90))) (Sp.raN (Sp.dT x.2.2.1 90)) (Sp.raD (Sp.dT x.2.2.1 90))) 0) (InR .i64 (iSub x.2.1 1)∧∃(y:Int×Int×List (List C)×List (List C)),Sp.mcJ l y.1 y.2.1 y.2.2.1 y.2.2.2∧iAdd x.1 (iAdd 1 (Sp.dN x.2.2.1 90))=y.1∧iSub x.2.1 1=y.2.1∧Sp.dT (Sp.dT x.2.2.1 90) 8=y.2.2.1∧Sp.chV x.2.2.2 (iAdd x.1 (iAdd 1 (Sp.dN x.2.2.1 90))) (Sp.raN (Sp.dT x.2.2.1 90)) (Sp.raD (Sp.dT x.2.2.1 90))=y.2.2.2∧nLt y.2.1.toNat x.2.1.toNat) (InR .i64 (iSub x.2.1 1)∧∃(y:Int×Int×List (List C)×List (List C)),Sp.mcJ l y.1 y.2.1 y.2.2.1 y.2.2.2∧iAdd x.1 (iAdd 1 (Sp.dN x.2.2.1 90))=y.1∧iSub x.2.1 1=y.2.1∧Sp.dT (Sp.dT x.2.2.1 90) 8=y.2.2.1∧x.2.2.2=y.2.2.2∧nLt y.2.1.toNat x.2.1.toNat))))) (x.2.2.1=Sp.mkD l∧x.2.2.2=Sp.mkC l)))):=by
 intro hw hp
 simp only[Cn_iff,Sm_iff,true_and]
 try simp only[iAdd,iSub,iMul,iLen,eq_self,true_and,and_true,true_implies,implies_true]
 have N0:=Sp.dN_bd (l:=Sp.dT l 8) (n:=5) (by omega)
 refine fun _ _ _=>⟨⟨(0,Sp.dN (Sp.dT l 8) 5,Sp.dT (Sp.dT l 8) 5,Sp.nwV (Sp.raN l) (Sp.raD l)),⟨⟨by simp only; omega,by simp only; omega,by simp only; omega⟩,rfl⟩,rfl,rfl,rfl,rfl⟩,?_⟩
 rintro⟨a,n,k,c⟩ ⟨⟨y0,y1,y2⟩,hr⟩ _
 simp only at y0 y1 y2 hr ⊢
 have N1:=Sp.dN_bd (l:=k) (n:=90) (by omega)
 have rng:∀ {m:Int},0≤m→m≤1125899906842624→InR .i64 m:=fun a b=>by simp only[InR]; omega
 refine⟨fun hlt=> ?_,fun hge=> ?_⟩
 · simp only[bLt,decide_eq_true_eq]at hlt
   obtain⟨m,hm⟩:∃m:Nat,n.toNat=m+1:=⟨n.toNat-1,by omega⟩
   rw[hm,Sp.mkL]at hr
   have hm':(n-1).toNat=m:=by omega
   refine fun _=>⟨rng (by omega) (by omega),rng (by omega) (by omega),fun _ _=>⟨fun he=>⟨rng (by omega) (by omega),(_,_,_,_),?_,rfl,rfl,rfl,rfl,by simp only; omega⟩,fun he=>⟨rng (by omega) (by omega),(_,_,_,_),?_,rfl,rfl,rfl,rfl,by simp only; omega⟩⟩⟩
   · simp only[bEq,decide_eq_true_eq]at he
     rw[if_pos he]at hr
     exact⟨⟨by simp only; omega,by simp only; omega,by simp only; omega⟩,by simp only[hm']; exact hr⟩
   · simp only[bEq,decide_eq_false_iff_not]at he
     rw[if_neg he]at hr
     exact⟨⟨by simp only; omega,by simp only; omega,by simp only; omega⟩,by simp only[hm']; exact hr⟩
 · simp only[bLt,decide_eq_false_iff_not]at hge
   rw[show n.toNat=0 by omega,Sp.mkL]at hr
   unfold Sp.mkD Sp.mkC
   rw[←hr]
   exact⟨rfl,rfl⟩
def r49:Cr PR:=KB [r40,r104,r62,r105] 49 6 {ps:=[],rs:=[(true,[.sl hS])],pre:=fun _=>True,out:=fun a=>[[.l (Sp.mkD (L a 0 0))],[.l (Sp.mkC (L a 0 0))]],bx:=some (117,[.sl hB])} (fun a=>A49 (L a 0 0)) fun a=>Y (v49 (L a 0 0))
end Go.Sx

