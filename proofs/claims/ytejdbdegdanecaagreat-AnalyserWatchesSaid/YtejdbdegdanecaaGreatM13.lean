import Derived.Test.YtejdbdegdanecaaGreatSxUse
import Derived.Test.YtejdbdegdanecaaGreatM03
set_option linter.unusedVariables false
set_option linter.unusedSimpArgs false
set_option maxRecDepth 100000
set_option maxHeartbeats 4000000
namespace Go
open Go.Sx
def FP (n d:Int):Bool:=Ai n d&&decide (d<=n*1024/\n<=d*1024)
def PY (p:Int) (xs:List (List C)):Bool:=
 match xs with
 |[]=>true
 |x::r=>(FP (qi 1 x) (qi 2 x)&&decide (qi 0 x<=1099511627776/\p<qi 0 x))&&PY (qi 0 x) r
def LJ (xs:List (List C)):Bool:=
 match xs with
 |[]=>true
 |x::r=>(FP (qi 1 x) (qi 2 x)&&decide (qi 0 x=0))&&PY (qi 0 x) r
def AY (xs:List (List C)):Bool:=LJ xs&&decide (1<=(xs.length:Int)/\(xs.length:Int)<=64)
def JV (xs:List (List C)) (i:Int):Prop:=0<=i/\i<=(xs.length:Int)/\(1<=i->PY (qi 0 (rGet xs (i-1))) (xs.drop i.toNat)=LJ xs)
end Go
namespace Go
open Go.Sx
theorem RN {xs:List (List C)} {k:Int} (h0:0<=k) (h1:k<(xs.length:Int)):xs.drop k.toNat=rGet xs k::xs.drop (k+1).toNat:=by
 rw[List.drop_eq_getElem_cons (show k.toNat<xs.length by omega),show(k+1).toNat=k.toNat+1 by omega];congr 1;simp[rGet,List.getD_eq_getElem?_getD,show k.toNat<xs.length by omega]
section
variable {xs:List (List C)} {i:Int}
theorem Tz (h:JV xs i) (hi:i<(xs.length:Int)) (h1:FP (qi 1 (rGet xs i)) (qi 2 (rGet xs i))=true) (h2:qi 0 (rGet xs i)<=1099511627776) (h3:i=0->qi 0 (rGet xs i)=0) (h4:0<i->qi 0 (rGet xs (i-1))<qi 0 (rGet xs i)):JV xs (i+1):=by
 obtain⟨i0,i1,hr⟩:=h;refine⟨by omega,by omega,λ_=> ?_⟩;rw[show i+1-1=i by omega];have hd:=RN i0 hi;by_cases hz:i=0
 · subst hz;have hx:xs=rGet xs 0::xs.drop (0+1:Int).toNat:=hd;have:LJ xs=LJ (rGet xs 0::xs.drop (0+1:Int).toNat):=congrArg LJ hx;rw[this,LJ,h1,decide_eq_true (h3 rfl)]; rfl
 · rw[←hr (by omega),hd,PY,h1,decide_eq_true (And.intro h2 (h4 (by omega)))]; rfl
theorem U7 (h:JV xs i) (hi:i<(xs.length:Int)) (hb:FP (qi 1 (rGet xs i)) (qi 2 (rGet xs i))=false∨1099511627776<qi 0 (rGet xs i)∨(i=0/\qi 0 (rGet xs i)≠0)∨(0<i/\qi 0 (rGet xs i)<=qi 0 (rGet xs (i-1)))):false=AY xs:=by
 obtain⟨i0,i1,hr⟩:=h;have hd:=RN i0 hi;have key:LJ xs=false:=by
  by_cases hz:i=0
  · subst hz;have hx:xs=rGet xs 0::xs.drop (0+1:Int).toNat:=hd;have:LJ xs=LJ (rGet xs 0::xs.drop (0+1:Int).toNat):=congrArg LJ hx;rw[this,LJ];rcases hb with hb|hb|hb|hb
    · rw[hb]; rfl
    · rw[decide_eq_false (show¬qi 0 (rGet xs 0)=0 by omega),Bool.and_false]; rfl
    · rw[decide_eq_false hb.2,Bool.and_false]; rfl
    · omega
  · rw[←hr (by omega),hd,PY];rcases hb with hb|hb|hb|hb
    · rw[hb]; rfl
    · rw[decide_eq_false (by omega),Bool.and_false]; rfl
    · omega
    · rw[decide_eq_false (by omega),Bool.and_false]; rfl
 unfold AY;rw[key]; rfl
theorem TN (h:JV xs i) (hi:¬i<(xs.length:Int)):AY xs=decide (1<=(xs.length:Int)/\(xs.length:Int)<=64):=by
 obtain⟨i0,i1,hr⟩:=h;unfold AY;by_cases hz:xs.length=0
 · have:xs=[]:=List.eq_nil_of_length_eq_zero hz;subst this; rfl
 · rw[←hr (by omega),List.drop_eq_nil_of_le (by omega)]; rfl
end
end Go
namespace Go
open Go.Sx
theorem WJ {xs:List (List C)} (h:AY xs=true):1<=(xs.length:Int)/\(xs.length:Int)<=64:=by
 unfold AY at h;rw[Bool.and_eq_true,decide_eq_true_eq]at h;exact h.2
section
variable {xs:List (List C)} {f n d v:Int}
end
end Go
namespace Go.Sx
theorem v196 (n:Int) (d:Int):InR .i64 n/\InR .i64 d->True/\Cn (Ai n d) (InR .i64 (iMul n 1024)/\Cn (bLe d (iMul n 1024)) (InR .i64 (iMul d 1024)/\bLe n (iMul d 1024)=FP n d) (false=FP n d)) (false=FP n d):=by
 intro hw;simp only[Cn_iff,Aas,true_and]
 try simp only[iAdd,iSub,iMul,iLen,eq_self,true_and,and_true,true_implies,implies_true]
 have hc:FP n d=(Ai n d&&decide (d<=n*1024/\n<=d*1024)):=rfl;refine⟨λh=> ?_,λh=>by rw[hc,h]; rfl⟩;have hr:=h;simp only[Ai,decide_eq_true_eq]at hr;rw[hc,h,Bool.true_and];simp only[bLe,decide_eq_true_eq,decide_eq_false_iff_not,InR];exact⟨by omega,λh1=>⟨by omega,by rw[decide_eq_decide]; omega⟩,λh1=>by symm; rw[decide_eq_false_iff_not]; omega⟩
def r196:Cr PR:=K0 [r133] 196 6 {ps:=[(true,hII)],rs:=[(false,[.bool])],pre:=λ_=>True,out:=λa=>[[.b (FP (I a 0 0) (I a 0 1))]]} U λa=>Y (v196 (I a 0 0) (I a 0 1))
end Go.Sx
namespace Go.Sx
theorem v87 (n:Int) (d:Int):InR .i64 n/\InR .i64 d->True/\Cn (Ai n d) (True/\(InR .i64 (Fv n d 1 1024)->Cn (bLe 0 (Fv n d 1 1024)) (True/\(InR .i64 (Fv n d 1024 1)->bLe (Fv n d 1024 1) 0=FP n d)) (false=FP n d))) (false=FP n d):=by
 intro hw;simp only[Cn_iff,Aas,true_and]
 try simp only[iAdd,iSub,iMul,iLen,eq_self,true_and,and_true,true_implies,implies_true]
 have hc:FP n d=(Ai n d&&decide (d<=n*1024/\n<=d*1024)):=rfl;refine⟨λh=> ?_,λh=>by rw[hc,h]; rfl⟩;have hr:=h;simp only[Ai,decide_eq_true_eq]at hr;have r1:Ai 1 1024=true:=by decide+kernel
 have r2:Ai 1024 1=true:=by decide+kernel
 have k1:Fv n d 1 1024=if n*1024<1*d then-1 else if n*1024=1*d then 0 else 1:=by unfold Fv; rw[if_neg (by simp[h,r1])]
 have k2:Fv n d 1024 1=if n*1<1024*d then-1 else if n*1=1024*d then 0 else 1:=by unfold Fv; rw[if_neg (by simp[h,r2])]
 rw[hc,h,Bool.true_and,k1,k2];simp only[bLe,decide_eq_true_eq,decide_eq_false_iff_not];refine λ_=>⟨λh1 _=> ?_,λh1=> ?_⟩
 · rw[decide_eq_decide];split at h1<;>split<;>(try split)<;>(try split at h1)<;>omega
 · symm; rw[decide_eq_false_iff_not];split at h1<;>(try split at h1)<;>omega
def r87:Cr PR:=K0 [r143,r156] 87 6 {ps:=[(true,hII)],rs:=[(false,[.bool])],pre:=λ_=>True,out:=λa=>[[.b (FP (I a 0 0) (I a 0 1))]]} U λa=>Y (v87 (I a 0 0) (I a 0 1))
end Go.Sx
namespace Go.Sx
def A130 (xs:List (List C)):FuncId->Nat->LoopAnn:=λ_ ii=>bif Nat.beq ii 2 then .inv Int (λz=>JV xs z) (λz=>[(8,.int .i64 z)]) (λ_=>[]) [] [0,1,2,3,4,6,7,8,9,46] (λz=>xs.length-z.toNat)else .unroll 0
def Ag4 (xs:List (List C)) (x:Int):Prop:=InR .i64 (iAdd x 1)/\Sm [C.l xs]/\Sm xs/\Sm (iLen xs)/\Sm [C.l xs]/\∃(y:Int),JV xs y/\iAdd x 1=y/\nLt (xs.length-y.toNat) (xs.length-x.toNat)
def Ail (xs:List (List C)) (x:Int):Prop:=InR .i64 (iSub x 1)/\pIn 0 (iLen xs) (iSub x 1)/\(InR .i64 (qi 0 (rGet xs (iSub x 1)))->Cn (bLe (qi 0 (rGet xs x)) (qi 0 (rGet xs (iSub x 1)))) (false=AY xs) ((Ag4 xs x)))
theorem v130 (xs:List (List C)):WL hS xs->pLe (iLen xs) 9223372036854775807->(∃(x:Int),JV xs x/\0=x)/\∀(x:Int),JV xs x->InR .i64 x->Cn (bLt x (iLen xs)) (pIn 0 (iLen xs) x/\(InR .i64 (qi 0 (rGet xs x))/\InR .i64 (qi 1 (rGet xs x))/\InR .i64 (qi 2 (rGet xs x))->True/\True/\Cn (bNot (FP (qi 1 (rGet xs x)) (qi 2 (rGet xs x)))) (false=AY xs) (Cn (bLt 1099511627776 (qi 0 (rGet xs x))) (false=AY xs) (Cn (bEq x 0) (Cn (bNe (qi 0 (rGet xs x)) 0) (false=AY xs) (Cn (bLt 0 x) ((Ail xs x)) ((Ag4 xs x)))) (Cn (bLt 0 x) ((Ail xs x)) ((Ag4 xs x))))))) (pLe (iLen xs) 9223372036854775807->Cn (bLe 1 (iLen xs)) (pLe (iLen xs) 9223372036854775807->bLe (iLen xs) 64=AY xs) (false=AY xs)):=by
 intro hw;delta Ag4 Ail;simp only[Cn_iff,Aas,true_and]
 try simp only[iAdd,iSub,iMul,iLen,eq_self,true_and,and_true,true_implies,implies_true]
 skip;have hm:xs.length<=9223372036854775807:=hw.1;intro _;refine⟨⟨0,⟨by omega,by omega,λh=>by omega⟩,rfl⟩,?_⟩;rintro i hI _;have hI':=hI;obtain⟨i0,i1,_⟩:=hI';refine⟨λhlt=> ?_,λhge=> ?_⟩;rotate_left
 · simp only[bLt,decide_eq_false_iff_not]at hge;rw[TN hI hge];simp only[pLe,bLe]
   repeat' (first|apply And.intro|intro _)
   all_goals (first|assumption|(rw[decide_eq_decide]; simp only[decide_eq_true_eq]at*; omega)|(symm; rw[decide_eq_false_iff_not]; simp only[decide_eq_false_iff_not]at*; omega))
 simp only[bLt,decide_eq_true_eq]at hlt;refine⟨⟨i0,hlt⟩,λ_=> ?_⟩;have B:=λhb=>U7 hI hlt hb;have N:FP (qi 1 (rGet xs i)) (qi 2 (rGet xs i))=true->qi 0 (rGet xs i)<=1099511627776->(i=0->qi 0 (rGet xs i)=0)->(0<i->qi 0 (rGet xs (i-1))<qi 0 (rGet xs i))->InR IntKind.i64 (i+1)/\∃y,JV xs y/\i+1=y/\xs.length-y.toNat<xs.length-i.toNat:=λa b c d=>by
  exact⟨by simp only[InR]; omega,i+1,Tz hI hlt a b c d,rfl,by omega⟩
 generalize FP (qi 1 (rGet xs i)) (qi 2 (rGet xs i))=c at*;generalize qi 0 (rGet xs i)=F at*;generalize qi 0 (rGet xs (i-1))=L at*;have B2:c=true->(1099511627776<F∨i=0/\F≠0∨0<i/\F<=L)->false=AY xs:=λ_ h=>B (.inr h)
 cases c
 · have b:=B (.inl rfl);clear B N B2;simp only[bNot,Bool.not_false,Bool.true_eq_false,false_implies,true_implies,true_and]
   repeat' (first|exact b|apply And.intro|intro _)
   all_goals (first|trivial|assumption)
 · have N:=N rfl;have B2:=B2 rfl;clear B;simp only[bNot,Bool.not_true,Bool.false_eq_true,false_implies,true_implies,true_and,and_true,bLt,bLe,bEq,bNe,decide_eq_true_eq,decide_eq_false_iff_not,Bool.not_eq_true',Bool.not_eq_false',Decidable.not_not,pIn];have R:InR IntKind.i64 (i-1):=by simp only[InR]; omega
   repeat' (first|exact R|exact B2 (by omega)|exact N (by omega) (by omega) (by omega)|apply And.intro|intro _)
   all_goals omega
def r130:Cr PR:=K0 [r196] 130 6 {ps:=[(true,[.sl hS])],rs:=[(false,[.bool])],pre:=λ_=>True,out:=λa=>[[.b (AY (L a 0 0))]]} (λa=>A130 (L a 0 0)) λa=>Y (v130 (L a 0 0))
end Go.Sx
namespace Go.Sx
def A42 (xs:List (List C)):FuncId->Nat->LoopAnn:=λ_ ii=>bif Nat.beq ii 2 then .inv Int (λz=>JV xs z) (λz=>[(8,.int .i64 z)]) (λ_=>[]) [] [0,1,2,3,4,6,7,8,9,46] (λz=>xs.length-z.toNat)else .unroll 0
def Ajf (xs:List (List C)) (x:Int):Prop:=InR .i64 (iAdd x 1)/\Sm [C.l xs]/\Sm xs/\Sm (iLen xs)/\Sm [C.l xs]/\∃(y:Int),JV xs y/\iAdd x 1=y/\nLt (xs.length-y.toNat) (xs.length-x.toNat)
def Aj6 (xs:List (List C)) (x:Int):Prop:=InR .i64 (iSub x 1)/\pIn 0 (iLen xs) (iSub x 1)/\(InR .i64 (qi 0 (rGet xs (iSub x 1)))->Cn (bLe (qi 0 (rGet xs x)) (qi 0 (rGet xs (iSub x 1)))) (false=AY xs) (Cn (bLt 1099511627776 (qi 0 (rGet xs x))) (false=AY xs) ((Ajf xs x))))
theorem v42 (xs:List (List C)):WL hS xs->pLe (iLen xs) 9223372036854775807->(∃(x:Int),JV xs x/\0=x)/\∀(x:Int),JV xs x->InR .i64 x->Cn (bLt x (iLen xs)) (pIn 0 (iLen xs) x/\(InR .i64 (qi 0 (rGet xs x))/\InR .i64 (qi 1 (rGet xs x))/\InR .i64 (qi 2 (rGet xs x))->True/\True/\Cn (bNot (FP (qi 1 (rGet xs x)) (qi 2 (rGet xs x)))) (false=AY xs) (Cn (bEq x 0) (Cn (bNe (qi 0 (rGet xs x)) 0) (false=AY xs) (Cn (bLt 0 x) ((Aj6 xs x)) (Cn (bLt 1099511627776 (qi 0 (rGet xs x))) (false=AY xs) ((Ajf xs x))))) (Cn (bLt 0 x) ((Aj6 xs x)) (Cn (bLt 1099511627776 (qi 0 (rGet xs x))) (false=AY xs) ((Ajf xs x))))))) (pLe (iLen xs) 9223372036854775807->Cn (bLe 1 (iLen xs)) (pLe (iLen xs) 9223372036854775807->bLe (iLen xs) 64=AY xs) (false=AY xs)):=by
 intro hw;delta Ajf Aj6;simp only[Cn_iff,Aas,true_and]
 try simp only[iAdd,iSub,iMul,iLen,eq_self,true_and,and_true,true_implies,implies_true]
 skip;have hm:xs.length<=9223372036854775807:=hw.1;intro _;refine⟨⟨0,⟨by omega,by omega,λh=>by omega⟩,rfl⟩,?_⟩;rintro i hI _;have hI':=hI;obtain⟨i0,i1,_⟩:=hI';refine⟨λhlt=> ?_,λhge=> ?_⟩;rotate_left
 · simp only[bLt,decide_eq_false_iff_not]at hge;rw[TN hI hge];simp only[pLe,bLe]
   repeat' (first|apply And.intro|intro _)
   all_goals (first|assumption|(rw[decide_eq_decide]; simp only[decide_eq_true_eq]at*; omega)|(symm; rw[decide_eq_false_iff_not]; simp only[decide_eq_false_iff_not]at*; omega))
 simp only[bLt,decide_eq_true_eq]at hlt;refine⟨⟨i0,hlt⟩,λ_=> ?_⟩;have B:=λhb=>U7 hI hlt hb;have N:FP (qi 1 (rGet xs i)) (qi 2 (rGet xs i))=true->qi 0 (rGet xs i)<=1099511627776->(i=0->qi 0 (rGet xs i)=0)->(0<i->qi 0 (rGet xs (i-1))<qi 0 (rGet xs i))->InR IntKind.i64 (i+1)/\∃y,JV xs y/\i+1=y/\xs.length-y.toNat<xs.length-i.toNat:=λa b c d=>by
  exact⟨by simp only[InR]; omega,i+1,Tz hI hlt a b c d,rfl,by omega⟩
 generalize FP (qi 1 (rGet xs i)) (qi 2 (rGet xs i))=c at*;generalize qi 0 (rGet xs i)=F at*;generalize qi 0 (rGet xs (i-1))=L at*;have B2:c=true->(1099511627776<F∨i=0/\F≠0∨0<i/\F<=L)->false=AY xs:=λ_ h=>B (.inr h)
 cases c
 · have b:=B (.inl rfl);clear B N B2;simp only[bNot,Bool.not_false,Bool.true_eq_false,false_implies,true_implies,true_and]
   repeat' (first|exact b|apply And.intro|intro _)
   all_goals (first|trivial|assumption)
 · have N:=N rfl;have B2:=B2 rfl;clear B;simp only[bNot,Bool.not_true,Bool.false_eq_true,false_implies,true_implies,true_and,and_true,bLt,bLe,bEq,bNe,decide_eq_true_eq,decide_eq_false_iff_not,Bool.not_eq_true',Bool.not_eq_false',Decidable.not_not,pIn];have R:InR IntKind.i64 (i-1):=by simp only[InR]; omega
   repeat' (first|exact R|exact B2 (by omega)|exact N (by omega) (by omega) (by omega)|apply And.intro|intro _)
   all_goals omega
def r42:Cr PR:=K0 [r87] 42 6 {ps:=[(true,[.sl hS])],rs:=[(false,[.bool])],pre:=λ_=>True,out:=λa=>[[.b (AY (L a 0 0))]]} (λa=>A42 (L a 0 0)) λa=>Y (v42 (L a 0 0))
end Go.Sx

set_option linter.unusedVariables false
set_option linter.unusedSimpArgs false
set_option maxRecDepth 100000
set_option maxHeartbeats 4000000
namespace Go
open Go.Sx
def Z4 (f n d u b:Int):Prop:=FP n d=true/\0<=f/\f<=u/\u<=1099511627776/\0<=b/\b<=1024*f
def Nh (f n d b t:Int):Int:=b+(t-f)*n/d
end Go
namespace Go
open Go.Sx
theorem Zc {n d:Int} (h:FP n d=true):Ai n d=true/\1<=n/\1<=d/\n<=68719476736/\d<=68719476736/\d<=n*1024/\n<=d*1024:=by
 unfold FP at h;rw[Bool.and_eq_true,decide_eq_true_eq]at h;have h1:=h.1;simp only[Ai,decide_eq_true_eq]at h1;exact⟨h.1,h1.1,h1.2.1,h1.2.2.1,h1.2.2.2.1,h.2.1,h.2.2⟩
theorem Sl {m n d:Int} (h:FP n d=true) (h0:0<=m) (h1:m<=1099511627776):0<=m*n/d/\m*n/d<=1024*m/\Dp m n d=m*n/d/\CW m n d=0:=by
 obtain⟨hv,a1,b1,a2,b2,c1,c2⟩:=Zc h;have k0:0<=m*n/d:=Int.ediv_nonneg (Int.mul_nonneg h0 (by omega)) (by omega);have k1:m*n/d<=1024*m:=by
  have h3:m*n<=m*(d*1024):=Int.mul_le_mul_of_nonneg_left c2 h0;have h4:=Int.ediv_le_ediv (show 0<d by omega) h3;rw[show m*(d*1024)=(1024*m)*d by rw[Int.mul_comm d 1024,←Int.mul_assoc,Int.mul_comm m 1024],Int.mul_ediv_cancel _ (by omega)]at h4;exact h4
 have kc:DL m n d=0:=by unfold DL; rw[if_neg (by simp[hv]),if_neg (by omega)]
 have ki:Bz (AB m n d)=true:=by unfold Bz AB; rw[decide_eq_true_eq]; omega
 have ke:CW m n d=0:=by unfold CW; rw[if_neg (by simp[kc]),ki]; rfl
 exact⟨k0,k1,by unfold Dp; rw[if_pos ke]; rfl,ke⟩
end Go

set_option linter.unusedVariables false
set_option linter.unusedSimpArgs false
set_option maxRecDepth 100000
set_option maxHeartbeats 4000000
namespace Go
open Go.Sx
def DJ (xs:List (List C)) (k:Nat):Int:=if k+1<xs.length then qi 0 (rGet xs ((k:Int)+1))else 1099511627776
def Oe (xs:List (List C)):Nat->Int
 |0=>0
 |k+1=>Nh (qi 0 (rGet xs k)) (qi 1 (rGet xs k)) (qi 2 (rGet xs k)) (Oe xs k) (DJ xs k)
end Go
namespace Go
open Go.Sx
def PU (xs:List (List C)) (t:Int) (k:Nat):Int:=(min t (DJ xs k)-qi 0 (rGet xs k))*qi 1 (rGet xs k)/qi 2 (rGet xs k)
def D9 (xs:List (List C)) (t:Int):Nat->Int
 |0=>0
 |k+1=>D9 xs t k+PU xs t k
def Sv (xs:List (List C)) (t:Int):Nat:=(xs.takeWhile λx=>decide (qi 0 x<=t)).length
def EK (xs:List (List C)) (t:Int):Int:=D9 xs t (Sv xs t)
def MZ (xs:List (List C)) (k:Nat) (t:Int):Int:=Nh (qi 0 (rGet xs k)) (qi 1 (rGet xs k)) (qi 2 (rGet xs k)) (Oe xs k) t
end Go
namespace Go.Proofs
open Go.RowKit Go.Sx
theorem AbP {x:List C} {r:List (List C)} {j:Int} (h:0<=j):rGet (x::r) (j+1)=rGet r j:=by
 unfold rGet;rw[show(j+1).toNat=j.toNat+1 by omega]; rfl
theorem SA:∀ {xs:List (List C)} {p:Int},PY p xs=true->∀k:Nat,k<xs.length->FP (qi 1 (rGet xs k)) (qi 2 (rGet xs k))=true/\p<qi 0 (rGet xs k)/\qi 0 (rGet xs k)<=1099511627776/\(k+1<xs.length->qi 0 (rGet xs k)<qi 0 (rGet xs ((k:Int)+1)))
 |[],p,_,k,hk=>by simp at hk
 |x::r,p,h,k,hk=>by
  simp only[PY,Bool.and_eq_true,decide_eq_true_eq]at h;have ih:=SA h.2
  cases k with
  |zero=>
   refine⟨h.1.1,h.1.2.2,h.1.2.1,λh1=> ?_⟩
   have:=(ih 0 (by simpa using h1)).2.1
   simpa[rGet]using this
  |succ k=>
   have i1:=ih k (by simpa using hk)
   have e1:rGet (x::r) ((k+1:Nat):Int)=rGet r k:=AbP (j:=(k:Int)) (by omega)
   have e2:rGet (x::r) (((k+1:Nat):Int)+1)=rGet r ((k:Int)+1):=AbP (j:=(k:Int)+1) (by omega)
   rw[e1,e2]
   exact⟨i1.1,by omega,i1.2.2.1,λh1=>i1.2.2.2 (by simp at h1; omega)⟩
theorem IG {xs:List (List C)} (h:AY xs=true):(1<=xs.length/\xs.length<=64)/\qi 0 (rGet xs 0)=0/\∀k:Nat,k<xs.length->FP (qi 1 (rGet xs k)) (qi 2 (rGet xs k))=true/\0<=qi 0 (rGet xs k)/\qi 0 (rGet xs k)<=1099511627776/\(k+1<xs.length->qi 0 (rGet xs k)<qi 0 (rGet xs ((k:Int)+1))):=by
 have hl:=WJ h;refine⟨by omega,?_⟩;unfold AY at h;rw[Bool.and_eq_true]at h
 cases xs with
 |nil=>simp at hl
 |cons x r=>
  have h1:=h.1
  simp only[LJ,Bool.and_eq_true,decide_eq_true_eq]at h1
  have e0:rGet (x::r) 0=x:=by simp[rGet]
  have f:=SA h1.2
  refine⟨by rw[e0]; exact h1.1.2,λk hk=> ?_⟩
  cases k with
  |zero=>
   have e0':rGet (x::r) ((0:Nat):Int)=x:=by simp[rGet]
   rw[e0']
   refine⟨h1.1.1,by omega,by omega,λh2=> ?_⟩
   have:=(f 0 (by simpa using h2)).2.1
   simpa[rGet]using this
  |succ k=>
   have i1:=f k (by simpa using hk)
   have e1:rGet (x::r) ((k+1:Nat):Int)=rGet r k:=AbP (j:=(k:Int)) (by omega)
   have e2:rGet (x::r) (((k+1:Nat):Int)+1)=rGet r ((k:Int)+1):=AbP (j:=(k:Int)+1) (by omega)
   rw[e1,e2]
   exact⟨i1.1,by omega,i1.2.2.1,λh1=>i1.2.2.2 (by simp at h1; omega)⟩
theorem PP {xs:List (List C)} (h:AY xs=true) {k:Nat} (hk:k<xs.length):qi 0 (rGet xs k)<=DJ xs k/\DJ xs k<=1099511627776:=by
 obtain⟨hl,h0,hf⟩:=IG h;obtain⟨a,b,c,d⟩:=hf k hk;unfold DJ;split
 · rename_i h1;have:=(hf (k+1) h1).2.2.1;rw[show((k+1:Nat):Int)=(k:Int)+1 by omega]at this;exact⟨Int.le_of_lt (d h1),this⟩
 · omega
theorem LZ {xs:List (List C)} {k:Nat} (h:k+1<xs.length):DJ xs k=qi 0 (rGet xs ((k+1:Nat):Int)):=by unfold DJ; rw[if_pos h]; rfl
theorem SB {xs:List (List C)} (h:AY xs=true):∀(k:Nat),k<xs.length->Z4 (qi 0 (rGet xs k)) (qi 1 (rGet xs k)) (qi 2 (rGet xs k)) (DJ xs k) (Oe xs k)
 |0,hk=>by
  obtain⟨hl,h0,hf⟩:=IG h;obtain⟨u1,u2⟩:=PP h hk;obtain⟨a,b,c,d⟩:=hf 0 hk;exact⟨a,b,u1,u2,Int.le_refl _,by show(0:Int)<=_; omega⟩
 |k+1,hk=>by
  obtain⟨hl,h0,hf⟩:=IG h;obtain⟨u1,u2⟩:=PP h hk;obtain⟨a,b,c,d⟩:=hf (k+1) hk;obtain⟨p1,p2,p3,p4,p5,p6⟩:=SB h k (by omega);obtain⟨f1,f2,_,_⟩:=Sl (m:=DJ xs k-qi 0 (rGet xs k)) p1 (by omega) (by omega);have hn:=LZ hk;refine⟨a,b,u1,u2,?_,?_⟩
  · show 0<=Nh _ _ _ _ _;unfold Nh; omega
  · show Nh _ _ _ _ _<=_;unfold Nh; omega
theorem Qm {xs:List (List C)} {t:Int}:∀ {i:Nat},i<=xs.length->(∀j:Nat,j<i->qi 0 (rGet xs j)<=t)->(i<xs.length->t<qi 0 (rGet xs i))->Sv xs t=i:=by
 unfold Sv
 induction xs with
 |nil=>intro i hi _ _; simp at hi; simp[hi]
 |cons x r ih=>
  intro i hi h1 h2
  cases i with
  |zero=>
   have:=h2 (by simp)
   have e:rGet (x::r) ((0:Nat):Int)=x:=by simp[rGet]
   rw[e]at this
   rw[List.takeWhile_cons_of_neg (by simpa using this)]; rfl
  |succ i=>
   have e0:rGet (x::r) ((0:Nat):Int)=x:=by simp[rGet]
   have h0:=h1 0 (by omega)
   rw[e0]at h0
   rw[List.takeWhile_cons_of_pos (by simpa using h0)]
   simp only[List.length_cons]
   rw[ih (i:=i) (by simpa using hi) (λj hj=> ?_) (λhj=> ?_)]
   · have:=h1 (j+1) (by omega)
     rwa [show rGet (x::r) ((j+1:Nat):Int)=rGet r j from AbP (j:=(j:Int)) (by omega)]at this
   · have:=h2 (by simpa using hj)
     rwa [show rGet (x::r) ((i+1:Nat):Int)=rGet r i from AbP (j:=(i:Int)) (by omega)]at this
theorem TB {xs:List (List C)} {t:Int}:∀ {k:Nat},k<xs.length->(∀j:Nat,j<=k->qi 0 (rGet xs j)<=t)->D9 xs t k=Oe xs k
 |0,_,_=>rfl
 |k+1,hk,h=>by
  have ih:=TB (k:=k) (by omega) (λj hj=>h j (by omega));have hn:=LZ hk;have:=h (k+1) (Nat.le_refl _);simp only[D9,PU,Oe,Nh,ih];rw[show min t (DJ xs k)=DJ xs k by omega]
theorem Qu {xs:List (List C)} {t:Int} {k:Nat} (hk:k<xs.length) (h:∀j:Nat,j<=k->qi 0 (rGet xs j)<=t):D9 xs t (k+1)=MZ xs k (min t (DJ xs k)):=by
 simp only[D9,PU,MZ,Nh,TB hk h]
theorem WN {xs:List (List C)} (k:Nat):Oe xs (k+1)=MZ xs k (DJ xs k):=rfl
theorem UG {xs:List (List C)} (h:AY xs=true) {k:Nat} (hk:k<xs.length) {s:Int} (h0:qi 0 (rGet xs k)<=s) (h1:s<=DJ xs k):0<=Oe xs k/\Oe xs k<=MZ xs k s/\MZ xs k s<=1024*s:=by
 obtain⟨p1,p2,p3,p4,p5,p6⟩:=SB h k hk;obtain⟨f1,f2,_,_⟩:=Sl (m:=s-qi 0 (rGet xs k)) p1 (by omega) (by omega);unfold MZ Nh;omega
theorem QX {xs:List (List C)} (h:AY xs=true):∀ {k j:Nat},k<xs.length->j<=k->qi 0 (rGet xs j)<=qi 0 (rGet xs k)
 |0,j,_,hj=>by obtain rfl:j=0:=(by omega); exact Int.le_refl _
 |k+1,j,hk,hj=>by
  by_cases e:j=k+1
  · subst e; exact Int.le_refl _
  · have h1:=QX h (k:=k) (j:=j) (by omega) (by omega);have h2:=((IG h).2.2 k (by omega)).2.2.2 hk;rw[show((k+1:Nat):Int)=(k:Int)+1 by omega];omega
theorem Z5 {xs:List (List C)} (h:AY xs=true) {t:Int} (h0:0<=t) (h1:t<=1099511627776):∃k,k<xs.length/\qi 0 (rGet xs k)<=t/\(k+1<xs.length->t<qi 0 (rGet xs ((k+1:Nat):Int)))/\t<=DJ xs k:=by
  obtain⟨hl,z,hf⟩:=IG h;have key:∀n k:Nat,xs.length-k=n->k<xs.length->qi 0 (rGet xs k)<=t->∃k,k<xs.length/\qi 0 (rGet xs k)<=t/\(k+1<xs.length->t<qi 0 (rGet xs ((k+1:Nat):Int))):=by
    intro n
    induction n with
    |zero=>intro k hk hk' _; omega
    |succ n ih=>
      intro k hn hk hc
      by_cases hs:k+1<xs.length/\qi 0 (rGet xs ((k+1:Nat):Int))<=t
      · exact ih (k+1) (by omega) hs.1 hs.2
      · exact⟨k,hk,hc,λh=>by
          rcases Int.lt_or_le t (qi 0 (rGet xs ((k+1:Nat):Int)))with h2|h2
          · exact h2
          · exact(hs ⟨h,h2⟩).elim⟩
  obtain⟨k,a,b,c⟩:=key _ 0 rfl (by omega) (by rw[show((0:Nat):Int)=0 by rfl,z]; exact h0);refine⟨k,a,b,c,?_⟩;by_cases hs:k+1<xs.length
  · rw[LZ hs]; have:=c hs; omega
  · unfold DJ; rw[if_neg hs]; exact h1
theorem Xp {xs:List (List C)} (h:AY xs=true) {k:Nat} (hk:k<xs.length) {t:Int} (h0:qi 0 (rGet xs k)<=t) (h1:t<=DJ xs k):EK xs t=MZ xs k t:=by
  have below:∀j:Nat,j<=k->qi 0 (rGet xs j)<=t:=λj hj=>by have:=QX h hk hj; omega
  by_cases hs:k+1<xs.length/\qi 0 (rGet xs ((k+1:Nat):Int))<=t
  · have e:t=DJ xs k:=by have:=LZ hs.1; omega
    have below':∀j:Nat,j<=k+1->qi 0 (rGet xs j)<=t:=λj hj=>by have:=QX h hs.1 hj; omega
    have hc:Sv xs t=k+2:=Qm (by omega) (λj hj=>below' j (by omega)) λh2=>by
      have:=((IG h).2.2 (k+1) hs.1).2.2.2 h2;rw[show((k+2:Nat):Int)=((k+1:Nat):Int)+1 by omega];have:=LZ hs.1;omega
    unfold EK;rw[hc,Qu hs.1 below'];have u:=PP h hs.1;have e2:=LZ hs.1;rw[show min t (DJ xs (k+1))=qi 0 (rGet xs ((k+1:Nat):Int)) by omega];have e3:MZ xs (k+1) (qi 0 (rGet xs ((k+1:Nat):Int)))=Oe xs (k+1):=by unfold MZ Nh; simp
    rw[e3,WN,e]
  · have hc:Sv xs t=k+1:=Qm (by omega) (λj hj=>below j (by omega)) λh2=>by
      rcases Int.lt_or_le t (qi 0 (rGet xs ((k+1:Nat):Int)))with h3|h3
      · exact h3
      · exact(hs ⟨h2,h3⟩).elim
    unfold EK;rw[hc,Qu hk below,show min t (DJ xs k)=t by omega]
theorem Xg {xs:List (List C)} (h:AY xs=true) {t:Int} (h0:0<=t) (h1:t<=1099511627776):0<=EK xs t/\EK xs t<=1024*t:=by
 obtain⟨k,a,b,c,d⟩:=Z5 h h0 h1;rw[Xp h a b d];have:=UG h a b d;omega
end Go.Proofs

set_option linter.unusedVariables false
set_option linter.unusedSimpArgs false
set_option maxRecDepth 100000
set_option maxHeartbeats 4000000
namespace Go
open Go.Sx
def QU (xs:List (List C)) (t z:Int):Prop:=0<=z/\z<=(xs.length:Int)/\∀j:Nat,(j:Int)<z->qi 0 (rGet xs j)<=t
def N9 (xs:List (List C)) (t u:Int):Int:=if AY xs=false then 1 else if t<0∨1099511627776<u∨u<t then 2 else 0
def H6 (xs:List (List C)) (t u:Int):Int:=if N9 xs t u=0 then EK xs u-EK xs t else 0
end Go
open Go.Proofs
namespace Go
open Go.Sx Go.Proofs
theorem Wx {xs:List (List C)} {t:Int} {k:Nat} (h:AY xs=true) (h1:t<=1099511627776) (hk:k<xs.length) (hf:∀j:Nat,j<=k->qi 0 (rGet xs j)<=t):
 Dp (min t (DJ xs k)-qi 0 (rGet xs k)) (qi 1 (rGet xs k)) (qi 2 (rGet xs k))=PU xs t k/\0<=min t (DJ xs k)-qi 0 (rGet xs k)/\min t (DJ xs k)-qi 0 (rGet xs k)<=1099511627776/\
 D9 xs t k+PU xs t k=D9 xs t (k+1)/\0<=D9 xs t (k+1)/\D9 xs t (k+1)<=1125899906842624:=by
 obtain⟨p1,p2,p3,p4,p5,p6⟩:=SB h k hk;have:=hf k (Nat.le_refl _);have hm:0<=min t (DJ xs k)-qi 0 (rGet xs k)/\min t (DJ xs k)-qi 0 (rGet xs k)<=1099511627776:=by omega
 obtain⟨f1,f2,f3,_⟩:=Sl p1 hm.1 hm.2;have b:=UG h hk (s:=min t (DJ xs k)) (by omega) (by omega);have v:=Qu hk hf;exact⟨f3,hm.1,hm.2,rfl,by rw[v]; omega,by rw[v]; omega⟩
theorem XB {xs:List (List C)} {t:Int} (hf:∀j:Nat,j<xs.length->qi 0 (rGet xs j)<=t):EK xs t=D9 xs t xs.length:=by unfold EK; rw[Qm (Nat.le_refl _) hf (λh=>by omega)]
theorem WH {xs:List (List C)} {t:Int} {k:Nat} (hk:k<xs.length) (hf:∀j:Nat,j<k->qi 0 (rGet xs j)<=t) (hs:t<qi 0 (rGet xs k)):EK xs t=D9 xs t k:=by unfold EK; rw[Qm (by omega) hf (λ_=>hs)]
end Go
namespace Go.Sx
def A73 (xs:List (List C)) (t:Int):FuncId->Nat->LoopAnn:=λ_ ii=>bif Nat.beq ii 3 then .inv Int (λz=>QU xs t z) (λz=>[(14,.int .i64 z),(5,.int .i64 (D9 xs t z.toNat))]) (λ_=>[]) [] [0,1,2,4,5,6,7,8,9,12,13,14,15,22,29] (λz=>xs.length-z.toNat)else .unroll 0
def Ajd (xs:List (List C)) (t:Int) (x:Int):Int:=(Dp (iSub (iMin t (qi 0 (rGet xs (iAdd x 1)))) (qi 0 (rGet xs x))) (qi 1 (rGet xs x)) (qi 2 (rGet xs x)))
theorem v73 (xs:List (List C)) (t:Int):WL hS xs/\InR .i64 t->AY xs=true/\pLe 0 t/\pLe t 1099511627776->pLe (iLen xs) 9223372036854775807->(∃(x:Int),QU xs t x/\0=x/\0=D9 xs t x.toNat)/\∀(x:Int),QU xs t x->InR .i64 x/\InR .i64 (D9 xs t x.toNat)->Cn (bLt x (iLen xs)) (pIn 0 (iLen xs) x/\(InR .i64 (qi 0 (rGet xs x))/\InR .i64 (qi 1 (rGet xs x))/\InR .i64 (qi 2 (rGet xs x))->Cn (bLt t (qi 0 (rGet xs x))) (D9 xs t x.toNat=EK xs t) (InR .i64 (iAdd x 1)/\(pLe (iLen xs) 9223372036854775807->Cn (bLt (iAdd x 1) (iLen xs)) (InR .i64 (iAdd x 1)/\pIn 0 (iLen xs) (iAdd x 1)/\(InR .i64 (qi 0 (rGet xs (iAdd x 1)))->InR .i64 (iSub (iMin t (qi 0 (rGet xs (iAdd x 1)))) (qi 0 (rGet xs x)))/\True/\(InR .i64 (Ajd xs t x)/\InR .i64 (CW (iSub (iMin t (qi 0 (rGet xs (iAdd x 1)))) (qi 0 (rGet xs x))) (qi 1 (rGet xs x)) (qi 2 (rGet xs x)))->InR .i64 (iAdd (D9 xs t x.toNat) (Ajd xs t x))/\InR .i64 (iAdd x 1)/\Sm [C.l xs]/\Sm t/\Sm xs/\Sm (iLen xs)/\Sm [C.l xs]/\∃(y:Int),QU xs t y/\iAdd x 1=y/\iAdd (D9 xs t x.toNat) (Ajd xs t x)=D9 xs t y.toNat/\nLt (xs.length-y.toNat) (xs.length-x.toNat)))) (InR .i64 (iSub t (qi 0 (rGet xs x)))/\True/\(InR .i64 (Dp (iSub t (qi 0 (rGet xs x))) (qi 1 (rGet xs x)) (qi 2 (rGet xs x)))/\InR .i64 (CW (iSub t (qi 0 (rGet xs x))) (qi 1 (rGet xs x)) (qi 2 (rGet xs x)))->InR .i64 (iAdd (D9 xs t x.toNat) (Dp (iSub t (qi 0 (rGet xs x))) (qi 1 (rGet xs x)) (qi 2 (rGet xs x))))/\InR .i64 (iAdd x 1)/\Sm [C.l xs]/\Sm t/\Sm xs/\Sm (iLen xs)/\Sm [C.l xs]/\∃(y:Int),QU xs t y/\iAdd x 1=y/\iAdd (D9 xs t x.toNat) (Dp (iSub t (qi 0 (rGet xs x))) (qi 1 (rGet xs x)) (qi 2 (rGet xs x)))=D9 xs t y.toNat/\nLt (xs.length-y.toNat) (xs.length-x.toNat))))))) (D9 xs t x.toNat=EK xs t):=by
  intro hw hp;delta Ajd;simp only[Cn_iff,Aas,true_and]
  try simp only[iAdd,iSub,iMul,iLen,eq_self,true_and,and_true,true_implies,implies_true]
  obtain⟨hv,h0,h1⟩:=hp;obtain⟨hl,z0,hf⟩:=IG hv;intro _;refine⟨⟨0,⟨by omega,by omega,λj hj=>by omega⟩,rfl,rfl⟩,?_⟩;rintro z ⟨y0,y1,yf⟩ _;obtain⟨k,rfl⟩:∃k:Nat,z=k:=⟨z.toNat,by omega⟩
  simp only[Int.toNat_natCast,bLt,decide_eq_true_eq,decide_eq_false_iff_not];have yf':∀j:Nat,j<k->qi 0 (rGet xs j)<=t:=λj hj=>yf j (by omega);have rng:∀ {m:Int},0<=m->m<=1125899906842624->InR .i64 m:=λa b=>by simp only[InR]; omega
  refine⟨λhlt=>⟨⟨by omega,hlt⟩,λ_=>⟨λhb=> ?_,λhb=> ?_⟩⟩,λhge=> ?_⟩
  · exact(WH (by omega) yf' hb).symm
  · have below:∀j:Nat,j<=k->qi 0 (rGet xs j)<=t:=λj hj=>by
      by_cases e:j=k
      · subst e; omega
      · exact yf' j (by omega)
    obtain⟨c1,c2,c3,c4,c5,c6⟩:=Wx hv h1 (show k<xs.length by omega) below;have fin:∃y,QU xs t y/\(k:Int)+1=y/\D9 xs t k+PU xs t k=D9 xs t y.toNat/\xs.length-y.toNat<xs.length-k:=⟨k+1,⟨by omega,by omega,λj hj=>below j (by omega)⟩,rfl,by rw[c4]; rfl,by omega⟩
    have i1:InR .i64 ((k:Int)+1):=rng (by omega) (by omega);refine⟨i1,λ_=>⟨λhn=> ?_,λhn=> ?_⟩⟩
    · have e:qi 0 (rGet xs ((k:Int)+1))=DJ xs k:=by unfold DJ; rw[if_pos (by omega)]
      rw[e,show iMin t (DJ xs k)=min t (DJ xs k)from rfl,c1,c4];exact⟨i1,⟨by omega,hn⟩,λ_=>⟨rng c2 (by omega),λ_=>⟨rng c5 c6,i1,by rw[←c4]; exact fin⟩⟩⟩
    · have e:t=min t (DJ xs k):=by unfold DJ; rw[if_neg (by omega)]; omega
      have c1':Dp (t-qi 0 (rGet xs k)) (qi 1 (rGet xs k)) (qi 2 (rGet xs k))=PU xs t k:=by rw[←c1,←e]
      rw[←e]at c2 c3;rw[c1',c4];exact⟨rng c2 (by omega),λ_=>⟨rng c5 c6,i1,by rw[←c4]; exact fin⟩⟩
  · obtain rfl:k=xs.length:=by omega
    exact(XB yf').symm
def r73:Cr PR:=K [r126] 73 6 {ps:=[(true,[.sl hS]),(false,hI)],rs:=[(false,hI)],pre:=λa=>AY (L a 0 0)=true/\(pLe 0 (I a 1 0)/\pLe (I a 1 0) 1099511627776),out:=λa=>[[.i (EK (L a 0 0) (I a 1 0))]]} (λa=>A73 (L a 0 0) (I a 1 0)) λa=>Y (v73 (L a 0 0) (I a 1 0))
end Go.Sx
namespace Go.Sx
theorem v31 (xs:List (List C)) (t:Int) (u:Int):WL hS xs/\InR .i64 t/\InR .i64 u->True/\True/\Cn (bNot (AY xs)) (0=H6 xs t u/\1=N9 xs t u) (Cn (bLt t 0) (0=H6 xs t u/\2=N9 xs t u) (Cn (bLt 1099511627776 u) (0=H6 xs t u/\2=N9 xs t u) (Cn (bLt u t) (0=H6 xs t u/\2=N9 xs t u) ((AY xs=true/\pLe 0 u/\pLe u 1099511627776)/\(InR .i64 (EK xs u)->(AY xs=true/\pLe 0 t/\pLe t 1099511627776)/\(InR .i64 (EK xs t)->InR .i64 (iSub (EK xs u) (EK xs t))/\iSub (EK xs u) (EK xs t)=H6 xs t u/\0=N9 xs t u)))))):=by
 intro hw;simp only[Cn_iff,Aas,true_and]
 try simp only[iAdd,iSub,iMul,iLen,eq_self,true_and,and_true,true_implies,implies_true]
 unfold H6 N9
 cases hv:AY xs
 · simp[bNot]
 · have B:∀s:Int,0<=s->s<=1099511627776->0<=EK xs s/\EK xs s<=1024*s:=λs a b=>Xg hv a b;simp only[bNot,bLt,pLe,InR,decide_eq_true_eq,decide_eq_false_iff_not,Bool.not_true,Bool.false_eq_true,Bool.true_eq_false,false_implies,true_implies,true_and,and_true,if_false]
   repeat' (first|apply And.intro|intro _)
   all_goals first|omega|(have:=B t (by omega) (by omega); have:=B u (by omega) (by omega); omega)|(rw[if_pos (by omega)]; try rfl; done)|(rw[if_neg (by omega)]; first|rfl|simp)|skip
def r31:Cr PR:=K0 [r42,r73] 31 6 {ps:=[(true,[.sl hS]),(false,hI),(false,hI)],rs:=[(false,hI),(false,hI)],pre:=λ_=>True,out:=λa=>[[.i (H6 (L a 0 0) (I a 1 0) (I a 2 0))],[.i (N9 (L a 0 0) (I a 1 0) (I a 2 0))]]} U λa=>Y (v31 (L a 0 0) (I a 1 0) (I a 2 0))
end Go.Sx

set_option linter.unusedVariables false
set_option linter.unusedSimpArgs false
set_option maxRecDepth 100000
set_option maxHeartbeats 4000000
namespace Go
open Go.Sx
end Go
namespace Go
open Go.Sx Go.Proofs
end Go

set_option linter.unusedVariables false
set_option linter.unusedSimpArgs false
set_option maxRecDepth 100000
set_option maxHeartbeats 4000000
namespace Go
open Go.Sx
end Go
namespace Go
open Go.Sx Go.Proofs
end Go

