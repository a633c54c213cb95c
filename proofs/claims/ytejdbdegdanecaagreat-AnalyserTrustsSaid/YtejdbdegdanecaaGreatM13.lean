import Derived.Test.YtejdbdegdanecaaGreatSxUse
import Derived.Test.YtejdbdegdanecaaGreatM03
set_option linter.unusedVariables false
set_option linter.unusedSimpArgs false
set_option maxRecDepth 100000
set_option maxHeartbeats 4000000
namespace Go
open Go.Sx
def FN (n d:Int):Bool:=Ai n d&&decide (d<=n*1024/\n<=d*1024)
def PS (p:Int) (xs:List (List C)):Bool:=
 match xs with
 |[]=>true
 |x::r=>(FN (qi 1 x) (qi 2 x)&&decide (qi 0 x<=1099511627776/\p<qi 0 x))&&PS (qi 0 x) r
def LK (xs:List (List C)):Bool:=
 match xs with
 |[]=>true
 |x::r=>(FN (qi 1 x) (qi 2 x)&&decide (qi 0 x=0))&&PS (qi 0 x) r
def A7 (xs:List (List C)):Bool:=LK xs&&decide (1<=(xs.length:Int)/\(xs.length:Int)<=64)
def Kr (xs:List (List C)) (i:Int):Prop:=0<=i/\i<=(xs.length:Int)/\(1<=i->PS (qi 0 (rGet xs (i-1))) (xs.drop i.toNat)=LK xs)
theorem SY {xs:List (List C)} {k:Int} (h0:0<=k) (h1:k<(xs.length:Int)):xs.drop k.toNat=rGet xs k::xs.drop (k+1).toNat:=by
 rw[Anq (show k.toNat<xs.length by omega),show(k+1).toNat=k.toNat+1 by omega];congr 1;simp[rGet,List.getD_eq_getElem?_getD,show k.toNat<xs.length by omega]
section
variable {xs:List (List C)} {i:Int}
theorem Uf (h:Kr xs i) (hi:i<(xs.length:Int)) (h1:FN (qi 1 (rGet xs i)) (qi 2 (rGet xs i))=true) (h2:qi 0 (rGet xs i)<=1099511627776) (h3:i=0->qi 0 (rGet xs i)=0) (h4:0<i->qi 0 (rGet xs (i-1))<qi 0 (rGet xs i)):Kr xs (i+1):=by
 obtain⟨i0,i1,hr⟩:=h;refine⟨by omega,by omega,λ_=> ?_⟩;rw[show i+1-1=i by omega];have hd:=SY i0 hi;by_cases hz:i=0
 · subst hz;have hx:xs=rGet xs 0::xs.drop (0+1:Int).toNat:=hd;have:LK xs=LK (rGet xs 0::xs.drop (0+1:Int).toNat):=congrArg LK hx;rw[this,LK,h1,AlL (h3 rfl)]; rfl
 · rw[←hr (by omega),hd,PS,h1,AlL (And.intro h2 (h4 (by omega)))]; rfl
theorem Ve (h:Kr xs i) (hi:i<(xs.length:Int)) (hb:FN (qi 1 (rGet xs i)) (qi 2 (rGet xs i))=false∨1099511627776<qi 0 (rGet xs i)∨(i=0/\qi 0 (rGet xs i)≠0)∨(0<i/\qi 0 (rGet xs i)<=qi 0 (rGet xs (i-1)))):false=A7 xs:=by
 obtain⟨i0,i1,hr⟩:=h;have hd:=SY i0 hi;have key:LK xs=false:=by
  by_cases hz:i=0
  · subst hz;have hx:xs=rGet xs 0::xs.drop (0+1:Int).toNat:=hd;have:LK xs=LK (rGet xs 0::xs.drop (0+1:Int).toNat):=congrArg LK hx;rw[this,LK];rcases hb with hb|hb|hb|hb
    · rw[hb]; rfl
    · rw[AlK (show¬qi 0 (rGet xs 0)=0 by omega),AlQ]; rfl
    · rw[AlK hb.2,AlQ]; rfl
    · omega
  · rw[←hr (by omega),hd,PS];rcases hb with hb|hb|hb|hb
    · rw[hb]; rfl
    · rw[AlK (by omega),AlQ]; rfl
    · omega
    · rw[AlK (by omega),AlQ]; rfl
 unfold A7;rw[key]; rfl
theorem UX (h:Kr xs i) (hi:¬i<(xs.length:Int)):A7 xs=decide (1<=(xs.length:Int)/\(xs.length:Int)<=64):=by
 obtain⟨i0,i1,hr⟩:=h;unfold A7;by_cases hz:xs.length=0
 · have:xs=[]:=AmH hz;subst this; rfl
 · rw[←hr (by omega),AlP (by omega)]; rfl
end
theorem XD {xs:List (List C)} (h:A7 xs=true):1<=(xs.length:Int)/\(xs.length:Int)<=64:=by
 unfold A7 at h;rw[AlG,AlE]at h;exact h.2
theorem XF (n d:Int):A7 [[C.i 0,C.i n,C.i d]]=FN n d:=by
 unfold A7;simp only[LK,PS];rw[show qi 0 [C.i 0,C.i n,C.i d]=0 from rfl,show qi 1 [C.i 0,C.i n,C.i d]=n from rfl,show qi 2 [C.i 0,C.i n,C.i d]=d from rfl];simp
section
variable {xs:List (List C)} {f n d v:Int}
end
end Go
namespace Go.Sx
theorem v196 (n:Int) (d:Int):AnC n/\AnC d->True/\Cn (Ai n d) (AnC (iMul n 1024)/\Cn (bLe d (iMul n 1024)) (AnC (iMul d 1024)/\bLe n (iMul d 1024)=FN n d) (false=FN n d)) (false=FN n d):=by
 intro hw;simp only[Cn_iff,Abc,true_and]
 try simp only[iAdd,iSub,iMul,iLen,eq_self,true_and,and_true,true_implies,implies_true]
 have hc:FN n d=(Ai n d&&decide (d<=n*1024/\n<=d*1024)):=rfl;refine⟨λh=> ?_,λh=>by rw[hc,h]; rfl⟩;have hr:=h;simp only[Ai,AlE]at hr;rw[hc,h,AlR];simp only[bLe,AlE,AlD,InR];exact⟨by omega,λh1=>⟨by omega,by rw[decide_eq_decide]; omega⟩,λh1=>by symm; rw[AlD]; omega⟩
def r196:Cr PR:=K0 [r133] 196 6 {ps:=[(true,hII)],rs:=[(false,[.bool])],out:=λa=>[[.b (FN (AnF a) (AnH a))]]} U λa=>Y (v196 (AnF a) (AnH a))
theorem v87 (n:Int) (d:Int):AnC n/\AnC d->True/\Cn (Ai n d) (True/\(AnC (FX n d 1 1024)->Cn (bLe 0 (FX n d 1 1024)) (True/\(AnC (FX n d 1024 1)->bLe (FX n d 1024 1) 0=FN n d)) (false=FN n d))) (false=FN n d):=by
 intro hw;simp only[Cn_iff,Abc,true_and]
 try simp only[iAdd,iSub,iMul,iLen,eq_self,true_and,and_true,true_implies,implies_true]
 have hc:FN n d=(Ai n d&&decide (d<=n*1024/\n<=d*1024)):=rfl;refine⟨λh=> ?_,λh=>by rw[hc,h]; rfl⟩;have hr:=h;simp only[Ai,AlE]at hr;have r1:Ai 1 1024=true:=by decide+kernel
 have r2:Ai 1024 1=true:=by decide+kernel
 have k1:FX n d 1 1024=if n*1024<1*d then-1 else if n*1024=1*d then 0 else 1:=by unfold FX; rw[if_neg (by simp[h,r1])]
 have k2:FX n d 1024 1=if n*1<1024*d then-1 else if n*1=1024*d then 0 else 1:=by unfold FX; rw[if_neg (by simp[h,r2])]
 rw[hc,h,AlR,k1,k2];simp only[bLe,AlE,AlD];refine λ_=>⟨λh1 _=> ?_,λh1=> ?_⟩
 · rw[decide_eq_decide];split at h1<;>split<;>(try split)<;>(try split at h1)<;>omega
 · symm; rw[AlD];split at h1<;>(try split at h1)<;>omega
def r87:Cr PR:=K0 [r143,r156] 87 6 {ps:=[(true,hII)],rs:=[(false,[.bool])],out:=λa=>[[.b (FN (AnF a) (AnH a))]]} U λa=>Y (v87 (AnF a) (AnH a))
def A130 (xs:List (List C)):FuncId->Nat->LoopAnn:=λ_ ii=>bif Nat.beq ii 2 then .inv Int (λz=>Kr xs z) (λz=>[(8,.int .i64 z)]) (λ_=>[]) [] [0,1,2,3,4,6,7,8,9,46] (λz=>xs.length-z.toNat)else .unroll 0
def AhO (xs:List (List C)) (x:Int):Prop:=AnC (iAdd x 1)/\Sm [C.l xs]/\Sm xs/\Sm (iLen xs)/\Sm [C.l xs]/\∃(y:Int),Kr xs y/\iAdd x 1=y/\nLt (xs.length-y.toNat) (xs.length-x.toNat)
def Ai7 (xs:List (List C)) (x:Int):Prop:=AnC (iSub x 1)/\pIn 0 (iLen xs) (iSub x 1)/\(AnC (qi 0 (rGet xs (iSub x 1)))->Cn (bLe (qi 0 (rGet xs x)) (qi 0 (rGet xs (iSub x 1)))) (false=A7 xs) ((AhO xs x)))
theorem v130 (xs:List (List C)):WL hS xs->AnE xs->(∃(x:Int),Kr xs x/\0=x)/\∀(x:Int),Kr xs x->AnC x->Cn (bLt x (iLen xs)) (pIn 0 (iLen xs) x/\(AnC (qi 0 (rGet xs x))/\AnC (qi 1 (rGet xs x))/\AnC (qi 2 (rGet xs x))->True/\True/\Cn (bNot (FN (qi 1 (rGet xs x)) (qi 2 (rGet xs x)))) (false=A7 xs) (Cn (bLt 1099511627776 (qi 0 (rGet xs x))) (false=A7 xs) (Cn (bEq x 0) (Cn (bNe (qi 0 (rGet xs x)) 0) (false=A7 xs) (Cn (bLt 0 x) ((Ai7 xs x)) ((AhO xs x)))) (Cn (bLt 0 x) ((Ai7 xs x)) ((AhO xs x))))))) (AnE xs->Cn (bLe 1 (iLen xs)) (AnE xs->bLe (iLen xs) 64=A7 xs) (false=A7 xs)):=by
 intro hw;delta AhO Ai7;simp only[Cn_iff,Abc,true_and]
 try simp only[iAdd,iSub,iMul,iLen,eq_self,true_and,and_true,true_implies,implies_true]
 skip;have hm:xs.length<=9223372036854775807:=hw.1;intro _;refine⟨⟨0,⟨by omega,by omega,λh=>by omega⟩,rfl⟩,?_⟩;rintro i hI _;have hI':=hI;obtain⟨i0,i1,_⟩:=hI';refine⟨λhlt=> ?_,λhge=> ?_⟩;rotate_left
 · simp only[bLt,AlD]at hge;rw[UX hI hge];simp only[pLe,bLe]
   repeat' (first|apply And.intro|intro _)
   all_goals (first|assumption|(rw[decide_eq_decide]; simp only[AlE]at*; omega)|(symm; rw[AlD]; simp only[AlD]at*; omega))
 simp only[bLt,AlE]at hlt;refine⟨⟨i0,hlt⟩,λ_=> ?_⟩;have B:=λhb=>Ve hI hlt hb;have N:FN (qi 1 (rGet xs i)) (qi 2 (rGet xs i))=true->qi 0 (rGet xs i)<=1099511627776->(i=0->qi 0 (rGet xs i)=0)->(0<i->qi 0 (rGet xs (i-1))<qi 0 (rGet xs i))->InR IntKind.i64 (i+1)/\∃y,Kr xs y/\i+1=y/\xs.length-y.toNat<xs.length-i.toNat:=λa b c d=>by
  exact⟨by simp only[InR]; omega,i+1,Uf hI hlt a b c d,rfl,by omega⟩
 generalize FN (qi 1 (rGet xs i)) (qi 2 (rGet xs i))=c at*;generalize qi 0 (rGet xs i)=F at*;generalize qi 0 (rGet xs (i-1))=L at*;have B2:c=true->(1099511627776<F∨i=0/\F≠0∨0<i/\F<=L)->false=A7 xs:=λ_ h=>B (.inr h)
 cases c
 · have b:=B (.inl rfl);clear B N B2;simp only[bNot,AmE,AlX,false_implies,true_implies,true_and]
   repeat' (first|exact b|apply And.intro|intro _)
   all_goals (first|trivial|assumption)
 · have N:=N rfl;have B2:=B2 rfl;clear B;simp only[bNot,Amq,AlW,false_implies,true_implies,true_and,and_true,bLt,bLe,bEq,bNe,AlE,AlD,Ams,Amv,Decidable.not_not,pIn];have R:InR IntKind.i64 (i-1):=by simp only[InR]; omega
   repeat' (first|exact R|exact B2 (by omega)|exact N (by omega) (by omega) (by omega)|apply And.intro|intro _)
   all_goals omega
def r130:Cr PR:=K0 [r196] 130 6 {ps:=[(true,[.sl hS])],rs:=[(false,[.bool])],out:=λa=>[[.b (A7 (L a 0 0))]]} (λa=>A130 (L a 0 0)) λa=>Y (v130 (L a 0 0))
def A42 (xs:List (List C)):FuncId->Nat->LoopAnn:=λ_ ii=>bif Nat.beq ii 2 then .inv Int (λz=>Kr xs z) (λz=>[(8,.int .i64 z)]) (λ_=>[]) [] [0,1,2,3,4,6,7,8,9,46] (λz=>xs.length-z.toNat)else .unroll 0
def Aj0 (xs:List (List C)) (x:Int):Prop:=AnC (iAdd x 1)/\Sm [C.l xs]/\Sm xs/\Sm (iLen xs)/\Sm [C.l xs]/\∃(y:Int),Kr xs y/\iAdd x 1=y/\nLt (xs.length-y.toNat) (xs.length-x.toNat)
def AkR (xs:List (List C)) (x:Int):Prop:=AnC (iSub x 1)/\pIn 0 (iLen xs) (iSub x 1)/\(AnC (qi 0 (rGet xs (iSub x 1)))->Cn (bLe (qi 0 (rGet xs x)) (qi 0 (rGet xs (iSub x 1)))) (false=A7 xs) (Cn (bLt 1099511627776 (qi 0 (rGet xs x))) (false=A7 xs) ((Aj0 xs x))))
theorem v42 (xs:List (List C)):WL hS xs->AnE xs->(∃(x:Int),Kr xs x/\0=x)/\∀(x:Int),Kr xs x->AnC x->Cn (bLt x (iLen xs)) (pIn 0 (iLen xs) x/\(AnC (qi 0 (rGet xs x))/\AnC (qi 1 (rGet xs x))/\AnC (qi 2 (rGet xs x))->True/\True/\Cn (bNot (FN (qi 1 (rGet xs x)) (qi 2 (rGet xs x)))) (false=A7 xs) (Cn (bEq x 0) (Cn (bNe (qi 0 (rGet xs x)) 0) (false=A7 xs) (Cn (bLt 0 x) ((AkR xs x)) (Cn (bLt 1099511627776 (qi 0 (rGet xs x))) (false=A7 xs) ((Aj0 xs x))))) (Cn (bLt 0 x) ((AkR xs x)) (Cn (bLt 1099511627776 (qi 0 (rGet xs x))) (false=A7 xs) ((Aj0 xs x))))))) (AnE xs->Cn (bLe 1 (iLen xs)) (AnE xs->bLe (iLen xs) 64=A7 xs) (false=A7 xs)):=by
 intro hw;delta Aj0 AkR;simp only[Cn_iff,Abc,true_and]
 try simp only[iAdd,iSub,iMul,iLen,eq_self,true_and,and_true,true_implies,implies_true]
 skip;have hm:xs.length<=9223372036854775807:=hw.1;intro _;refine⟨⟨0,⟨by omega,by omega,λh=>by omega⟩,rfl⟩,?_⟩;rintro i hI _;have hI':=hI;obtain⟨i0,i1,_⟩:=hI';refine⟨λhlt=> ?_,λhge=> ?_⟩;rotate_left
 · simp only[bLt,AlD]at hge;rw[UX hI hge];simp only[pLe,bLe]
   repeat' (first|apply And.intro|intro _)
   all_goals (first|assumption|(rw[decide_eq_decide]; simp only[AlE]at*; omega)|(symm; rw[AlD]; simp only[AlD]at*; omega))
 simp only[bLt,AlE]at hlt;refine⟨⟨i0,hlt⟩,λ_=> ?_⟩;have B:=λhb=>Ve hI hlt hb;have N:FN (qi 1 (rGet xs i)) (qi 2 (rGet xs i))=true->qi 0 (rGet xs i)<=1099511627776->(i=0->qi 0 (rGet xs i)=0)->(0<i->qi 0 (rGet xs (i-1))<qi 0 (rGet xs i))->InR IntKind.i64 (i+1)/\∃y,Kr xs y/\i+1=y/\xs.length-y.toNat<xs.length-i.toNat:=λa b c d=>by
  exact⟨by simp only[InR]; omega,i+1,Uf hI hlt a b c d,rfl,by omega⟩
 generalize FN (qi 1 (rGet xs i)) (qi 2 (rGet xs i))=c at*;generalize qi 0 (rGet xs i)=F at*;generalize qi 0 (rGet xs (i-1))=L at*;have B2:c=true->(1099511627776<F∨i=0/\F≠0∨0<i/\F<=L)->false=A7 xs:=λ_ h=>B (.inr h)
 cases c
 · have b:=B (.inl rfl);clear B N B2;simp only[bNot,AmE,AlX,false_implies,true_implies,true_and]
   repeat' (first|exact b|apply And.intro|intro _)
   all_goals (first|trivial|assumption)
 · have N:=N rfl;have B2:=B2 rfl;clear B;simp only[bNot,Amq,AlW,false_implies,true_implies,true_and,and_true,bLt,bLe,bEq,bNe,AlE,AlD,Ams,Amv,Decidable.not_not,pIn];have R:InR IntKind.i64 (i-1):=by simp only[InR]; omega
   repeat' (first|exact R|exact B2 (by omega)|exact N (by omega) (by omega) (by omega)|apply And.intro|intro _)
   all_goals omega
def r42:Cr PR:=K0 [r87] 42 6 {ps:=[(true,[.sl hS])],rs:=[(false,[.bool])],out:=λa=>[[.b (A7 (L a 0 0))]]} (λa=>A42 (L a 0 0)) λa=>Y (v42 (L a 0 0))
end Go.Sx

namespace Go
open Go.Sx
def AaT (f n d u b:Int):Prop:=FN n d=true/\0<=f/\f<=u/\u<=1099511627776/\0<=b/\b<=1024*f
def NV (f n d b t:Int):Int:=b+(t-f)*n/d
theorem WH {n d:Int} (h:FN n d=true):Ai n d=true/\1<=n/\1<=d/\n<=68719476736/\d<=68719476736/\d<=n*1024/\n<=d*1024:=by
 unfold FN at h;rw[AlG,AlE]at h;have h1:=h.1;simp only[Ai,AlE]at h1;exact⟨h.1,h1.1,h1.2.1,h1.2.2.1,h1.2.2.2.1,h.2.1,h.2.2⟩
theorem SN {m n d:Int} (h:FN n d=true) (h0:0<=m) (h1:m<=1099511627776):0<=m*n/d/\m*n/d<=1024*m/\DF m n d=m*n/d/\Dp m n d=0:=by
 obtain⟨hv,a1,b1,a2,b2,c1,c2⟩:=WH h;have k0:0<=m*n/d:=Al8 (Al1 h0 (by omega)) (by omega);have k1:m*n/d<=1024*m:=by
  have h3:m*n<=m*(d*1024):=Al0 c2 h0;have h4:=Int.ediv_le_ediv (show 0<d by omega) h3;rw[show m*(d*1024)=(1024*m)*d by rw[Amo d 1024,←Am4,Amo m 1024],Ani _ (by omega)]at h4;exact h4
 have kc:D9 m n d=0:=by unfold D9; rw[if_neg (by simp[hv]),if_neg (by omega)]
 have ki:BG (AB m n d)=true:=by unfold BG AB; rw[AlE]; omega
 have ke:Dp m n d=0:=by unfold Dp; rw[if_neg (by simp[kc]),ki]; rfl
 exact⟨k0,k1,by unfold DF; rw[if_pos ke]; rfl,ke⟩
end Go

namespace Go
open Go.Sx
def DY (xs:List (List C)) (k:Nat):Int:=if k+1<xs.length then qi 0 (rGet xs ((k:Int)+1))else 1099511627776
def OU (xs:List (List C)):Nat->Int
 |0=>0
 |k+1=>NV (qi 0 (rGet xs k)) (qi 1 (rGet xs k)) (qi 2 (rGet xs k)) (OU xs k) (DY xs k)
def QB (xs:List (List C)) (t:Int) (k:Nat):Int:=(min t (DY xs k)-qi 0 (rGet xs k))*qi 1 (rGet xs k)/qi 2 (rGet xs k)
def Ei (xs:List (List C)) (t:Int):Nat->Int
 |0=>0
 |k+1=>Ei xs t k+QB xs t k
def QA (xs:List (List C)) (t:Int):Nat:=(xs.takeWhile λx=>decide (qi 0 x<=t)).length
def Et (xs:List (List C)) (t:Int):Int:=Ei xs t (QA xs t)
def NL (xs:List (List C)) (k:Nat) (t:Int):Int:=NV (qi 0 (rGet xs k)) (qi 1 (rGet xs k)) (qi 2 (rGet xs k)) (OU xs k) t
end Go
namespace Go.Proofs
open Go.RowKit Go.Sx
theorem AcC {x:List C} {r:List (List C)} {j:Int} (h:0<=j):rGet (x::r) (j+1)=rGet r j:=by
 unfold rGet;rw[show(j+1).toNat=j.toNat+1 by omega]; rfl
theorem TE:∀ {xs:List (List C)} {p:Int},PS p xs=true->∀k:Nat,k<xs.length->FN (qi 1 (rGet xs k)) (qi 2 (rGet xs k))=true/\p<qi 0 (rGet xs k)/\qi 0 (rGet xs k)<=1099511627776/\(k+1<xs.length->qi 0 (rGet xs k)<qi 0 (rGet xs ((k:Int)+1)))
 |[],p,_,k,hk=>by simp at hk
 |x::r,p,h,k,hk=>by
  simp only[PS,AlG,AlE]at h;have ih:=TE h.2
  cases k with
  |zero=>
   refine⟨h.1.1,h.1.2.2,h.1.2.1,λh1=> ?_⟩
   have:=(ih 0 (by simpa using h1)).2.1
   simpa[rGet]using this
  |succ k=>
   have i1:=ih k (by simpa using hk)
   have e1:rGet (x::r) ((k+1:Nat):Int)=rGet r k:=AcC (j:=(k:Int)) (by omega)
   have e2:rGet (x::r) (((k+1:Nat):Int)+1)=rGet r ((k:Int)+1):=AcC (j:=(k:Int)+1) (by omega)
   rw[e1,e2]
   exact⟨i1.1,by omega,i1.2.2.1,λh1=>i1.2.2.2 (by simp at h1; omega)⟩
theorem I7 {xs:List (List C)} (h:A7 xs=true):(1<=xs.length/\xs.length<=64)/\qi 0 (rGet xs 0)=0/\∀k:Nat,k<xs.length->FN (qi 1 (rGet xs k)) (qi 2 (rGet xs k))=true/\0<=qi 0 (rGet xs k)/\qi 0 (rGet xs k)<=1099511627776/\(k+1<xs.length->qi 0 (rGet xs k)<qi 0 (rGet xs ((k:Int)+1))):=by
 have hl:=XD h;refine⟨by omega,?_⟩;unfold A7 at h;rw[AlG]at h
 cases xs with
 |nil=>simp at hl
 |cons x r=>
  have h1:=h.1
  simp only[LK,AlG,AlE]at h1
  have e0:rGet (x::r) 0=x:=by simp[rGet]
  have f:=TE h1.2
  refine⟨by rw[e0]; exact h1.1.2,λk hk=> ?_⟩
  cases k with
  |zero=>
   have e0':rGet (x::r) ((0:Nat):Int)=x:=by simp[rGet]
   rw[e0']
   refine⟨h1.1.1,by omega,by omega,λh2=> ?_⟩
   have:=(f 0 (by simpa using h2)).2.1
   simpa[rGet]using this
  |succ k=>
   have i1:=f k (by simpa using hk)
   have e1:rGet (x::r) ((k+1:Nat):Int)=rGet r k:=AcC (j:=(k:Int)) (by omega)
   have e2:rGet (x::r) (((k+1:Nat):Int)+1)=rGet r ((k:Int)+1):=AcC (j:=(k:Int)+1) (by omega)
   rw[e1,e2]
   exact⟨i1.1,by omega,i1.2.2.1,λh1=>i1.2.2.2 (by simp at h1; omega)⟩
theorem Ql {xs:List (List C)} (h:A7 xs=true) {k:Nat} (hk:k<xs.length):qi 0 (rGet xs k)<=DY xs k/\DY xs k<=1099511627776:=by
 obtain⟨hl,h0,hf⟩:=I7 h;obtain⟨a,b,c,d⟩:=hf k hk;unfold DY;split
 · rename_i h1;have:=(hf (k+1) h1).2.2.1;rw[show((k+1:Nat):Int)=(k:Int)+1 by omega]at this;exact⟨Int.le_of_lt (d h1),this⟩
 · omega
theorem MQ {xs:List (List C)} {k:Nat} (h:k+1<xs.length):DY xs k=qi 0 (rGet xs ((k+1:Nat):Int)):=by unfold DY; rw[if_pos h]; rfl
theorem TA {xs:List (List C)} (h:A7 xs=true):∀(k:Nat),k<xs.length->AaT (qi 0 (rGet xs k)) (qi 1 (rGet xs k)) (qi 2 (rGet xs k)) (DY xs k) (OU xs k)
 |0,hk=>by
  obtain⟨hl,h0,hf⟩:=I7 h;obtain⟨u1,u2⟩:=Ql h hk;obtain⟨a,b,c,d⟩:=hf 0 hk;exact⟨a,b,u1,u2,AlO _,by show(0:Int)<=_; omega⟩
 |k+1,hk=>by
  obtain⟨hl,h0,hf⟩:=I7 h;obtain⟨u1,u2⟩:=Ql h hk;obtain⟨a,b,c,d⟩:=hf (k+1) hk;obtain⟨p1,p2,p3,p4,p5,p6⟩:=TA h k (by omega);obtain⟨f1,f2,_,_⟩:=SN (m:=DY xs k-qi 0 (rGet xs k)) p1 (by omega) (by omega);have hn:=MQ hk;refine⟨a,b,u1,u2,?_,?_⟩
  · show 0<=NV _ _ _ _ _;unfold NV; omega
  · show NV _ _ _ _ _<=_;unfold NV; omega
theorem QS {xs:List (List C)} {t:Int}:∀ {i:Nat},i<=xs.length->(∀j:Nat,j<i->qi 0 (rGet xs j)<=t)->(i<xs.length->t<qi 0 (rGet xs i))->QA xs t=i:=by
 unfold QA
 induction xs with
 |nil=>intro i hi _ _; simp at hi; simp[hi]
 |cons x r ih=>
  intro i hi h1 h2
  cases i with
  |zero=>
   have:=h2 (by simp)
   have e:rGet (x::r) ((0:Nat):Int)=x:=by simp[rGet]
   rw[e]at this
   rw[List.takeWhile_cons_of_neg (by simpa using this)]; rfl
  |succ i=>
   have e0:rGet (x::r) ((0:Nat):Int)=x:=by simp[rGet]
   have h0:=h1 0 (by omega)
   rw[e0]at h0
   rw[List.takeWhile_cons_of_pos (by simpa using h0)]
   simp only[Al9]
   rw[ih (i:=i) (by simpa using hi) (λj hj=> ?_) (λhj=> ?_)]
   · have:=h1 (j+1) (by omega)
     rwa [show rGet (x::r) ((j+1:Nat):Int)=rGet r j from AcC (j:=(j:Int)) (by omega)]at this
   · have:=h2 (by simpa using hj)
     rwa [show rGet (x::r) ((i+1:Nat):Int)=rGet r i from AcC (j:=(i:Int)) (by omega)]at this
theorem Ud {xs:List (List C)} {t:Int}:∀ {k:Nat},k<xs.length->(∀j:Nat,j<=k->qi 0 (rGet xs j)<=t)->Ei xs t k=OU xs k
 |0,_,_=>rfl
 |k+1,hk,h=>by
  have ih:=Ud (k:=k) (by omega) (λj hj=>h j (by omega));have hn:=MQ hk;have:=h (k+1) (AlT _);simp only[Ei,QB,OU,NV,ih];rw[show min t (DY xs k)=DY xs k by omega]
theorem QY {xs:List (List C)} {t:Int} {k:Nat} (hk:k<xs.length) (h:∀j:Nat,j<=k->qi 0 (rGet xs j)<=t):Ei xs t (k+1)=NL xs k (min t (DY xs k)):=by
 simp only[Ei,QB,NL,NV,Ud hk h]
theorem XA {xs:List (List C)} (k:Nat):OU xs (k+1)=NL xs k (DY xs k):=rfl
theorem VB {xs:List (List C)} (h:A7 xs=true) {k:Nat} (hk:k<xs.length) {s:Int} (h0:qi 0 (rGet xs k)<=s) (h1:s<=DY xs k):0<=OU xs k/\OU xs k<=NL xs k s/\NL xs k s<=1024*s:=by
 obtain⟨p1,p2,p3,p4,p5,p6⟩:=TA h k hk;obtain⟨f1,f2,_,_⟩:=SN (m:=s-qi 0 (rGet xs k)) p1 (by omega) (by omega);unfold NL NV;omega
theorem RZ {xs:List (List C)} (h:A7 xs=true):∀ {k j:Nat},k<xs.length->j<=k->qi 0 (rGet xs j)<=qi 0 (rGet xs k)
 |0,j,_,hj=>by obtain rfl:j=0:=(by omega); exact AlO _
 |k+1,j,hk,hj=>by
  by_cases e:j=k+1
  · subst e; exact AlO _
  · have h1:=RZ h (k:=k) (j:=j) (by omega) (by omega);have h2:=((I7 h).2.2 k (by omega)).2.2.2 hk;rw[show((k+1:Nat):Int)=(k:Int)+1 by omega];omega
theorem AaU {xs:List (List C)} (h:A7 xs=true) {t:Int} (h0:0<=t) (h1:t<=1099511627776):∃k,k<xs.length/\qi 0 (rGet xs k)<=t/\(k+1<xs.length->t<qi 0 (rGet xs ((k+1:Nat):Int)))/\t<=DY xs k:=by
  obtain⟨hl,z,hf⟩:=I7 h;have key:∀n k:Nat,xs.length-k=n->k<xs.length->qi 0 (rGet xs k)<=t->∃k,k<xs.length/\qi 0 (rGet xs k)<=t/\(k+1<xs.length->t<qi 0 (rGet xs ((k+1:Nat):Int))):=by
    intro n
    induction n with
    |zero=>intro k hk hk' _; omega
    |succ n ih=>
      intro k hn hk hc
      by_cases hs:k+1<xs.length/\qi 0 (rGet xs ((k+1:Nat):Int))<=t
      · exact ih (k+1) (by omega) hs.1 hs.2
      · exact⟨k,hk,hc,λh=>by
          rcases Int.lt_or_le t (qi 0 (rGet xs ((k+1:Nat):Int)))with h2|h2
          · exact h2
          · exact(hs ⟨h,h2⟩).elim⟩
  obtain⟨k,a,b,c⟩:=key _ 0 rfl (by omega) (by rw[show((0:Nat):Int)=0 by rfl,z]; exact h0);refine⟨k,a,b,c,?_⟩;by_cases hs:k+1<xs.length
  · rw[MQ hs]; have:=c hs; omega
  · unfold DY; rw[if_neg hs]; exact h1
theorem Yk {xs:List (List C)} (h:A7 xs=true) {k:Nat} (hk:k<xs.length) {t:Int} (h0:qi 0 (rGet xs k)<=t) (h1:t<=DY xs k):Et xs t=NL xs k t:=by
  have below:∀j:Nat,j<=k->qi 0 (rGet xs j)<=t:=λj hj=>by have:=RZ h hk hj; omega
  by_cases hs:k+1<xs.length/\qi 0 (rGet xs ((k+1:Nat):Int))<=t
  · have e:t=DY xs k:=by have:=MQ hs.1; omega
    have below':∀j:Nat,j<=k+1->qi 0 (rGet xs j)<=t:=λj hj=>by have:=RZ h hs.1 hj; omega
    have hc:QA xs t=k+2:=QS (by omega) (λj hj=>below' j (by omega)) λh2=>by
      have:=((I7 h).2.2 (k+1) hs.1).2.2.2 h2;rw[show((k+2:Nat):Int)=((k+1:Nat):Int)+1 by omega];have:=MQ hs.1;omega
    unfold Et;rw[hc,QY hs.1 below'];have u:=Ql h hs.1;have e2:=MQ hs.1;rw[show min t (DY xs (k+1))=qi 0 (rGet xs ((k+1:Nat):Int)) by omega];have e3:NL xs (k+1) (qi 0 (rGet xs ((k+1:Nat):Int)))=OU xs (k+1):=by unfold NL NV; simp
    rw[e3,XA,e]
  · have hc:QA xs t=k+1:=QS (by omega) (λj hj=>below j (by omega)) λh2=>by
      rcases Int.lt_or_le t (qi 0 (rGet xs ((k+1:Nat):Int)))with h3|h3
      · exact h3
      · exact(hs ⟨h2,h3⟩).elim
    unfold Et;rw[hc,QY hk below,show min t (DY xs k)=t by omega]
theorem X8 {xs:List (List C)} (h:A7 xs=true) {t:Int} (h0:0<=t) (h1:t<=1099511627776):0<=Et xs t/\Et xs t<=1024*t:=by
 obtain⟨k,a,b,c,d⟩:=AaU h h0 h1;rw[Yk h a b d];have:=VB h a b d;omega
end Go.Proofs

namespace Go
open Go.Sx
def Rn (xs:List (List C)) (t z:Int):Prop:=0<=z/\z<=(xs.length:Int)/\∀j:Nat,(j:Int)<z->qi 0 (rGet xs j)<=t
def Oq (xs:List (List C)) (t u:Int):Int:=if A7 xs=false then 1 else if t<0∨1099511627776<u∨u<t then 2 else 0
def GY (xs:List (List C)) (t u:Int):Int:=if Oq xs t u=0 then Et xs u-Et xs t else 0
end Go
open Go.Proofs
namespace Go
open Go.Sx Go.Proofs
theorem Wy {xs:List (List C)} {t:Int} {k:Nat} (h:A7 xs=true) (h1:t<=1099511627776) (hk:k<xs.length) (hf:∀j:Nat,j<=k->qi 0 (rGet xs j)<=t):
 DF (min t (DY xs k)-qi 0 (rGet xs k)) (qi 1 (rGet xs k)) (qi 2 (rGet xs k))=QB xs t k/\0<=min t (DY xs k)-qi 0 (rGet xs k)/\min t (DY xs k)-qi 0 (rGet xs k)<=1099511627776/\
 Ei xs t k+QB xs t k=Ei xs t (k+1)/\0<=Ei xs t (k+1)/\Ei xs t (k+1)<=1125899906842624:=by
 obtain⟨p1,p2,p3,p4,p5,p6⟩:=TA h k hk;have:=hf k (AlT _);have hm:0<=min t (DY xs k)-qi 0 (rGet xs k)/\min t (DY xs k)-qi 0 (rGet xs k)<=1099511627776:=by omega
 obtain⟨f1,f2,f3,_⟩:=SN p1 hm.1 hm.2;have b:=VB h hk (s:=min t (DY xs k)) (by omega) (by omega);have v:=QY hk hf;exact⟨f3,hm.1,hm.2,rfl,by rw[v]; omega,by rw[v]; omega⟩
theorem XX {xs:List (List C)} {t:Int} (hf:∀j:Nat,j<xs.length->qi 0 (rGet xs j)<=t):Et xs t=Ei xs t xs.length:=by unfold Et; rw[QS (AlT _) hf (λh=>by omega)]
theorem XE {xs:List (List C)} {t:Int} {k:Nat} (hk:k<xs.length) (hf:∀j:Nat,j<k->qi 0 (rGet xs j)<=t) (hs:t<qi 0 (rGet xs k)):Et xs t=Ei xs t k:=by unfold Et; rw[QS (by omega) hf (λ_=>hs)]
end Go
namespace Go.Sx
def A73 (xs:List (List C)) (t:Int):FuncId->Nat->LoopAnn:=λ_ ii=>bif Nat.beq ii 3 then .inv Int (λz=>Rn xs t z) (λz=>[(14,.int .i64 z),(5,.int .i64 (Ei xs t z.toNat))]) (λ_=>[]) [] [0,1,2,4,5,6,7,8,9,12,13,14,15,22,29] (λz=>xs.length-z.toNat)else .unroll 0
def AjY (xs:List (List C)) (t:Int) (x:Int):Int:=(DF (iSub (iMin t (qi 0 (rGet xs (iAdd x 1)))) (qi 0 (rGet xs x))) (qi 1 (rGet xs x)) (qi 2 (rGet xs x)))
theorem v73 (xs:List (List C)) (t:Int):WL hS xs/\AnC t->A7 xs=true/\pLe 0 t/\pLe t 1099511627776->AnE xs->(∃(x:Int),Rn xs t x/\0=x/\0=Ei xs t x.toNat)/\∀(x:Int),Rn xs t x->AnC x/\AnC (Ei xs t x.toNat)->Cn (bLt x (iLen xs)) (pIn 0 (iLen xs) x/\(AnC (qi 0 (rGet xs x))/\AnC (qi 1 (rGet xs x))/\AnC (qi 2 (rGet xs x))->Cn (bLt t (qi 0 (rGet xs x))) (Ei xs t x.toNat=Et xs t) (AnC (iAdd x 1)/\(AnE xs->Cn (bLt (iAdd x 1) (iLen xs)) (AnC (iAdd x 1)/\pIn 0 (iLen xs) (iAdd x 1)/\(AnC (qi 0 (rGet xs (iAdd x 1)))->AnC (iSub (iMin t (qi 0 (rGet xs (iAdd x 1)))) (qi 0 (rGet xs x)))/\True/\(AnC (AjY xs t x)/\AnC (Dp (iSub (iMin t (qi 0 (rGet xs (iAdd x 1)))) (qi 0 (rGet xs x))) (qi 1 (rGet xs x)) (qi 2 (rGet xs x)))->AnC (iAdd (Ei xs t x.toNat) (AjY xs t x))/\AnC (iAdd x 1)/\Sm [C.l xs]/\Sm t/\Sm xs/\Sm (iLen xs)/\Sm [C.l xs]/\∃(y:Int),Rn xs t y/\iAdd x 1=y/\iAdd (Ei xs t x.toNat) (AjY xs t x)=Ei xs t y.toNat/\nLt (xs.length-y.toNat) (xs.length-x.toNat)))) (AnC (iSub t (qi 0 (rGet xs x)))/\True/\(AnC (DF (iSub t (qi 0 (rGet xs x))) (qi 1 (rGet xs x)) (qi 2 (rGet xs x)))/\AnC (Dp (iSub t (qi 0 (rGet xs x))) (qi 1 (rGet xs x)) (qi 2 (rGet xs x)))->AnC (iAdd (Ei xs t x.toNat) (DF (iSub t (qi 0 (rGet xs x))) (qi 1 (rGet xs x)) (qi 2 (rGet xs x))))/\AnC (iAdd x 1)/\Sm [C.l xs]/\Sm t/\Sm xs/\Sm (iLen xs)/\Sm [C.l xs]/\∃(y:Int),Rn xs t y/\iAdd x 1=y/\iAdd (Ei xs t x.toNat) (DF (iSub t (qi 0 (rGet xs x))) (qi 1 (rGet xs x)) (qi 2 (rGet xs x)))=Ei xs t y.toNat/\nLt (xs.length-y.toNat) (xs.length-x.toNat))))))) (Ei xs t x.toNat=Et xs t):=by
  intro hw hp;delta AjY;simp only[Cn_iff,Abc,true_and]
  try simp only[iAdd,iSub,iMul,iLen,eq_self,true_and,and_true,true_implies,implies_true]
  obtain⟨hv,h0,h1⟩:=hp;obtain⟨hl,z0,hf⟩:=I7 hv;intro _;refine⟨⟨0,⟨by omega,by omega,λj hj=>by omega⟩,rfl,rfl⟩,?_⟩;rintro z ⟨y0,y1,yf⟩ _;obtain⟨k,rfl⟩:∃k:Nat,z=k:=⟨z.toNat,by omega⟩
  simp only[AmM,bLt,AlE,AlD];have yf':∀j:Nat,j<k->qi 0 (rGet xs j)<=t:=λj hj=>yf j (by omega);have rng:∀ {m:Int},0<=m->m<=1125899906842624->AnC m:=λa b=>by simp only[InR]; omega
  refine⟨λhlt=>⟨⟨by omega,hlt⟩,λ_=>⟨λhb=> ?_,λhb=> ?_⟩⟩,λhge=> ?_⟩
  · exact(XE (by omega) yf' hb).symm
  · have below:∀j:Nat,j<=k->qi 0 (rGet xs j)<=t:=λj hj=>by
      by_cases e:j=k
      · subst e; omega
      · exact yf' j (by omega)
    obtain⟨c1,c2,c3,c4,c5,c6⟩:=Wy hv h1 (show k<xs.length by omega) below;have fin:∃y,Rn xs t y/\(k:Int)+1=y/\Ei xs t k+QB xs t k=Ei xs t y.toNat/\xs.length-y.toNat<xs.length-k:=⟨k+1,⟨by omega,by omega,λj hj=>below j (by omega)⟩,rfl,by rw[c4]; rfl,by omega⟩
    have i1:AnC ((k:Int)+1):=rng (by omega) (by omega);refine⟨i1,λ_=>⟨λhn=> ?_,λhn=> ?_⟩⟩
    · have e:qi 0 (rGet xs ((k:Int)+1))=DY xs k:=by unfold DY; rw[if_pos (by omega)]
      rw[e,show iMin t (DY xs k)=min t (DY xs k)from rfl,c1,c4];exact⟨i1,⟨by omega,hn⟩,λ_=>⟨rng c2 (by omega),λ_=>⟨rng c5 c6,i1,by rw[←c4]; exact fin⟩⟩⟩
    · have e:t=min t (DY xs k):=by unfold DY; rw[if_neg (by omega)]; omega
      have c1':DF (t-qi 0 (rGet xs k)) (qi 1 (rGet xs k)) (qi 2 (rGet xs k))=QB xs t k:=by rw[←c1,←e]
      rw[←e]at c2 c3;rw[c1',c4];exact⟨rng c2 (by omega),λ_=>⟨rng c5 c6,i1,by rw[←c4]; exact fin⟩⟩
  · obtain rfl:k=xs.length:=by omega
    exact(XX yf').symm
def r73:Cr PR:=K [r126] 73 6 {ps:=[(true,[.sl hS]),(false,hI)],rs:=[(false,hI)],pre:=λa=>A7 (L a 0 0)=true/\(pLe 0 (AnG a)/\pLe (AnG a) 1099511627776),out:=λa=>[[.i (Et (L a 0 0) (AnG a))]]} (λa=>A73 (L a 0 0) (AnG a)) λa=>Y (v73 (L a 0 0) (AnG a))
theorem v31 (xs:List (List C)) (t:Int) (u:Int):WL hS xs/\AnC t/\AnC u->True/\True/\Cn (bNot (A7 xs)) (0=GY xs t u/\1=Oq xs t u) (Cn (bLt t 0) (0=GY xs t u/\2=Oq xs t u) (Cn (bLt 1099511627776 u) (0=GY xs t u/\2=Oq xs t u) (Cn (bLt u t) (0=GY xs t u/\2=Oq xs t u) ((A7 xs=true/\pLe 0 u/\pLe u 1099511627776)/\(AnC (Et xs u)->(A7 xs=true/\pLe 0 t/\pLe t 1099511627776)/\(AnC (Et xs t)->AnC (iSub (Et xs u) (Et xs t))/\iSub (Et xs u) (Et xs t)=GY xs t u/\0=Oq xs t u)))))):=by
 intro hw;simp only[Cn_iff,Abc,true_and]
 try simp only[iAdd,iSub,iMul,iLen,eq_self,true_and,and_true,true_implies,implies_true]
 unfold GY Oq
 cases hv:A7 xs
 · simp[bNot]
 · have B:∀s:Int,0<=s->s<=1099511627776->0<=Et xs s/\Et xs s<=1024*s:=λs a b=>X8 hv a b;simp only[bNot,bLt,pLe,InR,AlE,AlD,Amq,AlW,AlX,false_implies,true_implies,true_and,and_true,if_false]
   repeat' (first|apply And.intro|intro _)
   all_goals first|omega|(have:=B t (by omega) (by omega); have:=B u (by omega) (by omega); omega)|(rw[if_pos (by omega)]; try rfl; done)|(rw[if_neg (by omega)]; first|rfl|simp)|skip
def r31:Cr PR:=K0 [r42,r73] 31 6 {ps:=[(true,[.sl hS]),(false,hI),(false,hI)],rs:=[(false,hI),(false,hI)],out:=λa=>[[.i (GY (L a 0 0) (AnG a) (AnI a))],[.i (Oq (L a 0 0) (AnG a) (AnI a))]]} U λa=>Y (v31 (L a 0 0) (AnG a) (AnI a))
end Go.Sx

namespace Go
open Go.Sx
open Go.Sx Go.Proofs
end Go

namespace Go
open Go.Sx
open Go.Sx Go.Proofs
end Go

