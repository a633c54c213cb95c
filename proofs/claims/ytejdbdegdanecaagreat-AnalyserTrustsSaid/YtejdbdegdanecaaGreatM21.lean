import Derived.Test.YtejdbdegdanecaaGreatSxUse
import Derived.Test.YtejdbdegdanecaaGreatM06
set_option linter.unusedVariables false
set_option linter.unusedSimpArgs false
set_option maxRecDepth 100000
set_option maxHeartbeats 4000000
namespace Go
open Go.Sx
def Aa2 (d:List C):List C:=sg 0 [0,2,0,0,0,0,0,3] d
def BN (d:List C):List C:=sg 17 [0,0,0,0,0,0,0,0,0,0,0,3,0,0] d
def BO (d:List C):Int:=Aq (qi 9 d) (qi 12 d) (qi 9 d)
def BP (d:List C):Int:=Aq (qi 9 d) (qi 12 d) (qi 12 d)
def Bf (d:List C):Int:=if qi 2 d=1 then Ec (BO d) (BP d) (BP d)else BO d
def AU (d:List C):Int:=if qi 2 d=1 then Ec (BO d) (BP d) (BO d)else BP d
end Go
namespace Go.Sx
theorem v132 (d:List C):WD hV d->AnE (ql 10 d)->iLen (ql 10 d)= ↑(ql 10 d).length:=by
 intro hw;exact λ_=>rfl
def r132:Cr PR:=K0 [] 132 6 {ps:=[(true,hV)],rs:=[(false,hI)],out:=λa=>[[.i ((ql 10 (AnQ a)).length:Int)]]} U λa=>Y (v132 (AnQ a))
theorem v138 (d:List C):WD hV d->Sm (bEq (qi 2 d) 1):=by
 intro hw;exact Abc.2 trivial
def r138:Cr PR:=K0 [] 138 6 {ps:=[(true,hV)],rs:=[(false,[.bool])],out:=λa=>[[.b (bEq (qi 2 (AnQ a)) 1)]]} U λa=>Y (v138 (AnQ a))
def AhP (d:List C):Prop:=false=decide (8000<=qi 12 d/\qi 12 d<=192000/\16<=qi 13 d/\qi 13 d<=8192)
theorem v129 (d:List C):WD hV d->Cn (bLe 8000 (qi 12 d)) (Cn (bLe (qi 12 d) 192000) (Cn (bLe 16 (qi 13 d)) (bLe (qi 13 d) 8192=decide (8000<=qi 12 d/\qi 12 d<=192000/\16<=qi 13 d/\qi 13 d<=8192)) ((AhP d))) ((AhP d))) ((AhP d)):=by
 intro hw;delta AhP;simp only[D,E]
 repeat' (first|apply And.intro|intro _)
 all_goals (first|(simp only[decide_eq_decide]; omega)|(symm; simp only[AlD]; omega))
def r129:Cr PR:=K0 [] 129 6 {ps:=[(true,hV)],rs:=[(false,[.bool])],out:=λa=>[[.b (decide (8000<=qi 12 (AnQ a)/\qi 12 (AnQ a)<=192000/\16<=qi 13 (AnQ a)/\qi 13 (AnQ a)<=8192))]]} U λa=>Y (v129 (AnQ a))
theorem v139 (d:List C):WD hV d->True/\(AnC (Aq (qi 9 d) (qi 12 d) (qi 9 d))/\AnC (Aq (qi 9 d) (qi 12 d) (qi 12 d))/\AnC (CU (qi 9 d) (qi 12 d))->Aq (qi 9 d) (qi 12 d) (qi 9 d)=BO d/\Aq (qi 9 d) (qi 12 d) (qi 12 d)=BP d):=by
 intro hw;exact⟨trivial,λ_=>⟨rfl,rfl⟩⟩
def r139:Cr PR:=K0 [r141] 139 6 {ps:=[(true,hV)],rs:=[(true,hII)],out:=λa=>[[.i (BO (AnQ a)),.i (BP (AnQ a))]]} U λa=>Y (v139 (AnQ a))
theorem v76 (d:List C):WD hV d->True/\True/\Cn (bNot (bEq (qi 2 d) 1)) (True/\(AnC (BO d)/\AnC (BP d)->BO d=Bf d/\BP d=AU d)) (True/\(AnC (BO d)/\AnC (BP d)->True/\(AnC (Ec (BO d) (BP d) (BP d))/\AnC (Ec (BO d) (BP d) (BO d))/\AnC (MR (BO d) (BP d))->Ec (BO d) (BP d) (BP d)=Bf d/\Ec (BO d) (BP d) (BO d)=AU d))):=by
 intro hw;simp only[D,E];exact⟨λh _=>⟨(if_neg h).symm,(if_neg h).symm⟩,λh _ _=>⟨(if_pos h).symm,(if_pos h).symm⟩⟩
def r76:Cr PR:=K0 [r138,r139,r140] 76 6 {ps:=[(true,hV)],rs:=[(true,hII)],out:=λa=>[[.i (Bf (AnQ a)),.i (AU (AnQ a))]]} U λa=>Y (v76 (AnQ a))
end Go.Sx
namespace Go
open Go.Sx
def Ey (N:List C->List C) (xs:List (List C)) (i:Int):List (List C):=(xs.take i.toNat).map N++xs.drop i.toNat
def Aa1 (m:List C):List C:=[.l (ql 0 m)]
def Aa0 (x:List C):List C:=[.i (qi 0 x),.l (ql 1 x),.l ((ql 2 x).map Aa1),.l (ql 3 x)]
def Aao (d:List C):List C:=sga 0 [0,2,0,0,0,0,0] d (.l ((ql 7 d).map Aa0)::sg 8 [0,0,3,0,0,0,3,1,0,0,0,0,0,0,0,0,0,0,0,0,3,0,0] d)
def Yo (m:List C):Bool:=decide ((ql 0 m).length<=1000000)
def WF (x:List C):Bool:=decide ((ql 1 x).length<=1000000/\(ql 2 x).length<=1000000/\(ql 3 x).length<=1000000)&&(ql 2 x).all Yo
section
variable {N:List C->List C} {xs:List (List C)} {i:Int}
theorem PO (h0:0<=i) (h1:i<(xs.length:Int)):rGet (Ey N xs i) i=rGet xs i:=by
 unfold Ey rGet;simp only[List.getD_eq_getElem?_getD];rw[List.getElem?_append_right (by simp; omega),Al5,AlN,List.getElem?_drop,show i.toNat+(i.toNat-min i.toNat xs.length)=i.toNat by omega]
theorem AjV (h0:0<=i) (h1:i<(xs.length:Int)):rGet xs i∈xs:=by
 unfold rGet;rw[List.getD_eq_getElem?_getD,List.getElem?_eq_getElem (show i.toNat<xs.length by omega)];exact Anf _
theorem RV:(Ey N xs i).length=xs.length:=by unfold Ey; simp; omega
theorem Vj (h:¬i<(xs.length:Int)):Ey N xs i=xs.map N:=by
 unfold Ey; rw[AlZ (by omega),AlP (by omega),Ame]
theorem Qa (h0:0<=i) (h1:i<(xs.length:Int)):rSet (Ey N xs i) i (N (rGet xs i))=Ey N xs (i+1):=by
 unfold Ey rSet;rw[Ano _ _ (by simp; omega),Al5,AlN,show i.toNat-min i.toNat xs.length=0 by omega,Aba h0 h1,Ama,Ab7 h0 h1,AmN,Amn]; rfl
end
end Go

namespace Go
open Go.Sx
def EZ (d:List C):Int:=if qi 2 d=1 then Cb (qi 6 d) (Bf d) (AU d)+1 else qi 6 d+1
def Bo (d:List C):Int:=if qi 2 d=1 then qi 13 d else Aq (qi 13 d*qi 9 d) (qi 12 d) (qi 13 d*qi 9 d)
def BF (d:List C):Int:=if qi 2 d=1 then 1 else Aq (qi 13 d*qi 9 d) (qi 12 d) (qi 12 d)
def Jl (d:List C):Bool:=decide (8000<=qi 12 d/\qi 12 d<=192000/\16<=qi 13 d/\qi 13 d<=8192)
def Be (d:List C):Bool:=(AY d&&(Fj (ql 7 d) (qi 8 d) (qi 9 d) (ql 10 d) (qi 11 d)&&(Jl d&&A7 (ql 14 d))))&&(decide (0<=qi 16 d/\qi 16 d<=1099511627776)&&(BI (BN d)&&decide (qi 22 d=((ql 10 d).length:Int)/\qi 23 d=Bf d/\qi 24 d=AU d)))
theorem UB (n a b:Int): -4611686018427387904<=Cb n a b/\Cb n a b<=4611686018427387904:=by
 unfold Cb;split
 · rename_i h;unfold Di at h;split at h
   · omega
   · cases hi:BG (EF n a b)
     · rw[hi]at h; cases h
     · unfold BG at hi; exact Amb hi
 · omega
end Go
namespace Go.Sx
theorem v77 (d:List C):WD hV d->pLe 0 (qi 13 d)/\pLe (qi 13 d) 8192/\pLe 0 (qi 9 d)/\pLe (qi 9 d) 768000->True/\Cn (bEq (qi 2 d) 1) (qi 13 d=Bo d/\1=BF d) (AnC (iMul (qi 13 d) (qi 9 d))/\True/\(AnC (Aq (iMul (qi 13 d) (qi 9 d)) (qi 12 d) (iMul (qi 13 d) (qi 9 d)))/\AnC (Aq (iMul (qi 13 d) (qi 9 d)) (qi 12 d) (qi 12 d))/\AnC (CU (iMul (qi 13 d) (qi 9 d)) (qi 12 d))->Aq (iMul (qi 13 d) (qi 9 d)) (qi 12 d) (iMul (qi 13 d) (qi 9 d))=Bo d/\Aq (iMul (qi 13 d) (qi 9 d)) (qi 12 d) (qi 12 d)=BF d)):=by
 intro hw hp;simp only[D,E]at hp ⊢;have b:=Aa8 (x:=qi 13 d) (X:=8192) (y:=qi 9 d) (Y:=768000) hp.1 hp.2.1 hp.2.2.1 hp.2.2.2;exact⟨λh=>⟨(if_pos h).symm,(if_pos h).symm⟩,λh=>⟨by simp only[InR]; omega,λ_=>⟨(if_neg h).symm,(if_neg h).symm⟩⟩⟩
def r77:Cr PR:=K [r138,r141] 77 6 {ps:=[(true,hV)],rs:=[(true,hII)],pre:=λa=>pLe 0 (qi 13 (AnQ a))/\(pLe (qi 13 (AnQ a)) 8192/\(pLe 0 (qi 9 (AnQ a))/\pLe (qi 9 (AnQ a)) 768000)),out:=λa=>[[.i (Bo (AnQ a)),.i (BF (AnQ a))]]} U λa=>Y (v77 (AnQ a))
theorem v78 (d:List C):WD hV d->pLe 0 (qi 6 d)/\pLe (qi 6 d) 4096->True/\True/\Cn (bNot (bEq (qi 2 d) 1)) (AnC (iAdd (qi 6 d) 1)/\iAdd (qi 6 d) 1=EZ d) (True/\(AnC (Bf d)/\AnC (AU d)->True/\(AnC (Cb (qi 6 d) (Bf d) (AU d))/\AnC (Di (qi 6 d) (Bf d) (AU d))->AnC (iAdd (Cb (qi 6 d) (Bf d) (AU d)) 1)/\iAdd (Cb (qi 6 d) (Bf d) (AU d)) 1=EZ d))):=by
 intro hw hp;simp only[D,E]at hp ⊢;have b:=UB (qi 6 d) (Bf d) (AU d);exact⟨λh=>⟨by simp only[InR]; omega,(if_neg (by omega)).symm⟩,λh _ _=>⟨by simp only[InR]; omega,(if_pos (by omega)).symm⟩⟩
def r78:Cr PR:=K [r138,r76,r142] 78 6 {ps:=[(true,hV)],rs:=[(false,hI)],pre:=λa=>pLe 0 (qi 6 (AnQ a))/\pLe (qi 6 (AnQ a)) 4096,out:=λa=>[[.i (EZ (AnQ a))]]} U λa=>Y (v78 (AnQ a))
theorem v74 (d:List C):WD hV d->True/\Cn (AY d) (True/\Cn (Fj (ql 7 d) (qi 8 d) (qi 9 d) (ql 10 d) (qi 11 d)) (True/\Cn (decide (8000<=qi 12 d/\qi 12 d<=192000/\16<=qi 13 d/\qi 13 d<=8192)) (True/\Cn (A7 (ql 14 d)) (Cn (bLe 0 (qi 16 d)) (Cn (bLe (qi 16 d) 1099511627776) (True/\Cn (BI (BN d)) (True/\(AnC ↑(ql 10 d).length->Cn (bEq (qi 22 d) ↑(ql 10 d).length) (True/\(AnC (Bf d)/\AnC (AU d)->bAnd (bEq (qi 23 d) (Bf d)) (bEq (qi 24 d) (AU d))=Be d)) (false=Be d))) (false=Be d)) (false=Be d)) (false=Be d)) (false=Be d)) (false=Be d)) (false=Be d)) (false=Be d):=by
 intro hw;have e:Be d=((AY d&&(Fj (ql 7 d) (qi 8 d) (qi 9 d) (ql 10 d) (qi 11 d)&&(Jl d&&A7 (ql 14 d))))&&(decide (0<=qi 16 d/\qi 16 d<=1099511627776)&&(BI (BN d)&&decide (qi 22 d=((ql 10 d).length:Int)/\qi 23 d=Bf d/\qi 24 d=AU d)))):=rfl;have ed:Jl d=decide (8000<=qi 12 d/\qi 12 d<=192000/\16<=qi 13 d/\qi 13 d<=8192):=rfl;simp only[D,E];rw[e]
 cases AY d
 · simp
 cases Fj (ql 7 d) (qi 8 d) (qi 9 d) (ql 10 d) (qi 11 d)
 · simp
 cases hs:Jl d
 · have hs:=of_decide_eq_false (ed.symm.trans hs);simp[hs]
 have hs:=Amb (ed.symm.trans hs)
 cases A7 (ql 14 d)
 · simp[hs]
 cases BI (BN d)
 · simp[hs]
 simp only[AlR,E]
 repeat' (first|apply And.intro|intro _)
 all_goals (first|contradiction|omega|(simp only[←Bool.decide_and,decide_eq_decide]; omega)|(symm; simp only[←Bool.decide_and,AlD]; omega))
def r74:Cr PR:=K0 [r127,r128,r129,r130,r131,r132,r76] 74 6 {ps:=[(true,hV)],rs:=[(false,[.bool])],out:=λa=>[[.b (Be (AnQ a))]]} U λa=>Y (v74 (AnQ a))
theorem v89 (d:List C):WD hV d->True/\(AnC (Aq (qi 9 d) (qi 12 d) (qi 9 d))/\AnC (Aq (qi 9 d) (qi 12 d) (qi 12 d))/\AnC (CU (qi 9 d) (qi 12 d))->Aq (qi 9 d) (qi 12 d) (qi 9 d)=BO d/\Aq (qi 9 d) (qi 12 d) (qi 12 d)=BP d/\Sm (CU (qi 9 d) (qi 12 d))):=by
 intro hw;exact⟨trivial,λ_=>⟨rfl,rfl,Abc.2 trivial⟩⟩
def r89:Cr PR:=K0 [r100] 89 6 {ps:=[(true,hV)],rs:=[(true,hII),(false,hI)],out:=λa=>[[.i (BO (AnQ a)),.i (BP (AnQ a))],[.i (CU (qi 9 (AnQ a)) (qi 12 (AnQ a)))]]} U λa=>Y (v89 (AnQ a))
theorem v48 (d:List C):WD hV d->True/\(AnC (BO d)/\AnC (BP d)/\AnC (CU (qi 9 d) (qi 12 d))->Cn (bEq (qi 2 d) 1) (True/\(AnC (Ec (BO d) (BP d) (BP d))/\AnC (Ec (BO d) (BP d) (BO d))/\AnC (MR (BO d) (BP d))->Ec (BO d) (BP d) (BP d)=Bf d/\Ec (BO d) (BP d) (BO d)=AU d)) (BO d=Bf d/\BP d=AU d)):=by
 intro hw;simp only[D,E];exact λ_=>⟨λh _=>⟨(if_pos h).symm,(if_pos h).symm⟩,λh=>⟨(if_neg h).symm,(if_neg h).symm⟩⟩
def r48:Cr PR:=K0 [r89,r99] 48 6 {ps:=[(true,hV)],rs:=[(true,hII)],out:=λa=>[[.i (Bf (AnQ a)),.i (AU (AnQ a))]]} U λa=>Y (v48 (AnQ a))
theorem v46 (d:List C):WD hV d->pLe 0 (qi 6 d)/\pLe (qi 6 d) 4096/\(qi 2 d=1∨qi 2 d=2)->Cn (bEq (qi 2 d) 2) (AnC (iAdd (qi 6 d) 1)/\iAdd (qi 6 d) 1=EZ d) (True/\(AnC (Bf d)/\AnC (AU d)->True/\(AnC (Cb (qi 6 d) (Bf d) (AU d))/\AnC (Di (qi 6 d) (Bf d) (AU d))->AnC (iAdd (Cb (qi 6 d) (Bf d) (AU d)) 1)/\iAdd (Cb (qi 6 d) (Bf d) (AU d)) 1=EZ d))):=by
 intro hw hp;simp only[D,E]at hp ⊢;have b:=UB (qi 6 d) (Bf d) (AU d);exact⟨λh=>⟨by simp only[InR]; omega,(if_neg (by omega)).symm⟩,λh _ _=>⟨by simp only[InR]; omega,(if_pos (by omega)).symm⟩⟩
def r46:Cr PR:=K [r48,r96] 46 6 {ps:=[(true,hV)],rs:=[(false,hI)],pre:=λa=>pLe 0 (qi 6 (AnQ a))/\pLe (qi 6 (AnQ a)) 4096/\(qi 2 (AnQ a)=1∨qi 2 (AnQ a)=2),out:=λa=>[[.i (EZ (AnQ a))]]} U λa=>Y (v46 (AnQ a))
theorem v30 (d:List C):WD hV d->True/\Cn (AY d) (True/\Cn (Fj (ql 7 d) (qi 8 d) (qi 9 d) (ql 10 d) (qi 11 d)) (Cn (bLe 8000 (qi 12 d)) (Cn (bLe (qi 12 d) 192000) (Cn (bLe 16 (qi 13 d)) (Cn (bLe (qi 13 d) 8192) (True/\Cn (A7 (ql 14 d)) (Cn (bLe 0 (qi 16 d)) (Cn (bLe (qi 16 d) 1099511627776) (True/\Cn (BI (BN d)) (AnE (ql 10 d)->Cn (bEq (qi 22 d) (iLen (ql 10 d))) (True/\(AnC (Bf d)/\AnC (AU d)->bAnd (bEq (qi 23 d) (Bf d)) (bEq (qi 24 d) (AU d))=Be d)) (false=Be d)) (false=Be d)) (false=Be d)) (false=Be d)) (false=Be d)) (false=Be d)) (false=Be d)) (false=Be d)) (false=Be d)) (false=Be d)) (false=Be d):=by
 intro hw;have e:Be d=((AY d&&(Fj (ql 7 d) (qi 8 d) (qi 9 d) (ql 10 d) (qi 11 d)&&(Jl d&&A7 (ql 14 d))))&&(decide (0<=qi 16 d/\qi 16 d<=1099511627776)&&(BI (BN d)&&decide (qi 22 d=((ql 10 d).length:Int)/\qi 23 d=Bf d/\qi 24 d=AU d)))):=rfl;have ed:Jl d=decide (8000<=qi 12 d/\qi 12 d<=192000/\16<=qi 13 d/\qi 13 d<=8192):=rfl;simp only[D,E];rw[e]
 cases AY d
 · simp
 cases Fj (ql 7 d) (qi 8 d) (qi 9 d) (ql 10 d) (qi 11 d)
 · simp
 cases hs:Jl d
 · have hs:=of_decide_eq_false (ed.symm.trans hs);simp only[AmS,AlQ,E]; repeat' (first|apply And.intro|intro _)
   all_goals (first|trivial|contradiction|omega)
 have hs:=Amb (ed.symm.trans hs)
 cases A7 (ql 14 d)
 · simp[hs]
 cases BI (BN d)
 · simp[hs]
 simp only[AlR,E]
 repeat' (first|apply And.intro|intro _)
 all_goals (first|contradiction|omega|(simp only[←Bool.decide_and,decide_eq_decide]; omega)|(symm; simp only[←Bool.decide_and,AlD]; omega))
def r30:Cr PR:=K0 [r41,r43,r42,r72,r48] 30 6 {ps:=[(true,hV)],rs:=[(false,[.bool])],out:=λa=>[[.b (Be (AnQ a))]]} U λa=>Y (v30 (AnQ a))
end Go.Sx

namespace Go
open Go.Sx
abbrev DL (x:List C):Prop:=([C.i 0,C.s (ByteArray.mk (Array.mk [])),C.i 0,C.i 0,C.i 0,C.i 0,C.i 0,C.l [],C.i 0,C.i 0,C.l [],C.i 0,C.i 0,C.i 0,C.l [],C.b false,C.i 0,C.i 0,C.i 0,C.i 0,C.i 0,C.i 0,C.i 0,C.i 0,C.i 0,C.i 0,C.i 0,C.i 0,C.l [],C.i 0,C.i 0]:List C)=sg 0 [0,2,0,0,0,0,0,3,0,0,3,0,0,0,3,1,0,0,0,0,0,0,0,0,0,0,0,0,3,0,0] x
def Xw (d:List C) (t:Int):List C:=sga 0 [0,2,0,0,0,0,0,3,0,0,3,0,0,0,3] d (.b true:: .i t::sg 17 [0,0,0,0,0,0,0,0,0,0,0,3,0,0] d)
def GH (d:List C) (t:Int):Int:=if Be d=false then 1 else if t<0∨1099511627776<t then 2 else if t % qi 13 d≠0 then 11 else if qb 15 d=true then 9 else 0
def IC (d:List C) (t:Int):List C:=if GH d t=0 then Xw d t else[]
def CS (d:List C) (a b:Int):Int:=if Be d=false then 1 else if a<0∨1099511627776<b∨b<a then 2 else if qb 15 d=true/\max a (qi 16 d)<b/\65536<GY (ql 14 d) (max a (qi 16 d)) b then 3 else 0
def A8 (d:List C) (a b:Int):Int:=if CS d a b=0/\qb 15 d=true/\max a (qi 16 d)<b then GY (ql 14 d) (max a (qi 16 d)) b else 0
theorem Ic {d:List C} (h:Be d=true):(AY d=true/\Fj (ql 7 d) (qi 8 d) (qi 9 d) (ql 10 d) (qi 11 d)=true/\(8000<=qi 12 d/\qi 12 d<=192000/\16<=qi 13 d/\qi 13 d<=8192)/\A7 (ql 14 d)=true)/\(0<=qi 16 d/\qi 16 d<=1099511627776)/\BI (BN d)=true/\qi 22 d=((ql 10 d).length:Int)/\qi 23 d=Bf d/\qi 24 d=AU d:=by
 simpa only[Be,Jl,AlG,AlE]using h
theorem Yg {d:List C} (h:Be d=true):16<=qi 13 d/\qi 13 d<=8192:=by have:=(Ic h).1.2.2.1; omega
theorem Yc {xs:List (List C)} (h:DX xs=true):xs.length<=64:=by
 unfold DX at h; rw[AlG,AlE]at h; exact h.2
theorem Vp {xs:List (List C)} {lo hi:Int} (h:CP xs lo hi=true):xs.length<=64:=by
 unfold CP at h; rw[AlG,AlG]at h; exact Yc h.2.1
theorem Td {h:List (List C)->List C->Bool}:∀ {xs p:List (List C)},Hm h p xs=true->∀x∈xs,∃q,h q x=true
 |[],_,_,x,hx=>by cases hx
 |y::r,p,e,x,hx=>by
  simp only[Hm,AlG]at e;rcases Amd.1 hx with rfl|hx
  · exact⟨p,e.1⟩
  · exact Td e.2 x hx
theorem YY {x:List C} (h:Bi x=true):WF x=true:=by
 unfold Bi at h;simp only[AlG,AlE]at h;have a:=Vp h.2.1;have b:=Vp h.2.2.1;unfold WF;rw[AlG,AlE];refine⟨by omega,Al6.2 λm hm=> ?_⟩;obtain⟨q,hq⟩:=Td h.2.2.2.1 m hm;unfold E9 Ci at hq;simp only[AlG,AlE]at hq;unfold Yo; rw[AlE]; omega
end Go
namespace Go.Sx
theorem v54 (d:List C) (t:Int):WD hV d/\AnC t->True/\True/\Cn (bNot (Be d)) (DL (IC d t)/\1=GH d t) (Cn (bLt t 0) (DL (IC d t)/\2=GH d t) (Cn (bLt 1099511627776 t) (DL (IC d t)/\2=GH d t) (pNe (qi 13 d) 0/\Cn (bNe (iRem t (qi 13 d)) 0) (DL (IC d t)/\11=GH d t) (Cn (qb 15 d) (DL (IC d t)/\9=GH d t) (sga 0 [0,2,0,0,0,0,0,3,0,0,3,0,0,0,3] d (C.b true::C.i t::sg 17 [0,0,0,0,0,0,0,0,0,0,0,3,0,0] d)=sg 0 [0,2,0,0,0,0,0,3,0,0,3,0,0,0,3,1,0,0,0,0,0,0,0,0,0,0,0,0,3,0,0] (IC d t)/\0=GH d t))))):=by
 intro hw;have no:∀ {x:Int},x≠0->GH d t=x->DL (IC d t)/\x=GH d t:=λh h1=>⟨by unfold IC; rw[if_neg (by omega)]; rfl,h1.symm⟩
 simp only[D,E];refine⟨λh=>no (by omega) (if_pos h),λh=>⟨λh1=>no (by omega) (by unfold GH; rw[if_neg (by simp[h]),if_pos (.inl h1)]),λh1=>⟨λh2=>no (by omega) (by unfold GH; rw[if_neg (by simp[h]),if_pos (.inr h2)]),λh2=> ?_⟩⟩⟩;have p:=Yg h;have e3:GH d t=if t % qi 13 d≠0 then 11 else if qb 15 d=true then 9 else 0:=by unfold GH; rw[if_neg (by simp[h]),if_neg (by omega)]
 rw[AmP (by omega)];refine⟨by omega,λh3=>no (by omega) (by rw[e3,if_pos h3]),λh3=>⟨λh4=>no (by omega) (by rw[e3,if_neg (by omega),if_pos h4]),λh4=> ?_⟩⟩;have e0:GH d t=0:=by rw[e3,if_neg (by omega),if_neg (by simp[h4])]
 exact⟨by unfold IC; rw[if_pos e0]; rfl,e0.symm⟩
def r54:Cr PR:=K0 [r30] 54 6 {ps:=[(true,hV),(false,hI)],rs:=[(true,hV),(false,hI)],out:=λa=>[rb [0,2,0,0,0,0,0,3,0,0,3,0,0,0,3,1,0,0,0,0,0,0,0,0,0,0,0,0,3,0,0] (IC (AnQ a) (AnG a)),[.i (GH (AnQ a) (AnG a))]]} U λa=>Y (v54 (AnQ a) (AnG a))
theorem v9 (d:List C) (a:Int) (b:Int):WD hV d/\AnC a/\AnC b->True/\True/\Cn (bNot (Be d)) (0=A8 d a b/\1=CS d a b) (Cn (bLt a 0) (0=A8 d a b/\2=CS d a b) (Cn (bLt 1099511627776 b) (0=A8 d a b/\2=CS d a b) (Cn (bLt b a) (0=A8 d a b/\2=CS d a b) (True/\Cn (bNot (qb 15 d)) (0=A8 d a b/\0=CS d a b) (Cn (bLe b (qi 16 d)) (0=A8 d a b/\0=CS d a b) (True/\(AnC (GY (ql 14 d) (iMax a (qi 16 d)) b)/\AnC (Oq (ql 14 d) (iMax a (qi 16 d)) b)->Cn (bLt 65536 (GY (ql 14 d) (iMax a (qi 16 d)) b)) (0=A8 d a b/\3=CS d a b) (GY (ql 14 d) (iMax a (qi 16 d)) b=A8 d a b/\0=CS d a b)))))))):=by
 intro hw;have z:∀ {x:Int},x≠0->CS d a b=x->0=A8 d a b/\x=CS d a b:=λh h1=>⟨(if_neg (by omega)).symm,h1.symm⟩
 simp only[D,E];refine⟨λh=>z (by omega) (if_pos h),λh=>⟨λh1=>z (by omega) (by unfold CS; rw[if_neg (by simp[h]),if_pos (by omega)]),λh1=>⟨λh2=>z (by omega) (by unfold CS; rw[if_neg (by simp[h]),if_pos (by omega)]),λh2=>⟨λh3=>z (by omega) (by unfold CS; rw[if_neg (by simp[h]),if_pos (by omega)]),λh3=> ?_⟩⟩⟩⟩;have e:CS d a b=if qb 15 d=true/\max a (qi 16 d)<b/\65536<GY (ql 14 d) (max a (qi 16 d)) b then 3 else 0:=by unfold CS; rw[if_neg (by simp[h]),if_neg (by omega)]
 have n:¬(qb 15 d=true/\max a (qi 16 d)<b)->0=A8 d a b/\0=CS d a b:=λg=>⟨(if_neg λk=>g k.2).symm,by rw[e,if_neg λk=>g ⟨k.1,k.2.1⟩]⟩
 have y:qb 15 d=true->max a (qi 16 d)<b->(65536<GY (ql 14 d) (max a (qi 16 d)) b->0=A8 d a b/\3=CS d a b)/\(¬65536<GY (ql 14 d) (max a (qi 16 d)) b->GY (ql 14 d) (max a (qi 16 d)) b=A8 d a b/\0=CS d a b):=λg1 g2=>by
  refine⟨λg=>z (by omega) (by rw[e,if_pos ⟨g1,g2,g⟩]),λg=> ?_⟩;have e0:CS d a b=0:=by rw[e,if_neg λk=>g k.2.2]
  exact⟨(if_pos ⟨e0,g1,g2⟩).symm,e0.symm⟩
 refine⟨λh4=>n (by simp[h4]),λh4=>⟨λh5=>n (by omega),λh5 _=> ?_⟩⟩;by_cases hm:max a (qi 16 d)<b
 · exact y h4 hm
 have hb:max a (qi 16 d)=b:=by omega
 have t0:GY (ql 14 d) b b=0:=by unfold GY; split<;>omega
 rw[hb,t0];exact⟨λh=>by omega,λ_=>n (by omega)⟩
def r9:Cr PR:=K0 [r30,r31] 9 6 {ps:=[(true,hV),(false,hI),(false,hI)],rs:=[(false,hI),(false,hI)],out:=λa=>[[.i (A8 (AnQ a) (AnG a) (AnI a))],[.i (CS (AnQ a) (AnG a) (AnI a))]]} U λa=>Y (v9 (AnQ a) (AnG a) (AnI a))
end Go.Sx

namespace Go
open Go.Sx
def FU (d:List C) (k ch:Int) (da:List (List C)) (a b:Int):Int:=if Be d=false∨AO ch da=false∨qi 2 d≠k then 1 else if ch≠((ql 10 d).length:Int)then 11 else CS d a b
def Na (d:List C) (k ch:Int) (da:List (List C)) (a b:Int):Int:=if FU d k ch da a b=0 then A8 d a b else 0
def Ol (d g:List C):List C:=sga 0 [0,2,0,0,0,0,0,3,0,0,3,0,0,0,3,1,0] d (sg 0 [0,0,0,0,0,0,0,0,0,0,0,3,0,0] g)
def DN (d:List C) (ch:Int) (da:List (List C)):List C:=CQ (BN d) ch da
def E8 (d:List C) (ch:Int) (da:List (List C)) (n:Int):Int:=if ET (BN d) ch da≠0 then ET (BN d) ch da else D8 (DN d ch da) n
def OZ (d:List C) (ch:Int) (da:List (List C)) (n:Int):Int:=if E8 d ch da n=0 then Jg (DN d ch da) n else 0
def OJ (d:List C) (ch:Int) (da:List (List C)) (n:Int):List (List C):=if E8 d ch da n=0 then I9 (DN d ch da) n else[]
def OW (d:List C) (ch:Int) (da:List (List C)) (n:Int):Int:=if E8 d ch da n=0 then F7 (BN d) ch da else 0
def O1 (d:List C) (ch:Int) (da:List (List C)) (n:Int):Int:=if E8 d ch da n=0 then Jm (DN d ch da) n else 0
def Y5 (d:List C) (ch:Int) (da:List (List C)) (n:Int):List C:=if E8 d ch da n=0 then Ol (Aao d) (Ez (DN d ch da) n)else[]
end Go

namespace Go
open Go.Sx
def Ir (d:List C) (ch:Int) (da:List (List C)) (a b:Int):Int:=if FU d 1 ch da a b≠0 then FU d 1 ch da a b else bif qb 15 d then E8 d ch da (Na d 1 ch da a b)else 0
def LM (d:List C) (ch:Int) (da:List (List C)) (a b:Int):Int:=if FU d 1 ch da a b≠0 then 0 else bif qb 15 d then OZ d ch da (Na d 1 ch da a b)else ch
def Lu (d:List C) (ch:Int) (da:List (List C)) (a b:Int):List (List C):=if FU d 1 ch da a b≠0 then[]else bif qb 15 d then OJ d ch da (Na d 1 ch da a b)else[]
def LD (d:List C) (ch:Int) (da:List (List C)) (a b:Int):Int:=if FU d 1 ch da a b≠0 then 0 else bif qb 15 d then OW d ch da (Na d 1 ch da a b)else 0
def Lj (d:List C) (ch:Int) (da:List (List C)) (a b:Int):Int:=if FU d 1 ch da a b≠0 then 0 else bif qb 15 d then O1 d ch da (Na d 1 ch da a b)else 0
end Go

namespace Go
open Go.Sx
def AV (x:List C) (n r:Int) (m:List (List C)) (z:Int) (k:List (List C)) (q p:Int):List C:=sga 0 [0,2,0,0,0,0,0,3] x [.i n,.i r,.l m,.i z,.i q,.i p,.l k,.b false,.i 0,.i 0,.i 0,.i 0,.i 0,.i 0,.i 0,.i 0,.i 0,.i 0,.i 0,.i 0,.l [],.i 0,.i 0]
def IA (d:List C):Int:=Cb 1 (Bo d) (BF d)
def I4 (d:List C):Int:=Cc (Bo d) (BF d) (qi 5 d) (EZ d) (iQuo (IA d) 4) 16
def TV (d:List C):Int:=I4 d+Cj (Bo d) (BF d) (qi 5 d) (EZ d) (iQuo (IA d) 4) 16
def Kz (d:List C) (v:Int):Int:=BL (Bo d) (BF d) (qi 5 d) (EZ d) (iQuo (IA d) 4) 16 v
def RJ (d:List C):Int:=EG (Bo d) (BF d) (qi 5 d) (EZ d) (iQuo (IA d) 4) 16
def UF (d:List C):Int:=G5 ((ql 10 d).length:Int) (Bf d) (AU d) (Kz d (I4 d)) (Kz d (iQuo (IA d) 4)) (Kz d 16) (Kz d (Bc (qi 5 d))) (Kz d (TV d)) (iMax 0 (iSub (Kz d (I4 d)) (IA d)))
def PX (d:List C):List C:=JD ((ql 10 d).length:Int) (Bf d) (AU d) (Kz d (I4 d)) (Kz d (iQuo (IA d) 4)) (Kz d 16) (Kz d (Bc (qi 5 d))) (Kz d (TV d)) (iMax 0 (iSub (Kz d (I4 d)) (IA d)))
def AaM (d:List C):Int:=if AY d=false∨A7 (ql 14 d)=false∨Jl d=false then 1 else if Fj (ql 7 d) (qi 8 d) (qi 9 d) (ql 10 d) (qi 11 d)=false then 7 else if BO d*64<BP d∨BP d*64<BO d then 11 else if RJ d≠0 then RJ d else UF d
def G7 (x:List C) (n r:Int) (m:List (List C)) (z:Int) (k:List (List C)) (q p:Int):Int:=AaM (AV x n r m z k q p)
def Jh (x:List C) (n r:Int) (m:List (List C)) (z:Int) (k:List (List C)) (q p:Int):List C:=if G7 x n r m z k q p=0 then Ol (AV x n r m z k q p) (PX (AV x n r m z k q p))else[]
theorem WA:∀(r:List (List C)) (y:List C),KJ Fg Jj (some y) r=true->Fg y=true->∀x∈y::r,qi 0 y<=qi 0 x/\qi 1 x<=qi 1 ((y::r).getD r.length [])/\qi 0 x<=qi 1 x
 |[],y,_,hy,x,hx=>by
  have e:=Am3.1 hx;subst e;have h:=Amb hy;exact⟨AlO _,AlO _,h.2.1⟩
 |z::r,y,h,hy,x,hx=>by
  simp only[KJ,AlG]at h;have a:=WA r z h.2 h.1.1;have g:=Amb h.1.2;have fy:=Amb hy;have az:=a z List.mem_cons_self;rw[Al9,AlU];rcases Amd.1 hx with rfl|hx
  · exact⟨AlO _,by omega,by omega⟩
  · have ax:=a x hx;exact⟨by omega,by omega,by omega⟩
theorem Ze {xs:List (List C)} {lo hi n:Int} (h:CP xs lo hi=true) (hn:Fh xs n=true):lo<=n/\n<=hi:=by
 unfold CP at h;simp only[AlG,AlE]at h;obtain⟨_,hv,h1,h2⟩:=h;unfold Fh AA at hn;rw[hv,cond_true,List.any_eq_true]at hn;obtain⟨x,hx,hi⟩:=hn;have hi:=Amb hi;unfold DX at hv;rw[AlG]at hv
 cases xs with
 |nil=>cases hx
 |cons y r=>
  have c:=hv.1
  simp only[KJ,AlG]at c
  have b:=WA r y c.2 c.1.1 x hx
  have e:rGet (y::r) (((y::r).length:Int)-1)=(y::r).getD r.length []:=by
   unfold rGet; rw[show(((y::r).length:Int)-1).toNat=r.length by simp]
  rw[e]at h2
  have h1:lo<=qi 0 y:=h1
  omega
theorem VY {l:List (List C)} {k r z:Int} {m:List (List C)} (h:Fj l k r m z=true):1000<=r/\r<=768000:=by
 unfold Fj AP at h;rw[List.any_eq_true]at h;obtain⟨x,hx,hi⟩:=h
 cases hv:Ef l
 · rw[hv]at hx; cases hx
 rw[hv]at hx;unfold Ef at hv;rw[AlG]at hv;have hb:=Al6.1 hv.2 x hx;unfold Bi at hb;simp only[AlG]at hb;have hi':((Ig (qi 0 x) k&&Fh (ql 1 x) r)&&FP (ql 2 x) m&&Fh (ql 3 x) z)=true:=hi;simp only[AlG]at hi';exact Ze hb.2.1 hi'.1.1.2
theorem Tf {d:List C} (h:AY d=true):((qi 2 d=1∨qi 2 d=2)/\0<=qi 3 d/\qi 3 d<=65535/\0<=qi 4 d/\qi 4 d<=1048576/\0<=qi 5 d/\qi 5 d<=2048/\0<=qi 6 d/\qi 6 d<=4096/\1<=(ql 7 d).length/\(ql 7 d).length<=8)/\∀x∈ql 7 d,WF x=true:=by
 unfold AY Ef at h;simp only[AlG,AlE]at h;exact⟨h.2.1,λx hx=>YY (Al6.1 h.2.2.2 x hx)⟩
end Go

namespace Go
open Go.Sx
def D7 (d:List C) (ch:Int) (da:List (List C)) (n a b:Int):Int:=if FU d 2 ch da a b≠0 then FU d 2 ch da a b else if qb 15 d=true/\iQuo (iLen da) ch≠Na d 2 ch da a b then 4 else if n<0∨65536<n then 2 else bif qb 15 d then E8 d ch da n else 0
def JU (d:List C) (ch:Int) (da:List (List C)) (n a b:Int):Int:=if D7 d ch da n a b≠0 then 0 else bif qb 15 d then OZ d ch da n else JZ ch n
def JB (d:List C) (ch:Int) (da:List (List C)) (n a b:Int):List (List C):=if D7 d ch da n a b≠0 then[]else bif qb 15 d then OJ d ch da n else EX ch n
def JR (d:List C) (ch:Int) (da:List (List C)) (n a b:Int):Int:=if D7 d ch da n a b≠0 then 0 else bif qb 15 d then OW d ch da n else 0
def JS (d:List C) (ch:Int) (da:List (List C)) (n a b:Int):Int:=if D7 d ch da n a b≠0 then 0 else bif qb 15 d then O1 d ch da n else 0
theorem AaI {d:List C} {k ch:Int} {da:List (List C)} {a b:Int} (h:FU d k ch da a b=0):Be d=true/\AO ch da=true/\qi 2 d=k/\ch=((ql 10 d).length:Int)/\CS d a b=0/\1<=ch/\ch<=8/\(da.length:Int) % ch=0/\(da.length:Int)/ch<=65536:=by
 unfold FU at h;split at h
 · omega
 rename_i g;split at h
 · omega
 rename_i g1;have g2:Be d=true/\AO ch da=true/\qi 2 d=k:=by
  refine⟨?_,?_,Anp λx=>g (.inr (.inr x))⟩
  · cases hv:Be d
    · exact(g (.inl hv)).elim
    · rfl
  · cases hv:AO ch da
    · exact(g (.inr (.inl hv))).elim
    · rfl
 have g3:=g2.2.1;unfold AO Qj at g3;simp only[AlG,AlE]at g3;exact⟨g2.1,g2.2.1,g2.2.2,by omega,h,by omega⟩
end Go
namespace Go.Sx
theorem F:(∀p:Prop,(False->p)=True)/\((false=true)=False)/\((true=false)=False)/\(∀ {α:Type} (x:α),(x=x)=True)/\((¬True)=False)/\((¬False)=True)/\(∀p:Prop,(p->True)=True)/\(∀ {α:Type} (x:α),(x≠x)=False)/\(∀p:Prop,(False/\p)=False)/\(∀p:Prop,(p/\False)=False)/\(¬(1:Int)=0)/\(¬(0:Int)=1)/\(∀p:Prop,(True∨p)=True)/\(∀p:Prop,(False∨p)=p)/\(∀p:Prop,(p∨False)=p):=
 ⟨λ_=>by simp,by simp,by simp,λ_=>by simp,by simp,by simp,λ_=>by simp,λ_=>by simp,λ_=>by simp,λ_=>by simp,by omega,by omega,λ_=>by simp,λ_=>by simp,λ_=>by simp⟩
end Go.Sx
namespace Go
open Go.Sx
theorem VP {a b:Int} (h:Ai a b=true):Ai b a=true:=by
 have r:=DC h;have:Ag b a=Ag a b:=by unfold Ag; rw[Int.gcd_comm]
 unfold Ai;rw[this];simp only[AlE]; omega
theorem P8 {a b:Int}:a/Ag a b*Ag a b=a/\b/Ag a b*Ag a b=b:=
 ⟨Int.ediv_mul_cancel (Int.gcd_dvd_left ..),Int.ediv_mul_cancel (Int.gcd_dvd_right ..)⟩
theorem Ya (a b c d:Int):EY a b c d*(Ag a d*Ag c b)=a*c/\EU a b c d*(Ag a d*Ag c b)=b*d:=by
 have e1:=P8 (a:=a) (b:=d);have e2:=P8 (a:=c) (b:=b);unfold EY EU;constructor
 · rw[show a/Ag a d*(c/Ag c b)*(Ag a d*Ag c b)=(a/Ag a d*Ag a d)*(c/Ag c b*Ag c b) by ac_rfl,e1.1,e2.1]
 · rw[show b/Ag c b*(d/Ag a d)*(Ag a d*Ag c b)=(b/Ag c b*Ag c b)*(d/Ag a d*Ag a d) by ac_rfl,e2.2,e1.2]
theorem Oz {a b:Int} (h1:1<=a) (h2:a<=68719476736) (h3:1<=b) (h4:b<=68719476736):CU a b=0/\Ai (Aq a b a) (Aq a b b)=true/\Aq a b a*Ag a b=a/\Aq a b b*Ag a b=b/\1<=Ag a b/\1<=Aq a b a/\Aq a b a<=a/\1<=Aq a b b/\Aq a b b<=b:=by
 have e:=ZB h1 h2 h3 h4;have g:=NH (a:=a) (b:=b) h1 h3;have v:∀v,Aq a b v=v/Ag a b:=λv=>if_pos e;have d:=P8 (a:=a) (b:=b);have p:=J9 (a:=a) (b:=b) h1;rw[v,v];refine⟨e,?_,d.1,d.2,p.1,g⟩;unfold Ai;rw[UL h1,AlE];omega
theorem Aal {a b c d:Int} (h:Ai a b=true) (h':Ai c d=true) (e:a*d=c*b):a=c/\b=d:=by
 have r:=DC h;have s:=DC h';have c1:Nat.Coprime a.natAbs b.natAbs:=by have:=r.2.2.2.2; unfold Ag Int.gcd at this; show Nat.gcd _ _=1; omega
 have c2:Nat.Coprime c.natAbs d.natAbs:=by have:=s.2.2.2.2; unfold Ag Int.gcd at this; show Nat.gcd _ _=1; omega
 have en:a.natAbs*d.natAbs=c.natAbs*b.natAbs:=by rw[←Int.natAbs_mul,←Int.natAbs_mul,e]
 have d1:a ∣ c:=Int.natAbs_dvd_natAbs.1 (c1.dvd_of_dvd_mul_right ⟨d.natAbs,en.symm⟩);have d2:c ∣ a:=Int.natAbs_dvd_natAbs.1 (c2.dvd_of_dvd_mul_right ⟨b.natAbs,en⟩);have e1:a=c:=Int.le_antisymm (Int.le_of_dvd (by omega) d1) (Int.le_of_dvd (by omega) d2);subst e1;exact⟨rfl,(Int.eq_of_mul_eq_mul_left (by omega) e).symm⟩
theorem YT {p r R:Int} (h0:1<=p) (h1:1<=r) (h2:p*r<=68719476736) (h3:1<=R) (h4:R<=68719476736):Es p 1 (Aq r R r) (Aq r R R) (EY p 1 (Aq r R r) (Aq r R R))=Aq (p*r) R (p*r)/\Es p 1 (Aq r R r) (Aq r R R) (EU p 1 (Aq r R r) (Aq r R R))=Aq (p*r) R R/\Gj p 1 (Aq r R r) (Aq r R R)=0:=by
 have hp:p<=p*r:=by have:=Al0 h1 (show 0<=p by omega); omega
 have hr:r<=p*r:=by have:=AlS h0 (show 0<=r by omega); omega
 obtain⟨e1,v1,g1,g2,g3,b1,b2,b3,b4⟩:=Oz (a:=r) (b:=R) h1 (by omega) h3 h4;obtain⟨e2,v2,k1,k2,k3,c1,c2,c3,c4⟩:=Oz (a:=p*r) (b:=R) (by omega) h2 h3 h4;have m:=Ya p 1 (Aq r R r) (Aq r R R);have vp:Ai p 1=true:=by
  unfold Ai Ag;rw[Int.gcd_one,AlE]; omega
 have bd:=U4 vp v1;generalize Aq r R r=n at*;generalize Aq r R R=d at*;generalize Aq (p*r) R (p*r)=n' at*;generalize Aq (p*r) R R=d' at*;have gx:1<=Ag p d:=by have:=J9 (a:=p) (b:=d) h0; omega
 have gy:1<=Ag n 1:=by have:=J9 (a:=n) (b:=1) b1; omega
 have hx:1<=EY p 1 n d/\EY p 1 n d<=68719476736:=by
  unfold EY;have a1:=bd.1; have a2:=bd.2.2.1;have q1:p/Ag p d<=p:=Amy _ (by omega);have q2:n/Ag n 1<=r:=Int.le_trans (Amy _ (by omega)) b2;have q3:=AmY q1 q2 (by omega) (by omega);have q4:=AmY a1 a2 (by omega) (by omega);omega
 have hy:1<=EU p 1 n d/\EU p 1 n d<=68719476736:=by
  unfold EU;have a1:=bd.2.2.2.2.1; have a2:=bd.2.2.2.2.2.2.1;have q1:1/Ag n 1<=1:=Amy _ (by omega);have q2:=bd.2.2.2.2.2.2.2;have q3:=AmY q1 q2 (by omega) (by omega);have q4:=AmY a1 a2 (by omega) (by omega);omega
 have he:Gj p 1 n d=0:=by unfold Gj; rw[if_neg (by simp[vp,v1]),if_neg (by omega)]
 have vm:Ai (EY p 1 n d) (EU p 1 n d)=true:=by
  have h1:Nat.Coprime (n.natAbs) (d.natAbs):=by have:=(DC v1).2.2.2.2; unfold Ag Int.gcd at this; show Nat.gcd _ _=1; omega
  have n1:Ag n 1=1:=by unfold Ag; rw[Int.gcd_one]; rfl
  have o1:=UL (a:=p) (b:=d) h0;unfold Ai;rw[AlE];refine⟨hx.1,hy.1,hx.2,hy.2,?_⟩;unfold EY EU;rw[n1,Int.ediv_one,Int.ediv_one,AmR];have o2:Nat.Coprime (p/Ag p d).natAbs (d/Ag p d).natAbs:=by unfold Ag Int.gcd at o1; show Nat.gcd _ _=1; unfold Ag Int.gcd; omega
  have o3:Nat.Coprime n.natAbs (d/Ag p d).natAbs:=Nat.Coprime.coprime_dvd_right (Int.natAbs_dvd_natAbs.2 ⟨Ag p d,P8.2.symm⟩) h1;have o4:=Nat.Coprime.mul_left o2 o3;rw[←Int.natAbs_mul]at o4;unfold Nat.Coprime at o4;show((Nat.gcd _ _:Nat):Int)=1;rw[o4]; rfl
 have cr:EY p 1 n d*d'=n'*EU p 1 n d:=by
  have gp:0<Ag p d*Ag n 1*Ag (p*r) R:=Int.mul_pos (Int.mul_pos (by omega) (by omega)) (by omega);refine Am7 (by omega:Ag p d*Ag n 1*Ag (p*r) R≠0) ?_;have x1:EY p 1 n d*d'*(Ag p d*Ag n 1*Ag (p*r) R)=(EY p 1 n d*(Ag p d*Ag n 1))*(d'*Ag (p*r) R):=by ac_rfl
  have x2:n'*EU p 1 n d*(Ag p d*Ag n 1*Ag (p*r) R)=(n'*Ag (p*r) R)*(EU p 1 n d*(Ag p d*Ag n 1)):=by ac_rfl
  rw[x1,x2,m.1,m.2,k1,k2,AmR];generalize Ag r R=g at*;rw[←g2,←g1]; ac_rfl
 have c:=Aal vm v2 cr;unfold Es;rw[if_pos he,if_pos he];exact⟨c.1,c.2,he⟩
def Sj (d:List C):Prop:=AY d=true/\Fj (ql 7 d) (qi 8 d) (qi 9 d) (ql 10 d) (qi 11 d)=true/\(8000<=qi 12 d/\qi 12 d<=192000/\16<=qi 13 d/\qi 13 d<=8192)/\A7 (ql 14 d)=true
theorem Ru {d:List C} (h:Sj d):(qi 2 d=1∨qi 2 d=2)/\0<=qi 4 d/\qi 4 d<=1048576/\0<=qi 5 d/\qi 5 d<=2048/\0<=qi 6 d/\qi 6 d<=4096/\1000<=qi 9 d/\qi 9 d<=768000/\8000<=qi 12 d/\qi 12 d<=192000/\16<=qi 13 d/\qi 13 d<=8192:=by
 have a:=(Tf h.1).1;have r:=VY h.2.1;have s:=h.2.2.1;omega
theorem OB {d:List C} (h:Be d=true):(qi 2 d=1∨qi 2 d=2)/\0<=qi 4 d/\qi 4 d<=1048576/\0<=qi 5 d/\qi 5 d<=2048/\0<=qi 6 d/\qi 6 d<=4096/\1000<=qi 9 d/\qi 9 d<=768000/\8000<=qi 12 d/\qi 12 d<=192000/\16<=qi 13 d/\qi 13 d<=8192/\1<=qi 17 d/\qi 17 d<=65536:=by
 have a:=Ru (Ic h).1;have g:=(Ic h).2.2.1;unfold BI at g; simp only[AlG,AlE]at g;have g1:1<=qi 17 d/\qi 17 d<=65536:=⟨g.2.2.1,g.2.2.2.1⟩
 omega
theorem VK {d:List C} (h:Sj d):CU (qi 9 d) (qi 12 d)=0/\Ai (BO d) (BP d)=true/\BO d*Ag (qi 9 d) (qi 12 d)=qi 9 d/\BP d*Ag (qi 9 d) (qi 12 d)=qi 12 d/\1<=Ag (qi 9 d) (qi 12 d)/\1<=BO d/\BO d<=qi 9 d/\1<=BP d/\BP d<=qi 12 d:=by
 have b:=Ru h;exact Oz (by omega) (by omega) (by omega) (by omega)
theorem TW {d:List C} (h:Sj d):(1<=Bo d/\Bo d<=6291456000/\1<=BF d/\BF d<=192000)/\Ai (Bo d) (BF d)=true:=by
 have b:=Ru h;have m:=Aa8 (x:=qi 13 d) (X:=8192) (y:=qi 9 d) (Y:=768000) (by omega) (by omega) (by omega) (by omega);have m1:=Al0 (show 1<=qi 9 d by omega) (show 0<=qi 13 d by omega);have k:=Oz (a:=qi 13 d*qi 9 d) (b:=qi 12 d) (by omega) (by omega) (by omega) (by omega);unfold Bo BF;split
 · refine⟨by omega,?_⟩;unfold Ai Ag;rw[Int.gcd_one,AlE]; omega
 · exact⟨by omega,k.2.1⟩
end Go
namespace Go.Sx
theorem v44 (d:List C):WD hV d->pLe 16 (qi 13 d)/\pLe (qi 13 d) 8192/\pLe 1 (qi 9 d)/\pLe (qi 9 d) 768000/\pLe 1 (qi 12 d)/\pLe (qi 12 d) 192000/\(qi 2 d=1∨qi 2 d=2)->Cn (bEq (qi 2 d) 2) (True/\(AnC (BO d)/\AnC (BP d)/\AnC (CU (qi 9 d) (qi 12 d))->True/\(AnC (Es (qi 13 d) 1 (BO d) (BP d) (EY (qi 13 d) 1 (BO d) (BP d)))/\AnC (Es (qi 13 d) 1 (BO d) (BP d) (EU (qi 13 d) 1 (BO d) (BP d)))/\AnC (Gj (qi 13 d) 1 (BO d) (BP d))->Es (qi 13 d) 1 (BO d) (BP d) (EY (qi 13 d) 1 (BO d) (BP d))=Bo d/\Es (qi 13 d) 1 (BO d) (BP d) (EU (qi 13 d) 1 (BO d) (BP d))=BF d))) (qi 13 d=Bo d/\1=BF d):=by
 intro hw hp;simp only[D,E]at hp ⊢;have b:=Aa8 (x:=qi 13 d) (X:=8192) (y:=qi 9 d) (Y:=768000) (by omega) (by omega) (by omega) (by omega);have m:=YT (p:=qi 13 d) (r:=qi 9 d) (R:=qi 12 d) (by omega) (by omega) (by omega) (by omega) (by omega);refine⟨λh _ _=> ?_,λh=>⟨(if_pos (by omega)).symm,(if_pos (by omega)).symm⟩⟩;unfold Bo BF;rw[if_neg (by omega),if_neg (by omega)];exact⟨m.1,m.2.1⟩
def r44:Cr PR:=K [r89,r90] 44 6 {ps:=[(true,hV)],rs:=[(true,hII)],pre:=λa=>pLe 16 (qi 13 (AnQ a))/\(pLe (qi 13 (AnQ a)) 8192/\(pLe 1 (qi 9 (AnQ a))/\(pLe (qi 9 (AnQ a)) 768000/\(pLe 1 (qi 12 (AnQ a))/\(pLe (qi 12 (AnQ a)) 192000/\(qi 2 (AnQ a)=1∨qi 2 (AnQ a)=2)))))),out:=λa=>[[.i (Bo (AnQ a)),.i (BF (AnQ a))]]} U λa=>Y (v44 (AnQ a))
end Go.Sx

namespace Go
open Go.Sx
def MV (d:List C):Int:=iQuo (iSub (iAdd (Bo d) (BF d)) 1) (BF d)
def PD (d:List C):Int:=Cc (Bo d) (BF d) (qi 5 d) (EZ d) (iQuo (MV d) 4) 16
def TY (d:List C):Int:=PD d+Cj (Bo d) (BF d) (qi 5 d) (EZ d) (iQuo (MV d) 4) 16
def Iy (d:List C) (v:Int):Int:=BL (Bo d) (BF d) (qi 5 d) (EZ d) (iQuo (MV d) 4) 16 v
def UC (d:List C):Int:=EG (Bo d) (BF d) (qi 5 d) (EZ d) (iQuo (MV d) 4) 16
def AaS (d:List C):Int:=G5 (iLen (ql 10 d)) (Bf d) (AU d) (Iy d (PD d)) (Iy d (iQuo (MV d) 4)) (Iy d 16) (Iy d (Bc (qi 5 d))) (Iy d (TY d)) (iMax 0 (iSub (Iy d (PD d)) (MV d)))
def UV (d:List C):List C:=JD (iLen (ql 10 d)) (Bf d) (AU d) (Iy d (PD d)) (Iy d (iQuo (MV d) 4)) (Iy d 16) (Iy d (Bc (qi 5 d))) (Iy d (TY d)) (iMax 0 (iSub (Iy d (PD d)) (MV d)))
theorem YR {a b:Int} (hb:1<=b):EF 1 a b=(a+b-1)/b:=by
 unfold EF;have e1:=Anc (a+b-1) b;have e2:=Anc (-1*a) b;have p1:=AmB (a+b-1) (show b≠0 by omega);have p2:=Aml (a+b-1) (show 0<b by omega);have p3:=AmB (-1*a) (show b≠0 by omega);have p4:=Aml (-1*a) (show 0<b by omega);generalize (a+b-1)/b=x at*;generalize-1*a/b=y at*;have m:b*(x+y)=b*x+b*y:=Int.mul_add ..;by_cases h1:1<=x+y
 · have:=Al0 h1 (show 0<=b by omega); omega
 · by_cases h2:x+y<=-1
   · have:=Al0 h2 (show 0<=b by omega); omega
   · omega
theorem XJ {d:List C} (h:Sj d):MV d=IA d/\1<=IA d/\IA d<=6291456000:=by
 have i:=TW h;have r:=DC i.2;have c:D9 1 (Bo d) (BF d)=0:=((RG 1 (Bo d) (BF d)).2 i.2).2 (by omega);have u:=YR (a:=Bo d) (b:=BF d) (by omega);have d1:1<=(Bo d+BF d-1)/BF d:=(Am9 (by omega)).2 (by omega);have d2:(Bo d+BF d-1)/BF d<Bo d+1:=Int.ediv_lt_of_lt_mul (by omega) (by
  have:=Al0 (show 1<=BF d by omega) (show 0<=Bo d by omega);have e:(Bo d+1)*BF d=Bo d*BF d+BF d:=by rw[Amt,AmR]
  omega)
 have e:IA d=(Bo d+BF d-1)/BF d:=by
  unfold IA;rw[←u];exact((OD c).1 (by omega)).2
 refine⟨?_,by omega,by omega⟩;rw[e];exact AlI (by show 0<=Bo d+BF d-1; omega)
theorem AaP {d:List C} (h:MV d=IA d):PD d=I4 d/\TY d=TV d/\(∀v,Iy d v=Kz d v)/\UC d=RJ d/\UV d=PX d:=by
 have q:PD d=I4 d:=by unfold PD I4; rw[h]
 have p:TY d=TV d:=by unfold TY TV; rw[h,q]
 have x:∀v,Iy d v=Kz d v:=λv=>by unfold Iy Kz; rw[h]
 refine⟨q,p,x,by unfold UC RJ; rw[h],?_⟩;unfold UV PX;rw[x,x,x,x,x,q,p,h]
theorem Xy {d:List C} (h:Sj d):Ai (Bf d) (AU d)=true/\Bf d<=768000/\AU d<=768000/\Bf d=(if qi 2 d=1 then BP d else BO d)/\AU d=(if qi 2 d=1 then BO d else BP d):=by
 have b:=Ru h;have n:=VK h;have e:∀v,Ec (BO d) (BP d) v=v:=λv=>by unfold Ec; rw[n.2.1]; rfl
 unfold Bf AU;rw[e,e];split
 · exact⟨VP n.2.1,by omega,by omega,rfl,rfl⟩
 · exact⟨n.2.1,by omega,by omega,rfl,rfl⟩
theorem Y6 {l:List (List C)} {k r z:Int} {m:List (List C)} (h:Fj l k r m z=true):1<=m.length/\m.length<=8:=by
 unfold Fj AP at h;rw[List.any_eq_true]at h;obtain⟨x,hx,hi⟩:=h
 cases hv:Ef l
 · rw[hv]at hx; cases hx
 rw[hv]at hx;unfold Ef at hv;rw[AlG]at hv;have hb:=Al6.1 hv.2 x hx;unfold Bi at hb;simp only[AlG]at hb;have hi':((Ig (qi 0 x) k&&Fh (ql 1 x) r)&&FP (ql 2 x) m&&Fh (ql 3 x) z)=true:=hi;simp only[AlG]at hi';have hs:=hi'.1.2;unfold FP at hs;obtain⟨y,hy,e⟩:=List.any_eq_true.1 hs;obtain⟨p,hp⟩:=Td hb.2.2.2.1 y hy;unfold E9 at hp;unfold Ci at hp;simp only[AlG,AlE]at hp;have:(ql 0 y).length=m.length:=Anp λn=>by
  have:=rlL (g:=C9) n;unfold NK at e;rw[e]at this; cases this
 omega
theorem V8 {n e k j d g:Int} (h:EG n e k j d g=0):Bd (Cc n e k j d g) d g (Bc k)=true/\3<=Cc n e k j d g/\0<=Cj n e k j d g/\Cc n e k j d g+Cj n e k j d g<=65536:=by
 by_cases o:Bv n e k j=false∨d<0∨65536<d∨g<1∨4096<g
 · rw[Uj o]at h; cases h
 have hd:Bv n e k j=true:=by simpa using λa=>o (.inl a)
 have i:=VC (n:=n) (e:=e) (k:=k) (j:=j) (d:=d) (g:=g) hd (by omega) (by omega) (by omega) (by omega);have hM:Bc k<=4096:=by
  by_cases hM:4096<Bc k
  · have:=i.1 hM; omega
  · omega
 have i2:=i.2.1 hM;have b:¬(65536<D6 n e k j∨65536<Cc n e k j d g+Cj n e k j d g):=λq=>by have:=i2.1 q; omega
 have hd':=L9 hd;have m:=Q3 (k:=k) (by omega) (by omega);have w2:=P5 (n:=n) (d:=e) (k:=k+Bc k) (by omega) (by omega) (by omega) (by omega) (by omega) (by omega);have u2:=Oy (a:=n) (b:=e) (by omega) (by omega);have dm:GV 0 d g (Bc k) n e k j=Eu n e+Dt n e (k+Bc k)+2*j+3:=if_neg (by omega);have q:Cc n e k j d g=GV 0 d g (Bc k) n e k j+Cj n e k j d g:=rfl;refine⟨?_,by omega,by omega,by omega⟩;rw[KX]; omega
theorem Zz {d:List C} (h:Sj d) (he:RJ d=0):UF d=0:=by
 have p:=V8 he;have w:=XJ h;have b:=Xy h;have c:=Y6 h.2.1;have v:∀v,Kz d v=v:=λv=>if_pos he;have rv:=DC b.1;have q:I4 d=Cc (Bo d) (BF d) (qi 5 d) (EZ d) (iQuo (IA d) 4) 16:=rfl;have q2:TV d=I4 d+Cj (Bo d) (BF d) (qi 5 d) (EZ d) (iQuo (IA d) 4) 16:=rfl;have k:AX (KT ((ql 10 d).length:Int) (Bf d) (AU d))=true:=by
  show(Bh [.i (Bf d),.i (AU d),.i 0,.i 0,.i 0]&&AO ((ql 10 d).length:Int) [])=true;unfold Bh AZ AO Qj;simp only[AlG,AlE];refine⟨⟨b.1,b.2.1,b.2.2.1,show(-4096:Int)<=0 by decide,show(0:Int)<=4096 by decide,show(0:Int)<=0 by decide,show(0:Int)<=1125899906842624 by decide,show(0:Int)<=0 by decide,?_⟩,⟨by omega,by omega,by simp,by simp⟩,rfl⟩;show 0<AU d*65536;omega
 unfold UF G5;rw[v,v,v,v,v];have m0:0<=iMax 0 (iSub (I4 d) (IA d))/\iMax 0 (iSub (I4 d) (IA d))<=I4 d:=by
  show 0<=max 0 (I4 d-IA d)/\max 0 (I4 d-IA d)<=I4 d;omega
 rw[if_neg (by omega),if_neg];rintro(h1|h1)
 · rw[k]at h1; cases h1
 · rw[q,p.1]at h1; cases h1
end Go
namespace Go.Sx
theorem v18 (x:List C) (n:Int) (r:Int) (m:List (List C)) (z:Int) (k:List (List C)) (q:Int) (p:Int):WD hD x/\AnC n/\AnC r/\WL hI m/\AnC z/\WL hS k/\AnC q/\AnC p->True/\True/\Cn (bNot (AY x)) (DL (Jh x n r m z k q p)/\1=G7 x n r m z k q p) (True/\True/\Cn (bNot (A7 k)) (DL (Jh x n r m z k q p)/\1=G7 x n r m z k q p) (Cn (bLt q 8000) (DL (Jh x n r m z k q p)/\1=G7 x n r m z k q p) (Cn (bLt 192000 q) (DL (Jh x n r m z k q p)/\1=G7 x n r m z k q p) (Cn (bLt p 16) (DL (Jh x n r m z k q p)/\1=G7 x n r m z k q p) (Cn (bLt 8192 p) (DL (Jh x n r m z k q p)/\1=G7 x n r m z k q p) (True/\True/\Cn (bNot (Fj (ql 7 x) n r m z)) (DL (Jh x n r m z k q p)/\7=G7 x n r m z k q p) (AnC (iMul 64 q)/\Cn (bLt (iMul 64 q) r) (DL (Jh x n r m z k q p)/\11=G7 x n r m z k q p) (AnC (iMul 64 r)/\Cn (bLt (iMul 64 r) q) (DL (Jh x n r m z k q p)/\11=G7 x n r m z k q p) ((pLe 16 (qi 13 (AV x n r m z k q p))/\pLe (qi 13 (AV x n r m z k q p)) 8192/\pLe 1 (qi 9 (AV x n r m z k q p))/\pLe (qi 9 (AV x n r m z k q p)) 768000/\pLe 1 (qi 12 (AV x n r m z k q p))/\pLe (qi 12 (AV x n r m z k q p)) 192000/\(qi 2 (AV x n r m z k q p)=1∨qi 2 (AV x n r m z k q p)=2))/\(AnC (Bo (AV x n r m z k q p))/\AnC (BF (AV x n r m z k q p))->AnC (iAdd (Bo (AV x n r m z k q p)) (BF (AV x n r m z k q p)))/\AnC (iSub (iAdd (Bo (AV x n r m z k q p)) (BF (AV x n r m z k q p))) 1)/\(pNe (BF (AV x n r m z k q p)) 0/\AnC (MV (AV x n r m z k q p)))/\(pLe 0 (qi 6 (AV x n r m z k q p))/\pLe (qi 6 (AV x n r m z k q p)) 4096/\(qi 2 (AV x n r m z k q p)=1∨qi 2 (AV x n r m z k q p)=2))/\(AnC (EZ (AV x n r m z k q p))->(pNe 4 0/\AnC (iQuo (MV (AV x n r m z k q p)) 4))/\True/\(AnC (Iy (AV x n r m z k q p) (PD (AV x n r m z k q p)))/\AnC (Iy (AV x n r m z k q p) (iQuo (MV (AV x n r m z k q p)) 4))/\AnC (Iy (AV x n r m z k q p) 16)/\AnC (Iy (AV x n r m z k q p) (Bc (qi 5 x)))/\AnC (Iy (AV x n r m z k q p) (TY (AV x n r m z k q p)))/\AnC (UC (AV x n r m z k q p))->Cn (bNe (UC (AV x n r m z k q p)) 0) (DL (Jh x n r m z k q p)/\UC (AV x n r m z k q p)=G7 x n r m z k q p) (AnE m->True/\(AnC (Bf (AV x n r m z k q p))/\AnC (AU (AV x n r m z k q p))->AnC (iSub (Iy (AV x n r m z k q p) (PD (AV x n r m z k q p))) (MV (AV x n r m z k q p)))/\True/\(WD hG (UV (AV x n r m z k q p))/\AnC (AaS (AV x n r m z k q p))->sga 0 [0,2,0,0,0,0,0,3] x (C.i n::C.i r::C.l m::C.i z::C.i q::C.i p::C.l k::C.b false::C.i 0::sg 0 [0,0,0,0,0,0,0,0,0,0,0,3,0,0] (UV (AV x n r m z k q p)))=sg 0 [0,2,0,0,0,0,0,3,0,0,3,0,0,0,3,1,0,0,0,0,0,0,0,0,0,0,0,0,3,0,0] (Jh x n r m z k q p)/\0=G7 x n r m z k q p))))))))))))))):=by
 intro hw;have no:∀ {y:Int},y≠0->G7 x n r m z k q p=y->DL (Jh x n r m z k q p)/\y=G7 x n r m z k q p:=λh h1=>⟨by unfold Jh; rw[if_neg (by omega)]; rfl,h1.symm⟩
 have ds:Jl (AV x n r m z k q p)=decide (8000<=q/\q<=192000/\16<=p/\p<=8192):=rfl;have e1:AY x=false∨A7 k=false∨Jl (AV x n r m z k q p)=false->G7 x n r m z k q p=1:=λh=>if_pos h;have e1':¬(8000<=q/\q<=192000/\16<=p/\p<=8192)->G7 x n r m z k q p=1:=λh=>e1 (.inr (.inr (ds.trans (AlK h))));simp only[D,E];refine⟨λh=>no (by omega) (e1 (.inl h)),λh=>⟨λh1=>no (by omega) (e1 (.inr (.inl h1))),λh1=>⟨λh2=>no (by omega) (e1' (by omega)),λg1=>⟨λh2=>no (by omega) (e1' (by omega)),λg2=>⟨λh2=>no (by omega) (e1' (by omega)),λg3=>⟨λh2=>no (by omega) (e1' (by omega)),λg4=> ?_⟩⟩⟩⟩⟩⟩;have db:8000<=q/\q<=192000/\16<=p/\p<=8192:=by omega
 have h2:Jl (AV x n r m z k q p)=true:=ds.trans (AlL db);have e2:G7 x n r m z k q p=if Fj (ql 7 x) n r m z=false then 7 else if BO (AV x n r m z k q p)*64<BP (AV x n r m z k q p)∨BP (AV x n r m z k q p)*64<BO (AV x n r m z k q p)then 11 else if RJ (AV x n r m z k q p)≠0 then RJ (AV x n r m z k q p)else UF (AV x n r m z k q p):=if_neg λa=>a.elim (λa=>by cases h.symm.trans a) λa=>a.elim (λa=>by cases h1.symm.trans a) λa=>by cases h2.symm.trans a
 refine⟨λh3=>no (by omega) (by rw[e2,if_pos h3]),λh3=> ?_⟩;rw[if_neg (by simp[h3])]at e2;have pd:Sj (AV x n r m z k q p):=⟨h,h3,db,h1⟩
 have rb:=VY h3;have nb:=VK pd;have nbr:BO (AV x n r m z k q p)*Ag r q=r:=nb.2.2.1;have nbq:BP (AV x n r m z k q p)*Ag r q=q:=nb.2.2.2.1;have gp:1<=Ag r q:=nb.2.2.2.2.1;have l1:=Int.mul_lt_mul_right (a:=Ag r q) (b:=BO (AV x n r m z k q p)*64) (c:=BP (AV x n r m z k q p)) (by omega);have l2:=Int.mul_lt_mul_right (a:=Ag r q) (b:=BP (AV x n r m z k q p)*64) (c:=BO (AV x n r m z k q p)) (by omega);rw[Am5,nbr,nbq]at l1;rw[Am5,nbr,nbq]at l2;have dv:=(Tf h).1;have w:=XJ pd;have xo:=AaP w.1;have ib:=(TW pd).1;have bp:=Ru pd;refine⟨by simp only[InR]; omega,λh4=>no (by omega) (by rw[e2,if_pos (.inr (l2.1 (by omega)))]),λh4=>⟨by simp only[InR]; omega,λh5=>no (by omega) (by rw[e2,if_pos (.inl (l1.1 (by omega)))]),λh5=>⟨⟨by show 16<=p; omega,by show p<=8192; omega,by show 1<=r; omega,by show r<=768000; omega,by show 1<=q; omega,by show q<=192000; omega,by show qi 2 x=1∨qi 2 x=2; omega⟩,λ_=>⟨by simp only[InR]; omega,by simp only[InR]; omega,⟨by omega,by rw[w.1]; simp only[InR]; omega⟩,⟨by show 0<=qi 6 x; omega,by show qi 6 x<=4096; omega,by show qi 2 x=1∨qi 2 x=2; omega⟩,λ_=> ?_⟩⟩⟩⟩;have n4:¬(BO (AV x n r m z k q p)*64<BP (AV x n r m z k q p)∨BP (AV x n r m z k q p)*64<BO (AV x n r m z k q p)):=λa=>a.elim (λa=>by have:=l1.2 a; omega) λa=>by have:=l2.2 a; omega
 rw[if_neg n4]at e2;rw[xo.2.2.2.1,xo.2.2.2.2,xo.1,xo.2.2.1,w.1];have w4:=Int.natAbs_tdiv_le_natAbs (IA (AV x n r m z k q p)) 4;refine⟨⟨by omega,by simp only[InR]; omega⟩,λ_=>⟨λh6=>no h6 (by rw[e2,if_pos h6]),λh6 _ _=> ?_⟩⟩;rw[if_neg (by omega)]at e2;have po:=V8 h6;have ox:Kz (AV x n r m z k q p) (I4 (AV x n r m z k q p))=I4 (AV x n r m z k q p):=if_pos h6;have po':3<=I4 (AV x n r m z k q p)/\I4 (AV x n r m z k q p)<=65536:=⟨po.2.1,by have:=po.2.2.1; have:=po.2.2.2; show Cc _ _ _ _ _ _<=_; omega⟩
 have e0:G7 x n r m z k q p=0:=e2.trans (Zz pd h6);refine⟨by rw[ox]; simp only[InR]; omega,λ_=>⟨?_,e0.symm⟩⟩;unfold Jh; rw[if_pos e0];rfl
def r18:Cr PR:=K0 [r41,r42,r43,r44,r45,r46,r47,r48] 18 6 {ps:=[(true,hD),(true,hC),(true,[.sl hS]),(false,hI),(false,hI)],rs:=[(true,hV),(false,hI)],out:=λa=>[rb [0,2,0,0,0,0,0,3,0,0,3,0,0,0,3,1,0,0,0,0,0,0,0,0,0,0,0,0,3,0,0] (Jh (AnQ a) (AnG a) (AnJ a) (L a 1 2) (AnP a) (L a 2 0) (AnM a) (AnN a)),[.i (G7 (AnQ a) (AnG a) (AnJ a) (L a 1 2) (AnP a) (L a 2 0) (AnM a) (AnN a))]]} U λa=>Y (v18 (AnQ a) (AnG a) (AnJ a) (L a 1 2) (AnP a) (L a 2 0) (AnM a) (AnN a))
end Go.Sx
namespace Go
open Go.Sx
def KZ (d:List C) (ch:Int) (da:List (List C)) (n:Int):List C:=if E8 d ch da n=0 then Ol d (Ez (DN d ch da) n)else[]
def JJ (d:List C) (ch:Int) (da:List (List C)) (a b:Int):List C:=if FU d 1 ch da a b≠0 then[]else bif qb 15 d then KZ d ch da (Na d 1 ch da a b)else d
def IP (d:List C) (ch:Int) (da:List (List C)) (n a b:Int):List C:=if D7 d ch da n a b≠0 then[]else bif qb 15 d then KZ d ch da n else d
theorem ZK {d:List C} {ch:Int} {da:List (List C)} {n:Int} (h:E8 d ch da n≠0):OZ d ch da n=0/\OJ d ch da n=[]/\OW d ch da n=0/\O1 d ch da n=0/\Y5 d ch da n=[]/\KZ d ch da n=[]:=
 ⟨if_neg h,if_neg h,if_neg h,if_neg h,if_neg h,if_neg h⟩
theorem Xk {d:List C} {ch:Int} {da:List (List C)} {n:Int} (h:E8 d ch da n=0):ET (BN d) ch da=0/\D8 (DN d ch da) n=0/\OZ d ch da n=Jg (DN d ch da) n/\OJ d ch da n=I9 (DN d ch da) n/\OW d ch da n=F7 (BN d) ch da/\O1 d ch da n=Jm (DN d ch da) n/\Y5 d ch da n=Ol (Aao d) (Ez (DN d ch da) n)/\KZ d ch da n=Ol d (Ez (DN d ch da) n):=by
 have h1:=h;unfold E8 at h1;split at h1
 · omega
 exact⟨by omega,h1,if_pos h,if_pos h,if_pos h,if_pos h,if_pos h,if_pos h⟩
end Go
namespace Go.Sx
def AhR (d:List C) (ch:Int) (da:List (List C)) (a:Int) (b:Int):Prop:=0=LM d ch da a b/\[]=Lu d ch da a b/\0=LD d ch da a b/\0=Lj d ch da a b/\DL (JJ d ch da a b)/\1=Ir d ch da a b
theorem v118 (d:List C) (ch:Int) (da:List (List C)) (a:Int) (b:Int):WD hV d/\AnC ch/\WL hW da/\AnC a/\AnC b->True/\True/\Cn (bNot (Be d)) ((AhR d ch da a b)) (True/\True/\Cn (bNot (AO ch da)) ((AhR d ch da a b)) (Cn (bNe (qi 2 d) 1) ((AhR d ch da a b)) (AnE (ql 10 d)->Cn (bNe ch (iLen (ql 10 d))) (0=LM d ch da a b/\[]=Lu d ch da a b/\0=LD d ch da a b/\0=Lj d ch da a b/\DL (JJ d ch da a b)/\11=Ir d ch da a b) (True/\(AnC (A8 d a b)/\AnC (CS d a b)->Cn (bNe (CS d a b) 0) (0=LM d ch da a b/\[]=Lu d ch da a b/\0=LD d ch da a b/\0=Lj d ch da a b/\DL (JJ d ch da a b)/\CS d a b=Ir d ch da a b) (True/\Cn (bNot (qb 15 d)) (iLen (ql 10 d)=LM d ch da a b/\[]=Lu d ch da a b/\0=LD d ch da a b/\0=Lj d ch da a b/\sg 0 [0,2,0,0,0,0,0,3,0,0,3,0,0,0,3,1,0,0,0,0,0,0,0,0,0,0,0,0,3,0,0] d=sg 0 [0,2,0,0,0,0,0,3,0,0,3,0,0,0,3,1,0,0,0,0,0,0,0,0,0,0,0,0,3,0,0] (JJ d ch da a b)/\0=Ir d ch da a b) (True/\(WD hG (CQ (BN d) ch da)/\AnC (F7 (BN d) ch da)/\AnC (ET (BN d) ch da)->Cn (bNe (ET (BN d) ch da) 0) (0=LM d ch da a b/\[]=Lu d ch da a b/\0=LD d ch da a b/\0=Lj d ch da a b/\DL (JJ d ch da a b)/\ET (BN d) ch da=Ir d ch da a b) (True/\(AnC (Jg (CQ (BN d) ch da) (A8 d a b))/\WL hW (I9 (CQ (BN d) ch da) (A8 d a b))/\AnC (Jm (CQ (BN d) ch da) (A8 d a b))/\WD hG (Ez (CQ (BN d) ch da) (A8 d a b))/\AnC (D8 (CQ (BN d) ch da) (A8 d a b))->Cn (bNe (D8 (CQ (BN d) ch da) (A8 d a b)) 0) (0=LM d ch da a b/\[]=Lu d ch da a b/\0=LD d ch da a b/\0=Lj d ch da a b/\DL (JJ d ch da a b)/\D8 (CQ (BN d) ch da) (A8 d a b)=Ir d ch da a b) (Jg (CQ (BN d) ch da) (A8 d a b)=LM d ch da a b/\I9 (CQ (BN d) ch da) (A8 d a b)=Lu d ch da a b/\F7 (BN d) ch da=LD d ch da a b/\Jm (CQ (BN d) ch da) (A8 d a b)=Lj d ch da a b/\sga 0 [0,2,0,0,0,0,0,3,0,0,3,0,0,0,3,1,0] d (sg 0 [0,0,0,0,0,0,0,0,0,0,0,3,0,0] (Ez (CQ (BN d) ch da) (A8 d a b)))=sg 0 [0,2,0,0,0,0,0,3,0,0,3,0,0,0,3,1,0,0,0,0,0,0,0,0,0,0,0,0,3,0,0] (JJ d ch da a b)/\0=Ir d ch da a b))))))))))):=by
 intro hw;delta AhR;have nk:∀ {x:Int},x≠0->FU d 1 ch da a b=x->0=LM d ch da a b/\[]=Lu d ch da a b/\0=LD d ch da a b/\0=Lj d ch da a b/\DL (JJ d ch da a b)/\x=Ir d ch da a b:=λh h1=>by
  have e:FU d 1 ch da a b≠0:=by omega
  unfold LM Lu LD Lj JJ Ir;rw[if_pos e,if_pos e,if_pos e,if_pos e,if_pos e,if_pos e];exact⟨rfl,rfl,rfl,rfl,rfl,h1.symm⟩
 simp only[D,E];refine⟨λh=>nk (by omega) (if_pos (.inl h)),λh=>⟨λh1=>nk (by omega) (if_pos (.inr (.inl h1))),λh1=>⟨λh2=>nk (by omega) (if_pos (.inr (.inr h2))),λh2 _=> ?_⟩⟩⟩;have e:FU d 1 ch da a b=if ch≠((ql 10 d).length:Int)then 11 else CS d a b:=if_neg (by simp[h,h1]; omega);refine⟨λh3=>nk (by omega) (by rw[e,if_pos h3]),λh3 _=> ?_⟩;rw[if_neg (by omega)]at e;refine⟨λh4=>nk h4 e,λh4=> ?_⟩;have c0:FU d 1 ch da a b=0:=by omega
 have cv:Na d 1 ch da a b=A8 d a b:=if_pos c0;have o:LM d ch da a b=(bif qb 15 d then OZ d ch da (A8 d a b)else ch)/\Lu d ch da a b=(bif qb 15 d then OJ d ch da (A8 d a b)else[])/\LD d ch da a b=(bif qb 15 d then OW d ch da (A8 d a b)else 0)/\Lj d ch da a b=(bif qb 15 d then O1 d ch da (A8 d a b)else 0)/\JJ d ch da a b=(bif qb 15 d then KZ d ch da (A8 d a b)else d)/\Ir d ch da a b=(bif qb 15 d then E8 d ch da (A8 d a b)else 0):=by
  have n0:¬FU d 1 ch da a b≠0:=by omega
  unfold LM Lu LD Lj JJ Ir;rw[cv,if_neg n0,if_neg n0,if_neg n0,if_neg n0,if_neg n0,if_neg n0];exact⟨rfl,rfl,rfl,rfl,rfl,rfl⟩
 refine⟨λh5=> ?_,λh5 _=> ?_⟩<;>rw[h5]at o<;>obtain⟨o1,o2,o3,o4,o5,o6⟩:=o<;>rw[o1,o2,o3,o4,o5,o6]
 · exact⟨by show _=ch; omega,rfl,rfl,rfl,rfl,rfl⟩
 · show (_ -> 0 = OZ d ch da (A8 d a b) /\ [] = OJ d ch da (A8 d a b) /\ 0 = OW d ch da (A8 d a b) /\ 0 = O1 d ch da (A8 d a b) /\ DL (KZ d ch da (A8 d a b)) /\ _ = E8 d ch da (A8 d a b)) /\ _;have mn : ∀ {x : Int}, x ≠ 0 -> E8 d ch da (A8 d a b) = x -> 0 = OZ d ch da (A8 d a b) /\ [] = OJ d ch da (A8 d a b) /\ 0 = OW d ch da (A8 d a b) /\ 0 = O1 d ch da (A8 d a b) /\ DL (KZ d ch da (A8 d a b)) /\ x = E8 d ch da (A8 d a b) := λh h1 => by
    obtain⟨n1,n2,n3,n4,_,n6⟩:=ZK (n:=A8 d a b) (d:=d) (ch:=ch) (da:=da) (by omega);rw[n1,n2,n3,n4,n6];exact⟨rfl,rfl,rfl,rfl,rfl,h1.symm⟩
   refine⟨λh6=>mn h6 (if_pos h6),λh6 _=>⟨λh7=>mn h7 (if_neg (by omega)),λh7=> ?_⟩⟩;have e0:E8 d ch da (A8 d a b)=0:=(if_neg (by omega)).trans h7;obtain⟨_,_,n1,n2,n3,n4,_,n6⟩:=Xk e0;show _=OZ d ch da (A8 d a b)/\_=OJ d ch da (A8 d a b)/\_=OW d ch da (A8 d a b)/\_=O1 d ch da (A8 d a b)/\_=sg 0 _ (KZ d ch da (A8 d a b))/\_=E8 d ch da (A8 d a b);rw[n1,n2,n3,n4,n6];exact⟨rfl,rfl,rfl,rfl,rfl,e0.symm⟩
def r118:Cr PR:=K0 [r30,r108,r9,r176,r177] 118 6 {ps:=[(true,hV),(true,hK),(false,hI),(false,hI)],rs:=[(true,hK),(false,hI),(false,hI),(true,hV),(false,hI)],out:=λa=>[[.i (LM (AnQ a) (AnG a) (L a 1 1) (AnI a) (AnM a)),.l (Lu (AnQ a) (AnG a) (L a 1 1) (AnI a) (AnM a))],[.i (LD (AnQ a) (AnG a) (L a 1 1) (AnI a) (AnM a))],[.i (Lj (AnQ a) (AnG a) (L a 1 1) (AnI a) (AnM a))],rb [0,2,0,0,0,0,0,3,0,0,3,0,0,0,3,1,0,0,0,0,0,0,0,0,0,0,0,0,3,0,0] (JJ (AnQ a) (AnG a) (L a 1 1) (AnI a) (AnM a)),[.i (Ir (AnQ a) (AnG a) (L a 1 1) (AnI a) (AnM a))]]} U λa=>Y (v118 (AnQ a) (AnG a) (L a 1 1) (AnI a) (AnM a))
def Aja (d:List C) (ch:Int) (da:List (List C)) (n:Int) (a:Int) (b:Int):Prop:=True/\Cn (bNot (qb 15 d)) (True/\(AnC (JZ (iLen (ql 10 d)) n)/\WL hW (EX (iLen (ql 10 d)) n)/\AnC (Jv (iLen (ql 10 d)) n)->JZ (iLen (ql 10 d)) n=JU d ch da n a b/\EX (iLen (ql 10 d)) n=JB d ch da n a b/\0=JR d ch da n a b/\0=JS d ch da n a b/\sg 0 [0,2,0,0,0,0,0,3,0,0,3,0,0,0,3,1,0,0,0,0,0,0,0,0,0,0,0,0,3,0,0] d=sg 0 [0,2,0,0,0,0,0,3,0,0,3,0,0,0,3,1,0,0,0,0,0,0,0,0,0,0,0,0,3,0,0] (IP d ch da n a b)/\0=D7 d ch da n a b)) (True/\(WD hG (CQ (BN d) ch da)/\AnC (F7 (BN d) ch da)/\AnC (ET (BN d) ch da)->Cn (bNe (ET (BN d) ch da) 0) (0=JU d ch da n a b/\[]=JB d ch da n a b/\0=JR d ch da n a b/\0=JS d ch da n a b/\DL (IP d ch da n a b)/\ET (BN d) ch da=D7 d ch da n a b) (True/\(AnC (Jg (CQ (BN d) ch da) n)/\WL hW (I9 (CQ (BN d) ch da) n)/\AnC (Jm (CQ (BN d) ch da) n)/\WD hG (Ez (CQ (BN d) ch da) n)/\AnC (D8 (CQ (BN d) ch da) n)->Cn (bNe (D8 (CQ (BN d) ch da) n) 0) (0=JU d ch da n a b/\[]=JB d ch da n a b/\0=JR d ch da n a b/\0=JS d ch da n a b/\DL (IP d ch da n a b)/\D8 (CQ (BN d) ch da) n=D7 d ch da n a b) (Jg (CQ (BN d) ch da) n=JU d ch da n a b/\I9 (CQ (BN d) ch da) n=JB d ch da n a b/\F7 (BN d) ch da=JR d ch da n a b/\Jm (CQ (BN d) ch da) n=JS d ch da n a b/\sga 0 [0,2,0,0,0,0,0,3,0,0,3,0,0,0,3,1,0] d (sg 0 [0,0,0,0,0,0,0,0,0,0,0,3,0,0] (Ez (CQ (BN d) ch da) n))=sg 0 [0,2,0,0,0,0,0,3,0,0,3,0,0,0,3,1,0,0,0,0,0,0,0,0,0,0,0,0,3,0,0] (IP d ch da n a b)/\0=D7 d ch da n a b)))))
def AgJ (d:List C) (ch:Int) (da:List (List C)) (n:Int) (a:Int) (b:Int):Prop:=0=JU d ch da n a b/\[]=JB d ch da n a b/\0=JR d ch da n a b/\0=JS d ch da n a b/\DL (IP d ch da n a b)/\2=D7 d ch da n a b
def AhQ (d:List C) (ch:Int) (da:List (List C)) (n:Int) (a:Int) (b:Int):Prop:=0=JU d ch da n a b/\[]=JB d ch da n a b/\0=JR d ch da n a b/\0=JS d ch da n a b/\DL (IP d ch da n a b)/\1=D7 d ch da n a b
theorem v119 (d:List C) (ch:Int) (da:List (List C)) (n:Int) (a:Int) (b:Int):WD hV d/\AnC ch/\WL hW da/\AnC n/\AnC a/\AnC b->True/\True/\Cn (bNot (Be d)) ((AhQ d ch da n a b)) (True/\True/\Cn (bNot (AO ch da)) ((AhQ d ch da n a b)) (Cn (bNe (qi 2 d) 2) ((AhQ d ch da n a b)) (AnE (ql 10 d)->Cn (bNe ch (iLen (ql 10 d))) (0=JU d ch da n a b/\[]=JB d ch da n a b/\0=JR d ch da n a b/\0=JS d ch da n a b/\DL (IP d ch da n a b)/\11=D7 d ch da n a b) (True/\(AnC (A8 d a b)/\AnC (CS d a b)->Cn (bNe (CS d a b) 0) (0=JU d ch da n a b/\[]=JB d ch da n a b/\0=JR d ch da n a b/\0=JS d ch da n a b/\DL (IP d ch da n a b)/\CS d a b=D7 d ch da n a b) (Cn (qb 15 d) (True/\(AnC (AQ ch da)->Cn (bNe (AQ ch da) (A8 d a b)) (0=JU d ch da n a b/\[]=JB d ch da n a b/\0=JR d ch da n a b/\0=JS d ch da n a b/\DL (IP d ch da n a b)/\4=D7 d ch da n a b) (Cn (bLt n 0) ((AgJ d ch da n a b)) (Cn (bLt 65536 n) ((AgJ d ch da n a b)) ((Aja d ch da n a b)))))) (Cn (bLt n 0) ((AgJ d ch da n a b)) (Cn (bLt 65536 n) ((AgJ d ch da n a b)) ((Aja d ch da n a b)))))))))):=by
 intro hw;delta Aja AgJ AhQ;have nk:∀ {x:Int},x≠0->D7 d ch da n a b=x->0=JU d ch da n a b/\[]=JB d ch da n a b/\0=JR d ch da n a b/\0=JS d ch da n a b/\DL (IP d ch da n a b)/\x=D7 d ch da n a b:=λh h1=>by
  have e:D7 d ch da n a b≠0:=by omega
  unfold JU JB JR JS IP;rw[if_pos e,if_pos e,if_pos e,if_pos e,if_pos e];exact⟨rfl,rfl,rfl,rfl,rfl,h1.symm⟩
 have kk:∀ {x:Int},FU d 2 ch da a b=x->x≠0->D7 d ch da n a b=x:=λh h1=>(if_pos (by omega)).trans h;simp only[D,E];refine⟨λh=>nk (by omega) (kk (if_pos (.inl h)) (by omega)),λh=>⟨λh1=>nk (by omega) (kk (if_pos (.inr (.inl h1))) (by omega)),λh1=>⟨λh2=>nk (by omega) (kk (if_pos (.inr (.inr h2))) (by omega)),λh2 _=> ?_⟩⟩⟩;have e:FU d 2 ch da a b=if ch≠((ql 10 d).length:Int)then 11 else CS d a b:=if_neg (by simp[h,h1]; omega);refine⟨λh3=>nk (by omega) (kk (by rw[e,if_pos h3]) (by omega)),λh3 _=> ?_⟩;rw[if_neg (by omega)]at e;refine⟨λh4=>nk h4 (kk e h4),λh4=> ?_⟩;have c0:FU d 2 ch da a b=0:=by omega
 have cv:Na d 2 ch da a b=A8 d a b:=if_pos c0;have o:D7 d ch da n a b=0->JU d ch da n a b=(bif qb 15 d then OZ d ch da n else JZ ch n)/\JB d ch da n a b=(bif qb 15 d then OJ d ch da n else EX ch n)/\JR d ch da n a b=(bif qb 15 d then OW d ch da n else 0)/\JS d ch da n a b=(bif qb 15 d then O1 d ch da n else 0)/\IP d ch da n a b=(bif qb 15 d then KZ d ch da n else d):=λx=>⟨if_neg (by omega),if_neg (by omega),if_neg (by omega),if_neg (by omega),if_neg (by omega)⟩
 have c:=AaI c0;have fr:AQ ch da=iQuo (iLen da) ch:=by
  unfold AQ;rw[c.2.1];exact(AlI (by omega)).symm
 have e:D7 d ch da n a b=if qb 15 d=true/\iQuo (iLen da) ch≠A8 d a b then 4 else if n<0∨65536<n then 2 else bif qb 15 d then E8 d ch da n else 0:=by unfold D7; rw[if_neg (by omega),cv]
 rw[fr]
 cases hr:qb 15 d
 · rw[hr]at o;rw[hr,if_neg (λx=>by cases x.1)]at e;simp only[E,F];refine⟨λh1=>nk (by omega) (by rw[e,if_pos (by omega)]),λh1=>⟨λh2=>nk (by omega) (by rw[e,if_pos (by omega)]),λh2 _=> ?_⟩⟩;rw[if_neg (by omega)]at e;obtain⟨o1,o2,o3,o4,o5⟩:=o e;rw[o1,o2,o3,o4,o5,←c.2.2.2.1];exact⟨rfl,rfl,rfl,rfl,rfl,e.symm⟩
 · rw[hr]at o;rw[hr]at e;simp only[E,F];refine λ_=>⟨λh1=>nk (by omega) (by rw[e,if_pos ⟨rfl,h1⟩]),λh0=> ?_⟩
   rw[if_neg (λx=>x.2 h0)]at e;refine⟨λh1=>nk (by omega) (by rw[e,if_pos (by omega)]),λh1=>⟨λh2=>nk (by omega) (by rw[e,if_pos (by omega)]),λh2 _=> ?_⟩⟩;rw[if_neg (by omega)]at e;have e:D7 d ch da n a b=E8 d ch da n:=e;refine⟨λh6=>nk h6 (e.trans (if_pos h6)),λh6 _=>⟨λh7=>nk h7 (e.trans (if_neg (by omega))),λh7=> ?_⟩⟩;have e0:E8 d ch da n=0:=(if_neg (by omega)).trans h7;obtain⟨_,_,n1,n2,n3,n4,_,n6⟩:=Xk e0;obtain⟨o1,o2,o3,o4,o5⟩:=o (by omega);rw[o1,o2,o3,o4,o5,cond_true,cond_true,cond_true,cond_true,cond_true,n1,n2,n3,n4,n6];exact⟨rfl,rfl,rfl,rfl,rfl,by omega⟩
def r119:Cr PR:=K0 [r30,r108,r9,r109,r172,r176,r177] 119 6 {ps:=[(true,hV),(true,hK),(false,hI),(false,hI),(false,hI)],rs:=[(true,hK),(false,hI),(false,hI),(true,hV),(false,hI)],out:=λa=>[[.i (JU (AnQ a) (AnG a) (L a 1 1) (AnI a) (AnM a) (AnN a)),.l (JB (AnQ a) (AnG a) (L a 1 1) (AnI a) (AnM a) (AnN a))],[.i (JR (AnQ a) (AnG a) (L a 1 1) (AnI a) (AnM a) (AnN a))],[.i (JS (AnQ a) (AnG a) (L a 1 1) (AnI a) (AnM a) (AnN a))],rb [0,2,0,0,0,0,0,3,0,0,3,0,0,0,3,1,0,0,0,0,0,0,0,0,0,0,0,0,3,0,0] (IP (AnQ a) (AnG a) (L a 1 1) (AnI a) (AnM a) (AnN a)),[.i (D7 (AnQ a) (AnG a) (L a 1 1) (AnI a) (AnM a) (AnN a))]]} U λa=>Y (v119 (AnQ a) (AnG a) (L a 1 1) (AnI a) (AnM a) (AnN a))
end Go.Sx

