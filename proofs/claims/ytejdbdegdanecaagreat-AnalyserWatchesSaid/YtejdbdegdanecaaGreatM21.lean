import Derived.Test.YtejdbdegdanecaaGreatSxUse
import Derived.Test.YtejdbdegdanecaaGreatM06
set_option linter.unusedVariables false
set_option linter.unusedSimpArgs false
set_option maxRecDepth 100000
set_option maxHeartbeats 4000000
namespace Go
open Go.Sx
def Aai (d:List C):List C:=sg 0 [0,2,0,0,0,0,0,3] d
def Cb (d:List C):List C:=sg 17 [0,0,0,0,0,0,0,0,0,0,0,3,0,0] d
def BJ (d:List C):Int:=Au (qi 9 d) (qi 12 d) (qi 9 d)
def BL (d:List C):Int:=Au (qi 9 d) (qi 12 d) (qi 12 d)
def Df (d:List C):Int:=if qi 2 d=1 then DW (BJ d) (BL d) (BL d)else BJ d
def CV (d:List C):Int:=if qi 2 d=1 then DW (BJ d) (BL d) (BJ d)else BL d
end Go
namespace Go.Sx
theorem v132 (d:List C):WD hV d->pLe (iLen (ql 10 d)) 9223372036854775807->iLen (ql 10 d)= ↑(ql 10 d).length:=by
 intro hw;exact λ_=>rfl
def r132:Cr PR:=K0 [] 132 6 {ps:=[(true,hV)],rs:=[(false,hI)],pre:=λ_=>True,out:=λa=>[[.i ((ql 10 (arg 0 a)).length:Int)]]} U λa=>Y (v132 (arg 0 a))
end Go.Sx
namespace Go.Sx
theorem v138 (d:List C):WD hV d->Sm (bEq (qi 2 d) 1):=by
 intro hw;exact Aas.2 trivial
def r138:Cr PR:=K0 [] 138 6 {ps:=[(true,hV)],rs:=[(false,[.bool])],pre:=λ_=>True,out:=λa=>[[.b (bEq (qi 2 (arg 0 a)) 1)]]} U λa=>Y (v138 (arg 0 a))
end Go.Sx
namespace Go.Sx
def Ag5 (d:List C):Prop:=false=decide (8000<=qi 12 d/\qi 12 d<=192000/\16<=qi 13 d/\qi 13 d<=8192)
theorem v129 (d:List C):WD hV d->Cn (bLe 8000 (qi 12 d)) (Cn (bLe (qi 12 d) 192000) (Cn (bLe 16 (qi 13 d)) (bLe (qi 13 d) 8192=decide (8000<=qi 12 d/\qi 12 d<=192000/\16<=qi 13 d/\qi 13 d<=8192)) ((Ag5 d))) ((Ag5 d))) ((Ag5 d)):=by
 intro hw;delta Ag5;simp only[D,E]
 repeat' (first|apply And.intro|intro _)
 all_goals (first|(simp only[decide_eq_decide]; omega)|(symm; simp only[decide_eq_false_iff_not]; omega))
def r129:Cr PR:=K0 [] 129 6 {ps:=[(true,hV)],rs:=[(false,[.bool])],pre:=λ_=>True,out:=λa=>[[.b (decide (8000<=qi 12 (arg 0 a)/\qi 12 (arg 0 a)<=192000/\16<=qi 13 (arg 0 a)/\qi 13 (arg 0 a)<=8192))]]} U λa=>Y (v129 (arg 0 a))
end Go.Sx
namespace Go.Sx
theorem v139 (d:List C):WD hV d->True/\(InR .i64 (Au (qi 9 d) (qi 12 d) (qi 9 d))/\InR .i64 (Au (qi 9 d) (qi 12 d) (qi 12 d))/\InR .i64 (BX (qi 9 d) (qi 12 d))->Au (qi 9 d) (qi 12 d) (qi 9 d)=BJ d/\Au (qi 9 d) (qi 12 d) (qi 12 d)=BL d):=by
 intro hw;exact⟨trivial,λ_=>⟨rfl,rfl⟩⟩
def r139:Cr PR:=K0 [r141] 139 6 {ps:=[(true,hV)],rs:=[(true,hII)],pre:=λ_=>True,out:=λa=>[[.i (BJ (arg 0 a)),.i (BL (arg 0 a))]]} U λa=>Y (v139 (arg 0 a))
end Go.Sx
namespace Go.Sx
theorem v76 (d:List C):WD hV d->True/\True/\Cn (bNot (bEq (qi 2 d) 1)) (True/\(InR .i64 (BJ d)/\InR .i64 (BL d)->BJ d=Df d/\BL d=CV d)) (True/\(InR .i64 (BJ d)/\InR .i64 (BL d)->True/\(InR .i64 (DW (BJ d) (BL d) (BL d))/\InR .i64 (DW (BJ d) (BL d) (BJ d))/\InR .i64 (L6 (BJ d) (BL d))->DW (BJ d) (BL d) (BL d)=Df d/\DW (BJ d) (BL d) (BJ d)=CV d))):=by
 intro hw;simp only[D,E];exact⟨λh _=>⟨(if_neg h).symm,(if_neg h).symm⟩,λh _ _=>⟨(if_pos h).symm,(if_pos h).symm⟩⟩
def r76:Cr PR:=K0 [r138,r139,r140] 76 6 {ps:=[(true,hV)],rs:=[(true,hII)],pre:=λ_=>True,out:=λa=>[[.i (Df (arg 0 a)),.i (CV (arg 0 a))]]} U λa=>Y (v76 (arg 0 a))
end Go.Sx
namespace Go
open Go.Sx
def Eh (N:List C->List C) (xs:List (List C)) (i:Int):List (List C):=(xs.take i.toNat).map N++xs.drop i.toNat
def Aah (m:List C):List C:=[.l (ql 0 m)]
def Aag (x:List C):List C:=[.i (qi 0 x),.l (ql 1 x),.l ((ql 2 x).map Aah),.l (ql 3 x)]
def Zv (d:List C):List C:=sga 0 [0,2,0,0,0,0,0] d (.l ((ql 7 d).map Aag)::sg 8 [0,0,3,0,0,0,3,1,0,0,0,0,0,0,0,0,0,0,0,0,3,0,0] d)
def XT (m:List C):Bool:=decide ((ql 0 m).length<=1000000)
def V7 (x:List C):Bool:=decide ((ql 1 x).length<=1000000/\(ql 2 x).length<=1000000/\(ql 3 x).length<=1000000)&&(ql 2 x).all XT
end Go
namespace Go
open Go.Sx
section
variable {N:List C->List C} {xs:List (List C)} {i:Int}
theorem Pv (h0:0<=i) (h1:i<(xs.length:Int)):rGet (Eh N xs i) i=rGet xs i:=by
 unfold Eh rGet;simp only[List.getD_eq_getElem?_getD];rw[List.getElem?_append_right (by simp; omega),List.length_map,List.length_take,List.getElem?_drop,show i.toNat+(i.toNat-min i.toNat xs.length)=i.toNat by omega]
theorem Rl:(Eh N xs i).length=xs.length:=by unfold Eh; simp; omega
theorem TP (h:¬i<(xs.length:Int)):Eh N xs i=xs.map N:=by
 unfold Eh; rw[List.take_of_length_le (by omega),List.drop_eq_nil_of_le (by omega),List.append_nil]
theorem PG (h0:0<=i) (h1:i<(xs.length:Int)):rSet (Eh N xs i) i (N (rGet xs i))=Eh N xs (i+1):=by
 unfold Eh rSet;rw[List.set_append_right _ _ (by simp; omega),List.length_map,List.length_take,show i.toNat-min i.toNat xs.length=0 by omega,Aaq h0 h1,List.set_cons_zero,Abm h0 h1,List.map_append,List.append_assoc]; rfl
end
end Go

set_option linter.unusedVariables false
set_option linter.unusedSimpArgs false
set_option maxRecDepth 100000
set_option maxHeartbeats 4000000
namespace Go
open Go.Sx
def Hr (d:List C):Int:=if qi 2 d=1 then BQ (qi 6 d) (Df d) (CV d)+1 else qi 6 d+1
def Dl (d:List C):Int:=if qi 2 d=1 then qi 13 d else Au (qi 13 d*qi 9 d) (qi 12 d) (qi 13 d*qi 9 d)
def Cf (d:List C):Int:=if qi 2 d=1 then 1 else Au (qi 13 d*qi 9 d) (qi 12 d) (qi 12 d)
def LK (d:List C):Bool:=decide (8000<=qi 12 d/\qi 12 d<=192000/\16<=qi 13 d/\qi 13 d<=8192)
def Bj (d:List C):Bool:=(AV d&&(Fz (ql 7 d) (qi 8 d) (qi 9 d) (ql 10 d) (qi 11 d)&&(LK d&&AY (ql 14 d))))&&(decide (0<=qi 16 d/\qi 16 d<=1099511627776)&&(Ci (Cb d)&&decide (qi 22 d=((ql 10 d).length:Int)/\qi 23 d=Df d/\qi 24 d=CV d)))
end Go
namespace Go
open Go.Sx
theorem UQ (n a b:Int): -4611686018427387904<=BQ n a b/\BQ n a b<=4611686018427387904:=by
 unfold BQ;split
 · rename_i h;unfold CP at h;split at h
   · omega
   · cases hi:Bz (H8 n a b)
     · rw[hi]at h; cases h
     · unfold Bz at hi; exact of_decide_eq_true hi
 · omega
end Go
namespace Go.Sx
theorem v77 (d:List C):WD hV d->pLe 0 (qi 13 d)/\pLe (qi 13 d) 8192/\pLe 0 (qi 9 d)/\pLe (qi 9 d) 768000->True/\Cn (bEq (qi 2 d) 1) (qi 13 d=Dl d/\1=Cf d) (InR .i64 (iMul (qi 13 d) (qi 9 d))/\True/\(InR .i64 (Au (iMul (qi 13 d) (qi 9 d)) (qi 12 d) (iMul (qi 13 d) (qi 9 d)))/\InR .i64 (Au (iMul (qi 13 d) (qi 9 d)) (qi 12 d) (qi 12 d))/\InR .i64 (BX (iMul (qi 13 d) (qi 9 d)) (qi 12 d))->Au (iMul (qi 13 d) (qi 9 d)) (qi 12 d) (iMul (qi 13 d) (qi 9 d))=Dl d/\Au (iMul (qi 13 d) (qi 9 d)) (qi 12 d) (qi 12 d)=Cf d)):=by
 intro hw hp;simp only[D,E]at hp ⊢;have b:=Aap (x:=qi 13 d) (X:=8192) (y:=qi 9 d) (Y:=768000) hp.1 hp.2.1 hp.2.2.1 hp.2.2.2;exact⟨λh=>⟨(if_pos h).symm,(if_pos h).symm⟩,λh=>⟨by simp only[InR]; omega,λ_=>⟨(if_neg h).symm,(if_neg h).symm⟩⟩⟩
def r77:Cr PR:=K [r138,r141] 77 6 {ps:=[(true,hV)],rs:=[(true,hII)],pre:=λa=>pLe 0 (qi 13 (arg 0 a))/\(pLe (qi 13 (arg 0 a)) 8192/\(pLe 0 (qi 9 (arg 0 a))/\pLe (qi 9 (arg 0 a)) 768000)),out:=λa=>[[.i (Dl (arg 0 a)),.i (Cf (arg 0 a))]]} U λa=>Y (v77 (arg 0 a))
end Go.Sx
namespace Go.Sx
theorem v78 (d:List C):WD hV d->pLe 0 (qi 6 d)/\pLe (qi 6 d) 4096->True/\True/\Cn (bNot (bEq (qi 2 d) 1)) (InR .i64 (iAdd (qi 6 d) 1)/\iAdd (qi 6 d) 1=Hr d) (True/\(InR .i64 (Df d)/\InR .i64 (CV d)->True/\(InR .i64 (BQ (qi 6 d) (Df d) (CV d))/\InR .i64 (CP (qi 6 d) (Df d) (CV d))->InR .i64 (iAdd (BQ (qi 6 d) (Df d) (CV d)) 1)/\iAdd (BQ (qi 6 d) (Df d) (CV d)) 1=Hr d))):=by
 intro hw hp;simp only[D,E]at hp ⊢;have b:=UQ (qi 6 d) (Df d) (CV d);exact⟨λh=>⟨by simp only[InR]; omega,(if_neg (by omega)).symm⟩,λh _ _=>⟨by simp only[InR]; omega,(if_pos (by omega)).symm⟩⟩
def r78:Cr PR:=K [r138,r76,r142] 78 6 {ps:=[(true,hV)],rs:=[(false,hI)],pre:=λa=>pLe 0 (qi 6 (arg 0 a))/\pLe (qi 6 (arg 0 a)) 4096,out:=λa=>[[.i (Hr (arg 0 a))]]} U λa=>Y (v78 (arg 0 a))
end Go.Sx
namespace Go.Sx
theorem v74 (d:List C):WD hV d->True/\Cn (AV d) (True/\Cn (Fz (ql 7 d) (qi 8 d) (qi 9 d) (ql 10 d) (qi 11 d)) (True/\Cn (decide (8000<=qi 12 d/\qi 12 d<=192000/\16<=qi 13 d/\qi 13 d<=8192)) (True/\Cn (AY (ql 14 d)) (Cn (bLe 0 (qi 16 d)) (Cn (bLe (qi 16 d) 1099511627776) (True/\Cn (Ci (Cb d)) (True/\(InR .i64 ↑(ql 10 d).length->Cn (bEq (qi 22 d) ↑(ql 10 d).length) (True/\(InR .i64 (Df d)/\InR .i64 (CV d)->bAnd (bEq (qi 23 d) (Df d)) (bEq (qi 24 d) (CV d))=Bj d)) (false=Bj d))) (false=Bj d)) (false=Bj d)) (false=Bj d)) (false=Bj d)) (false=Bj d)) (false=Bj d)) (false=Bj d):=by
 intro hw;have e:Bj d=((AV d&&(Fz (ql 7 d) (qi 8 d) (qi 9 d) (ql 10 d) (qi 11 d)&&(LK d&&AY (ql 14 d))))&&(decide (0<=qi 16 d/\qi 16 d<=1099511627776)&&(Ci (Cb d)&&decide (qi 22 d=((ql 10 d).length:Int)/\qi 23 d=Df d/\qi 24 d=CV d)))):=rfl;have ed:LK d=decide (8000<=qi 12 d/\qi 12 d<=192000/\16<=qi 13 d/\qi 13 d<=8192):=rfl;simp only[D,E];rw[e]
 cases AV d
 · simp
 cases Fz (ql 7 d) (qi 8 d) (qi 9 d) (ql 10 d) (qi 11 d)
 · simp
 cases hs:LK d
 · have hs:=of_decide_eq_false (ed.symm.trans hs);simp[hs]
 have hs:=of_decide_eq_true (ed.symm.trans hs)
 cases AY (ql 14 d)
 · simp[hs]
 cases Ci (Cb d)
 · simp[hs]
 simp only[Bool.true_and,E]
 repeat' (first|apply And.intro|intro _)
 all_goals (first|contradiction|omega|(simp only[←Bool.decide_and,decide_eq_decide]; omega)|(symm; simp only[←Bool.decide_and,decide_eq_false_iff_not]; omega))
def r74:Cr PR:=K0 [r127,r128,r129,r130,r131,r132,r76] 74 6 {ps:=[(true,hV)],rs:=[(false,[.bool])],pre:=λ_=>True,out:=λa=>[[.b (Bj (arg 0 a))]]} U λa=>Y (v74 (arg 0 a))
end Go.Sx
namespace Go.Sx
theorem v89 (d:List C):WD hV d->True/\(InR .i64 (Au (qi 9 d) (qi 12 d) (qi 9 d))/\InR .i64 (Au (qi 9 d) (qi 12 d) (qi 12 d))/\InR .i64 (BX (qi 9 d) (qi 12 d))->Au (qi 9 d) (qi 12 d) (qi 9 d)=BJ d/\Au (qi 9 d) (qi 12 d) (qi 12 d)=BL d/\Sm (BX (qi 9 d) (qi 12 d))):=by
 intro hw;exact⟨trivial,λ_=>⟨rfl,rfl,Aas.2 trivial⟩⟩
def r89:Cr PR:=K0 [r100] 89 6 {ps:=[(true,hV)],rs:=[(true,hII),(false,hI)],pre:=λ_=>True,out:=λa=>[[.i (BJ (arg 0 a)),.i (BL (arg 0 a))],[.i (BX (qi 9 (arg 0 a)) (qi 12 (arg 0 a)))]]} U λa=>Y (v89 (arg 0 a))
end Go.Sx
namespace Go.Sx
theorem v48 (d:List C):WD hV d->True/\(InR .i64 (BJ d)/\InR .i64 (BL d)/\InR .i64 (BX (qi 9 d) (qi 12 d))->Cn (bEq (qi 2 d) 1) (True/\(InR .i64 (DW (BJ d) (BL d) (BL d))/\InR .i64 (DW (BJ d) (BL d) (BJ d))/\InR .i64 (L6 (BJ d) (BL d))->DW (BJ d) (BL d) (BL d)=Df d/\DW (BJ d) (BL d) (BJ d)=CV d)) (BJ d=Df d/\BL d=CV d)):=by
 intro hw;simp only[D,E];exact λ_=>⟨λh _=>⟨(if_pos h).symm,(if_pos h).symm⟩,λh=>⟨(if_neg h).symm,(if_neg h).symm⟩⟩
def r48:Cr PR:=K0 [r89,r99] 48 6 {ps:=[(true,hV)],rs:=[(true,hII)],pre:=λ_=>True,out:=λa=>[[.i (Df (arg 0 a)),.i (CV (arg 0 a))]]} U λa=>Y (v48 (arg 0 a))
end Go.Sx
namespace Go.Sx
theorem v46 (d:List C):WD hV d->pLe 0 (qi 6 d)/\pLe (qi 6 d) 4096/\(qi 2 d=1∨qi 2 d=2)->Cn (bEq (qi 2 d) 2) (InR .i64 (iAdd (qi 6 d) 1)/\iAdd (qi 6 d) 1=Hr d) (True/\(InR .i64 (Df d)/\InR .i64 (CV d)->True/\(InR .i64 (BQ (qi 6 d) (Df d) (CV d))/\InR .i64 (CP (qi 6 d) (Df d) (CV d))->InR .i64 (iAdd (BQ (qi 6 d) (Df d) (CV d)) 1)/\iAdd (BQ (qi 6 d) (Df d) (CV d)) 1=Hr d))):=by
 intro hw hp;simp only[D,E]at hp ⊢;have b:=UQ (qi 6 d) (Df d) (CV d);exact⟨λh=>⟨by simp only[InR]; omega,(if_neg (by omega)).symm⟩,λh _ _=>⟨by simp only[InR]; omega,(if_pos (by omega)).symm⟩⟩
def r46:Cr PR:=K [r48,r96] 46 6 {ps:=[(true,hV)],rs:=[(false,hI)],pre:=λa=>pLe 0 (qi 6 (arg 0 a))/\pLe (qi 6 (arg 0 a)) 4096/\(qi 2 (arg 0 a)=1∨qi 2 (arg 0 a)=2),out:=λa=>[[.i (Hr (arg 0 a))]]} U λa=>Y (v46 (arg 0 a))
end Go.Sx
namespace Go.Sx
theorem v30 (d:List C):WD hV d->True/\Cn (AV d) (True/\Cn (Fz (ql 7 d) (qi 8 d) (qi 9 d) (ql 10 d) (qi 11 d)) (Cn (bLe 8000 (qi 12 d)) (Cn (bLe (qi 12 d) 192000) (Cn (bLe 16 (qi 13 d)) (Cn (bLe (qi 13 d) 8192) (True/\Cn (AY (ql 14 d)) (Cn (bLe 0 (qi 16 d)) (Cn (bLe (qi 16 d) 1099511627776) (True/\Cn (Ci (Cb d)) (pLe (iLen (ql 10 d)) 9223372036854775807->Cn (bEq (qi 22 d) (iLen (ql 10 d))) (True/\(InR .i64 (Df d)/\InR .i64 (CV d)->bAnd (bEq (qi 23 d) (Df d)) (bEq (qi 24 d) (CV d))=Bj d)) (false=Bj d)) (false=Bj d)) (false=Bj d)) (false=Bj d)) (false=Bj d)) (false=Bj d)) (false=Bj d)) (false=Bj d)) (false=Bj d)) (false=Bj d)) (false=Bj d):=by
 intro hw;have e:Bj d=((AV d&&(Fz (ql 7 d) (qi 8 d) (qi 9 d) (ql 10 d) (qi 11 d)&&(LK d&&AY (ql 14 d))))&&(decide (0<=qi 16 d/\qi 16 d<=1099511627776)&&(Ci (Cb d)&&decide (qi 22 d=((ql 10 d).length:Int)/\qi 23 d=Df d/\qi 24 d=CV d)))):=rfl;have ed:LK d=decide (8000<=qi 12 d/\qi 12 d<=192000/\16<=qi 13 d/\qi 13 d<=8192):=rfl;simp only[D,E];rw[e]
 cases AV d
 · simp
 cases Fz (ql 7 d) (qi 8 d) (qi 9 d) (ql 10 d) (qi 11 d)
 · simp
 cases hs:LK d
 · have hs:=of_decide_eq_false (ed.symm.trans hs);simp only[Bool.false_and,Bool.and_false,E]; repeat' (first|apply And.intro|intro _)
   all_goals (first|trivial|contradiction|omega)
 have hs:=of_decide_eq_true (ed.symm.trans hs)
 cases AY (ql 14 d)
 · simp[hs]
 cases Ci (Cb d)
 · simp[hs]
 simp only[Bool.true_and,E]
 repeat' (first|apply And.intro|intro _)
 all_goals (first|contradiction|omega|(simp only[←Bool.decide_and,decide_eq_decide]; omega)|(symm; simp only[←Bool.decide_and,decide_eq_false_iff_not]; omega))
def r30:Cr PR:=K0 [r41,r43,r42,r72,r48] 30 6 {ps:=[(true,hV)],rs:=[(false,[.bool])],pre:=λ_=>True,out:=λa=>[[.b (Bj (arg 0 a))]]} U λa=>Y (v30 (arg 0 a))
end Go.Sx

set_option linter.unusedVariables false
set_option linter.unusedSimpArgs false
set_option maxRecDepth 100000
set_option maxHeartbeats 4000000
namespace Go
open Go.Sx
abbrev Dv (x:List C):Prop:=([C.i 0,C.s (ByteArray.mk (Array.mk [])),C.i 0,C.i 0,C.i 0,C.i 0,C.i 0,C.l [],C.i 0,C.i 0,C.l [],C.i 0,C.i 0,C.i 0,C.l [],C.b false,C.i 0,C.i 0,C.i 0,C.i 0,C.i 0,C.i 0,C.i 0,C.i 0,C.i 0,C.i 0,C.i 0,C.i 0,C.l [],C.i 0,C.i 0]:List C)=sg 0 [0,2,0,0,0,0,0,3,0,0,3,0,0,0,3,1,0,0,0,0,0,0,0,0,0,0,0,0,3,0,0] x
def ZU (d:List C) (t:Int):List C:=sga 0 [0,2,0,0,0,0,0,3,0,0,3,0,0,0,3] d (.b true:: .i t::sg 17 [0,0,0,0,0,0,0,0,0,0,0,3,0,0] d)
def F6 (d:List C) (t:Int):Int:=if Bj d=false then 1 else if t<0∨1099511627776<t then 2 else if t % qi 13 d≠0 then 11 else if qb 15 d=true then 9 else 0
def IK (d:List C) (t:Int):List C:=if F6 d t=0 then ZU d t else[]
def CZ (d:List C) (a b:Int):Int:=if Bj d=false then 1 else if a<0∨1099511627776<b∨b<a then 2 else if qb 15 d=true/\max a (qi 16 d)<b/\65536<H6 (ql 14 d) (max a (qi 16 d)) b then 3 else 0
def A8 (d:List C) (a b:Int):Int:=if CZ d a b=0/\qb 15 d=true/\max a (qi 16 d)<b then H6 (ql 14 d) (max a (qi 16 d)) b else 0
end Go
namespace Go
open Go.Sx
theorem Pn {d:List C} (h:Bj d=true):(AV d=true/\Fz (ql 7 d) (qi 8 d) (qi 9 d) (ql 10 d) (qi 11 d)=true/\(8000<=qi 12 d/\qi 12 d<=192000/\16<=qi 13 d/\qi 13 d<=8192)/\AY (ql 14 d)=true)/\(0<=qi 16 d/\qi 16 d<=1099511627776)/\Ci (Cb d)=true/\qi 22 d=((ql 10 d).length:Int)/\qi 23 d=Df d/\qi 24 d=CV d:=by
 simpa only[Bj,LK,Bool.and_eq_true,decide_eq_true_eq]using h
theorem Xy {d:List C} (h:Bj d=true):16<=qi 13 d/\qi 13 d<=8192:=by have:=(Pn h).1.2.2.1; omega
theorem XC {xs:List (List C)} (h:DF xs=true):xs.length<=64:=by
 unfold DF at h; rw[Bool.and_eq_true,decide_eq_true_eq]at h; exact h.2
theorem UX {xs:List (List C)} {lo hi:Int} (h:BZ xs lo hi=true):xs.length<=64:=by
 unfold BZ at h; rw[Bool.and_eq_true,Bool.and_eq_true]at h; exact XC h.2.1
theorem SE {h:List (List C)->List C->Bool}:∀ {xs p:List (List C)},GX h p xs=true->∀x∈xs,∃q,h q x=true
 |[],_,_,x,hx=>by cases hx
 |y::r,p,e,x,hx=>by
  simp only[GX,Bool.and_eq_true]at e;rcases List.mem_cons.1 hx with rfl|hx
  · exact⟨p,e.1⟩
  · exact SE e.2 x hx
theorem YC {x:List C} (h:Ba x=true):V7 x=true:=by
 unfold Ba at h;simp only[Bool.and_eq_true,decide_eq_true_eq]at h;have a:=UX h.2.1;have b:=UX h.2.2.1;unfold V7;rw[Bool.and_eq_true,decide_eq_true_eq];refine⟨by omega,List.all_eq_true.2 λm hm=> ?_⟩;obtain⟨q,hq⟩:=SE h.2.2.2.1 m hm;unfold EM BO at hq;simp only[Bool.and_eq_true,decide_eq_true_eq]at hq;unfold XT; rw[decide_eq_true_eq]; omega
end Go
namespace Go.Sx
theorem v54 (d:List C) (t:Int):WD hV d/\InR .i64 t->True/\True/\Cn (bNot (Bj d)) (Dv (IK d t)/\1=F6 d t) (Cn (bLt t 0) (Dv (IK d t)/\2=F6 d t) (Cn (bLt 1099511627776 t) (Dv (IK d t)/\2=F6 d t) (pNe (qi 13 d) 0/\Cn (bNe (iRem t (qi 13 d)) 0) (Dv (IK d t)/\11=F6 d t) (Cn (qb 15 d) (Dv (IK d t)/\9=F6 d t) (sga 0 [0,2,0,0,0,0,0,3,0,0,3,0,0,0,3] d (C.b true::C.i t::sg 17 [0,0,0,0,0,0,0,0,0,0,0,3,0,0] d)=sg 0 [0,2,0,0,0,0,0,3,0,0,3,0,0,0,3,1,0,0,0,0,0,0,0,0,0,0,0,0,3,0,0] (IK d t)/\0=F6 d t))))):=by
 intro hw;have no:∀ {x:Int},x≠0->F6 d t=x->Dv (IK d t)/\x=F6 d t:=λh h1=>⟨by unfold IK; rw[if_neg (by omega)]; rfl,h1.symm⟩
 simp only[D,E];refine⟨λh=>no (by omega) (if_pos h),λh=>⟨λh1=>no (by omega) (by unfold F6; rw[if_neg (by simp[h]),if_pos (.inl h1)]),λh1=>⟨λh2=>no (by omega) (by unfold F6; rw[if_neg (by simp[h]),if_pos (.inr h2)]),λh2=> ?_⟩⟩⟩;have p:=Xy h;have e3:F6 d t=if t % qi 13 d≠0 then 11 else if qb 15 d=true then 9 else 0:=by unfold F6; rw[if_neg (by simp[h]),if_neg (by omega)]
 rw[Int.tmod_eq_emod_of_nonneg (by omega)];refine⟨by omega,λh3=>no (by omega) (by rw[e3,if_pos h3]),λh3=>⟨λh4=>no (by omega) (by rw[e3,if_neg (by omega),if_pos h4]),λh4=> ?_⟩⟩;have e0:F6 d t=0:=by rw[e3,if_neg (by omega),if_neg (by simp[h4])]
 exact⟨by unfold IK; rw[if_pos e0]; rfl,e0.symm⟩
def r54:Cr PR:=K0 [r30] 54 6 {ps:=[(true,hV),(false,hI)],rs:=[(true,hV),(false,hI)],pre:=λ_=>True,out:=λa=>[rb [0,2,0,0,0,0,0,3,0,0,3,0,0,0,3,1,0,0,0,0,0,0,0,0,0,0,0,0,3,0,0] (IK (arg 0 a) (I a 1 0)),[.i (F6 (arg 0 a) (I a 1 0))]]} U λa=>Y (v54 (arg 0 a) (I a 1 0))
end Go.Sx
namespace Go.Sx
theorem v9 (d:List C) (a:Int) (b:Int):WD hV d/\InR .i64 a/\InR .i64 b->True/\True/\Cn (bNot (Bj d)) (0=A8 d a b/\1=CZ d a b) (Cn (bLt a 0) (0=A8 d a b/\2=CZ d a b) (Cn (bLt 1099511627776 b) (0=A8 d a b/\2=CZ d a b) (Cn (bLt b a) (0=A8 d a b/\2=CZ d a b) (True/\Cn (bNot (qb 15 d)) (0=A8 d a b/\0=CZ d a b) (Cn (bLe b (qi 16 d)) (0=A8 d a b/\0=CZ d a b) (True/\(InR .i64 (H6 (ql 14 d) (iMax a (qi 16 d)) b)/\InR .i64 (N9 (ql 14 d) (iMax a (qi 16 d)) b)->Cn (bLt 65536 (H6 (ql 14 d) (iMax a (qi 16 d)) b)) (0=A8 d a b/\3=CZ d a b) (H6 (ql 14 d) (iMax a (qi 16 d)) b=A8 d a b/\0=CZ d a b)))))))):=by
 intro hw;have z:∀ {x:Int},x≠0->CZ d a b=x->0=A8 d a b/\x=CZ d a b:=λh h1=>⟨(if_neg (by omega)).symm,h1.symm⟩
 simp only[D,E];refine⟨λh=>z (by omega) (if_pos h),λh=>⟨λh1=>z (by omega) (by unfold CZ; rw[if_neg (by simp[h]),if_pos (by omega)]),λh1=>⟨λh2=>z (by omega) (by unfold CZ; rw[if_neg (by simp[h]),if_pos (by omega)]),λh2=>⟨λh3=>z (by omega) (by unfold CZ; rw[if_neg (by simp[h]),if_pos (by omega)]),λh3=> ?_⟩⟩⟩⟩;have e:CZ d a b=if qb 15 d=true/\max a (qi 16 d)<b/\65536<H6 (ql 14 d) (max a (qi 16 d)) b then 3 else 0:=by unfold CZ; rw[if_neg (by simp[h]),if_neg (by omega)]
 have n:¬(qb 15 d=true/\max a (qi 16 d)<b)->0=A8 d a b/\0=CZ d a b:=λg=>⟨(if_neg λk=>g k.2).symm,by rw[e,if_neg λk=>g ⟨k.1,k.2.1⟩]⟩
 have y:qb 15 d=true->max a (qi 16 d)<b->(65536<H6 (ql 14 d) (max a (qi 16 d)) b->0=A8 d a b/\3=CZ d a b)/\(¬65536<H6 (ql 14 d) (max a (qi 16 d)) b->H6 (ql 14 d) (max a (qi 16 d)) b=A8 d a b/\0=CZ d a b):=λg1 g2=>by
  refine⟨λg=>z (by omega) (by rw[e,if_pos ⟨g1,g2,g⟩]),λg=> ?_⟩;have e0:CZ d a b=0:=by rw[e,if_neg λk=>g k.2.2]
  exact⟨(if_pos ⟨e0,g1,g2⟩).symm,e0.symm⟩
 refine⟨λh4=>n (by simp[h4]),λh4=>⟨λh5=>n (by omega),λh5 _=> ?_⟩⟩;by_cases hm:max a (qi 16 d)<b
 · exact y h4 hm
 have hb:max a (qi 16 d)=b:=by omega
 have t0:H6 (ql 14 d) b b=0:=by unfold H6; split<;>omega
 rw[hb,t0];exact⟨λh=>by omega,λ_=>n (by omega)⟩
def r9:Cr PR:=K0 [r30,r31] 9 6 {ps:=[(true,hV),(false,hI),(false,hI)],rs:=[(false,hI),(false,hI)],pre:=λ_=>True,out:=λa=>[[.i (A8 (arg 0 a) (I a 1 0) (I a 2 0))],[.i (CZ (arg 0 a) (I a 1 0) (I a 2 0))]]} U λa=>Y (v9 (arg 0 a) (I a 1 0) (I a 2 0))
end Go.Sx

set_option linter.unusedVariables false
set_option linter.unusedSimpArgs false
set_option maxRecDepth 100000
set_option maxHeartbeats 4000000
namespace Go
open Go.Sx
def Gq (d:List C) (k ch:Int) (da:List (List C)) (a b:Int):Int:=if Bj d=false∨AQ ch da=false∨qi 2 d≠k then 1 else if ch≠((ql 10 d).length:Int)then 11 else CZ d a b
def OC (d:List C) (k ch:Int) (da:List (List C)) (a b:Int):Int:=if Gq d k ch da a b=0 then A8 d a b else 0
def Sr (d g:List C):List C:=sga 0 [0,2,0,0,0,0,0,3,0,0,3,0,0,0,3,1,0] d (sg 0 [0,0,0,0,0,0,0,0,0,0,0,3,0,0] g)
def LY (d:List C) (ch:Int) (da:List (List C)):List C:=Dz (Cb d) ch da
def GL (d:List C) (ch:Int) (da:List (List C)) (n:Int):Int:=if FW (Cb d) ch da≠0 then FW (Cb d) ch da else Ew (LY d ch da) n
def OH (d:List C) (ch:Int) (da:List (List C)) (n:Int):Int:=if GL d ch da n=0 then Jv (LY d ch da) n else 0
def Oa (d:List C) (ch:Int) (da:List (List C)) (n:Int):List (List C):=if GL d ch da n=0 then Jj (LY d ch da) n else[]
def Ov (d:List C) (ch:Int) (da:List (List C)) (n:Int):Int:=if GL d ch da n=0 then Jp (Cb d) ch da else 0
def OE (d:List C) (ch:Int) (da:List (List C)) (n:Int):Int:=if GL d ch da n=0 then Jd (LY d ch da) n else 0
def Yr (d:List C) (ch:Int) (da:List (List C)) (n:Int):List C:=if GL d ch da n=0 then Sr (Zv d) (Ig (LY d ch da) n)else[]
end Go

set_option linter.unusedVariables false
set_option linter.unusedSimpArgs false
set_option maxRecDepth 100000
set_option maxHeartbeats 4000000
namespace Go
open Go.Sx
def JW (d:List C) (ch:Int) (da:List (List C)) (a b:Int):Int:=if Gq d 1 ch da a b≠0 then Gq d 1 ch da a b else bif qb 15 d then GL d ch da (OC d 1 ch da a b)else 0
def KG (d:List C) (ch:Int) (da:List (List C)) (a b:Int):Int:=if Gq d 1 ch da a b≠0 then 0 else bif qb 15 d then OH d ch da (OC d 1 ch da a b)else ch
def KP (d:List C) (ch:Int) (da:List (List C)) (a b:Int):List (List C):=if Gq d 1 ch da a b≠0 then[]else bif qb 15 d then Oa d ch da (OC d 1 ch da a b)else[]
def Ko (d:List C) (ch:Int) (da:List (List C)) (a b:Int):Int:=if Gq d 1 ch da a b≠0 then 0 else bif qb 15 d then Ov d ch da (OC d 1 ch da a b)else 0
def KU (d:List C) (ch:Int) (da:List (List C)) (a b:Int):Int:=if Gq d 1 ch da a b≠0 then 0 else bif qb 15 d then OE d ch da (OC d 1 ch da a b)else 0
end Go

set_option linter.unusedVariables false
set_option linter.unusedSimpArgs false
set_option maxRecDepth 100000
set_option maxHeartbeats 4000000
namespace Go
open Go.Sx
def AP (x:List C) (n r:Int) (m:List (List C)) (z:Int) (k:List (List C)) (q p:Int):List C:=sga 0 [0,2,0,0,0,0,0,3] x [.i n,.i r,.l m,.i z,.i q,.i p,.l k,.b false,.i 0,.i 0,.i 0,.i 0,.i 0,.i 0,.i 0,.i 0,.i 0,.i 0,.i 0,.i 0,.l [],.i 0,.i 0]
def Ie (d:List C):Int:=BQ 1 (Dl d) (Cf d)
def IC (d:List C):Int:=BI (Dl d) (Cf d) (qi 5 d) (Hr d) (iQuo (Ie d) 4) 16
def Tm (d:List C):Int:=IC d+BP (Dl d) (Cf d) (qi 5 d) (Hr d) (iQuo (Ie d) 4) 16
def JQ (d:List C) (v:Int):Int:=BD (Dl d) (Cf d) (qi 5 d) (Hr d) (iQuo (Ie d) 4) 16 v
def QZ (d:List C):Int:=Ep (Dl d) (Cf d) (qi 5 d) (Hr d) (iQuo (Ie d) 4) 16
def UV (d:List C):Int:=Gw ((ql 10 d).length:Int) (Df d) (CV d) (JQ d (IC d)) (JQ d (iQuo (Ie d) 4)) (JQ d 16) (JQ d (AZ (qi 5 d))) (JQ d (Tm d)) (iMax 0 (iSub (JQ d (IC d)) (Ie d)))
def V3 (d:List C):List C:=JL ((ql 10 d).length:Int) (Df d) (CV d) (JQ d (IC d)) (JQ d (iQuo (Ie d) 4)) (JQ d 16) (JQ d (AZ (qi 5 d))) (JQ d (Tm d)) (iMax 0 (iSub (JQ d (IC d)) (Ie d)))
def ZY (d:List C):Int:=if AV d=false∨AY (ql 14 d)=false∨LK d=false then 1 else if Fz (ql 7 d) (qi 8 d) (qi 9 d) (ql 10 d) (qi 11 d)=false then 7 else if BJ d*64<BL d∨BL d*64<BJ d then 11 else if QZ d≠0 then QZ d else UV d
def Gz (x:List C) (n r:Int) (m:List (List C)) (z:Int) (k:List (List C)) (q p:Int):Int:=ZY (AP x n r m z k q p)
def IL (x:List C) (n r:Int) (m:List (List C)) (z:Int) (k:List (List C)) (q p:Int):List C:=if Gz x n r m z k q p=0 then Sr (AP x n r m z k q p) (V3 (AP x n r m z k q p))else[]
end Go
namespace Go
open Go.Sx
theorem V9:∀(r:List (List C)) (y:List C),JF EQ IV (some y) r=true->EQ y=true->∀x∈y::r,qi 0 y<=qi 0 x/\qi 1 x<=qi 1 ((y::r).getD r.length [])/\qi 0 x<=qi 1 x
 |[],y,_,hy,x,hx=>by
  have e:=List.mem_singleton.1 hx;subst e;have h:=of_decide_eq_true hy;exact⟨Int.le_refl _,Int.le_refl _,h.2.1⟩
 |z::r,y,h,hy,x,hx=>by
  simp only[JF,Bool.and_eq_true]at h;have a:=V9 r z h.2 h.1.1;have g:=of_decide_eq_true h.1.2;have fy:=of_decide_eq_true hy;have az:=a z List.mem_cons_self;rw[List.length_cons,List.getD_cons_succ];rcases List.mem_cons.1 hx with rfl|hx
  · exact⟨Int.le_refl _,by omega,by omega⟩
  · have ax:=a x hx;exact⟨by omega,by omega,by omega⟩
theorem YB {xs:List (List C)} {lo hi n:Int} (h:BZ xs lo hi=true) (hn:EZ xs n=true):lo<=n/\n<=hi:=by
 unfold BZ at h;simp only[Bool.and_eq_true,decide_eq_true_eq]at h;obtain⟨_,hv,h1,h2⟩:=h;unfold EZ AA at hn;rw[hv,cond_true,List.any_eq_true]at hn;obtain⟨x,hx,hi⟩:=hn;have hi:=of_decide_eq_true hi;unfold DF at hv;rw[Bool.and_eq_true]at hv
 cases xs with
 |nil=>cases hx
 |cons y r=>
  have c:=hv.1
  simp only[JF,Bool.and_eq_true]at c
  have b:=V9 r y c.2 c.1.1 x hx
  have e:rGet (y::r) (((y::r).length:Int)-1)=(y::r).getD r.length []:=by
   unfold rGet; rw[show(((y::r).length:Int)-1).toNat=r.length by simp]
  rw[e]at h2
  have h1:lo<=qi 0 y:=h1
  omega
theorem Vx {l:List (List C)} {k r z:Int} {m:List (List C)} (h:Fz l k r m z=true):1000<=r/\r<=768000:=by
 unfold Fz AL at h;rw[List.any_eq_true]at h;obtain⟨x,hx,hi⟩:=h
 cases hv:DZ l
 · rw[hv]at hx; cases hx
 rw[hv]at hx;unfold DZ at hv;rw[Bool.and_eq_true]at hv;have hb:=List.all_eq_true.1 hv.2 x hx;unfold Ba at hb;simp only[Bool.and_eq_true]at hb;have hi':((Hq (qi 0 x) k&&EZ (ql 1 x) r)&&Fe (ql 2 x) m&&EZ (ql 3 x) z)=true:=hi;simp only[Bool.and_eq_true]at hi';exact YB hb.2.1 hi'.1.1.2
end Go
namespace Go
open Go.Sx
theorem Td {d:List C} (h:AV d=true):((qi 2 d=1∨qi 2 d=2)/\0<=qi 3 d/\qi 3 d<=65535/\0<=qi 4 d/\qi 4 d<=1048576/\0<=qi 5 d/\qi 5 d<=2048/\0<=qi 6 d/\qi 6 d<=4096/\1<=(ql 7 d).length/\(ql 7 d).length<=8)/\∀x∈ql 7 d,V7 x=true:=by
 unfold AV DZ at h;simp only[Bool.and_eq_true,decide_eq_true_eq]at h;exact⟨h.2.1,λx hx=>YC (List.all_eq_true.1 h.2.2.2 x hx)⟩
end Go

set_option linter.unusedVariables false
set_option linter.unusedSimpArgs false
set_option maxRecDepth 100000
set_option maxHeartbeats 4000000
namespace Go
open Go.Sx
def Eu (d:List C) (ch:Int) (da:List (List C)) (n a b:Int):Int:=if Gq d 2 ch da a b≠0 then Gq d 2 ch da a b else if qb 15 d=true/\iQuo (iLen da) ch≠OC d 2 ch da a b then 4 else if n<0∨65536<n then 2 else bif qb 15 d then GL d ch da n else 0
def Jn (d:List C) (ch:Int) (da:List (List C)) (n a b:Int):Int:=if Eu d ch da n a b≠0 then 0 else bif qb 15 d then OH d ch da n else JE ch n
def Jl (d:List C) (ch:Int) (da:List (List C)) (n a b:Int):List (List C):=if Eu d ch da n a b≠0 then[]else bif qb 15 d then Oa d ch da n else EI ch n
def Jr (d:List C) (ch:Int) (da:List (List C)) (n a b:Int):Int:=if Eu d ch da n a b≠0 then 0 else bif qb 15 d then Ov d ch da n else 0
def Jw (d:List C) (ch:Int) (da:List (List C)) (n a b:Int):Int:=if Eu d ch da n a b≠0 then 0 else bif qb 15 d then OE d ch da n else 0
end Go
namespace Go
open Go.Sx
theorem ZF {d:List C} {k ch:Int} {da:List (List C)} {a b:Int} (h:Gq d k ch da a b=0):Bj d=true/\AQ ch da=true/\qi 2 d=k/\ch=((ql 10 d).length:Int)/\CZ d a b=0/\1<=ch/\ch<=8/\(da.length:Int) % ch=0/\(da.length:Int)/ch<=65536:=by
 unfold Gq at h;split at h
 · omega
 rename_i g;split at h
 · omega
 rename_i g1;have g2:Bj d=true/\AQ ch da=true/\qi 2 d=k:=by
  refine⟨?_,?_,Classical.byContradiction λx=>g (.inr (.inr x))⟩
  · cases hv:Bj d
    · exact(g (.inl hv)).elim
    · rfl
  · cases hv:AQ ch da
    · exact(g (.inr (.inl hv))).elim
    · rfl
 have g3:=g2.2.1;unfold AQ PI at g3;simp only[Bool.and_eq_true,decide_eq_true_eq]at g3;exact⟨g2.1,g2.2.1,g2.2.2,by omega,h,by omega⟩
end Go
namespace Go.Sx
theorem F:(∀p:Prop,(False->p)=True)/\((false=true)=False)/\((true=false)=False)/\(∀ {α:Type} (x:α),(x=x)=True)/\((¬True)=False)/\((¬False)=True)/\(∀p:Prop,(p->True)=True)/\(∀ {α:Type} (x:α),(x≠x)=False)/\(∀p:Prop,(False/\p)=False)/\(∀p:Prop,(p/\False)=False)/\(¬(1:Int)=0)/\(¬(0:Int)=1)/\(∀p:Prop,(True∨p)=True)/\(∀p:Prop,(False∨p)=p)/\(∀p:Prop,(p∨False)=p):=
 ⟨λ_=>by simp,by simp,by simp,λ_=>by simp,by simp,by simp,λ_=>by simp,λ_=>by simp,λ_=>by simp,λ_=>by simp,by omega,by omega,λ_=>by simp,λ_=>by simp,λ_=>by simp⟩
end Go.Sx
namespace Go
open Go.Sx
end Go
namespace Go
open Go.Sx
end Go
namespace Go
open Go.Sx
theorem Vj {a b:Int} (h:Ai a b=true):Ai b a=true:=by
 have r:=DU h;have:Ag b a=Ag a b:=by unfold Ag; rw[Int.gcd_comm]
 unfold Ai;rw[this];simp only[decide_eq_true_eq]; omega
theorem Pz {a b:Int}:a/Ag a b*Ag a b=a/\b/Ag a b*Ag a b=b:=
 ⟨Int.ediv_mul_cancel (Int.gcd_dvd_left ..),Int.ediv_mul_cancel (Int.gcd_dvd_right ..)⟩
theorem Xm (a b c d:Int):EH a b c d*(Ag a d*Ag c b)=a*c/\EJ a b c d*(Ag a d*Ag c b)=b*d:=by
 have e1:=Pz (a:=a) (b:=d);have e2:=Pz (a:=c) (b:=b);unfold EH EJ;constructor
 · rw[show a/Ag a d*(c/Ag c b)*(Ag a d*Ag c b)=(a/Ag a d*Ag a d)*(c/Ag c b*Ag c b) by ac_rfl,e1.1,e2.1]
 · rw[show b/Ag c b*(d/Ag a d)*(Ag a d*Ag c b)=(b/Ag c b*Ag c b)*(d/Ag a d*Ag a d) by ac_rfl,e2.2,e1.2]
theorem Rq {a b:Int} (h1:1<=a) (h2:a<=68719476736) (h3:1<=b) (h4:b<=68719476736):BX a b=0/\Ai (Au a b a) (Au a b b)=true/\Au a b a*Ag a b=a/\Au a b b*Ag a b=b/\1<=Ag a b/\1<=Au a b a/\Au a b a<=a/\1<=Au a b b/\Au a b b<=b:=by
 have e:=Zn h1 h2 h3 h4;have g:=Na (a:=a) (b:=b) h1 h3;have v:∀v,Au a b v=v/Ag a b:=λv=>if_pos e;have d:=Pz (a:=a) (b:=b);have p:=JP (a:=a) (b:=b) h1;rw[v,v];refine⟨e,?_,d.1,d.2,p.1,g⟩;unfold Ai;rw[UF h1,decide_eq_true_eq];omega
theorem YV {a b c d:Int} (h:Ai a b=true) (h':Ai c d=true) (e:a*d=c*b):a=c/\b=d:=by
 have r:=DU h;have s:=DU h';have c1:Nat.Coprime a.natAbs b.natAbs:=by have:=r.2.2.2.2; unfold Ag Int.gcd at this; show Nat.gcd _ _=1; omega
 have c2:Nat.Coprime c.natAbs d.natAbs:=by have:=s.2.2.2.2; unfold Ag Int.gcd at this; show Nat.gcd _ _=1; omega
 have en:a.natAbs*d.natAbs=c.natAbs*b.natAbs:=by rw[←Int.natAbs_mul,←Int.natAbs_mul,e]
 have d1:a ∣ c:=Int.natAbs_dvd_natAbs.1 (c1.dvd_of_dvd_mul_right ⟨d.natAbs,en.symm⟩);have d2:c ∣ a:=Int.natAbs_dvd_natAbs.1 (c2.dvd_of_dvd_mul_right ⟨b.natAbs,en⟩);have e1:a=c:=Int.le_antisymm (Int.le_of_dvd (by omega) d1) (Int.le_of_dvd (by omega) d2);subst e1;exact⟨rfl,(Int.eq_of_mul_eq_mul_left (by omega) e).symm⟩
theorem Yq {p r R:Int} (h0:1<=p) (h1:1<=r) (h2:p*r<=68719476736) (h3:1<=R) (h4:R<=68719476736):Ef p 1 (Au r R r) (Au r R R) (EH p 1 (Au r R r) (Au r R R))=Au (p*r) R (p*r)/\Ef p 1 (Au r R r) (Au r R R) (EJ p 1 (Au r R r) (Au r R R))=Au (p*r) R R/\FV p 1 (Au r R r) (Au r R R)=0:=by
 have hp:p<=p*r:=by have:=Int.mul_le_mul_of_nonneg_left h1 (show 0<=p by omega); omega
 have hr:r<=p*r:=by have:=Int.mul_le_mul_of_nonneg_right h0 (show 0<=r by omega); omega
 obtain⟨e1,v1,g1,g2,g3,b1,b2,b3,b4⟩:=Rq (a:=r) (b:=R) h1 (by omega) h3 h4;obtain⟨e2,v2,k1,k2,k3,c1,c2,c3,c4⟩:=Rq (a:=p*r) (b:=R) (by omega) h2 h3 h4;have m:=Xm p 1 (Au r R r) (Au r R R);have vp:Ai p 1=true:=by
  unfold Ai Ag;rw[Int.gcd_one,decide_eq_true_eq]; omega
 have bd:=Ux vp v1;generalize Au r R r=n at*;generalize Au r R R=d at*;generalize Au (p*r) R (p*r)=n' at*;generalize Au (p*r) R R=d' at*;have gx:1<=Ag p d:=by have:=JP (a:=p) (b:=d) h0; omega
 have gy:1<=Ag n 1:=by have:=JP (a:=n) (b:=1) b1; omega
 have hx:1<=EH p 1 n d/\EH p 1 n d<=68719476736:=by
  unfold EH;have a1:=bd.1; have a2:=bd.2.2.1;have q1:p/Ag p d<=p:=Int.ediv_le_self _ (by omega);have q2:n/Ag n 1<=r:=Int.le_trans (Int.ediv_le_self _ (by omega)) b2;have q3:=Int.mul_le_mul q1 q2 (by omega) (by omega);have q4:=Int.mul_le_mul a1 a2 (by omega) (by omega);omega
 have hy:1<=EJ p 1 n d/\EJ p 1 n d<=68719476736:=by
  unfold EJ;have a1:=bd.2.2.2.2.1; have a2:=bd.2.2.2.2.2.2.1;have q1:1/Ag n 1<=1:=Int.ediv_le_self _ (by omega);have q2:=bd.2.2.2.2.2.2.2;have q3:=Int.mul_le_mul q1 q2 (by omega) (by omega);have q4:=Int.mul_le_mul a1 a2 (by omega) (by omega);omega
 have he:FV p 1 n d=0:=by unfold FV; rw[if_neg (by simp[vp,v1]),if_neg (by omega)]
 have vm:Ai (EH p 1 n d) (EJ p 1 n d)=true:=by
  have h1:Nat.Coprime (n.natAbs) (d.natAbs):=by have:=(DU v1).2.2.2.2; unfold Ag Int.gcd at this; show Nat.gcd _ _=1; omega
  have n1:Ag n 1=1:=by unfold Ag; rw[Int.gcd_one]; rfl
  have o1:=UF (a:=p) (b:=d) h0;unfold Ai;rw[decide_eq_true_eq];refine⟨hx.1,hy.1,hx.2,hy.2,?_⟩;unfold EH EJ;rw[n1,Int.ediv_one,Int.ediv_one,Int.one_mul];have o2:Nat.Coprime (p/Ag p d).natAbs (d/Ag p d).natAbs:=by unfold Ag Int.gcd at o1; show Nat.gcd _ _=1; unfold Ag Int.gcd; omega
  have o3:Nat.Coprime n.natAbs (d/Ag p d).natAbs:=Nat.Coprime.coprime_dvd_right (Int.natAbs_dvd_natAbs.2 ⟨Ag p d,Pz.2.symm⟩) h1;have o4:=Nat.Coprime.mul_left o2 o3;rw[←Int.natAbs_mul]at o4;unfold Nat.Coprime at o4;show((Nat.gcd _ _:Nat):Int)=1;rw[o4]; rfl
 have cr:EH p 1 n d*d'=n'*EJ p 1 n d:=by
  have gp:0<Ag p d*Ag n 1*Ag (p*r) R:=Int.mul_pos (Int.mul_pos (by omega) (by omega)) (by omega);refine Int.eq_of_mul_eq_mul_right (by omega:Ag p d*Ag n 1*Ag (p*r) R≠0) ?_;have x1:EH p 1 n d*d'*(Ag p d*Ag n 1*Ag (p*r) R)=(EH p 1 n d*(Ag p d*Ag n 1))*(d'*Ag (p*r) R):=by ac_rfl
  have x2:n'*EJ p 1 n d*(Ag p d*Ag n 1*Ag (p*r) R)=(n'*Ag (p*r) R)*(EJ p 1 n d*(Ag p d*Ag n 1)):=by ac_rfl
  rw[x1,x2,m.1,m.2,k1,k2,Int.one_mul];generalize Ag r R=g at*;rw[←g2,←g1]; ac_rfl
 have c:=YV vm v2 cr;unfold Ef;rw[if_pos he,if_pos he];exact⟨c.1,c.2,he⟩
end Go
namespace Go
open Go.Sx
def Q9 (d:List C):Prop:=AV d=true/\Fz (ql 7 d) (qi 8 d) (qi 9 d) (ql 10 d) (qi 11 d)=true/\(8000<=qi 12 d/\qi 12 d<=192000/\16<=qi 13 d/\qi 13 d<=8192)/\AY (ql 14 d)=true
end Go
namespace Go
open Go.Sx
theorem QV {d:List C} (h:Q9 d):(qi 2 d=1∨qi 2 d=2)/\0<=qi 4 d/\qi 4 d<=1048576/\0<=qi 5 d/\qi 5 d<=2048/\0<=qi 6 d/\qi 6 d<=4096/\1000<=qi 9 d/\qi 9 d<=768000/\8000<=qi 12 d/\qi 12 d<=192000/\16<=qi 13 d/\qi 13 d<=8192:=by
 have a:=(Td h.1).1;have r:=Vx h.2.1;have s:=h.2.2.1;omega
theorem WW {d:List C} (h:Bj d=true):(qi 2 d=1∨qi 2 d=2)/\0<=qi 4 d/\qi 4 d<=1048576/\0<=qi 5 d/\qi 5 d<=2048/\0<=qi 6 d/\qi 6 d<=4096/\1000<=qi 9 d/\qi 9 d<=768000/\8000<=qi 12 d/\qi 12 d<=192000/\16<=qi 13 d/\qi 13 d<=8192/\1<=qi 17 d/\qi 17 d<=65536:=by
 have a:=QV (Pn h).1;have g:=(Pn h).2.2.1;unfold Ci at g; simp only[Bool.and_eq_true,decide_eq_true_eq]at g;have g1:1<=qi 17 d/\qi 17 d<=65536:=⟨g.2.2.1,g.2.2.2.1⟩
 omega
theorem WS {d:List C} (h:Q9 d):BX (qi 9 d) (qi 12 d)=0/\Ai (BJ d) (BL d)=true/\BJ d*Ag (qi 9 d) (qi 12 d)=qi 9 d/\BL d*Ag (qi 9 d) (qi 12 d)=qi 12 d/\1<=Ag (qi 9 d) (qi 12 d)/\1<=BJ d/\BJ d<=qi 9 d/\1<=BL d/\BL d<=qi 12 d:=by
 have b:=QV h;exact Rq (by omega) (by omega) (by omega) (by omega)
theorem WQ {d:List C} (h:Q9 d):(1<=Dl d/\Dl d<=6291456000/\1<=Cf d/\Cf d<=192000)/\Ai (Dl d) (Cf d)=true:=by
 have b:=QV h;have m:=Aap (x:=qi 13 d) (X:=8192) (y:=qi 9 d) (Y:=768000) (by omega) (by omega) (by omega) (by omega);have m1:=Int.mul_le_mul_of_nonneg_left (show 1<=qi 9 d by omega) (show 0<=qi 13 d by omega);have k:=Rq (a:=qi 13 d*qi 9 d) (b:=qi 12 d) (by omega) (by omega) (by omega) (by omega);unfold Dl Cf;split
 · refine⟨by omega,?_⟩;unfold Ai Ag;rw[Int.gcd_one,decide_eq_true_eq]; omega
 · exact⟨by omega,k.2.1⟩
end Go
namespace Go.Sx
theorem v44 (d:List C):WD hV d->pLe 16 (qi 13 d)/\pLe (qi 13 d) 8192/\pLe 1 (qi 9 d)/\pLe (qi 9 d) 768000/\pLe 1 (qi 12 d)/\pLe (qi 12 d) 192000/\(qi 2 d=1∨qi 2 d=2)->Cn (bEq (qi 2 d) 2) (True/\(InR .i64 (BJ d)/\InR .i64 (BL d)/\InR .i64 (BX (qi 9 d) (qi 12 d))->True/\(InR .i64 (Ef (qi 13 d) 1 (BJ d) (BL d) (EH (qi 13 d) 1 (BJ d) (BL d)))/\InR .i64 (Ef (qi 13 d) 1 (BJ d) (BL d) (EJ (qi 13 d) 1 (BJ d) (BL d)))/\InR .i64 (FV (qi 13 d) 1 (BJ d) (BL d))->Ef (qi 13 d) 1 (BJ d) (BL d) (EH (qi 13 d) 1 (BJ d) (BL d))=Dl d/\Ef (qi 13 d) 1 (BJ d) (BL d) (EJ (qi 13 d) 1 (BJ d) (BL d))=Cf d))) (qi 13 d=Dl d/\1=Cf d):=by
 intro hw hp;simp only[D,E]at hp ⊢;have b:=Aap (x:=qi 13 d) (X:=8192) (y:=qi 9 d) (Y:=768000) (by omega) (by omega) (by omega) (by omega);have m:=Yq (p:=qi 13 d) (r:=qi 9 d) (R:=qi 12 d) (by omega) (by omega) (by omega) (by omega) (by omega);refine⟨λh _ _=> ?_,λh=>⟨(if_pos (by omega)).symm,(if_pos (by omega)).symm⟩⟩;unfold Dl Cf;rw[if_neg (by omega),if_neg (by omega)];exact⟨m.1,m.2.1⟩
def r44:Cr PR:=K [r89,r90] 44 6 {ps:=[(true,hV)],rs:=[(true,hII)],pre:=λa=>pLe 16 (qi 13 (arg 0 a))/\(pLe (qi 13 (arg 0 a)) 8192/\(pLe 1 (qi 9 (arg 0 a))/\(pLe (qi 9 (arg 0 a)) 768000/\(pLe 1 (qi 12 (arg 0 a))/\(pLe (qi 12 (arg 0 a)) 192000/\(qi 2 (arg 0 a)=1∨qi 2 (arg 0 a)=2)))))),out:=λa=>[[.i (Dl (arg 0 a)),.i (Cf (arg 0 a))]]} U λa=>Y (v44 (arg 0 a))
end Go.Sx

set_option linter.unusedVariables false
set_option linter.unusedSimpArgs false
set_option maxRecDepth 100000
set_option maxHeartbeats 4000000
namespace Go
open Go.Sx
def L9 (d:List C):Int:=iQuo (iSub (iAdd (Dl d) (Cf d)) 1) (Cf d)
def OX (d:List C):Int:=BI (Dl d) (Cf d) (qi 5 d) (Hr d) (iQuo (L9 d) 4) 16
def Tj (d:List C):Int:=OX d+BP (Dl d) (Cf d) (qi 5 d) (Hr d) (iQuo (L9 d) 4) 16
def Ib (d:List C) (v:Int):Int:=BD (Dl d) (Cf d) (qi 5 d) (Hr d) (iQuo (L9 d) 4) 16 v
def TU (d:List C):Int:=Ep (Dl d) (Cf d) (qi 5 d) (Hr d) (iQuo (L9 d) 4) 16
def Z7 (d:List C):Int:=Gw (iLen (ql 10 d)) (Df d) (CV d) (Ib d (OX d)) (Ib d (iQuo (L9 d) 4)) (Ib d 16) (Ib d (AZ (qi 5 d))) (Ib d (Tj d)) (iMax 0 (iSub (Ib d (OX d)) (L9 d)))
def UM (d:List C):List C:=JL (iLen (ql 10 d)) (Df d) (CV d) (Ib d (OX d)) (Ib d (iQuo (L9 d) 4)) (Ib d 16) (Ib d (AZ (qi 5 d))) (Ib d (Tj d)) (iMax 0 (iSub (Ib d (OX d)) (L9 d)))
end Go
namespace Go
open Go.Sx
theorem X9 {a b:Int} (hb:1<=b):H8 1 a b=(a+b-1)/b:=by
 unfold H8;have e1:=Int.mul_ediv_add_emod (a+b-1) b;have e2:=Int.mul_ediv_add_emod (-1*a) b;have p1:=Int.emod_nonneg (a+b-1) (show b≠0 by omega);have p2:=Int.emod_lt_of_pos (a+b-1) (show 0<b by omega);have p3:=Int.emod_nonneg (-1*a) (show b≠0 by omega);have p4:=Int.emod_lt_of_pos (-1*a) (show 0<b by omega);generalize (a+b-1)/b=x at*;generalize-1*a/b=y at*;have m:b*(x+y)=b*x+b*y:=Int.mul_add ..;by_cases h1:1<=x+y
 · have:=Int.mul_le_mul_of_nonneg_left h1 (show 0<=b by omega); omega
 · by_cases h2:x+y<=-1
   · have:=Int.mul_le_mul_of_nonneg_left h2 (show 0<=b by omega); omega
   · omega
theorem Xc {d:List C} (h:Q9 d):L9 d=Ie d/\1<=Ie d/\Ie d<=6291456000:=by
 have i:=WQ h;have r:=DU i.2;have c:DL 1 (Dl d) (Cf d)=0:=((TJ 1 (Dl d) (Cf d)).2 i.2).2 (by omega);have u:=X9 (a:=Dl d) (b:=Cf d) (by omega);have d1:1<=(Dl d+Cf d-1)/Cf d:=(Int.le_ediv_iff_mul_le (by omega)).2 (by omega);have d2:(Dl d+Cf d-1)/Cf d<Dl d+1:=Int.ediv_lt_of_lt_mul (by omega) (by
  have:=Int.mul_le_mul_of_nonneg_left (show 1<=Cf d by omega) (show 0<=Dl d by omega);have e:(Dl d+1)*Cf d=Dl d*Cf d+Cf d:=by rw[Int.add_mul,Int.one_mul]
  omega)
 have e:Ie d=(Dl d+Cf d-1)/Cf d:=by
  unfold Ie;rw[←u];exact((OL c).1 (by omega)).2
 refine⟨?_,by omega,by omega⟩;rw[e];exact Int.tdiv_eq_ediv_of_nonneg (by show 0<=Dl d+Cf d-1; omega)
theorem Z9 {d:List C} (h:L9 d=Ie d):OX d=IC d/\Tj d=Tm d/\(∀v,Ib d v=JQ d v)/\TU d=QZ d/\UM d=V3 d:=by
 have q:OX d=IC d:=by unfold OX IC; rw[h]
 have p:Tj d=Tm d:=by unfold Tj Tm; rw[h,q]
 have x:∀v,Ib d v=JQ d v:=λv=>by unfold Ib JQ; rw[h]
 refine⟨q,p,x,by unfold TU QZ; rw[h],?_⟩;unfold UM V3;rw[x,x,x,x,x,q,p,h]
theorem ZZ {d:List C} (h:Q9 d):Ai (Df d) (CV d)=true/\Df d<=768000/\CV d<=768000/\Df d=(if qi 2 d=1 then BL d else BJ d)/\CV d=(if qi 2 d=1 then BJ d else BL d):=by
 have b:=QV h;have n:=WS h;have e:∀v,DW (BJ d) (BL d) v=v:=λv=>by unfold DW; rw[n.2.1]; rfl
 unfold Df CV;rw[e,e];split
 · exact⟨Vj n.2.1,by omega,by omega,rfl,rfl⟩
 · exact⟨n.2.1,by omega,by omega,rfl,rfl⟩
theorem Yt {l:List (List C)} {k r z:Int} {m:List (List C)} (h:Fz l k r m z=true):1<=m.length/\m.length<=8:=by
 unfold Fz AL at h;rw[List.any_eq_true]at h;obtain⟨x,hx,hi⟩:=h
 cases hv:DZ l
 · rw[hv]at hx; cases hx
 rw[hv]at hx;unfold DZ at hv;rw[Bool.and_eq_true]at hv;have hb:=List.all_eq_true.1 hv.2 x hx;unfold Ba at hb;simp only[Bool.and_eq_true]at hb;have hi':((Hq (qi 0 x) k&&EZ (ql 1 x) r)&&Fe (ql 2 x) m&&EZ (ql 3 x) z)=true:=hi;simp only[Bool.and_eq_true]at hi';have hs:=hi'.1.2;unfold Fe at hs;obtain⟨y,hy,e⟩:=List.any_eq_true.1 hs;obtain⟨p,hp⟩:=SE hb.2.2.2.1 y hy;unfold EM at hp;unfold BO at hp;simp only[Bool.and_eq_true,decide_eq_true_eq]at hp;have:(ql 0 y).length=m.length:=Classical.byContradiction λn=>by
  have:=rlL (g:=Cm) n;unfold MX at e;rw[e]at this; cases this
 omega
theorem VI {n e k j d g:Int} (h:Ep n e k j d g=0):A7 (BI n e k j d g) d g (AZ k)=true/\3<=BI n e k j d g/\0<=BP n e k j d g/\BI n e k j d g+BP n e k j d g<=65536:=by
 by_cases o:Bq n e k j=false∨d<0∨65536<d∨g<1∨4096<g
 · rw[Tu o]at h; cases h
 have hd:Bq n e k j=true:=by simpa using λa=>o (.inl a)
 have i:=UH (n:=n) (e:=e) (k:=k) (j:=j) (d:=d) (g:=g) hd (by omega) (by omega) (by omega) (by omega);have hM:AZ k<=4096:=by
  by_cases hM:4096<AZ k
  · have:=i.1 hM; omega
  · omega
 have i2:=i.2.1 hM;have b:¬(65536<DT n e k j∨65536<BI n e k j d g+BP n e k j d g):=λq=>by have:=i2.1 q; omega
 have hd':=Le hd;have m:=Qz (k:=k) (by omega) (by omega);have w2:=Pj (n:=n) (d:=e) (k:=k+AZ k) (by omega) (by omega) (by omega) (by omega) (by omega) (by omega);have u2:=NS (a:=n) (b:=e) (by omega) (by omega);have dm:GU 0 d g (AZ k) n e k j=Eg n e+Dc n e (k+AZ k)+2*j+3:=if_neg (by omega);have q:BI n e k j d g=GU 0 d g (AZ k) n e k j+BP n e k j d g:=rfl;refine⟨?_,by omega,by omega,by omega⟩;rw[KD]; omega
theorem YZ {d:List C} (h:Q9 d) (he:QZ d=0):UV d=0:=by
 have p:=VI he;have w:=Xc h;have b:=ZZ h;have c:=Yt h.2.1;have v:∀v,JQ d v=v:=λv=>if_pos he;have rv:=DU b.1;have q:IC d=BI (Dl d) (Cf d) (qi 5 d) (Hr d) (iQuo (Ie d) 4) 16:=rfl;have q2:Tm d=IC d+BP (Dl d) (Cf d) (qi 5 d) (Hr d) (iQuo (Ie d) 4) 16:=rfl;have k:AU (J8 ((ql 10 d).length:Int) (Df d) (CV d))=true:=by
  show(Bf [.i (Df d),.i (CV d),.i 0,.i 0,.i 0]&&AQ ((ql 10 d).length:Int) [])=true;unfold Bf AX AQ PI;simp only[Bool.and_eq_true,decide_eq_true_eq];refine⟨⟨b.1,b.2.1,b.2.2.1,show(-4096:Int)<=0 by decide,show(0:Int)<=4096 by decide,show(0:Int)<=0 by decide,show(0:Int)<=1125899906842624 by decide,show(0:Int)<=0 by decide,?_⟩,⟨by omega,by omega,by simp,by simp⟩,rfl⟩;show 0<CV d*65536;omega
 unfold UV Gw;rw[v,v,v,v,v];have m0:0<=iMax 0 (iSub (IC d) (Ie d))/\iMax 0 (iSub (IC d) (Ie d))<=IC d:=by
  show 0<=max 0 (IC d-Ie d)/\max 0 (IC d-Ie d)<=IC d;omega
 rw[if_neg (by omega),if_neg];rintro(h1|h1)
 · rw[k]at h1; cases h1
 · rw[q,p.1]at h1; cases h1
end Go
namespace Go.Sx
theorem v18 (x:List C) (n:Int) (r:Int) (m:List (List C)) (z:Int) (k:List (List C)) (q:Int) (p:Int):WD hD x/\InR .i64 n/\InR .i64 r/\WL hI m/\InR .i64 z/\WL hS k/\InR .i64 q/\InR .i64 p->True/\True/\Cn (bNot (AV x)) (Dv (IL x n r m z k q p)/\1=Gz x n r m z k q p) (True/\True/\Cn (bNot (AY k)) (Dv (IL x n r m z k q p)/\1=Gz x n r m z k q p) (Cn (bLt q 8000) (Dv (IL x n r m z k q p)/\1=Gz x n r m z k q p) (Cn (bLt 192000 q) (Dv (IL x n r m z k q p)/\1=Gz x n r m z k q p) (Cn (bLt p 16) (Dv (IL x n r m z k q p)/\1=Gz x n r m z k q p) (Cn (bLt 8192 p) (Dv (IL x n r m z k q p)/\1=Gz x n r m z k q p) (True/\True/\Cn (bNot (Fz (ql 7 x) n r m z)) (Dv (IL x n r m z k q p)/\7=Gz x n r m z k q p) (InR .i64 (iMul 64 q)/\Cn (bLt (iMul 64 q) r) (Dv (IL x n r m z k q p)/\11=Gz x n r m z k q p) (InR .i64 (iMul 64 r)/\Cn (bLt (iMul 64 r) q) (Dv (IL x n r m z k q p)/\11=Gz x n r m z k q p) ((pLe 16 (qi 13 (AP x n r m z k q p))/\pLe (qi 13 (AP x n r m z k q p)) 8192/\pLe 1 (qi 9 (AP x n r m z k q p))/\pLe (qi 9 (AP x n r m z k q p)) 768000/\pLe 1 (qi 12 (AP x n r m z k q p))/\pLe (qi 12 (AP x n r m z k q p)) 192000/\(qi 2 (AP x n r m z k q p)=1∨qi 2 (AP x n r m z k q p)=2))/\(InR .i64 (Dl (AP x n r m z k q p))/\InR .i64 (Cf (AP x n r m z k q p))->InR .i64 (iAdd (Dl (AP x n r m z k q p)) (Cf (AP x n r m z k q p)))/\InR .i64 (iSub (iAdd (Dl (AP x n r m z k q p)) (Cf (AP x n r m z k q p))) 1)/\(pNe (Cf (AP x n r m z k q p)) 0/\InR .i64 (L9 (AP x n r m z k q p)))/\(pLe 0 (qi 6 (AP x n r m z k q p))/\pLe (qi 6 (AP x n r m z k q p)) 4096/\(qi 2 (AP x n r m z k q p)=1∨qi 2 (AP x n r m z k q p)=2))/\(InR .i64 (Hr (AP x n r m z k q p))->(pNe 4 0/\InR .i64 (iQuo (L9 (AP x n r m z k q p)) 4))/\True/\(InR .i64 (Ib (AP x n r m z k q p) (OX (AP x n r m z k q p)))/\InR .i64 (Ib (AP x n r m z k q p) (iQuo (L9 (AP x n r m z k q p)) 4))/\InR .i64 (Ib (AP x n r m z k q p) 16)/\InR .i64 (Ib (AP x n r m z k q p) (AZ (qi 5 x)))/\InR .i64 (Ib (AP x n r m z k q p) (Tj (AP x n r m z k q p)))/\InR .i64 (TU (AP x n r m z k q p))->Cn (bNe (TU (AP x n r m z k q p)) 0) (Dv (IL x n r m z k q p)/\TU (AP x n r m z k q p)=Gz x n r m z k q p) (pLe (iLen m) 9223372036854775807->True/\(InR .i64 (Df (AP x n r m z k q p))/\InR .i64 (CV (AP x n r m z k q p))->InR .i64 (iSub (Ib (AP x n r m z k q p) (OX (AP x n r m z k q p))) (L9 (AP x n r m z k q p)))/\True/\(WD hG (UM (AP x n r m z k q p))/\InR .i64 (Z7 (AP x n r m z k q p))->sga 0 [0,2,0,0,0,0,0,3] x (C.i n::C.i r::C.l m::C.i z::C.i q::C.i p::C.l k::C.b false::C.i 0::sg 0 [0,0,0,0,0,0,0,0,0,0,0,3,0,0] (UM (AP x n r m z k q p)))=sg 0 [0,2,0,0,0,0,0,3,0,0,3,0,0,0,3,1,0,0,0,0,0,0,0,0,0,0,0,0,3,0,0] (IL x n r m z k q p)/\0=Gz x n r m z k q p))))))))))))))):=by
 intro hw;have no:∀ {y:Int},y≠0->Gz x n r m z k q p=y->Dv (IL x n r m z k q p)/\y=Gz x n r m z k q p:=λh h1=>⟨by unfold IL; rw[if_neg (by omega)]; rfl,h1.symm⟩
 have ds:LK (AP x n r m z k q p)=decide (8000<=q/\q<=192000/\16<=p/\p<=8192):=rfl;have e1:AV x=false∨AY k=false∨LK (AP x n r m z k q p)=false->Gz x n r m z k q p=1:=λh=>if_pos h;have e1':¬(8000<=q/\q<=192000/\16<=p/\p<=8192)->Gz x n r m z k q p=1:=λh=>e1 (.inr (.inr (ds.trans (decide_eq_false h))));simp only[D,E];refine⟨λh=>no (by omega) (e1 (.inl h)),λh=>⟨λh1=>no (by omega) (e1 (.inr (.inl h1))),λh1=>⟨λh2=>no (by omega) (e1' (by omega)),λg1=>⟨λh2=>no (by omega) (e1' (by omega)),λg2=>⟨λh2=>no (by omega) (e1' (by omega)),λg3=>⟨λh2=>no (by omega) (e1' (by omega)),λg4=> ?_⟩⟩⟩⟩⟩⟩;have db:8000<=q/\q<=192000/\16<=p/\p<=8192:=by omega
 have h2:LK (AP x n r m z k q p)=true:=ds.trans (decide_eq_true db);have e2:Gz x n r m z k q p=if Fz (ql 7 x) n r m z=false then 7 else if BJ (AP x n r m z k q p)*64<BL (AP x n r m z k q p)∨BL (AP x n r m z k q p)*64<BJ (AP x n r m z k q p)then 11 else if QZ (AP x n r m z k q p)≠0 then QZ (AP x n r m z k q p)else UV (AP x n r m z k q p):=if_neg λa=>a.elim (λa=>by cases h.symm.trans a) λa=>a.elim (λa=>by cases h1.symm.trans a) λa=>by cases h2.symm.trans a
 refine⟨λh3=>no (by omega) (by rw[e2,if_pos h3]),λh3=> ?_⟩;rw[if_neg (by simp[h3])]at e2;have pd:Q9 (AP x n r m z k q p):=⟨h,h3,db,h1⟩
 have rb:=Vx h3;have nb:=WS pd;have nbr:BJ (AP x n r m z k q p)*Ag r q=r:=nb.2.2.1;have nbq:BL (AP x n r m z k q p)*Ag r q=q:=nb.2.2.2.1;have gp:1<=Ag r q:=nb.2.2.2.2.1;have l1:=Int.mul_lt_mul_right (a:=Ag r q) (b:=BJ (AP x n r m z k q p)*64) (c:=BL (AP x n r m z k q p)) (by omega);have l2:=Int.mul_lt_mul_right (a:=Ag r q) (b:=BL (AP x n r m z k q p)*64) (c:=BJ (AP x n r m z k q p)) (by omega);rw[Int.mul_right_comm,nbr,nbq]at l1;rw[Int.mul_right_comm,nbr,nbq]at l2;have dv:=(Td h).1;have w:=Xc pd;have xo:=Z9 w.1;have ib:=(WQ pd).1;have bp:=QV pd;refine⟨by simp only[InR]; omega,λh4=>no (by omega) (by rw[e2,if_pos (.inr (l2.1 (by omega)))]),λh4=>⟨by simp only[InR]; omega,λh5=>no (by omega) (by rw[e2,if_pos (.inl (l1.1 (by omega)))]),λh5=>⟨⟨by show 16<=p; omega,by show p<=8192; omega,by show 1<=r; omega,by show r<=768000; omega,by show 1<=q; omega,by show q<=192000; omega,by show qi 2 x=1∨qi 2 x=2; omega⟩,λ_=>⟨by simp only[InR]; omega,by simp only[InR]; omega,⟨by omega,by rw[w.1]; simp only[InR]; omega⟩,⟨by show 0<=qi 6 x; omega,by show qi 6 x<=4096; omega,by show qi 2 x=1∨qi 2 x=2; omega⟩,λ_=> ?_⟩⟩⟩⟩;have n4:¬(BJ (AP x n r m z k q p)*64<BL (AP x n r m z k q p)∨BL (AP x n r m z k q p)*64<BJ (AP x n r m z k q p)):=λa=>a.elim (λa=>by have:=l1.2 a; omega) λa=>by have:=l2.2 a; omega
 rw[if_neg n4]at e2;rw[xo.2.2.2.1,xo.2.2.2.2,xo.1,xo.2.2.1,w.1];have w4:=Int.natAbs_tdiv_le_natAbs (Ie (AP x n r m z k q p)) 4;refine⟨⟨by omega,by simp only[InR]; omega⟩,λ_=>⟨λh6=>no h6 (by rw[e2,if_pos h6]),λh6 _ _=> ?_⟩⟩;rw[if_neg (by omega)]at e2;have po:=VI h6;have ox:JQ (AP x n r m z k q p) (IC (AP x n r m z k q p))=IC (AP x n r m z k q p):=if_pos h6;have po':3<=IC (AP x n r m z k q p)/\IC (AP x n r m z k q p)<=65536:=⟨po.2.1,by have:=po.2.2.1; have:=po.2.2.2; show BI _ _ _ _ _ _<=_; omega⟩
 have e0:Gz x n r m z k q p=0:=e2.trans (YZ pd h6);refine⟨by rw[ox]; simp only[InR]; omega,λ_=>⟨?_,e0.symm⟩⟩;unfold IL; rw[if_pos e0];rfl
def r18:Cr PR:=K0 [r41,r42,r43,r44,r45,r46,r47,r48] 18 6 {ps:=[(true,hD),(true,hC),(true,[.sl hS]),(false,hI),(false,hI)],rs:=[(true,hV),(false,hI)],pre:=λ_=>True,out:=λa=>[rb [0,2,0,0,0,0,0,3,0,0,3,0,0,0,3,1,0,0,0,0,0,0,0,0,0,0,0,0,3,0,0] (IL (arg 0 a) (I a 1 0) (I a 1 1) (L a 1 2) (I a 1 3) (L a 2 0) (I a 3 0) (I a 4 0)),[.i (Gz (arg 0 a) (I a 1 0) (I a 1 1) (L a 1 2) (I a 1 3) (L a 2 0) (I a 3 0) (I a 4 0))]]} U λa=>Y (v18 (arg 0 a) (I a 1 0) (I a 1 1) (L a 1 2) (I a 1 3) (L a 2 0) (I a 3 0) (I a 4 0))
end Go.Sx
namespace Go
open Go.Sx
def Oz (d:List C) (ch:Int) (da:List (List C)) (n:Int):List C:=if GL d ch da n=0 then Sr d (Ig (LY d ch da) n)else[]
def Ky (d:List C) (ch:Int) (da:List (List C)) (a b:Int):List C:=if Gq d 1 ch da a b≠0 then[]else bif qb 15 d then Oz d ch da (OC d 1 ch da a b)else d
def Jg (d:List C) (ch:Int) (da:List (List C)) (n a b:Int):List C:=if Eu d ch da n a b≠0 then[]else bif qb 15 d then Oz d ch da n else d
end Go
namespace Go
open Go.Sx
theorem YX {d:List C} {ch:Int} {da:List (List C)} {n:Int} (h:GL d ch da n≠0):OH d ch da n=0/\Oa d ch da n=[]/\Ov d ch da n=0/\OE d ch da n=0/\Yr d ch da n=[]/\Oz d ch da n=[]:=
 ⟨if_neg h,if_neg h,if_neg h,if_neg h,if_neg h,if_neg h⟩
theorem VX {d:List C} {ch:Int} {da:List (List C)} {n:Int} (h:GL d ch da n=0):FW (Cb d) ch da=0/\Ew (LY d ch da) n=0/\OH d ch da n=Jv (LY d ch da) n/\Oa d ch da n=Jj (LY d ch da) n/\Ov d ch da n=Jp (Cb d) ch da/\OE d ch da n=Jd (LY d ch da) n/\Yr d ch da n=Sr (Zv d) (Ig (LY d ch da) n)/\Oz d ch da n=Sr d (Ig (LY d ch da) n):=by
 have h1:=h;unfold GL at h1;split at h1
 · omega
 exact⟨by omega,h1,if_pos h,if_pos h,if_pos h,if_pos h,if_pos h,if_pos h⟩
end Go
namespace Go.Sx
def Ag7 (d:List C) (ch:Int) (da:List (List C)) (a:Int) (b:Int):Prop:=0=KG d ch da a b/\[]=KP d ch da a b/\0=Ko d ch da a b/\0=KU d ch da a b/\Dv (Ky d ch da a b)/\1=JW d ch da a b
theorem v118 (d:List C) (ch:Int) (da:List (List C)) (a:Int) (b:Int):WD hV d/\InR .i64 ch/\WL hW da/\InR .i64 a/\InR .i64 b->True/\True/\Cn (bNot (Bj d)) ((Ag7 d ch da a b)) (True/\True/\Cn (bNot (AQ ch da)) ((Ag7 d ch da a b)) (Cn (bNe (qi 2 d) 1) ((Ag7 d ch da a b)) (pLe (iLen (ql 10 d)) 9223372036854775807->Cn (bNe ch (iLen (ql 10 d))) (0=KG d ch da a b/\[]=KP d ch da a b/\0=Ko d ch da a b/\0=KU d ch da a b/\Dv (Ky d ch da a b)/\11=JW d ch da a b) (True/\(InR .i64 (A8 d a b)/\InR .i64 (CZ d a b)->Cn (bNe (CZ d a b) 0) (0=KG d ch da a b/\[]=KP d ch da a b/\0=Ko d ch da a b/\0=KU d ch da a b/\Dv (Ky d ch da a b)/\CZ d a b=JW d ch da a b) (True/\Cn (bNot (qb 15 d)) (iLen (ql 10 d)=KG d ch da a b/\[]=KP d ch da a b/\0=Ko d ch da a b/\0=KU d ch da a b/\sg 0 [0,2,0,0,0,0,0,3,0,0,3,0,0,0,3,1,0,0,0,0,0,0,0,0,0,0,0,0,3,0,0] d=sg 0 [0,2,0,0,0,0,0,3,0,0,3,0,0,0,3,1,0,0,0,0,0,0,0,0,0,0,0,0,3,0,0] (Ky d ch da a b)/\0=JW d ch da a b) (True/\(WD hG (Dz (Cb d) ch da)/\InR .i64 (Jp (Cb d) ch da)/\InR .i64 (FW (Cb d) ch da)->Cn (bNe (FW (Cb d) ch da) 0) (0=KG d ch da a b/\[]=KP d ch da a b/\0=Ko d ch da a b/\0=KU d ch da a b/\Dv (Ky d ch da a b)/\FW (Cb d) ch da=JW d ch da a b) (True/\(InR .i64 (Jv (Dz (Cb d) ch da) (A8 d a b))/\WL hW (Jj (Dz (Cb d) ch da) (A8 d a b))/\InR .i64 (Jd (Dz (Cb d) ch da) (A8 d a b))/\WD hG (Ig (Dz (Cb d) ch da) (A8 d a b))/\InR .i64 (Ew (Dz (Cb d) ch da) (A8 d a b))->Cn (bNe (Ew (Dz (Cb d) ch da) (A8 d a b)) 0) (0=KG d ch da a b/\[]=KP d ch da a b/\0=Ko d ch da a b/\0=KU d ch da a b/\Dv (Ky d ch da a b)/\Ew (Dz (Cb d) ch da) (A8 d a b)=JW d ch da a b) (Jv (Dz (Cb d) ch da) (A8 d a b)=KG d ch da a b/\Jj (Dz (Cb d) ch da) (A8 d a b)=KP d ch da a b/\Jp (Cb d) ch da=Ko d ch da a b/\Jd (Dz (Cb d) ch da) (A8 d a b)=KU d ch da a b/\sga 0 [0,2,0,0,0,0,0,3,0,0,3,0,0,0,3,1,0] d (sg 0 [0,0,0,0,0,0,0,0,0,0,0,3,0,0] (Ig (Dz (Cb d) ch da) (A8 d a b)))=sg 0 [0,2,0,0,0,0,0,3,0,0,3,0,0,0,3,1,0,0,0,0,0,0,0,0,0,0,0,0,3,0,0] (Ky d ch da a b)/\0=JW d ch da a b))))))))))):=by
 intro hw;delta Ag7;have nk:∀ {x:Int},x≠0->Gq d 1 ch da a b=x->0=KG d ch da a b/\[]=KP d ch da a b/\0=Ko d ch da a b/\0=KU d ch da a b/\Dv (Ky d ch da a b)/\x=JW d ch da a b:=λh h1=>by
  have e:Gq d 1 ch da a b≠0:=by omega
  unfold KG KP Ko KU Ky JW;rw[if_pos e,if_pos e,if_pos e,if_pos e,if_pos e,if_pos e];exact⟨rfl,rfl,rfl,rfl,rfl,h1.symm⟩
 simp only[D,E];refine⟨λh=>nk (by omega) (if_pos (.inl h)),λh=>⟨λh1=>nk (by omega) (if_pos (.inr (.inl h1))),λh1=>⟨λh2=>nk (by omega) (if_pos (.inr (.inr h2))),λh2 _=> ?_⟩⟩⟩;have e:Gq d 1 ch da a b=if ch≠((ql 10 d).length:Int)then 11 else CZ d a b:=if_neg (by simp[h,h1]; omega);refine⟨λh3=>nk (by omega) (by rw[e,if_pos h3]),λh3 _=> ?_⟩;rw[if_neg (by omega)]at e;refine⟨λh4=>nk h4 e,λh4=> ?_⟩;have c0:Gq d 1 ch da a b=0:=by omega
 have cv:OC d 1 ch da a b=A8 d a b:=if_pos c0;have o:KG d ch da a b=(bif qb 15 d then OH d ch da (A8 d a b)else ch)/\KP d ch da a b=(bif qb 15 d then Oa d ch da (A8 d a b)else[])/\Ko d ch da a b=(bif qb 15 d then Ov d ch da (A8 d a b)else 0)/\KU d ch da a b=(bif qb 15 d then OE d ch da (A8 d a b)else 0)/\Ky d ch da a b=(bif qb 15 d then Oz d ch da (A8 d a b)else d)/\JW d ch da a b=(bif qb 15 d then GL d ch da (A8 d a b)else 0):=by
  have n0:¬Gq d 1 ch da a b≠0:=by omega
  unfold KG KP Ko KU Ky JW;rw[cv,if_neg n0,if_neg n0,if_neg n0,if_neg n0,if_neg n0,if_neg n0];exact⟨rfl,rfl,rfl,rfl,rfl,rfl⟩
 refine⟨λh5=> ?_,λh5 _=> ?_⟩<;>rw[h5]at o<;>obtain⟨o1,o2,o3,o4,o5,o6⟩:=o<;>rw[o1,o2,o3,o4,o5,o6]
 · exact⟨by show _=ch; omega,rfl,rfl,rfl,rfl,rfl⟩
 · show (_ -> 0 = OH d ch da (A8 d a b) /\ [] = Oa d ch da (A8 d a b) /\ 0 = Ov d ch da (A8 d a b) /\ 0 = OE d ch da (A8 d a b) /\ Dv (Oz d ch da (A8 d a b)) /\ _ = GL d ch da (A8 d a b)) /\ _;have mn : ∀ {x : Int}, x ≠ 0 -> GL d ch da (A8 d a b) = x -> 0 = OH d ch da (A8 d a b) /\ [] = Oa d ch da (A8 d a b) /\ 0 = Ov d ch da (A8 d a b) /\ 0 = OE d ch da (A8 d a b) /\ Dv (Oz d ch da (A8 d a b)) /\ x = GL d ch da (A8 d a b) := λh h1 => by
    obtain⟨n1,n2,n3,n4,_,n6⟩:=YX (n:=A8 d a b) (d:=d) (ch:=ch) (da:=da) (by omega);rw[n1,n2,n3,n4,n6];exact⟨rfl,rfl,rfl,rfl,rfl,h1.symm⟩
   refine⟨λh6=>mn h6 (if_pos h6),λh6 _=>⟨λh7=>mn h7 (if_neg (by omega)),λh7=> ?_⟩⟩;have e0:GL d ch da (A8 d a b)=0:=(if_neg (by omega)).trans h7;obtain⟨_,_,n1,n2,n3,n4,_,n6⟩:=VX e0;show _=OH d ch da (A8 d a b)/\_=Oa d ch da (A8 d a b)/\_=Ov d ch da (A8 d a b)/\_=OE d ch da (A8 d a b)/\_=sg 0 _ (Oz d ch da (A8 d a b))/\_=GL d ch da (A8 d a b);rw[n1,n2,n3,n4,n6];exact⟨rfl,rfl,rfl,rfl,rfl,e0.symm⟩
def r118:Cr PR:=K0 [r30,r108,r9,r176,r177] 118 6 {ps:=[(true,hV),(true,hK),(false,hI),(false,hI)],rs:=[(true,hK),(false,hI),(false,hI),(true,hV),(false,hI)],pre:=λ_=>True,out:=λa=>[[.i (KG (arg 0 a) (I a 1 0) (L a 1 1) (I a 2 0) (I a 3 0)),.l (KP (arg 0 a) (I a 1 0) (L a 1 1) (I a 2 0) (I a 3 0))],[.i (Ko (arg 0 a) (I a 1 0) (L a 1 1) (I a 2 0) (I a 3 0))],[.i (KU (arg 0 a) (I a 1 0) (L a 1 1) (I a 2 0) (I a 3 0))],rb [0,2,0,0,0,0,0,3,0,0,3,0,0,0,3,1,0,0,0,0,0,0,0,0,0,0,0,0,3,0,0] (Ky (arg 0 a) (I a 1 0) (L a 1 1) (I a 2 0) (I a 3 0)),[.i (JW (arg 0 a) (I a 1 0) (L a 1 1) (I a 2 0) (I a 3 0))]]} U λa=>Y (v118 (arg 0 a) (I a 1 0) (L a 1 1) (I a 2 0) (I a 3 0))
end Go.Sx
namespace Go.Sx
def Aip (d:List C) (ch:Int) (da:List (List C)) (n:Int) (a:Int) (b:Int):Prop:=True/\Cn (bNot (qb 15 d)) (True/\(InR .i64 (JE (iLen (ql 10 d)) n)/\WL hW (EI (iLen (ql 10 d)) n)/\InR .i64 (I9 (iLen (ql 10 d)) n)->JE (iLen (ql 10 d)) n=Jn d ch da n a b/\EI (iLen (ql 10 d)) n=Jl d ch da n a b/\0=Jr d ch da n a b/\0=Jw d ch da n a b/\sg 0 [0,2,0,0,0,0,0,3,0,0,3,0,0,0,3,1,0,0,0,0,0,0,0,0,0,0,0,0,3,0,0] d=sg 0 [0,2,0,0,0,0,0,3,0,0,3,0,0,0,3,1,0,0,0,0,0,0,0,0,0,0,0,0,3,0,0] (Jg d ch da n a b)/\0=Eu d ch da n a b)) (True/\(WD hG (Dz (Cb d) ch da)/\InR .i64 (Jp (Cb d) ch da)/\InR .i64 (FW (Cb d) ch da)->Cn (bNe (FW (Cb d) ch da) 0) (0=Jn d ch da n a b/\[]=Jl d ch da n a b/\0=Jr d ch da n a b/\0=Jw d ch da n a b/\Dv (Jg d ch da n a b)/\FW (Cb d) ch da=Eu d ch da n a b) (True/\(InR .i64 (Jv (Dz (Cb d) ch da) n)/\WL hW (Jj (Dz (Cb d) ch da) n)/\InR .i64 (Jd (Dz (Cb d) ch da) n)/\WD hG (Ig (Dz (Cb d) ch da) n)/\InR .i64 (Ew (Dz (Cb d) ch da) n)->Cn (bNe (Ew (Dz (Cb d) ch da) n) 0) (0=Jn d ch da n a b/\[]=Jl d ch da n a b/\0=Jr d ch da n a b/\0=Jw d ch da n a b/\Dv (Jg d ch da n a b)/\Ew (Dz (Cb d) ch da) n=Eu d ch da n a b) (Jv (Dz (Cb d) ch da) n=Jn d ch da n a b/\Jj (Dz (Cb d) ch da) n=Jl d ch da n a b/\Jp (Cb d) ch da=Jr d ch da n a b/\Jd (Dz (Cb d) ch da) n=Jw d ch da n a b/\sga 0 [0,2,0,0,0,0,0,3,0,0,3,0,0,0,3,1,0] d (sg 0 [0,0,0,0,0,0,0,0,0,0,0,3,0,0] (Ig (Dz (Cb d) ch da) n))=sg 0 [0,2,0,0,0,0,0,3,0,0,3,0,0,0,3,1,0,0,0,0,0,0,0,0,0,0,0,0,3,0,0] (Jg d ch da n a b)/\0=Eu d ch da n a b)))))
def AfY (d:List C) (ch:Int) (da:List (List C)) (n:Int) (a:Int) (b:Int):Prop:=0=Jn d ch da n a b/\[]=Jl d ch da n a b/\0=Jr d ch da n a b/\0=Jw d ch da n a b/\Dv (Jg d ch da n a b)/\2=Eu d ch da n a b
def Ag6 (d:List C) (ch:Int) (da:List (List C)) (n:Int) (a:Int) (b:Int):Prop:=0=Jn d ch da n a b/\[]=Jl d ch da n a b/\0=Jr d ch da n a b/\0=Jw d ch da n a b/\Dv (Jg d ch da n a b)/\1=Eu d ch da n a b
theorem v119 (d:List C) (ch:Int) (da:List (List C)) (n:Int) (a:Int) (b:Int):WD hV d/\InR .i64 ch/\WL hW da/\InR .i64 n/\InR .i64 a/\InR .i64 b->True/\True/\Cn (bNot (Bj d)) ((Ag6 d ch da n a b)) (True/\True/\Cn (bNot (AQ ch da)) ((Ag6 d ch da n a b)) (Cn (bNe (qi 2 d) 2) ((Ag6 d ch da n a b)) (pLe (iLen (ql 10 d)) 9223372036854775807->Cn (bNe ch (iLen (ql 10 d))) (0=Jn d ch da n a b/\[]=Jl d ch da n a b/\0=Jr d ch da n a b/\0=Jw d ch da n a b/\Dv (Jg d ch da n a b)/\11=Eu d ch da n a b) (True/\(InR .i64 (A8 d a b)/\InR .i64 (CZ d a b)->Cn (bNe (CZ d a b) 0) (0=Jn d ch da n a b/\[]=Jl d ch da n a b/\0=Jr d ch da n a b/\0=Jw d ch da n a b/\Dv (Jg d ch da n a b)/\CZ d a b=Eu d ch da n a b) (Cn (qb 15 d) (True/\(InR .i64 (AO ch da)->Cn (bNe (AO ch da) (A8 d a b)) (0=Jn d ch da n a b/\[]=Jl d ch da n a b/\0=Jr d ch da n a b/\0=Jw d ch da n a b/\Dv (Jg d ch da n a b)/\4=Eu d ch da n a b) (Cn (bLt n 0) ((AfY d ch da n a b)) (Cn (bLt 65536 n) ((AfY d ch da n a b)) ((Aip d ch da n a b)))))) (Cn (bLt n 0) ((AfY d ch da n a b)) (Cn (bLt 65536 n) ((AfY d ch da n a b)) ((Aip d ch da n a b)))))))))):=by
 intro hw;delta Aip AfY Ag6;have nk:∀ {x:Int},x≠0->Eu d ch da n a b=x->0=Jn d ch da n a b/\[]=Jl d ch da n a b/\0=Jr d ch da n a b/\0=Jw d ch da n a b/\Dv (Jg d ch da n a b)/\x=Eu d ch da n a b:=λh h1=>by
  have e:Eu d ch da n a b≠0:=by omega
  unfold Jn Jl Jr Jw Jg;rw[if_pos e,if_pos e,if_pos e,if_pos e,if_pos e];exact⟨rfl,rfl,rfl,rfl,rfl,h1.symm⟩
 have kk:∀ {x:Int},Gq d 2 ch da a b=x->x≠0->Eu d ch da n a b=x:=λh h1=>(if_pos (by omega)).trans h;simp only[D,E];refine⟨λh=>nk (by omega) (kk (if_pos (.inl h)) (by omega)),λh=>⟨λh1=>nk (by omega) (kk (if_pos (.inr (.inl h1))) (by omega)),λh1=>⟨λh2=>nk (by omega) (kk (if_pos (.inr (.inr h2))) (by omega)),λh2 _=> ?_⟩⟩⟩;have e:Gq d 2 ch da a b=if ch≠((ql 10 d).length:Int)then 11 else CZ d a b:=if_neg (by simp[h,h1]; omega);refine⟨λh3=>nk (by omega) (kk (by rw[e,if_pos h3]) (by omega)),λh3 _=> ?_⟩;rw[if_neg (by omega)]at e;refine⟨λh4=>nk h4 (kk e h4),λh4=> ?_⟩;have c0:Gq d 2 ch da a b=0:=by omega
 have cv:OC d 2 ch da a b=A8 d a b:=if_pos c0;have o:Eu d ch da n a b=0->Jn d ch da n a b=(bif qb 15 d then OH d ch da n else JE ch n)/\Jl d ch da n a b=(bif qb 15 d then Oa d ch da n else EI ch n)/\Jr d ch da n a b=(bif qb 15 d then Ov d ch da n else 0)/\Jw d ch da n a b=(bif qb 15 d then OE d ch da n else 0)/\Jg d ch da n a b=(bif qb 15 d then Oz d ch da n else d):=λx=>⟨if_neg (by omega),if_neg (by omega),if_neg (by omega),if_neg (by omega),if_neg (by omega)⟩
 have c:=ZF c0;have fr:AO ch da=iQuo (iLen da) ch:=by
  unfold AO;rw[c.2.1];exact(Int.tdiv_eq_ediv_of_nonneg (by omega)).symm
 have e:Eu d ch da n a b=if qb 15 d=true/\iQuo (iLen da) ch≠A8 d a b then 4 else if n<0∨65536<n then 2 else bif qb 15 d then GL d ch da n else 0:=by unfold Eu; rw[if_neg (by omega),cv]
 rw[fr]
 cases hr:qb 15 d
 · rw[hr]at o;rw[hr,if_neg (λx=>by cases x.1)]at e;simp only[E,F];refine⟨λh1=>nk (by omega) (by rw[e,if_pos (by omega)]),λh1=>⟨λh2=>nk (by omega) (by rw[e,if_pos (by omega)]),λh2 _=> ?_⟩⟩;rw[if_neg (by omega)]at e;obtain⟨o1,o2,o3,o4,o5⟩:=o e;rw[o1,o2,o3,o4,o5,←c.2.2.2.1];exact⟨rfl,rfl,rfl,rfl,rfl,e.symm⟩
 · rw[hr]at o;rw[hr]at e;simp only[E,F];refine λ_=>⟨λh1=>nk (by omega) (by rw[e,if_pos ⟨rfl,h1⟩]),λh0=> ?_⟩
   rw[if_neg (λx=>x.2 h0)]at e;refine⟨λh1=>nk (by omega) (by rw[e,if_pos (by omega)]),λh1=>⟨λh2=>nk (by omega) (by rw[e,if_pos (by omega)]),λh2 _=> ?_⟩⟩;rw[if_neg (by omega)]at e;have e:Eu d ch da n a b=GL d ch da n:=e;refine⟨λh6=>nk h6 (e.trans (if_pos h6)),λh6 _=>⟨λh7=>nk h7 (e.trans (if_neg (by omega))),λh7=> ?_⟩⟩;have e0:GL d ch da n=0:=(if_neg (by omega)).trans h7;obtain⟨_,_,n1,n2,n3,n4,_,n6⟩:=VX e0;obtain⟨o1,o2,o3,o4,o5⟩:=o (by omega);rw[o1,o2,o3,o4,o5,cond_true,cond_true,cond_true,cond_true,cond_true,n1,n2,n3,n4,n6];exact⟨rfl,rfl,rfl,rfl,rfl,by omega⟩
def r119:Cr PR:=K0 [r30,r108,r9,r109,r172,r176,r177] 119 6 {ps:=[(true,hV),(true,hK),(false,hI),(false,hI),(false,hI)],rs:=[(true,hK),(false,hI),(false,hI),(true,hV),(false,hI)],pre:=λ_=>True,out:=λa=>[[.i (Jn (arg 0 a) (I a 1 0) (L a 1 1) (I a 2 0) (I a 3 0) (I a 4 0)),.l (Jl (arg 0 a) (I a 1 0) (L a 1 1) (I a 2 0) (I a 3 0) (I a 4 0))],[.i (Jr (arg 0 a) (I a 1 0) (L a 1 1) (I a 2 0) (I a 3 0) (I a 4 0))],[.i (Jw (arg 0 a) (I a 1 0) (L a 1 1) (I a 2 0) (I a 3 0) (I a 4 0))],rb [0,2,0,0,0,0,0,3,0,0,3,0,0,0,3,1,0,0,0,0,0,0,0,0,0,0,0,0,3,0,0] (Jg (arg 0 a) (I a 1 0) (L a 1 1) (I a 2 0) (I a 3 0) (I a 4 0)),[.i (Eu (arg 0 a) (I a 1 0) (L a 1 1) (I a 2 0) (I a 3 0) (I a 4 0))]]} U λa=>Y (v119 (arg 0 a) (I a 1 0) (L a 1 1) (I a 2 0) (I a 3 0) (I a 4 0))
end Go.Sx

