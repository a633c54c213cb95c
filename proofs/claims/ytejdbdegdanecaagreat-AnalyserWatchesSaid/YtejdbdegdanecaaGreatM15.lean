import Derived.Test.YtejdbdegdanecaaGreatSxUse
import Derived.Test.YtejdbdegdanecaaGreatM18
set_option linter.unusedVariables false
set_option linter.unusedSimpArgs false
set_option maxRecDepth 100000
set_option maxHeartbeats 4000000
namespace Go
open Go.Sx
def FT (x:List C):Bool:=decide (-8388608<=qi 0 x/\qi 0 x<=8388607)
def PI (ch n:Int):Bool:=decide (1<=ch/\ch<=8/\n % ch=0/\n/ch<=65536)
def AQ (ch:Int) (da:List (List C)):Bool:=PI ch (da.length:Int)&&da.all FT
end Go
namespace Go
open Go.Sx
theorem La {ch:Int} {da:List (List C)} (h:¬(1<=ch/\ch<=8/\(da.length:Int) % ch=0/\(da.length:Int)/ch<=65536)):false=AQ ch da:=by
 unfold AQ PI; rw[decide_eq_false h]; rfl
theorem Q4 {ch:Int} {da:List (List C)} (h:1<=ch/\ch<=8/\(da.length:Int) % ch=0/\(da.length:Int)/ch<=65536):AQ ch da=da.all FT:=by
 unfold AQ PI; rw[decide_eq_true h]; rfl
theorem Ld {a:Nat} {b:Int} (h:a<=9223372036854775807):InR .i64 ((a:Int)/b):=by
 have:=Int.natAbs_ediv_le_natAbs a b;simp only[InR]; omega
end Go
namespace Go.Sx
def A237 (da:List (List C)):FuncId->Nat->LoopAnn:=λ_ _=>lp 34 da.length (ES FT da) [0,1,2,4,30,32,33,34,35,40]
theorem v237 (ch:Int) (da:List (List C)):InR .i64 ch/\WL hW da->Cn (bLt ch 1) (false=AQ ch da) (Cn (bLt 8 ch) (false=AQ ch da) (pLe (iLen da) 9223372036854775807->pNe ch 0/\Cn (bNe (iRem (iLen da) ch) 0) (false=AQ ch da) (pLe (iLen da) 9223372036854775807->(pNe ch 0/\InR .i64 (iQuo (iLen da) ch))/\Cn (bLt 65536 (iQuo (iLen da) ch)) (false=AQ ch da) (pLe (iLen da) 9223372036854775807->(∃(x:Int),ES FT da x/\0=x)/\∀(x:Int),ES FT da x->InR .i64 x->Cn (bLt x (iLen da)) (pIn 0 (iLen da) x/\(InR .i32 (qi 0 (rGet da x))->Cn (bLe (-8388608) (qi 0 (rGet da x))) (True/\Cn (bNot (bLe (qi 0 (rGet da x)) 8388607)) (false=AQ ch da) (InR .i64 (iAdd x 1)/\Sm [C.i ch,C.l da]/\Sm da/\Sm (iLen da)/\Sm [C.i ch,C.l da]/\∃(y:Int),ES FT da y/\iAdd x 1=y/\nLt (da.length-y.toNat) (da.length-x.toNat))) (True/\false=AQ ch da))) (true=AQ ch da))))):=by
 intro hw;have n0:=Int.natCast_nonneg da.length;simp only[D,E,Int.tdiv_eq_ediv_of_nonneg n0,Int.tmod_eq_emod_of_nonneg n0];have q:=Ld (a:=da.length) (b:=ch) hw.2.1;refine⟨λh=>La (by omega),λh1=>⟨λh=>La (by omega),λh2 _=>⟨by omega,λh=>La (by omega),λh3 _=>⟨⟨by omega,q⟩,λh=>La (by omega),λh4 _=> ?_⟩⟩⟩⟩;rw[Q4 (by omega)];exact lpA al0 (λx h=>h.1) (λx h h0 hx _=>⟨λa=>⟨λb=>alB h hx (decide_eq_false (by omega)),λb=>⟨inS hw.2 h0 hx,x+1,alN h hx (decide_eq_true (by omega)),rfl,by omega⟩⟩,λa=>alB h hx (decide_eq_false (by omega))⟩) (λx h hx=>alE h hx)
def r237:Cr PR:=K0 [] 237 6 {ps:=[(true,hK)],rs:=[(false,[.bool])],pre:=λ_=>True,out:=λa=>[[.b (AQ (I a 0 0) (L a 0 1))]]} (λa=>A237 (L a 0 1)) λa=>Y (v237 (I a 0 0) (L a 0 1))
end Go.Sx
namespace Go.Sx
def A108 (da:List (List C)):FuncId->Nat->LoopAnn:=λ_ _=>lp 34 da.length (ES FT da) [0,1,2,4,30,32,33,34,35,40]
theorem v108 (ch:Int) (da:List (List C)):InR .i64 ch/\WL hW da->Cn (bLt ch 1) (false=AQ ch da) (Cn (bLt 8 ch) (false=AQ ch da) (pLe (iLen da) 9223372036854775807->pNe ch 0/\Cn (bNe (iRem (iLen da) ch) 0) (false=AQ ch da) (pLe (iLen da) 9223372036854775807->(pNe ch 0/\InR .i64 (iQuo (iLen da) ch))/\Cn (bLt 65536 (iQuo (iLen da) ch)) (false=AQ ch da) (pLe (iLen da) 9223372036854775807->(∃(x:Int),ES FT da x/\0=x)/\∀(x:Int),ES FT da x->InR .i64 x->Cn (bLt x (iLen da)) (pIn 0 (iLen da) x/\(InR .i32 (qi 0 (rGet da x))->Cn (bLe (-8388608) (qi 0 (rGet da x))) (True/\Cn (bNot (bLe (qi 0 (rGet da x)) 8388607)) (false=AQ ch da) (InR .i64 (iAdd x 1)/\Sm [C.i ch,C.l da]/\Sm da/\Sm (iLen da)/\Sm [C.i ch,C.l da]/\∃(y:Int),ES FT da y/\iAdd x 1=y/\nLt (da.length-y.toNat) (da.length-x.toNat))) (True/\false=AQ ch da))) (true=AQ ch da))))):=by
 intro hw;have n0:=Int.natCast_nonneg da.length;simp only[D,E,Int.tdiv_eq_ediv_of_nonneg n0,Int.tmod_eq_emod_of_nonneg n0];have q:=Ld (a:=da.length) (b:=ch) hw.2.1;refine⟨λh=>La (by omega),λh1=>⟨λh=>La (by omega),λh2 _=>⟨by omega,λh=>La (by omega),λh3 _=>⟨⟨by omega,q⟩,λh=>La (by omega),λh4 _=> ?_⟩⟩⟩⟩;rw[Q4 (by omega)];exact lpA al0 (λx h=>h.1) (λx h h0 hx _=>⟨λa=>⟨λb=>alB h hx (decide_eq_false (by omega)),λb=>⟨inS hw.2 h0 hx,x+1,alN h hx (decide_eq_true (by omega)),rfl,by omega⟩⟩,λa=>alB h hx (decide_eq_false (by omega))⟩) (λx h hx=>alE h hx)
def r108:Cr PR:=K0 [] 108 6 {ps:=[(true,hK)],rs:=[(false,[.bool])],pre:=λ_=>True,out:=λa=>[[.b (AQ (I a 0 0) (L a 0 1))]]} (λa=>A108 (L a 0 1)) λa=>Y (v108 (I a 0 0) (L a 0 1))
end Go.Sx
namespace Go
open Go.Sx
def AO (ch:Int) (da:List (List C)):Int:=bif AQ ch da then(da.length:Int)/ch else 0
def IR (n:Int):List (List C):=List.replicate n.toNat [.i 0]
def I9 (ch n:Int):Int:=if 1<=ch/\ch<=8/\0<=n/\n<=65536 then 0 else 2
def JE (ch n:Int):Int:=if I9 ch n=0 then ch else 0
def Cm (x y:List C):Bool:=bEq (qi 0 x) (qi 0 y)
def EI (ch n:Int):List (List C):=if I9 ch n=0 then IR (ch*n)else[]
end Go
namespace Go
open Go.Sx
theorem Du {ch:Int} {da:List (List C)} (h:AQ ch da=true):1<=ch/\ch<=8/\(da.length:Int) % ch=0/\(da.length:Int)/ch<=65536:=by
 unfold AQ PI at h;simp only[Bool.and_eq_true,decide_eq_true_eq]at h;exact h.1
theorem Qk {ch n:Int} (h:¬(1<=ch/\ch<=8/\0<=n/\n<=65536)):0=JE ch n/\[]=EI ch n/\2=I9 ch n:=by
 have e:I9 ch n=2:=if_neg h;simp[JE,EI,e]
end Go
namespace Go.Sx
theorem v109 (ch:Int) (da:List (List C)):InR .i64 ch/\WL hW da->True/\True/\Cn (bNot (AQ ch da)) (0=AO ch da) (pLe (iLen da) 9223372036854775807->(pNe ch 0/\InR .i64 (iQuo (iLen da) ch))/\iQuo (iLen da) ch=AO ch da):=by
 intro hw;have n0:=Int.natCast_nonneg da.length;simp only[D,E,Int.tdiv_eq_ediv_of_nonneg n0,true_and,AO];refine⟨λh=>by rw[h]; rfl,λh _=> ?_⟩;have v:=Du h;exact⟨⟨by omega,Ld hw.2.1⟩,by rw[h]; rfl⟩
def r109:Cr PR:=K0 [r108] 109 6 {ps:=[(true,hK)],rs:=[(false,hI)],pre:=λ_=>True,out:=λa=>[[.i (AO (I a 0 0) (L a 0 1))]]} U λa=>Y (v109 (I a 0 0) (L a 0 1))
end Go.Sx
namespace Go.Sx
def AfV (ch:Int) (n:Int):Prop:=0=JE ch n/\[]=EI ch n/\2=I9 ch n
theorem v172 (ch:Int) (n:Int):InR .i64 ch/\InR .i64 n->Cn (bLt ch 1) ((AfV ch n)) (Cn (bLt 8 ch) ((AfV ch n)) (Cn (bLt n 0) ((AfV ch n)) (Cn (bLt 65536 n) ((AfV ch n)) (InR .i64 (iMul ch n)/\(pLe 0 (iMul ch n)/\pLe (iMul ch n) (iMul ch n)/\Aar 4 (iMul ch n))/\ch=JE ch n/\List.replicate (iMul ch n).toNat [C.i 0]=EI ch n/\0=I9 ch n)))):=by
 intro hw;delta AfV;simp only[D,E];refine⟨λh=>Qk (by omega),λh1=>⟨λh=>Qk (by omega),λh2=>⟨λh=>Qk (by omega),λh3=>⟨λh=>Qk (by omega),λh4=> ?_⟩⟩⟩⟩;have b:=Aap (x:=ch) (X:=8) (y:=n) (Y:=65536) (by omega) (by omega) (by omega) (by omega);have e:I9 ch n=0:=if_pos (by omega);refine⟨by simp only[InR]; omega,⟨b.1,Int.le_refl _,by omega⟩,?_,?_,e.symm⟩
 · unfold JE; rw[if_pos e]
 · unfold EI; rw[if_pos e]; rfl
def r172:Cr PR:=K0 [] 172 6 {ps:=[(false,hI),(false,hI)],rs:=[(true,hK),(false,hI)],pre:=λ_=>True,out:=λa=>[[.i (JE (I a 0 0) (I a 1 0)),.l (EI (I a 0 0) (I a 1 0))],[.i (I9 (I a 0 0) (I a 1 0))]]} U λa=>Y (v172 (I a 0 0) (I a 1 0))
end Go.Sx
namespace Go.Sx
theorem v222 (ch:Int) (da:List (List C)) (m:Int) (n:Int):InR .i64 ch/\WL hW da/\InR .i64 m/\InR .i64 n->pLe 0 m/\pLe m n/\pLe 1 ch/\pLe (iMul n ch) (iLen da)/\pLe (iLen da) 1000000000->InR .i64 (iMul m ch)/\InR .i64 (iMul n ch)/\geB (some (iMul m ch)) (some (iMul n ch)) (iLen da)/\Aar 4 (iLen (cutRows da (some (iMul m ch)) (some (iMul n ch))))/\Sm ch/\Sm (cutRows da (some (iMul m ch)) (some (iMul n ch))):=by
 intro hw hp;simp only[D]at hp ⊢;have h1:=Int.mul_nonneg hp.1 (show 0<=ch by omega);have h2:=Int.mul_le_mul_of_nonneg_right hp.2.1 (show 0<=ch by omega);refine⟨by simp only[InR]; omega,by simp only[InR]; omega,⟨h1,h2,hp.2.2.2.1⟩,?_⟩;simp only[cutRows,List.length_drop,List.length_take,E];omega
def r222:Cr PR:=K [] 222 6 {ps:=[(true,hK),(false,hI),(false,hI)],rs:=[(true,hK)],pre:=λa=>pLe 0 (I a 1 0)/\pLe (I a 1 0) (I a 2 0)/\pLe 1 (I a 0 0)/\pLe (iMul (I a 2 0) (I a 0 0)) (iLen (L a 0 1))/\pLe (iLen (L a 0 1)) 1000000000,out:=λa=>[[.i (I a 0 0),.l (cutRows (L a 0 1) (some (iMul (I a 1 0) (I a 0 0))) (some (iMul (I a 2 0) (I a 0 0))))]]} U λa=>Y (v222 (I a 0 0) (L a 0 1) (I a 1 0) (I a 2 0))
end Go.Sx
namespace Go.Sx
theorem v173 (ch:Int) (da:List (List C)) (dh:Int) (db:List (List C)):InR .i64 ch/\WL hW da/\InR .i64 dh/\WL hW db->pLe (iLen da) 1000000000/\pLe (iLen db) 1000000000->Aar 4 (iLen da)/\Aar 4 (iLen (da++db))/\Sm ch/\Sm (da++db):=by
 intro hw hp;simp only[D,true_and,and_true,Aar,List.length_append]at hp ⊢;omega
def r173:Cr PR:=K [] 173 6 {ps:=[(true,hK),(true,hK)],rs:=[(true,hK)],pre:=λa=>pLe (iLen (L a 0 1)) 1000000000/\pLe (iLen (L a 1 1)) 1000000000,out:=λa=>[[.i (I a 0 0),.l ((L a 0 1)++(L a 1 1))]]} U λa=>Y (v173 (I a 0 0) (L a 0 1) (I a 1 0) (L a 1 1))
end Go.Sx
namespace Go.Sx
def A213 (xs:List (List C)) (ys:List (List C)):FuncId->Nat->LoopAnn:=λ_ _=>lp 13 xs.length (Iz Cm xs ys) [0,1,4,5,10,12,13,14,24]
theorem v213 (xs:List (List C)) (ys:List (List C)):WL hW xs/\WL hW ys->pLe (iLen xs) 9223372036854775807->pLe (iLen ys) 9223372036854775807->Cn (bNe (iLen xs) (iLen ys)) (false=Dk Cm xs ys) (pLe (iLen xs) 9223372036854775807->(∃(x:Int),Iz Cm xs ys x/\0=x)/\∀(x:Int),Iz Cm xs ys x->InR .i64 x->Cn (bLt x (iLen xs)) (pIn 0 (iLen xs) x/\(InR .i32 (qi 0 (rGet xs x))->pIn 0 (iLen ys) x/\(InR .i32 (qi 0 (rGet ys x))->Cn (bNe (qi 0 (rGet xs x)) (qi 0 (rGet ys x))) (false=Dk Cm xs ys) (InR .i64 (iAdd x 1)/\Sm xs/\Sm ys/\Sm (iLen xs)/\∃(y:Int),Iz Cm xs ys y/\iAdd x 1=y/\nLt (xs.length-y.toNat) (xs.length-x.toNat))))) (true=Dk Cm xs ys)):=by
 intro hw;simp only[D,E];intro _ _;refine⟨λh=>rlL (by omega),λh _=>lpA (rl0 (by omega)) (λx h=>h.1) (λx h h0 hx _=>⟨⟨h0,by omega⟩,λ_=>⟨λa=>rlB h hx (decide_eq_false a),λa=>⟨inS hw.1 h0 hx,x+1,rlN h hx (decide_eq_true a),rfl,by omega⟩⟩⟩) (λx h hx=>rlE h hx)⟩
def r213:Cr PR:=K0 [] 213 6 {ps:=[(false,[.sl hW]),(false,[.sl hW])],rs:=[(false,[.bool])],pre:=λ_=>True,out:=λa=>[[.b (Dk Cm (L a 0 0) (L a 1 0))]]} (λa=>A213 (L a 0 0) (L a 1 0)) λa=>Y (v213 (L a 0 0) (L a 1 0))
end Go.Sx

set_option linter.unusedVariables false
set_option linter.unusedSimpArgs false
set_option maxRecDepth 100000
set_option maxHeartbeats 4000000
namespace Go
open Go.Sx
def AX (p:List C):Int:=qi 1 p*65536
def EX (p:List C):Int:=qi 0 p*(65536+qi 2 p)
def Bf (p:List C):Bool:=Ai (qi 0 p) (qi 1 p)&&decide (qi 0 p<=768000/\qi 1 p<=768000/\-4096<=qi 2 p/\qi 2 p<=4096/\0<=qi 3 p/\qi 3 p<=1125899906842624/\0<=qi 4 p/\qi 4 p<AX p)
def DX (p:List C) (n:Int):Int:=qi 4 p+n*EX p
def BR (p:List C) (n:Int):Int:=if Bf p=false then 1 else if n<0∨65536<n then 2 else 0
def DI (p:List C) (n:Int):Int:=if BR p n=0 then qi 3 p+DX p n/AX p else 0
def FM (p:List C) (n:Int):Int:=if BR p n=0 then DX p n % AX p else 0
def Hz (p:List C) (n:Int):Int:=if BR p n=0/\1125899906842624<DI p n then 2 else BR p n
def Ir (p:List C) (n:Int):List C:=if Hz p n=0 then[.i (qi 0 p),.i (qi 1 p),.i (qi 2 p),.i (DI p n),.i (FM p n)]else[]
def JY (p:List C) (a:Int):Int:=if Bf p=false then 1 else if a< -4096∨4096<a then 2 else 0
def MO (p:List C) (a:Int):List C:=if JY p a=0 then[.i (qi 0 p),.i (qi 1 p),.i a,.i (qi 3 p),.i (qi 4 p)]else[]
def KE (p:List C) (n:Int):Int:=if n=0 then 0 else max (DX p (n-1)/AX p+2) (DX p n/AX p)
def MG (p:List C) (n:Int):Int:=if BR p n=0 then KE p n else 0
def MI (p:List C) (n:Int):Int:=max 0 (min 65536 (min (((n-1)*AX p-1-qi 4 p)/EX p+1) (((n+1)*AX p-1-qi 4 p)/EX p)))
def H9 (p:List C) (n:Int):Int:=if Bf p=false then 1 else if n<0∨1099511627776<n then 2 else 0
def GR (p:List C) (n:Int):Int:=if H9 p n=0 then MI p n else 0
end Go
namespace Go
open Go.Sx
end Go
namespace Go
open Go.Sx
theorem MH {p:List C} (h:Bf p=true):1<=qi 0 p/\qi 0 p<=768000/\1<=qi 1 p/\qi 1 p<=768000/\-4096<=qi 2 p/\qi 2 p<=4096/\0<=qi 3 p/\qi 3 p<=1125899906842624/\0<=qi 4 p/\qi 4 p<AX p:=by
 simp only[Bf,Ai,Bool.and_eq_true,decide_eq_true_eq]at h;omega
theorem P6 {p:List C} (h:Bf p=true):65536<=AX p/\AX p<=50331648000/\61440<=EX p/\EX p<=53477376000:=by
 have v:=MH h;have b:=Aap (x:=qi 0 p-1) (X:=767999) (y:=65536+qi 2 p) (Y:=69632) (by omega) (by omega) (by omega) (by omega);rw[Int.sub_mul,Int.one_mul]at b;unfold AX EX; omega
theorem NU {p:List C} {n:Int} (h:Bf p=true) (h0:0<=n) (h1:n<=65536):0<=n*EX p/\n*EX p<=3504693313536000/\0<=DX p n/\DX p n<=4000000000000000/\0<=DX p n/AX p/\DX p n/AX p<=4000000000000000/\0<=DX p n % AX p/\DX p n % AX p<AX p:=by
 have v:=MH h;have d:=P6 h;have b:=Aap (x:=n) (X:=65536) (y:=EX p) (Y:=53477376000) h0 h1 (by omega) d.2.2.2;have a0:0<=DX p n:=by unfold DX; omega
 have a1:=Int.ediv_le_self (AX p) a0;have a2:=Int.ediv_nonneg a0 (show 0<=AX p by omega);have a3:=Int.emod_nonneg (DX p n) (show AX p≠0 by omega);have a4:=Int.emod_lt_of_pos (DX p n) (show 0<AX p by omega);unfold DX at*; omega
theorem OV {p:List C} {n:Int} (h:Bf p=true) (h0:0<=n) (h1:n<=65536):BR p n=0/\DI p n=qi 3 p+DX p n/AX p/\FM p n=DX p n % AX p:=by
 have e:BR p n=0:=by unfold BR; rw[if_neg (by simp[h]),if_neg (by omega)]
 exact⟨e,if_pos e,if_pos e⟩
theorem PO {p:List C} {n:Int} (h:¬BR p n=0):0=DI p n/\0=FM p n:=⟨(if_neg h).symm,(if_neg h).symm⟩
theorem Vd {p:List C} {n:Int} (h:BR p n=0):Bf p=true/\0<=n/\n<=65536:=by
 unfold BR at h;split at h
 · cases h
 · split at h
   · cases h
   · rename_i h1 h2; exact⟨by simpa using h1,by omega,by omega⟩
theorem Vf {p:List C} {n:Int} (h:Bf p=true) (h0:n<0∨65536<n):BR p n=2:=by unfold BR; rw[if_neg (by simp[h]),if_pos h0]
theorem ZN {p:List C} {n:Int} (h:Bf p=false):BR p n=1:=by unfold BR; rw[if_pos h]
end Go
namespace Go.Sx
theorem v250 (p:List C):WD hP p->pLe 0 (qi 1 p)/\pLe (qi 1 p) 768000->InR .i64 (iMul (qi 1 p) 65536)/\iMul (qi 1 p) 65536=AX p:=by
 intro hw hp;simp only[D,AX,E]at hp ⊢;simp only[InR]; omega
def r250:Cr PR:=K [] 250 6 {ps:=[(true,hP)],rs:=[(false,hI)],pre:=λa=>pLe 0 (qi 1 (arg 0 a))/\pLe (qi 1 (arg 0 a)) 768000,out:=λa=>[[.i (AX (arg 0 a))]]} U λa=>Y (v250 (arg 0 a))
end Go.Sx
namespace Go.Sx
theorem v226 (p:List C):WD hP p->pLe 0 (qi 1 p)/\pLe (qi 1 p) 768000->InR .i64 (iMul (qi 1 p) 65536)/\iMul (qi 1 p) 65536=AX p:=by
 intro hw hp;simp only[D,AX,E]at hp ⊢;simp only[InR]; omega
def r226:Cr PR:=K [] 226 6 {ps:=[(true,hP)],rs:=[(false,hI)],pre:=λa=>pLe 0 (qi 1 (arg 0 a))/\pLe (qi 1 (arg 0 a)) 768000,out:=λa=>[[.i (AX (arg 0 a))]]} U λa=>Y (v226 (arg 0 a))
end Go.Sx
namespace Go.Sx
theorem v236 (p:List C):WD hP p->True/\Cn (Ai (qi 0 p) (qi 1 p)) (Cn (bLe (qi 0 p) 768000) (Cn (bLe (qi 1 p) 768000) (Cn (bLe (-4096) (qi 2 p)) (Cn (bLe (qi 2 p) 4096) (Cn (bLe 0 (qi 3 p)) (Cn (bLe (qi 3 p) 1125899906842624) (Cn (bLe 0 (qi 4 p)) ((pLe 0 (qi 1 p)/\pLe (qi 1 p) 768000)/\(InR .i64 (AX p)->bLt (qi 4 p) (AX p)=Bf p)) (false=Bf p)) (false=Bf p)) (false=Bf p)) (false=Bf p)) (false=Bf p)) (false=Bf p)) (false=Bf p)) (false=Bf p):=by
 intro hw;have h:Ai (qi 0 p) (qi 1 p)=true->1<=qi 0 p/\1<=qi 1 p:=λh=>by simp only[Ai,decide_eq_true_eq]at h; omega
 simp only[D,E,Bf]
 cases hr:Ai (qi 0 p) (qi 1 p)
 · simp
 have h:=h hr;simp only[Bool.true_and,E]
 repeat' (first|apply And.intro|intro _)
 all_goals (first|omega|(simp only[decide_eq_decide]; omega)|(symm; simp only[decide_eq_false_iff_not]; omega)|contradiction)
def r236:Cr PR:=K0 [r133,r250] 236 6 {ps:=[(true,hP)],rs:=[(false,[.bool])],pre:=λ_=>True,out:=λa=>[[.b (Bf (arg 0 a))]]} U λa=>Y (v236 (arg 0 a))
end Go.Sx
namespace Go.Sx
theorem v186 (p:List C):WD hP p->True/\Cn (Ai (qi 0 p) (qi 1 p)) (Cn (bLe (qi 0 p) 768000) (Cn (bLe (qi 1 p) 768000) (Cn (bLe (-4096) (qi 2 p)) (Cn (bLe (qi 2 p) 4096) (Cn (bLe 0 (qi 3 p)) (Cn (bLe (qi 3 p) 1125899906842624) (Cn (bLe 0 (qi 4 p)) ((pLe 0 (qi 1 p)/\pLe (qi 1 p) 768000)/\(InR .i64 (AX p)->bLt (qi 4 p) (AX p)=Bf p)) (false=Bf p)) (false=Bf p)) (false=Bf p)) (false=Bf p)) (false=Bf p)) (false=Bf p)) (false=Bf p)) (false=Bf p):=by
 intro hw;have h:Ai (qi 0 p) (qi 1 p)=true->1<=qi 0 p/\1<=qi 1 p:=λh=>by simp only[Ai,decide_eq_true_eq]at h; omega
 simp only[D,E,Bf]
 cases hr:Ai (qi 0 p) (qi 1 p)
 · simp
 have h:=h hr;simp only[Bool.true_and,E]
 repeat' (first|apply And.intro|intro _)
 all_goals (first|omega|(simp only[decide_eq_decide]; omega)|(symm; simp only[decide_eq_false_iff_not]; omega)|contradiction)
def r186:Cr PR:=K0 [r143,r226] 186 6 {ps:=[(true,hP)],rs:=[(false,[.bool])],pre:=λ_=>True,out:=λa=>[[.b (Bf (arg 0 a))]]} U λa=>Y (v186 (arg 0 a))
end Go.Sx
namespace Go.Sx
theorem v242 (p:List C):WD hP p->Bf p=true->InR .i64 (iAdd 65536 (qi 2 p))/\InR .i64 (iMul (qi 0 p) (iAdd 65536 (qi 2 p)))/\iMul (qi 0 p) (iAdd 65536 (qi 2 p))=EX p:=by
 intro hw hp;have v:=MH hp;have b:=P6 hp;simp only[D,InR,E];unfold EX at*; omega
def r242:Cr PR:=K [] 242 6 {ps:=[(true,hP)],rs:=[(false,hI)],pre:=λa=>Bf (arg 0 a)=true,out:=λa=>[[.i (EX (arg 0 a))]]} U λa=>Y (v242 (arg 0 a))
end Go.Sx
namespace Go.Sx
theorem v223 (p:List C) (a:Int):WD hP p/\InR .i64 a->True/\True/\Cn (bNot (Bf p)) ([C.i 0,C.i 0,C.i 0,C.i 0,C.i 0]=sg 0 [0,0,0,0,0] (MO p a)/\1=JY p a) (Cn (bLt a (-4096)) ([C.i 0,C.i 0,C.i 0,C.i 0,C.i 0]=sg 0 [0,0,0,0,0] (MO p a)/\2=JY p a) (Cn (bLt 4096 a) ([C.i 0,C.i 0,C.i 0,C.i 0,C.i 0]=sg 0 [0,0,0,0,0] (MO p a)/\2=JY p a) (C.i (qi 0 p)::C.i (qi 1 p)::C.i a::sg 3 [0,0] p=sg 0 [0,0,0,0,0] (MO p a)/\0=JY p a))):=by
 intro hw;simp only[D,E];have b:Bf p=false∨a< -4096∨4096<a->([C.i 0,C.i 0,C.i 0,C.i 0,C.i 0]:List C)=sg 0 [0,0,0,0,0] (MO p a):=λh=>by
  have:MO p a=[]:=if_neg (by unfold JY; split<;>(try split)<;>simp_all);rw[this]; rfl
 have k:Bf p=true->a< -4096∨4096<a->2=JY p a:=λh h2=>by unfold JY; rw[if_neg (by simp[h]),if_pos h2]
 have g:Bf p=true->-4096<=a->a<=4096->C.i (qi 0 p)::C.i (qi 1 p)::C.i a::sg 3 [0,0] p=sg 0 [0,0,0,0,0] (MO p a)/\0=JY p a:=λh h1 h2=>by
  have e:JY p a=0:=by unfold JY; rw[if_neg (by simp[h]),if_neg (by omega)]
  exact⟨by unfold MO; rw[if_pos e]; rfl,e.symm⟩
 refine⟨λh=>⟨b (.inl h),(if_pos h).symm⟩,λh=> ?_⟩;exact⟨λh1=>⟨b (.inr (.inl h1)),k h (.inl h1)⟩,λh1=>⟨λh2=>⟨b (.inr (.inr h2)),k h (.inr h2)⟩,λh2=>g h (by omega) (by omega)⟩⟩
def r223:Cr PR:=K0 [r186] 223 6 {ps:=[(true,hP),(false,hI)],rs:=[(true,hP),(false,hI)],pre:=λ_=>True,out:=λa=>[rb [0,0,0,0,0] (MO (arg 0 a) (I a 1 0)),[.i (JY (arg 0 a) (I a 1 0))]]} U λa=>Y (v223 (arg 0 a) (I a 1 0))
end Go.Sx
namespace Go.Sx
theorem v217 (p:List C) (n:Int):WD hP p/\InR .i64 n->True/\True/\Cn (bNot (Bf p)) (0=DI p n/\0=FM p n/\1=BR p n) (Cn (bLt n 0) (0=DI p n/\0=FM p n/\2=BR p n) (Cn (bLt 65536 n) (0=DI p n/\0=FM p n/\2=BR p n) (Bf p=true/\(InR .i64 (EX p)->InR .i64 (iMul n (EX p))/\InR .i64 (iAdd (qi 4 p) (iMul n (EX p)))/\(pLe 0 (qi 1 p)/\pLe (qi 1 p) 768000)/\(InR .i64 (AX p)->(pNe (AX p) 0/\InR .i64 (iQuo (iAdd (qi 4 p) (iMul n (EX p))) (AX p)))/\InR .i64 (iAdd (qi 3 p) (iQuo (iAdd (qi 4 p) (iMul n (EX p))) (AX p)))/\(pLe 0 (qi 1 p)/\pLe (qi 1 p) 768000)/\(InR .i64 (AX p)->pNe (AX p) 0/\iAdd (qi 3 p) (iQuo (iAdd (qi 4 p) (iMul n (EX p))) (AX p))=DI p n/\iRem (iAdd (qi 4 p) (iMul n (EX p))) (AX p)=FM p n/\0=BR p n)))))):=by
 intro hw;simp only[D,E];refine⟨λh=> ?_,λh=>⟨λh1=> ?_,λh1=>⟨λh2=> ?_,λh2=> ?_⟩⟩⟩
 · have e:=ZN (n:=n) h;exact⟨(PO (by omega)).1,(PO (by omega)).2,e.symm⟩
 · have e:=Vf h (.inl h1);exact⟨(PO (by omega)).1,(PO (by omega)).2,e.symm⟩
 · have e:=Vf h (.inr h2);exact⟨(PO (by omega)).1,(PO (by omega)).2,e.symm⟩
 have v:=MH h;have b:=NU h (show 0<=n by omega) (by omega);have q:=P6 h;have e:=OV h (show 0<=n by omega) (by omega);rw[show qi 4 p+n*EX p=DX p n from rfl,h,e.1,e.2.1,e.2.2,Int.tdiv_eq_ediv_of_nonneg b.2.2.1,Int.tmod_eq_emod_of_nonneg b.2.2.1];simp only[InR]
 repeat' (first|apply And.intro|intro _)
 all_goals (first|trivial|rfl|omega)
def r217:Cr PR:=K0 [r186,r242,r226] 217 6 {ps:=[(true,hP),(false,hI)],rs:=[(false,hI),(false,hI),(false,hI)],pre:=λ_=>True,out:=λa=>[[.i (DI (arg 0 a) (I a 1 0))],[.i (FM (arg 0 a) (I a 1 0))],[.i (BR (arg 0 a) (I a 1 0))]]} U λa=>Y (v217 (arg 0 a) (I a 1 0))
end Go.Sx
namespace Go.Sx
theorem v240 (p:List C) (n:Int):WD hP p/\InR .i64 n->True/\(InR .i64 (DI p n)/\InR .i64 (FM p n)/\InR .i64 (BR p n)->Cn (bNe (BR p n) 0) ([C.i 0,C.i 0,C.i 0,C.i 0,C.i 0]=sg 0 [0,0,0,0,0] (Ir p n)/\BR p n=Hz p n) (Cn (bLt 1125899906842624 (DI p n)) ([C.i 0,C.i 0,C.i 0,C.i 0,C.i 0]=sg 0 [0,0,0,0,0] (Ir p n)/\2=Hz p n) ([C.i (qi 0 p),C.i (qi 1 p),C.i (qi 2 p),C.i (DI p n),C.i (FM p n)]=sg 0 [0,0,0,0,0] (Ir p n)/\0=Hz p n))):=by
 intro hw;simp only[D,E];intro _;have b:∀ {e:Int},¬e=0->e=Hz p n->([C.i 0,C.i 0,C.i 0,C.i 0,C.i 0]:List C)=sg 0 [0,0,0,0,0] (Ir p n)/\e=Hz p n:=λh e=>⟨by unfold Ir; rw[if_neg (by omega)]; rfl,e⟩
 have b1:BR p n=0->1125899906842624<DI p n->2=Hz p n:=λh h1=>(if_pos ⟨h,h1⟩).symm;have b2:¬BR p n=0->BR p n=Hz p n:=λh=>(if_neg (by simp[h])).symm;have b3:BR p n=0->¬1125899906842624<DI p n->[C.i (qi 0 p),C.i (qi 1 p),C.i (qi 2 p),C.i (DI p n),C.i (FM p n)]=sg 0 [0,0,0,0,0] (Ir p n)/\0=Hz p n:=λh h1=>by
  have e:Hz p n=0:=by unfold Hz; rw[if_neg (by simp[h1])]; exact h
  exact⟨by unfold Ir; rw[if_pos e]; rfl,e.symm⟩
 exact⟨λh=>b h (b2 h),λh=>⟨λh1=>b (by omega) (b1 h h1),λh1=>b3 h h1⟩⟩
def r240:Cr PR:=K0 [r217] 240 6 {ps:=[(true,hP),(false,hI)],rs:=[(true,hP),(false,hI)],pre:=λ_=>True,out:=λa=>[rb [0,0,0,0,0] (Ir (arg 0 a) (I a 1 0)),[.i (Hz (arg 0 a) (I a 1 0))]]} U λa=>Y (v240 (arg 0 a) (I a 1 0))
end Go.Sx
namespace Go.Sx
theorem v214 (p:List C) (n:Int):WD hP p/\InR .i64 n->True/\(InR .i64 (DI p n)/\InR .i64 (FM p n)/\InR .i64 (BR p n)->Cn (bNe (BR p n) 0) (0=MG p n/\BR p n=BR p n) (Cn (bEq n 0) (0=MG p n/\0=BR p n) (InR .i64 (iSub n 1)/\True/\(InR .i64 (DI p (iSub n 1))/\InR .i64 (FM p (iSub n 1))/\InR .i64 (BR p (iSub n 1))->InR .i64 (iAdd (DI p (iSub n 1)) 2)/\InR .i64 (iSub (iMax (iAdd (DI p (iSub n 1)) 2) (DI p n)) (qi 3 p))/\iSub (iMax (iAdd (DI p (iSub n 1)) 2) (DI p n)) (qi 3 p)=MG p n/\0=BR p n)))):=by
 intro hw;simp only[D,E];refine λ_=>⟨λh=>(if_neg h).symm,λh=> ?_⟩
 obtain⟨hv,h0,h1⟩:=Vd h;have e:=OV hv h0 h1;have b:=NU hv h0 h1;have v:=MH hv;have en:MG p n=KE p n:=if_pos h;rw[en];refine⟨λhn=>⟨(if_pos hn).symm,h.symm⟩,λhn=> ?_⟩;have e':=OV (n:=n-1) hv (by omega) (by omega);have b':=NU (n:=n-1) hv (by omega) (by omega);have eN:KE p n=max (DX p (n-1)/AX p+2) (DX p n/AX p):=if_neg hn;rw[eN,e'.2.1,e.2.1];simp only[InR];refine⟨by omega,λ_=>⟨by omega,by omega,by omega,h.symm⟩⟩
def r214:Cr PR:=K0 [r217] 214 6 {ps:=[(true,hP),(false,hI)],rs:=[(false,hI),(false,hI)],pre:=λ_=>True,out:=λa=>[[.i (MG (arg 0 a) (I a 1 0))],[.i (BR (arg 0 a) (I a 1 0))]]} U λa=>Y (v214 (arg 0 a) (I a 1 0))
end Go.Sx
namespace Go
open Go.Sx
theorem VT {a b c:Int} (hb:0<b):a<=c/b↔a*b<=c:=Int.le_ediv_iff_mul_le hb
theorem UE {p:List C} {m n:Int} (h:Bf p=true) (hn:0<=n) (h0:0<=m) (h1:m<=65536):KE p m<=n↔m<=MI p n:=by
 have q:=P6 h;have v:=MH h;by_cases hm:m=0
 · unfold KE MI; rw[if_pos hm]; omega
 have e1:DX p (m-1)/AX p+2<=n↔m<=((n-1)*AX p-1-qi 4 p)/EX p+1:=by
  have a:m<=((n-1)*AX p-1-qi 4 p)/EX p+1↔(m-1)*EX p<=(n-1)*AX p-1-qi 4 p:=by rw[←VT (by omega)]; omega
  have b:DX p (m-1)/AX p+2<=n↔DX p (m-1)<(n-1)*AX p:=by rw[←Int.ediv_lt_iff_lt_mul (by omega)]; omega
  rw[a,b]; unfold DX; omega
 have e2:DX p m/AX p<=n↔m<=((n+1)*AX p-1-qi 4 p)/EX p:=by
  have b:DX p m/AX p<=n↔DX p m<(n+1)*AX p:=by rw[←Int.ediv_lt_iff_lt_mul (by omega)]; omega
  rw[VT (by omega),b]; unfold DX; omega
 unfold KE MI;rw[if_neg hm];omega
end Go
namespace Go
open Go.Sx
def Su (p:List C) (n i j:Int):Prop:=0<=i/\i<=MI p n/\MI p n<=j/\j<=65536
end Go
namespace Go
open Go.Sx
theorem Rz (p:List C) (n:Int):0<=MI p n/\MI p n<=65536:=by unfold MI; omega
theorem WG {p:List C} {n:Int} (h:Bf p=true) (h0:n<0∨1099511627776<n):H9 p n=2:=by unfold H9; rw[if_neg (by simp[h]),if_pos h0]
theorem VU {p:List C} {n:Int} (h:Bf p=true) (h0:0<=n) (h1:n<=1099511627776):H9 p n=0:=by unfold H9; rw[if_neg (by simp[h]),if_neg (by omega)]
end Go
namespace Go.Sx
def A169 (p:List C) (n:Int):FuncId->Nat->LoopAnn:=λ_ ii=> .inv (Int×Int) (λz=>Su p n z.1 z.2) (λz=>[(6,.int .i64 z.1),(7,.int .i64 z.2)]) (λ_=>[]) [] [0,1,2,4,5,6,7,8,9,13,19,22,36] (λz=>(z.2-z.1).toNat)
theorem v169 (p:List C) (n:Int):WD hP p/\InR .i64 n->True/\True/\Cn (bNot (Bf p)) (0=GR p n/\1=H9 p n) (Cn (bLt n 0) (0=GR p n/\2=H9 p n) (Cn (bLt 1099511627776 n) (0=GR p n/\2=H9 p n) ((∃(x:Int×Int),Su p n x.1 x.2/\0=x.1/\65536=x.2)/\∀(x:Int×Int),Su p n x.1 x.2->InR .i64 x.1/\InR .i64 x.2->Cn (bLt x.1 x.2) (InR .i64 (iAdd x.1 x.2)/\InR .i64 (iAdd (iAdd x.1 x.2) 1)/\(pNe 2 0/\InR .i64 (iQuo (iAdd (iAdd x.1 x.2) 1) 2))/\True/\(InR .i64 (MG p (iQuo (iAdd (iAdd x.1 x.2) 1) 2))/\InR .i64 (BR p (iQuo (iAdd (iAdd x.1 x.2) 1) 2))->Cn (bLe (MG p (iQuo (iAdd (iAdd x.1 x.2) 1) 2)) n) (Sm (sg 0 [0,0,0,0,0] p)/\Sm n/\Sm (sg 0 [0,0,0,0,0] p)/\∃(y:Int×Int),Su p n y.1 y.2/\iQuo (iAdd (iAdd x.1 x.2) 1) 2=y.1/\x.2=y.2/\nLt (y.2-y.1).toNat (x.2-x.1).toNat) (InR .i64 (iSub (iQuo (iAdd (iAdd x.1 x.2) 1) 2) 1)/\Sm (sg 0 [0,0,0,0,0] p)/\Sm n/\Sm (sg 0 [0,0,0,0,0] p)/\∃(y:Int×Int),Su p n y.1 y.2/\x.1=y.1/\iSub (iQuo (iAdd (iAdd x.1 x.2) 1) 2) 1=y.2/\nLt (y.2-y.1).toNat (x.2-x.1).toNat))) (x.1=GR p n/\0=H9 p n)))):=by
 intro hw;simp only[D,E];have z:∀ {e:Int},e≠0->H9 p n=e->0=GR p n/\e=H9 p n:=λh e=>⟨(if_neg (by omega)).symm,e.symm⟩
 refine⟨λh=>z (by omega) (if_pos h),λh=>⟨λh1=>z (by omega) (WG h (.inl h1)),λh1=>⟨λh2=>z (by omega) (WG h (.inr h2)),λh2=> ?_⟩⟩⟩;have m:=Rz p n;have e0:=VU (n:=n) h (by omega) (by omega);have rng:∀ {k:Int},0<=k->k<=200000->InR .i64 k:=λa b=>by simp only[InR]; omega
 refine⟨⟨(0,65536),⟨by simp only; omega,m.1,m.2,by simp only; omega⟩,rfl,rfl⟩,?_⟩;rintro⟨i,j⟩ ⟨a0,a1,a2,a3⟩ _;simp only at a0 a1 a2 a3 ⊢;refine⟨λhl=> ?_,λhl=>⟨by unfold GR; rw[if_pos e0]; omega,e0.symm⟩⟩;rw[Int.tdiv_eq_ediv_of_nonneg (show 0<=i+j+1 by omega)];have I:=UE (m:=(i+j+1)/2) (n:=n) h (by omega) (by omega) (by omega);have e1:MG p ((i+j+1)/2)=KE p ((i+j+1)/2):=if_pos (OV h (by omega) (by omega)).1;rw[e1];exact⟨rng (by omega) (by omega),rng (by omega) (by omega),⟨by omega,rng (by omega) (by omega)⟩,λ_=>⟨λhc=>⟨(_,j),⟨by simp only; omega,by simp only; omega,a2,a3⟩,rfl,rfl,by simp only; omega⟩,λhc=>⟨rng (by omega) (by omega),(i,_),⟨a0,a1,by simp only; omega,by simp only; omega⟩,rfl,rfl,by simp only; omega⟩⟩⟩
def r169:Cr PR:=K0 [r186,r214] 169 6 {ps:=[(true,hP),(false,hI)],rs:=[(false,hI),(false,hI)],pre:=λ_=>True,out:=λa=>[[.i (GR (arg 0 a) (I a 1 0))],[.i (H9 (arg 0 a) (I a 1 0))]]} (λa=>A169 (arg 0 a) (I a 1 0)) λa=>Y (v169 (arg 0 a) (I a 1 0))
end Go.Sx

set_option linter.unusedVariables false
set_option linter.unusedSimpArgs false
set_option maxRecDepth 100000
set_option maxHeartbeats 4000000
namespace Go
open Go.Sx
def Bd (r:List C):List C:=sg 1 [0,0,0,0,0] r
def AU (r:List C):Bool:=Bf (Bd r)&&AQ (qi 0 r) (ql 6 r)
def Ap (r:List C):Int:=bif AU r then((ql 6 r).length:Int)/qi 0 r else 0
def J8 (ch n d:Int):List C:=[.i ch,.i n,.i d,.i 0,.i 0,.i 0,.l []]
def FC (ch n d:Int):List C:=if AU (J8 ch n d)=false then[]else J8 ch n d
def J9 (ch n d:Int):Int:=if AU (J8 ch n d)=false then 1 else 0
def DR (r:List C) (ch:Int) (da:List (List C)):Int:=if AU r=false∨AQ ch da=false then 1 else if ch≠qi 0 r then 11 else if 65536<((ql 6 r).length+(da.length:Int))/qi 0 r then 3 else 0
def DD (r:List C) (ch:Int) (da:List (List C)):List C:=if DR r ch da=0 then sga 0 [0,0,0,0,0,0] r [.l (ql 6 r++da)]else[]
end Go
namespace Go
open Go.Sx
theorem Fb {ch:Int} {da:List (List C)} (h:AQ ch da=true):(da.length:Int)=ch*((da.length:Int)/ch)/\0<=(da.length:Int)/ch/\(da.length:Int)<=524288:=by
 have v:=Du h;have d:=Int.mul_ediv_add_emod (da.length:Int) ch;have q:=Int.ediv_nonneg (Int.natCast_nonneg da.length) (show 0<=ch by omega);have b:=Aap (x:=ch) (X:=8) (y:=(da.length:Int)/ch) (Y:=65536) (by omega) (by omega) q (by omega);omega
theorem Ei {r:List C} (h:AU r=true):Bf (Bd r)=true/\AQ (qi 0 r) (ql 6 r)=true:=by simpa[AU]using h
theorem MS {r:List C} (h:AU r=true):Ap r=((ql 6 r).length:Int)/qi 0 r:=by unfold Ap; rw[h]; rfl
theorem Rf {r:List C} {ch e:Int} {da:List (List C)} (h:e≠0) (he:DR r ch da=e):([C.i 0,C.i 0,C.i 0,C.i 0,C.i 0,C.i 0,C.l []]:List C)=sg 0 [0,0,0,0,0,0,3] (DD r ch da)/\e=DR r ch da:=
 ⟨by unfold DD; rw[if_neg (by omega)]; rfl,he.symm⟩
theorem Yo {r:List C} {ch:Int} {da xs:List (List C)} (he:DR r ch da=0) (hx:xs=ql 6 r++da):sga 0 [0,0,0,0,0,0] r [C.l xs]=sg 0 [0,0,0,0,0,0,3] (DD r ch da)/\0=DR r ch da:=
 ⟨by unfold DD; rw[if_pos he,hx]; rfl,he.symm⟩
theorem YD {r:List C} {ch:Int} {da:List (List C)} (h:AU r=false∨AQ ch da=false):DR r ch da=1:=if_pos h
theorem Aad {r:List C} {ch:Int} {da:List (List C)} (h:AU r=true) (h1:AQ ch da=true) (h2:ch≠qi 0 r):DR r ch da=11:=by unfold DR; rw[if_neg (by simp[h,h1]),if_pos h2]
theorem XW {r:List C} {ch:Int} {da:List (List C)} (h:AU r=true) (h1:AQ ch da=true) (h2:ch=qi 0 r):DR r ch da=if 65536<((ql 6 r).length+(da.length:Int))/qi 0 r then 3 else 0:=by unfold DR; rw[if_neg (by simp[h,h1]),if_neg (by simp[h2])]
end Go
namespace Go.Sx
theorem v197 (r:List C):WD hR r->True/\Cn (Bf (Bd r)) (True/\AQ (qi 0 r) (ql 6 r)=AU r) (false=AU r):=by
 intro hw;simp only[D,E,AU];exact⟨λh=>by rw[h]; rfl,λh=>by rw[h]; rfl⟩
def r197:Cr PR:=K0 [r236,r237] 197 6 {ps:=[(true,hR)],rs:=[(false,[.bool])],pre:=λ_=>True,out:=λa=>[[.b (AU (arg 0 a))]]} U λa=>Y (v197 (arg 0 a))
end Go.Sx
namespace Go.Sx
theorem v124 (r:List C):WD hR r->True/\Cn (Bf (Bd r)) (True/\AQ (qi 0 r) (ql 6 r)=AU r) (false=AU r):=by
 intro hw;simp only[D,E,AU];exact⟨λh=>by rw[h]; rfl,λh=>by rw[h]; rfl⟩
def r124:Cr PR:=K0 [r186,r108] 124 6 {ps:=[(true,hR)],rs:=[(false,[.bool])],pre:=λ_=>True,out:=λa=>[[.b (AU (arg 0 a))]]} U λa=>Y (v124 (arg 0 a))
end Go.Sx
namespace Go.Sx
theorem v199 (r:List C):WD hR r->True/\True/\Cn (bNot (AU r)) (0=Ap r) (pLe (iLen (ql 6 r)) 9223372036854775807->(pNe (qi 0 r) 0/\InR .i64 (iQuo (iLen (ql 6 r)) (qi 0 r)))/\iQuo (iLen (ql 6 r)) (qi 0 r)=Ap r):=by
 intro hw;have n0:=Int.natCast_nonneg (ql 6 r).length;simp only[D,E,Int.tdiv_eq_ediv_of_nonneg n0,Ap];refine⟨λh=>by rw[h]; rfl,λh _=> ?_⟩;have v:=Du (Ei h).2;exact⟨⟨by omega,Ld (hw.l 6).1⟩,by rw[h]; rfl⟩
def r199:Cr PR:=K0 [r197] 199 6 {ps:=[(true,hR)],rs:=[(false,hI)],pre:=λ_=>True,out:=λa=>[[.i (Ap (arg 0 a))]]} U λa=>Y (v199 (arg 0 a))
end Go.Sx
namespace Go.Sx
theorem v125 (r:List C):WD hR r->True/\True/\Cn (bNot (AU r)) (0=Ap r) (pLe (iLen (ql 6 r)) 9223372036854775807->(pNe (qi 0 r) 0/\InR .i64 (iQuo (iLen (ql 6 r)) (qi 0 r)))/\iQuo (iLen (ql 6 r)) (qi 0 r)=Ap r):=by
 intro hw;have n0:=Int.natCast_nonneg (ql 6 r).length;simp only[D,E,Int.tdiv_eq_ediv_of_nonneg n0,Ap];refine⟨λh=>by rw[h]; rfl,λh _=> ?_⟩;have v:=Du (Ei h).2;exact⟨⟨by omega,Ld (hw.l 6).1⟩,by rw[h]; rfl⟩
def r125:Cr PR:=K0 [r124] 125 6 {ps:=[(true,hR)],rs:=[(false,hI)],pre:=λ_=>True,out:=λa=>[[.i (Ap (arg 0 a))]]} U λa=>Y (v125 (arg 0 a))
end Go.Sx
namespace Go.Sx
theorem v97 (ch:Int) (n:Int) (d:Int):InR .i64 ch/\InR .i64 n/\InR .i64 d->True/\True/\Cn (bNot (AU [C.i ch,C.i n,C.i d,C.i 0,C.i 0,C.i 0,C.l []])) ([C.i 0,C.i 0,C.i 0,C.i 0,C.i 0,C.i 0,C.l []]=sg 0 [0,0,0,0,0,0,3] (FC ch n d)/\1=J9 ch n d) ([C.i ch,C.i n,C.i d,C.i 0,C.i 0,C.i 0,C.l []]=sg 0 [0,0,0,0,0,0,3] (FC ch n d)/\0=J9 ch n d):=by
 intro hw;have e1:AU (J8 ch n d)=false->([C.i 0,C.i 0,C.i 0,C.i 0,C.i 0,C.i 0,C.l []]:List C)=sg 0 [0,0,0,0,0,0,3] (FC ch n d)/\1=J9 ch n d:=λh=>⟨by unfold FC; rw[if_pos h]; rfl,(if_pos h).symm⟩
 have e2:AU (J8 ch n d)=true->J8 ch n d=sg 0 [0,0,0,0,0,0,3] (FC ch n d)/\0=J9 ch n d:=λh=>⟨by unfold FC; rw[if_neg (by simp[h])]; rfl,(if_neg (by simp[h])).symm⟩
 simp only[D,E];exact⟨e1,e2⟩
def r97:Cr PR:=K0 [r124] 97 6 {ps:=[(false,hI),(true,hII)],rs:=[(true,hR),(false,hI)],pre:=λ_=>True,out:=λa=>[rb [0,0,0,0,0,0,3] (FC (I a 0 0) (I a 1 0) (I a 1 1)),[.i (J9 (I a 0 0) (I a 1 0) (I a 1 1))]]} U λa=>Y (v97 (I a 0 0) (I a 1 0) (I a 1 1))
end Go.Sx
namespace Go.Sx
def AfZ (r:List C) (ch:Int) (da:List (List C)):Prop:=[C.i 0,C.i 0,C.i 0,C.i 0,C.i 0,C.i 0,C.l []]=sg 0 [0,0,0,0,0,0,3] (DD r ch da)
theorem v111 (r:List C) (ch:Int) (da:List (List C)):WD hR r/\InR .i64 ch/\WL hW da->True/\True/\Cn (bNot (AU r)) ((AfZ r ch da)/\1=DR r ch da) (True/\True/\Cn (bNot (AQ ch da)) ((AfZ r ch da)/\1=DR r ch da) (Cn (bNe ch (qi 0 r)) ((AfZ r ch da)/\11=DR r ch da) (pLe (iLen (ql 6 r)) 9223372036854775807->pLe (iLen da) 9223372036854775807->InR .i64 (iAdd (iLen (ql 6 r)) (iLen da))/\(pNe (qi 0 r) 0/\InR .i64 (iQuo (iAdd (iLen (ql 6 r)) (iLen da)) (qi 0 r)))/\Cn (bLt 65536 (iQuo (iAdd (iLen (ql 6 r)) (iLen da)) (qi 0 r))) ((AfZ r ch da)/\3=DR r ch da) (Aar 4 (iLen (ql 6 r))/\Aar 4 (iLen (ql 6 r++da))/\sga 0 [0,0,0,0,0,0] r [C.l (ql 6 r++da)]=sg 0 [0,0,0,0,0,0,3] (DD r ch da)/\0=DR r ch da)))):=by
 intro hw;delta AfZ;have n0:(0:Int)<=(ql 6 r).length+(da.length:Int):=by omega
 simp only[D,E,Int.tdiv_eq_ediv_of_nonneg n0];refine⟨λh=>Rf (by omega) (YD (.inl h)),λh=>⟨λh1=>Rf (by omega) (YD (.inr h1)),λh1=>⟨λh2=>Rf (by omega) (Aad h h1 h2),λh2 _ _=> ?_⟩⟩⟩;have v:=Ei h;have l1:=Fb v.2;have l2:=Fb h1;have c:=Du v.2;have e3:=XW h h1 h2;have q:=Ld (a:=(ql 6 r).length+da.length) (b:=qi 0 r) (by omega);rw[Int.natCast_add]at q;refine⟨by simp only[InR]; omega,⟨by omega,q⟩,λh3=>Rf (by omega) (by rw[e3,if_pos h3]),λh3=> ?_⟩;rw[if_neg h3]at e3;have room:∀ {k:Int},0<=k->k<=2000000->InR .i64 k:=λa b=>by simp only[InR]; omega
 exact⟨by omega,by rw[List.length_append]; omega,Yo e3 rfl⟩
def r111:Cr PR:=K0 [r124,r108] 111 6 {ps:=[(true,hR),(true,hK)],rs:=[(true,hR),(false,hI)],pre:=λ_=>True,out:=λa=>[rb [0,0,0,0,0,0,3] (DD (arg 0 a) (I a 1 0) (L a 1 1)),[.i (DR (arg 0 a) (I a 1 0) (L a 1 1))]]} U λa=>Y (v111 (arg 0 a) (I a 1 0) (L a 1 1))
end Go.Sx

set_option linter.unusedVariables false
set_option linter.unusedSimpArgs false
set_option maxRecDepth 100000
set_option maxHeartbeats 4000000
namespace Go
open Go.Sx
def QG (a b f q:Int):Int:=Aaj .i32 ((a*(q-f)+b*f+q/2)/q)
def Gj (r:List C) (i:Int):Int:=DX (Bd r) i/AX (Bd r)
def Ub (r:List C) (i:Int):Int:=DX (Bd r) i % AX (Bd r)
def O5 (r:List C) (k:Int):Int:=min k (Ap r-1)*qi 0 r
def X8 (r:List C) (i c:Int):List C:=[.i (QG (qi 0 (rGet (ql 6 r) (O5 r (Gj r i)+c))) (qi 0 (rGet (ql 6 r) (O5 r (Gj r i+1)+c))) (Ub r i) (AX (Bd r)))]
def Px (r:List C) (i m:Int):List (List C):=(List.range m.toNat).map fun(c:Nat)=>X8 r i c
def Fq (r:List C) (n:Int):List (List C):=(List.range n.toNat).flatMap fun(i:Nat)=>Px r i (qi 0 r)
def Ug (r:List C) (n i:Int) (ys:List (List C)):Prop:=0<=i/\i<=n/\ys=Fq r i
def UI (r:List C) (i c:Int) (ys:List (List C)):Prop:=0<=c/\c<=qi 0 r/\ys=Fq r i++Px r i c
def QQ (r:List C) (n:Int):Prop:=n=0∨1<=Ap r
end Go
namespace Go
open Go.Sx
theorem UU {t q:Int} (hq:0<q):(t.tmod q<0->t.tdiv q-1=t/q)/\(¬t.tmod q<0->t.tdiv q=t/q):=by
 have h1:=Int.mul_tdiv_add_tmod t q;have h2:=AhU t hq;refine⟨λh=>((Int.ediv_emod_unique (a:=t) (b:=q) (r:=t.tmod q+q) (q:=t.tdiv q-1) hq).2 ⟨?_,by omega,by omega⟩).1.symm,λh=>((Int.ediv_emod_unique (a:=t) (b:=q) (r:=t.tmod q) (q:=t.tdiv q) hq).2 ⟨by omega,by omega,by omega⟩).1.symm⟩;rw[Int.mul_sub,Int.mul_one]; omega
theorem Ql {a y Y:Int} (h0: -8388608<=a) (h1:a<=8388607) (h2:0<=y) (h3:y<=Y): -(8388608*y)<=a*y/\a*y<=8388608*y:=by
 have b1:=Int.mul_le_mul_of_nonneg_right h0 h2;have b2:=Int.mul_le_mul_of_nonneg_right h1 h2;omega
end Go
namespace Go.Sx
theorem v241 (a:Int) (b:Int) (f:Int) (q:Int):InR .i32 a/\InR .i32 b/\InR .i64 f/\InR .i64 q->pLe (-8388608) a/\pLe a 8388607/\pLe (-8388608) b/\pLe b 8388607/\pLe 0 f/\pLe f q/\pLe 65536 q/\pLe q 50331648000->InR .i64 (iSub q f)/\InR .i64 (iMul a (iSub q f))/\InR .i64 (iMul b f)/\InR .i64 (iAdd (iMul a (iSub q f)) (iMul b f))/\(pNe 2 0/\InR .i64 (iQuo q 2))/\InR .i64 (iAdd (iAdd (iMul a (iSub q f)) (iMul b f)) (iQuo q 2))/\(pNe q 0/\InR .i64 (iQuo (iAdd (iAdd (iMul a (iSub q f)) (iMul b f)) (iQuo q 2)) q))/\pNe q 0/\Cn (bLt (iRem (iAdd (iAdd (iMul a (iSub q f)) (iMul b f)) (iQuo q 2)) q) 0) (InR .i64 (iSub (iQuo (iAdd (iAdd (iMul a (iSub q f)) (iMul b f)) (iQuo q 2)) q) 1)/\Aaj .i32 (iSub (iQuo (iAdd (iAdd (iMul a (iSub q f)) (iMul b f)) (iQuo q 2)) q) 1)=QG a b f q) (Aaj .i32 (iQuo (iAdd (iAdd (iMul a (iSub q f)) (iMul b f)) (iQuo q 2)) q)=QG a b f q):=by
 intro hw hp;simp only[D,E]at hp ⊢;obtain⟨a0,a1,b0,b1,f0,f1,q0,q1⟩:=hp;have m1:=Ql (y:=q-f) a0 a1 (by omega) (Int.le_refl _);have m2:=Ql (y:=f) b0 b1 f0 (Int.le_refl _);rw[Int.tdiv_eq_ediv_of_nonneg (show 0<=q by omega)];unfold QG;generalize a*(q-f)=x at*;generalize b*f=y at*;have t:=UU (t:=x+y+q/2) (q:=q) (by omega);have n:=Int.natAbs_tdiv_le_natAbs (x+y+q/2) q;have rng:∀ {k:Int},-1000000000000000000<=k->k<=1000000000000000000->InR .i64 k:=λa b=>by simp only[InR]; omega
 refine⟨rng (by omega) (by omega),rng (by omega) (by omega),rng (by omega) (by omega),rng (by omega) (by omega),⟨by omega,rng (by omega) (by omega)⟩,rng (by omega) (by omega),⟨by omega,rng (by omega) (by omega)⟩,by omega,λh=>⟨rng (by omega) (by omega),by rw[t.1 h]⟩,λh=>by rw[t.2 h]⟩
def r241:Cr PR:=K [] 241 6 {ps:=[(false,hW),(false,hW),(false,hI),(false,hI)],rs:=[(false,hW)],pre:=λa=>pLe (-8388608) (I a 0 0)/\(pLe (I a 0 0) 8388607/\(pLe (-8388608) (I a 1 0)/\(pLe (I a 1 0) 8388607/\(pLe 0 (I a 2 0)/\(pLe (I a 2 0) (I a 3 0)/\(pLe 65536 (I a 3 0)/\pLe (I a 3 0) 50331648000)))))),out:=λa=>[[.i (QG (I a 0 0) (I a 1 0) (I a 2 0) (I a 3 0))]]} U λa=>Y (v241 (I a 0 0) (I a 1 0) (I a 2 0) (I a 3 0))
end Go.Sx
namespace Go
open Go.Sx
theorem Zh (r:List C) {i:Int} (h:0<=i):Fq r (i+1)=Fq r i++Px r i (qi 0 r):=by
 unfold Fq;rw[show(i+1).toNat=i.toNat+1 by omega,List.range_succ,List.flatMap_append,List.flatMap_singleton,Int.toNat_of_nonneg h]
theorem Zo (r:List C) {i c:Int} (h:0<=c):Px r i (c+1)=Px r i c++[X8 r i c]:=by
 unfold Px;rw[show(c+1).toNat=c.toNat+1 by omega,List.range_succ,List.map_append,List.map_singleton,Int.toNat_of_nonneg h]
theorem Ut (r:List C) (i c:Int):(Px r i c).length=c.toNat:=by simp[Px]
theorem Q7 (r:List C) (n:Int) (h:0<=qi 0 r):((Fq r n).length:Int)=n.toNat*qi 0 r:=by
 unfold Fq;generalize n.toNat=m
 induction m with
 |zero=>simp
 |succ m ih=>rw[List.range_succ,List.flatMap_append,List.flatMap_singleton,List.length_append,Int.natCast_add,ih,Ut,Int.natCast_succ,Int.add_mul]; omega
theorem Vy {xs:List (List C)} {i:Int} (h:xs.all FT=true) (h0:0<=i) (h1:i<(xs.length:Int)): -8388608<=qi 0 (rGet xs i)/\qi 0 (rGet xs i)<=8388607:=by
 have hm:rGet xs i∈xs:=by
  unfold rGet;rw[List.getD_eq_getElem?_getD,List.getElem?_eq_getElem (show i.toNat<xs.length by omega)];exact List.getElem_mem _
 simpa[FT]using List.all_eq_true.1 h _ hm
theorem Q3 {ch:Int} {da:List (List C)} (h:AQ ch da=true):da.all FT=true:=by
 unfold AQ at h; rw[Bool.and_eq_true]at h; exact h.2
theorem VD {r:List C} {k:Int} (h:AU r=true) (hw:1<=Ap r) (hk:0<=k):0<=O5 r k/\O5 r k+qi 0 r<=(ql 6 r).length/\((ql 6 r).length:Int)<=524288:=by
 have v:=Ei h;have c:=Du v.2;have l:=Fb v.2;rw[←MS h]at l;have b:=Int.mul_le_mul_of_nonneg_right (show min k (Ap r-1)<=Ap r-1 by omega) (show 0<=qi 0 r by omega);rw[Int.sub_mul,Int.one_mul,Int.mul_comm (Ap r)]at b;have a:=Int.mul_nonneg (show 0<=min k (Ap r-1) by omega) (show 0<=qi 0 r by omega);unfold O5; omega
end Go
namespace Go.Sx
def A216 (r:List C) (n:Int):FuncId->Nat->LoopAnn:=λ_ ii=>bif Nat.beq ii 4 then .ghostB 5 1 hW 21 (.inv (Int×List (List C)) (λz=>Ug r n z.1 z.2) (λz=>[(7,.int .i64 z.1)]) (λz=>[(2,.box [.int .i64 (qi 0 r),.own 3 0] 95),(3,.row hW 21 0 z.2)]) [2,3] [0,1,2,4,5,6,7,8,9,11,12,13,14,22,56] (λz=>(n-z.1).toNat))else .on (λsv0=>match sv0.tmps.getD 7 .undef with| .int _ ci=> .inv (Int×List (List C)) (λz=>UI r ci z.1 z.2) (λz=>[(14,.int .i64 z.1)]) (λz=>[(2,.box [.int .i64 (qi 0 r),.own 3 0] 95),(3,.row hW 21 0 z.2)]) [2,3] [0,1,2,4,5,6,7,8,9,11,12,13,14,22,56] (λz=>(qi 0 r-z.1).toNat)|_=> .unroll 0)
def Abd (r:List C) (x:Int×List (List C)):Int:=(DI (Bd r) x.1)
def Ag0 (r:List C) (x:Int×List (List C)) (x_1:Int×List (List C)):Int:=(QG (qi 0 (rGet (ql 6 r) (iAdd (iMul (iMin (iSub (Abd r x) (qi 4 r)) (iSub (Ap r) 1)) (qi 0 r)) x_1.1))) (qi 0 (rGet (ql 6 r) (iAdd (iMul (iMin (iAdd (iSub (Abd r x) (qi 4 r)) 1) (iSub (Ap r) 1)) (qi 0 r)) x_1.1))) (FM (Bd r) x.1) (AX (Bd r)))
def AgZ (r:List C) (x:Int×List (List C)) (x_1:Int×List (List C)):List C:=(rGet (ql 6 r) (iAdd (iMul (iMin (iAdd (iSub (Abd r x) (qi 4 r)) 1) (iSub (Ap r) 1)) (qi 0 r)) x_1.1))
def AgY (r:List C) (x:Int×List (List C)) (x_1:Int×List (List C)):List C:=(rGet (ql 6 r) (iAdd (iMul (iMin (iSub (Abd r x) (qi 4 r)) (iSub (Ap r) 1)) (qi 0 r)) x_1.1))
theorem v216 (r:List C) (n:Int):WD hR r/\InR .i64 n->AU r=true/\pLe 0 n/\pLe n 65536/\QQ r n->True/\(InR .i64 (Ap r)->(∃(x:Int×List (List C)),Ug r n x.1 x.2/\0=x.1/\Sm (qi 0 r)/\[]=x.2)/\∀(x:Int×List (List C)),Ug r n x.1 x.2->InR .i64 x.1/\InR .i64 (qi 0 r)/\WL hW x.2->Cn (bLt x.1 n) (True/\(InR .i64 (Abd r x)/\InR .i64 (FM (Bd r) x.1)/\InR .i64 (BR (Bd r) x.1)->InR .i64 (iSub (Abd r x) (qi 4 r))/\InR .i64 (iSub (Ap r) 1)/\InR .i64 (iMul (iMin (iSub (Abd r x) (qi 4 r)) (iSub (Ap r) 1)) (qi 0 r))/\InR .i64 (iAdd (iSub (Abd r x) (qi 4 r)) 1)/\InR .i64 (iSub (Ap r) 1)/\InR .i64 (iMul (iMin (iAdd (iSub (Abd r x) (qi 4 r)) 1) (iSub (Ap r) 1)) (qi 0 r))/\(∃(x_1:Int×List (List C)),UI r x.1 x_1.1 x_1.2/\0=x_1.1/\Sm (qi 0 r)/\x.2=x_1.2)/\∀(x_1:Int×List (List C)),UI r x.1 x_1.1 x_1.2->InR .i64 x_1.1/\InR .i64 (qi 0 r)/\WL hW x_1.2->Cn (bLt x_1.1 (qi 0 r)) (InR .i64 (iAdd (iMul (iMin (iSub (Abd r x) (qi 4 r)) (iSub (Ap r) 1)) (qi 0 r)) x_1.1)/\pIn 0 (iLen (ql 6 r)) (iAdd (iMul (iMin (iSub (Abd r x) (qi 4 r)) (iSub (Ap r) 1)) (qi 0 r)) x_1.1)/\(InR .i32 (qi 0 (AgY r x x_1))->InR .i64 (iAdd (iMul (iMin (iAdd (iSub (Abd r x) (qi 4 r)) 1) (iSub (Ap r) 1)) (qi 0 r)) x_1.1)/\pIn 0 (iLen (ql 6 r)) (iAdd (iMul (iMin (iAdd (iSub (Abd r x) (qi 4 r)) 1) (iSub (Ap r) 1)) (qi 0 r)) x_1.1)/\(InR .i32 (qi 0 (AgZ r x x_1))->(pLe 0 (qi 1 (Bd r))/\pLe (qi 1 (Bd r)) 768000)/\(InR .i64 (AX (Bd r))->(pLe (-8388608) (qi 0 (AgY r x x_1))/\pLe (qi 0 (AgY r x x_1)) 8388607/\pLe (-8388608) (qi 0 (AgZ r x x_1))/\pLe (qi 0 (AgZ r x x_1)) 8388607/\pLe 0 (FM (Bd r) x.1)/\pLe (FM (Bd r) x.1) (AX (Bd r))/\pLe 65536 (AX (Bd r))/\pLe (AX (Bd r)) 50331648000)/\(InR .i32 (Ag0 r x x_1)->Aar 4 (iLen (x_1.2++[[C.i (Ag0 r x x_1)]]))/\InR .i64 (iAdd x_1.1 1)/\Sm (sg 0 [0,0,0,0,0,0,3] r)/\Sm n/\Sm (Ap r)/\Sm x.1/\Sm (Abd r x)/\Sm (FM (Bd r) x.1)/\Sm (iSub (Abd r x) (qi 4 r))/\Sm (iMul (iMin (iSub (Abd r x) (qi 4 r)) (iSub (Ap r) 1)) (qi 0 r))/\Sm (iMul (iMin (iAdd (iSub (Abd r x) (qi 4 r)) 1) (iSub (Ap r) 1)) (qi 0 r))/\Sm (sg 0 [0,0,0,0,0,0,3] r)/\∃(y:Int×List (List C)),UI r x.1 y.1 y.2/\iAdd x_1.1 1=y.1/\Sm (qi 0 r)/\x_1.2++[[C.i (Ag0 r x x_1)]]=y.2/\nLt (qi 0 r-y.1).toNat (qi 0 r-x_1.1).toNat))))) (InR .i64 (iAdd x.1 1)/\Sm (sg 0 [0,0,0,0,0,0,3] r)/\Sm n/\Sm (Ap r)/\Sm (sg 0 [0,0,0,0,0,0,3] r)/\∃(y:Int×List (List C)),Ug r n y.1 y.2/\iAdd x.1 1=y.1/\Sm (qi 0 r)/\x_1.2=y.2/\nLt (n-y.1).toNat (n-x.1).toNat))) (Sm (qi 0 r)/\x.2=Fq r n)):=by
 intro hw hp;delta Abd Ag0 AgZ AgY;simp only[D,E]at hp ⊢;intro _;have hv:=Ei hp.1;have c:=Du hv.2;refine⟨⟨(0,[]),⟨Int.le_refl _,hp.2.1,rfl⟩,rfl,rfl⟩,?_⟩;rintro⟨i,ys⟩ ⟨i0,i1,i2⟩ _;simp only at i0 i1 i2 ⊢;subst i2;refine⟨λhl _=> ?_,λhl=>by rw[show i=n by omega]⟩;have k:=OV hv.1 i0 (show i<=65536 by omega);have kb:=NU hv.1 i0 (show i<=65536 by omega);have k1:DI (Bd r) i-qi 4 r=Gj r i:=by rw[k.2.1]; show qi 4 r+Gj r i-qi 4 r=_; omega
 have k2:FM (Bd r) i=Ub r i:=k.2.2;have w1:1<=Ap r:=hp.2.2.2.resolve_left (by omega);simp only[k1,k2];simp only[show∀x,min x (Ap r-1)*qi 0 r=O5 r x from λ_=>rfl];have q:=P6 hv.1;have pv:=MH hv.1;have K0:0<=Gj r i/\Gj r i<=4000000000000000:=⟨kb.2.2.2.2.1,kb.2.2.2.2.2.1⟩
 have F0:0<=Ub r i/\Ub r i<AX (Bd r):=kb.2.2.2.2.2.2;have A0:=VD hp.1 w1 K0.1;have A1:=VD hp.1 w1 (k:=Gj r i+1) (by omega);have W1:Ap r<=65536:=by rw[MS hp.1]; omega
 have sa:=Q3 hv.2;have ln:=Q7 r i (by omega);have lb:=Aap (x:=i) (X:=65536) (y:=qi 0 r) (Y:=8) i0 (by omega) (by omega) (by omega);rw[Int.toNat_of_nonneg i0]at ln;have rng:∀ {k:Int},-10000000000000000<=k->k<=10000000000000000->InR .i64 k:=λa b=>by simp only[InR]; omega
 refine⟨rng (by omega) (by omega),rng (by omega) (by omega),rng (by omega) (by omega),rng (by omega) (by omega),rng (by omega) (by omega),rng (by omega) (by omega),⟨(0,_),⟨Int.le_refl _,by omega,(List.append_nil _).symm⟩,rfl,rfl⟩,?_⟩;rintro⟨m,zs⟩ ⟨m0,m1,m2⟩ _;simp only at m0 m1 m2 ⊢;subst m2;refine⟨λhc=> ?_,λhc=>⟨rng (by omega) (by omega),(i+1,_),⟨by simp only; omega,by simp only; omega,?_⟩,rfl,rfl,by simp only; omega⟩⟩
 · have s0:=Vy sa (i:=O5 r (Gj r i)+m) (by omega) (by omega);have s1:=Vy sa (i:=O5 r (Gj r i+1)+m) (by omega) (by omega);refine⟨rng (by omega) (by omega),⟨by omega,by omega⟩,λ_=>⟨rng (by omega) (by omega),⟨by omega,by omega⟩,λ_=>⟨⟨by omega,by omega⟩,λ_=>⟨⟨s0.1,s0.2,s1.1,s1.2,F0.1,by omega,q.1,q.2.1⟩,λ_=>⟨?_,rng (by omega) (by omega),(m+1,_),⟨by simp only; omega,by simp only; omega,?_⟩,rfl,rfl,by simp only; omega⟩⟩⟩⟩⟩
   · simp only[List.length_append,List.length_singleton,Ut]; omega
   · simp only; rw[Zo r m0,←List.append_assoc]; rfl
 · simp only; rw[Zh r i0,show m=qi 0 r by omega]
def r216:Cr PR:=K [r125,r217,r226,r241] 216 6 {ps:=[(true,hR),(false,hI)],rs:=[(true,hK)],pre:=λa=>AU (arg 0 a)=true/\(pLe 0 (I a 1 0)/\(pLe (I a 1 0) 65536/\QQ (arg 0 a) (I a 1 0))),out:=λa=>[[.i (qi 0 (arg 0 a)),.l (Fq (arg 0 a) (I a 1 0))]]} (λa=>A216 (arg 0 a) (I a 1 0)) λa=>Y (v216 (arg 0 a) (I a 1 0))
end Go.Sx
namespace Go
open Go.Sx
def FD (r:List C) (n:Int):Int:=Hz (Bd r) n
def RD (r:List C) (n:Int):Int:=min (Gj r n) (Ap r)*qi 0 r
def Hu (r:List C) (n:Int):List C:=if FD r n=0 then sga 0 [0,0,0,0] r [.i (DI (Bd r) n),.i (FM (Bd r) n),.l (cutRows (ql 6 r) (some (RD r n)) none)]else[]
def EG (r:List C) (n:Int):Int:=if AU r=false then 1 else if n<0∨65536<n then 2 else if Ap r<KE (Bd r) n then 4 else FD r n
def G5 (r:List C) (n:Int):Int:=if EG r n=0 then qi 0 r else 0
def F7 (r:List C) (n:Int):List (List C):=if EG r n=0 then Fq r n else[]
def Jf (r:List C) (n:Int):List C:=if EG r n=0 then Hu r n else[]
end Go
namespace Go
open Go.Sx
theorem Vo {r:List C} {n:Int} (h:AU r=true) (h0:0<=n) (h1:n<=65536):0<=Gj r n/\Gj r n<=4000000000000000/\0<=RD r n/\RD r n<=(ql 6 r).length/\((ql 6 r).length:Int)<=524288/\0<=Ap r/\Ap r<=65536:=by
 have v:=Ei h;have c:=Du v.2;have l:=Fb v.2;have kb:=NU v.1 h0 h1;have K0:0<=Gj r n/\Gj r n<=4000000000000000:=⟨kb.2.2.2.2.1,kb.2.2.2.2.2.1⟩
 rw[←MS h]at l c;have b:=Int.mul_le_mul_of_nonneg_right (show min (Gj r n) (Ap r)<=Ap r by omega) (show 0<=qi 0 r by omega);have a:=Int.mul_nonneg (show 0<=min (Gj r n) (Ap r) by omega) (show 0<=qi 0 r by omega);rw[Int.mul_comm (Ap r)]at b;unfold RD; omega
theorem ZQ {p:List C} {n:Int} (h:Hz p n=0):BR p n=0/\DI p n<=1125899906842624:=by
 unfold Hz at h;split at h
 · cases h
 · rename_i h2;have:¬1125899906842624<DI p n:=λh3=>h2 ⟨h,h3⟩;exact⟨h,by omega⟩
theorem Vt {r:List C} {n:Int} (h:AU r=true) (h0:0<=n) (h1:n<=65536):DI (Bd r) n-qi 4 r=Gj r n:=by
 rw[(OV (Ei h).1 h0 h1).2.1]; show qi 4 r+Gj r n-qi 4 r=_; omega
theorem Yu {r:List C} {n:Int} (h:AU r=true) (h0:0<=n) (h1:n<=65536) (hn:KE (Bd r) n<=Ap r):QQ r n:=by
 by_cases hz:n=0
 · exact .inl hz
 · have kb:=NU (n:=n-1) (Ei h).1 (by omega) (by omega);unfold KE at hn; rw[if_neg hz]at hn;exact .inr (by omega)
theorem XH {r:List C} {n:Int} (h:AU r=true) (h0:0<=n) (h1:n<=65536):EG r n=if Ap r<KE (Bd r) n then 4 else FD r n:=by
 unfold EG; rw[if_neg (by simp[h]),if_neg (by omega)]
end Go
namespace Go.Sx
theorem v215 (r:List C) (n:Int):WD hR r/\InR .i64 n->AU r=true->True/\(WD hP (Ir (Bd r) n)/\InR .i64 (Hz (Bd r) n)->Cn (bNe (Hz (Bd r) n) 0) ([C.i 0,C.i 0,C.i 0,C.i 0,C.i 0,C.i 0,C.l []]=sg 0 [0,0,0,0,0,0,3] (Hu r n)/\Hz (Bd r) n=FD r n) (InR .i64 (iSub (qi 3 (Ir (Bd r) n)) (qi 4 r))/\True/\(InR .i64 (Ap r)->InR .i64 (iMul (iMin (iSub (qi 3 (Ir (Bd r) n)) (qi 4 r)) (Ap r)) (qi 0 r))/\geB (some (iMul (iMin (iSub (qi 3 (Ir (Bd r) n)) (qi 4 r)) (Ap r)) (qi 0 r))) none (iLen (ql 6 r))/\Aar 4 (iLen (cutRows (ql 6 r) (some (iMul (iMin (iSub (qi 3 (Ir (Bd r) n)) (qi 4 r)) (Ap r)) (qi 0 r))) none))/\C.i (qi 0 r)::sga 0 [0,0,0,0,0] (Ir (Bd r) n) [C.l (cutRows (ql 6 r) (some (iMul (iMin (iSub (qi 3 (Ir (Bd r) n)) (qi 4 r)) (Ap r)) (qi 0 r))) none)]=sg 0 [0,0,0,0,0,0,3] (Hu r n)/\0=FD r n))):=by
 intro hw hp;simp only[D,E];refine λ_=>⟨λh=>⟨by unfold Hu FD; rw[if_neg h]; rfl,rfl⟩,λh=> ?_⟩
 have p:=Vd (ZQ h).1;have g:=Vo hp p.2.1 p.2.2;have e:Ir (Bd r) n=[.i (qi 1 r),.i (qi 2 r),.i (qi 3 r),.i (DI (Bd r) n),.i (FM (Bd r) n)]:=if_pos h;have k:qi 3 (Ir (Bd r) n)-qi 4 r=Gj r n:=by rw[e]; exact Vt hp p.2.1 p.2.2
 rw[k,show min (Gj r n) (Ap r)*qi 0 r=RD r n from rfl];have rng:∀ {k:Int},-10000000000000000<=k->k<=10000000000000000->InR .i64 k:=λa b=>by simp only[InR]; omega
 refine⟨rng (by omega) (by omega),λ_=>⟨rng (by omega) (by omega),⟨g.2.2.1,g.2.2.2.1⟩,by simp only[cutRows,List.length_drop]; omega,?_,h.symm⟩⟩;unfold Hu FD;rw[if_pos h,e]; rfl
def r215:Cr PR:=K [r240,r125] 215 6 {ps:=[(true,hR),(false,hI)],rs:=[(true,hR),(false,hI)],pre:=λa=>AU (arg 0 a)=true,out:=λa=>[rb [0,0,0,0,0,0,3] (Hu (arg 0 a) (I a 1 0)),[.i (FD (arg 0 a) (I a 1 0))]]} U λa=>Y (v215 (arg 0 a) (I a 1 0))
end Go.Sx
namespace Go.Sx
def AfW (r:List C) (n:Int):Prop:=[C.i 0,C.i 0,C.i 0,C.i 0,C.i 0,C.i 0,C.l []]=sg 0 [0,0,0,0,0,0,3] (Jf r n)
theorem v170 (r:List C) (n:Int):WD hR r/\InR .i64 n->True/\True/\Cn (bNot (AU r)) (0=G5 r n/\[]=F7 r n/\(AfW r n)/\1=EG r n) (True/\(InR .i64 (MG (Bd r) n)/\InR .i64 (BR (Bd r) n)->Cn (bNe (BR (Bd r) n) 0) (0=G5 r n/\[]=F7 r n/\(AfW r n)/\BR (Bd r) n=EG r n) (True/\(InR .i64 (Ap r)->Cn (bLt (Ap r) (MG (Bd r) n)) (0=G5 r n/\[]=F7 r n/\(AfW r n)/\4=EG r n) (AU r=true/\(WD hR (Hu r n)/\InR .i64 (FD r n)->Cn (bNe (FD r n) 0) (0=G5 r n/\[]=F7 r n/\(AfW r n)/\FD r n=EG r n) ((AU r=true/\pLe 0 n/\pLe n 65536/\QQ r n)/\(InR .i64 (qi 0 r)/\WL hW (Fq r n)->qi 0 r=G5 r n/\Fq r n=F7 r n/\sg 0 [0,0,0,0,0,0,3] (Hu r n)=sg 0 [0,0,0,0,0,0,3] (Jf r n)/\0=EG r n)))))))):=by
 intro hw;delta AfW;simp only[D,E];have z:∀ {e:Int},e≠0->EG r n=e->0=G5 r n/\[]=F7 r n/\([C.i 0,C.i 0,C.i 0,C.i 0,C.i 0,C.i 0,C.l []]:List C)=sg 0 [0,0,0,0,0,0,3] (Jf r n)/\e=EG r n:=λh e=>by
  have:¬EG r n=0:=by omega
  unfold G5 F7 Jf;rw[if_neg this,if_neg this,if_neg this];exact⟨rfl,rfl,rfl,e.symm⟩
 refine⟨λh=>z (by omega) (if_pos h),λh _=>⟨λh1=>z h1 ?_,λh1 _=> ?_⟩⟩
 · have v:=(Ei h).1;by_cases hn:n<0∨65536<n
   · rw[Vf v hn]; unfold EG; rw[if_neg (by simp[h]),if_pos hn]
   · exact(h1 (OV v (by omega) (by omega)).1).elim
 have p:=Vd h1;have t:=XH h p.2.1 p.2.2;have en:MG (Bd r) n=KE (Bd r) n:=if_pos h1;rw[en];refine⟨λh2=>z (by omega) (by rw[t,if_pos h2]),λh2=>⟨h,λ_=> ?_⟩⟩;rw[if_neg h2]at t;refine⟨λh3=>z h3 t,λh3=>⟨⟨h,p.2.1,p.2.2,Yu h p.2.1 p.2.2 (by omega)⟩,λ_=> ?_⟩⟩;have:EG r n=0:=by omega
 unfold G5 F7 Jf;rw[if_pos this,if_pos this,if_pos this];exact⟨rfl,rfl,rfl,this.symm⟩
def r170:Cr PR:=K0 [r124,r214,r125,r215,r216] 170 6 {ps:=[(true,hR),(false,hI)],rs:=[(true,hK),(true,hR),(false,hI)],pre:=λ_=>True,out:=λa=>[[.i (G5 (arg 0 a) (I a 1 0)),.l (F7 (arg 0 a) (I a 1 0))],rb [0,0,0,0,0,0,3] (Jf (arg 0 a) (I a 1 0)),[.i (EG (arg 0 a) (I a 1 0))]]} U λa=>Y (v170 (arg 0 a) (I a 1 0))
end Go.Sx

