import Derived.Test.YtejdbdegdanecaaGreatSxUse
import Derived.Test.YtejdbdegdanecaaGreatM18
set_option linter.unusedVariables false
set_option linter.unusedSimpArgs false
set_option maxRecDepth 100000
set_option maxHeartbeats 4000000
namespace Go
open Go.Sx
def Gp (x:List C):Bool:=decide (-8388608<=qi 0 x/\qi 0 x<=8388607)
def Qj (ch n:Int):Bool:=decide (1<=ch/\ch<=8/\n % ch=0/\n/ch<=65536)
def AO (ch:Int) (da:List (List C)):Bool:=Qj ch (da.length:Int)&&da.all Gp
theorem LY {ch:Int} {da:List (List C)} (h:¬(1<=ch/\ch<=8/\(da.length:Int) % ch=0/\(da.length:Int)/ch<=65536)):false=AO ch da:=by
 unfold AO Qj; rw[AlK h]; rfl
theorem Pm {ch:Int} {da:List (List C)} (h:1<=ch/\ch<=8/\(da.length:Int) % ch=0/\(da.length:Int)/ch<=65536):AO ch da=da.all Gp:=by
 unfold AO Qj; rw[AlL h]; rfl
theorem LW {a:Nat} {b:Int} (h:a<=9223372036854775807):AnC ((a:Int)/b):=by
 have:=Int.natAbs_ediv_le_natAbs a b;simp only[InR]; omega
end Go
namespace Go.Sx
def A237 (da:List (List C)):FuncId->Nat->LoopAnn:=λ_ _=>lp 34 da.length (E5 Gp da) [0,1,2,4,30,32,33,34,35,40]
theorem v237 (ch:Int) (da:List (List C)):AnC ch/\WL hW da->Cn (bLt ch 1) (false=AO ch da) (Cn (bLt 8 ch) (false=AO ch da) (AnE da->pNe ch 0/\Cn (bNe (iRem (iLen da) ch) 0) (false=AO ch da) (AnE da->(pNe ch 0/\AnC (iQuo (iLen da) ch))/\Cn (bLt 65536 (iQuo (iLen da) ch)) (false=AO ch da) (AnE da->(∃(x:Int),E5 Gp da x/\0=x)/\∀(x:Int),E5 Gp da x->AnC x->Cn (bLt x (iLen da)) (pIn 0 (iLen da) x/\(InR .i32 (qi 0 (rGet da x))->Cn (bLe (-8388608) (qi 0 (rGet da x))) (True/\Cn (bNot (bLe (qi 0 (rGet da x)) 8388607)) (false=AO ch da) (AnC (iAdd x 1)/\Sm [C.i ch,C.l da]/\Sm da/\Sm (iLen da)/\Sm [C.i ch,C.l da]/\∃(y:Int),E5 Gp da y/\iAdd x 1=y/\nLt (da.length-y.toNat) (da.length-x.toNat))) (True/\false=AO ch da))) (true=AO ch da))))):=by
 intro hw;have n0:=Am6 da.length;simp only[D,E,AlI n0,AmP n0];have q:=LW (a:=da.length) (b:=ch) hw.2.1;refine⟨λh=>LY (by omega),λh1=>⟨λh=>LY (by omega),λh2 _=>⟨by omega,λh=>LY (by omega),λh3 _=>⟨⟨by omega,q⟩,λh=>LY (by omega),λh4 _=> ?_⟩⟩⟩⟩;rw[Pm (by omega)];exact lpA al0 (λx h=>h.1) (λx h h0 hx _=>⟨λa=>⟨λb=>alB h hx (AlK (by omega)),λb=>⟨inS hw.2 h0 hx,x+1,alN h hx (AlL (by omega)),rfl,by omega⟩⟩,λa=>alB h hx (AlK (by omega))⟩) (λx h hx=>alE h hx)
def r237:Cr PR:=K0 [] 237 6 {ps:=[(true,hK)],rs:=[(false,[.bool])],out:=λa=>[[.b (AO (AnF a) (L a 0 1))]]} (λa=>A237 (L a 0 1)) λa=>Y (v237 (AnF a) (L a 0 1))
def A108 (da:List (List C)):FuncId->Nat->LoopAnn:=λ_ _=>lp 34 da.length (E5 Gp da) [0,1,2,4,30,32,33,34,35,40]
theorem v108 (ch:Int) (da:List (List C)):AnC ch/\WL hW da->Cn (bLt ch 1) (false=AO ch da) (Cn (bLt 8 ch) (false=AO ch da) (AnE da->pNe ch 0/\Cn (bNe (iRem (iLen da) ch) 0) (false=AO ch da) (AnE da->(pNe ch 0/\AnC (iQuo (iLen da) ch))/\Cn (bLt 65536 (iQuo (iLen da) ch)) (false=AO ch da) (AnE da->(∃(x:Int),E5 Gp da x/\0=x)/\∀(x:Int),E5 Gp da x->AnC x->Cn (bLt x (iLen da)) (pIn 0 (iLen da) x/\(InR .i32 (qi 0 (rGet da x))->Cn (bLe (-8388608) (qi 0 (rGet da x))) (True/\Cn (bNot (bLe (qi 0 (rGet da x)) 8388607)) (false=AO ch da) (AnC (iAdd x 1)/\Sm [C.i ch,C.l da]/\Sm da/\Sm (iLen da)/\Sm [C.i ch,C.l da]/\∃(y:Int),E5 Gp da y/\iAdd x 1=y/\nLt (da.length-y.toNat) (da.length-x.toNat))) (True/\false=AO ch da))) (true=AO ch da))))):=by
 intro hw;have n0:=Am6 da.length;simp only[D,E,AlI n0,AmP n0];have q:=LW (a:=da.length) (b:=ch) hw.2.1;refine⟨λh=>LY (by omega),λh1=>⟨λh=>LY (by omega),λh2 _=>⟨by omega,λh=>LY (by omega),λh3 _=>⟨⟨by omega,q⟩,λh=>LY (by omega),λh4 _=> ?_⟩⟩⟩⟩;rw[Pm (by omega)];exact lpA al0 (λx h=>h.1) (λx h h0 hx _=>⟨λa=>⟨λb=>alB h hx (AlK (by omega)),λb=>⟨inS hw.2 h0 hx,x+1,alN h hx (AlL (by omega)),rfl,by omega⟩⟩,λa=>alB h hx (AlK (by omega))⟩) (λx h hx=>alE h hx)
def r108:Cr PR:=K0 [] 108 6 {ps:=[(true,hK)],rs:=[(false,[.bool])],out:=λa=>[[.b (AO (AnF a) (L a 0 1))]]} (λa=>A108 (L a 0 1)) λa=>Y (v108 (AnF a) (L a 0 1))
end Go.Sx
namespace Go
open Go.Sx
def AQ (ch:Int) (da:List (List C)):Int:=bif AO ch da then(da.length:Int)/ch else 0
def Jr (n:Int):List (List C):=List.replicate n.toNat [.i 0]
def Jv (ch n:Int):Int:=if 1<=ch/\ch<=8/\0<=n/\n<=65536 then 0 else 2
def JZ (ch n:Int):Int:=if Jv ch n=0 then ch else 0
def C9 (x y:List C):Bool:=bEq (qi 0 x) (qi 0 y)
def EX (ch n:Int):List (List C):=if Jv ch n=0 then Jr (ch*n)else[]
theorem Df {ch:Int} {da:List (List C)} (h:AO ch da=true):1<=ch/\ch<=8/\(da.length:Int) % ch=0/\(da.length:Int)/ch<=65536:=by
 unfold AO Qj at h;simp only[AlG,AlE]at h;exact h.1
theorem QR {ch n:Int} (h:¬(1<=ch/\ch<=8/\0<=n/\n<=65536)):0=JZ ch n/\[]=EX ch n/\2=Jv ch n:=by
 have e:Jv ch n=2:=if_neg h;simp[JZ,EX,e]
end Go
namespace Go.Sx
theorem v109 (ch:Int) (da:List (List C)):AnC ch/\WL hW da->True/\True/\Cn (bNot (AO ch da)) (0=AQ ch da) (AnE da->(pNe ch 0/\AnC (iQuo (iLen da) ch))/\iQuo (iLen da) ch=AQ ch da):=by
 intro hw;have n0:=Am6 da.length;simp only[D,E,AlI n0,true_and,AQ];refine⟨λh=>by rw[h]; rfl,λh _=> ?_⟩;have v:=Df h;exact⟨⟨by omega,LW hw.2.1⟩,by rw[h]; rfl⟩
def r109:Cr PR:=K0 [r108] 109 6 {ps:=[(true,hK)],rs:=[(false,hI)],out:=λa=>[[.i (AQ (AnF a) (L a 0 1))]]} U λa=>Y (v109 (AnF a) (L a 0 1))
def AgG (ch:Int) (n:Int):Prop:=0=JZ ch n/\[]=EX ch n/\2=Jv ch n
theorem v172 (ch:Int) (n:Int):AnC ch/\AnC n->Cn (bLt ch 1) ((AgG ch n)) (Cn (bLt 8 ch) ((AgG ch n)) (Cn (bLt n 0) ((AgG ch n)) (Cn (bLt 65536 n) ((AgG ch n)) (AnC (iMul ch n)/\(pLe 0 (iMul ch n)/\pLe (iMul ch n) (iMul ch n)/\Abb 4 (iMul ch n))/\ch=JZ ch n/\List.replicate (iMul ch n).toNat [C.i 0]=EX ch n/\0=Jv ch n)))):=by
 intro hw;delta AgG;simp only[D,E];refine⟨λh=>QR (by omega),λh1=>⟨λh=>QR (by omega),λh2=>⟨λh=>QR (by omega),λh3=>⟨λh=>QR (by omega),λh4=> ?_⟩⟩⟩⟩;have b:=Aa8 (x:=ch) (X:=8) (y:=n) (Y:=65536) (by omega) (by omega) (by omega) (by omega);have e:Jv ch n=0:=if_pos (by omega);refine⟨by simp only[InR]; omega,⟨b.1,AlO _,by omega⟩,?_,?_,e.symm⟩
 · unfold JZ; rw[if_pos e]
 · unfold EX; rw[if_pos e]; rfl
def r172:Cr PR:=K0 [] 172 6 {ps:=[(false,hI),(false,hI)],rs:=[(true,hK),(false,hI)],out:=λa=>[[.i (JZ (AnF a) (AnG a)),.l (EX (AnF a) (AnG a))],[.i (Jv (AnF a) (AnG a))]]} U λa=>Y (v172 (AnF a) (AnG a))
theorem v222 (ch:Int) (da:List (List C)) (m:Int) (n:Int):AnC ch/\WL hW da/\AnC m/\AnC n->pLe 0 m/\pLe m n/\pLe 1 ch/\pLe (iMul n ch) (iLen da)/\pLe (iLen da) 1000000000->AnC (iMul m ch)/\AnC (iMul n ch)/\geB (some (iMul m ch)) (some (iMul n ch)) (iLen da)/\Abb 4 (iLen (cutRows da (some (iMul m ch)) (some (iMul n ch))))/\Sm ch/\Sm (cutRows da (some (iMul m ch)) (some (iMul n ch))):=by
 intro hw hp;simp only[D]at hp ⊢;have h1:=Al1 hp.1 (show 0<=ch by omega);have h2:=AlS hp.2.1 (show 0<=ch by omega);refine⟨by simp only[InR]; omega,by simp only[InR]; omega,⟨h1,h2,hp.2.2.2.1⟩,?_⟩;simp only[cutRows,Amk,AlN,E];omega
def r222:Cr PR:=K [] 222 6 {ps:=[(true,hK),(false,hI),(false,hI)],rs:=[(true,hK)],pre:=λa=>pLe 0 (AnG a)/\pLe (AnG a) (AnI a)/\pLe 1 (AnF a)/\pLe (iMul (AnI a) (AnF a)) (iLen (L a 0 1))/\pLe (iLen (L a 0 1)) 1000000000,out:=λa=>[[.i (AnF a),.l (cutRows (L a 0 1) (some (iMul (AnG a) (AnF a))) (some (iMul (AnI a) (AnF a))))]]} U λa=>Y (v222 (AnF a) (L a 0 1) (AnG a) (AnI a))
theorem v173 (ch:Int) (da:List (List C)) (dh:Int) (db:List (List C)):AnC ch/\WL hW da/\AnC dh/\WL hW db->pLe (iLen da) 1000000000/\pLe (iLen db) 1000000000->Abb 4 (iLen da)/\Abb 4 (iLen (da++db))/\Sm ch/\Sm (da++db):=by
 intro hw hp;simp only[D,true_and,and_true,Abb,AlF]at hp ⊢;omega
def r173:Cr PR:=K [] 173 6 {ps:=[(true,hK),(true,hK)],rs:=[(true,hK)],pre:=λa=>pLe (iLen (L a 0 1)) 1000000000/\pLe (iLen (L a 1 1)) 1000000000,out:=λa=>[[.i (AnF a),.l ((L a 0 1)++(L a 1 1))]]} U λa=>Y (v173 (AnF a) (L a 0 1) (AnG a) (L a 1 1))
def A213 (xs:List (List C)) (ys:List (List C)):FuncId->Nat->LoopAnn:=λ_ _=>lp 13 xs.length (IW C9 xs ys) [0,1,4,5,10,12,13,14,24]
theorem v213 (xs:List (List C)) (ys:List (List C)):WL hW xs/\WL hW ys->AnE xs->AnE ys->Cn (bNe (iLen xs) (iLen ys)) (false=DD C9 xs ys) (AnE xs->(∃(x:Int),IW C9 xs ys x/\0=x)/\∀(x:Int),IW C9 xs ys x->AnC x->Cn (bLt x (iLen xs)) (pIn 0 (iLen xs) x/\(InR .i32 (qi 0 (rGet xs x))->pIn 0 (iLen ys) x/\(InR .i32 (qi 0 (rGet ys x))->Cn (bNe (qi 0 (rGet xs x)) (qi 0 (rGet ys x))) (false=DD C9 xs ys) (AnC (iAdd x 1)/\Sm xs/\Sm ys/\Sm (iLen xs)/\∃(y:Int),IW C9 xs ys y/\iAdd x 1=y/\nLt (xs.length-y.toNat) (xs.length-x.toNat))))) (true=DD C9 xs ys)):=by
 intro hw;simp only[D,E];intro _ _;refine⟨λh=>rlL (by omega),λh _=>lpA (rl0 (by omega)) (λx h=>h.1) (λx h h0 hx _=>⟨⟨h0,by omega⟩,λ_=>⟨λa=>rlB h hx (AlK a),λa=>⟨inS hw.1 h0 hx,x+1,rlN h hx (AlL a),rfl,by omega⟩⟩⟩) (λx h hx=>rlE h hx)⟩
def r213:Cr PR:=K0 [] 213 6 {ps:=[(false,[.sl hW]),(false,[.sl hW])],rs:=[(false,[.bool])],out:=λa=>[[.b (DD C9 (L a 0 0) (L a 1 0))]]} (λa=>A213 (L a 0 0) (L a 1 0)) λa=>Y (v213 (L a 0 0) (L a 1 0))
end Go.Sx

namespace Go
open Go.Sx
def AZ (p:List C):Int:=qi 1 p*65536
def Fq (p:List C):Int:=qi 0 p*(65536+qi 2 p)
def Bh (p:List C):Bool:=Ai (qi 0 p) (qi 1 p)&&decide (qi 0 p<=768000/\qi 1 p<=768000/\-4096<=qi 2 p/\qi 2 p<=4096/\0<=qi 3 p/\qi 3 p<=1125899906842624/\0<=qi 4 p/\qi 4 p<AZ p)
def DV (p:List C) (n:Int):Int:=qi 4 p+n*Fq p
def CE (p:List C) (n:Int):Int:=if Bh p=false then 1 else if n<0∨65536<n then 2 else 0
def DR (p:List C) (n:Int):Int:=if CE p n=0 then qi 3 p+DV p n/AZ p else 0
def FV (p:List C) (n:Int):Int:=if CE p n=0 then DV p n % AZ p else 0
def HY (p:List C) (n:Int):Int:=if CE p n=0/\1125899906842624<DR p n then 2 else CE p n
def IV (p:List C) (n:Int):List C:=if HY p n=0 then[.i (qi 0 p),.i (qi 1 p),.i (qi 2 p),.i (DR p n),.i (FV p n)]else[]
def Ko (p:List C) (a:Int):Int:=if Bh p=false then 1 else if a< -4096∨4096<a then 2 else 0
def Nu (p:List C) (a:Int):List C:=if Ko p a=0 then[.i (qi 0 p),.i (qi 1 p),.i a,.i (qi 3 p),.i (qi 4 p)]else[]
def JQ (p:List C) (n:Int):Int:=if n=0 then 0 else max (DV p (n-1)/AZ p+2) (DV p n/AZ p)
def MZ (p:List C) (n:Int):Int:=if CE p n=0 then JQ p n else 0
def MK (p:List C) (n:Int):Int:=max 0 (min 65536 (min (((n-1)*AZ p-1-qi 4 p)/Fq p+1) (((n+1)*AZ p-1-qi 4 p)/Fq p)))
def Iw (p:List C) (n:Int):Int:=if Bh p=false then 1 else if n<0∨1099511627776<n then 2 else 0
def Gq (p:List C) (n:Int):Int:=if Iw p n=0 then MK p n else 0
theorem KE {p:List C} (h:Bh p=true):1<=qi 0 p/\qi 0 p<=768000/\1<=qi 1 p/\qi 1 p<=768000/\-4096<=qi 2 p/\qi 2 p<=4096/\0<=qi 3 p/\qi 3 p<=1125899906842624/\0<=qi 4 p/\qi 4 p<AZ p:=by
 simp only[Bh,Ai,AlG,AlE]at h;omega
theorem QC {p:List C} (h:Bh p=true):65536<=AZ p/\AZ p<=50331648000/\61440<=Fq p/\Fq p<=53477376000:=by
 have v:=KE h;have b:=Aa8 (x:=qi 0 p-1) (X:=767999) (y:=65536+qi 2 p) (Y:=69632) (by omega) (by omega) (by omega) (by omega);rw[Int.sub_mul,AmR]at b;unfold AZ Fq; omega
theorem NE {p:List C} {n:Int} (h:Bh p=true) (h0:0<=n) (h1:n<=65536):0<=n*Fq p/\n*Fq p<=3504693313536000/\0<=DV p n/\DV p n<=4000000000000000/\0<=DV p n/AZ p/\DV p n/AZ p<=4000000000000000/\0<=DV p n % AZ p/\DV p n % AZ p<AZ p:=by
 have v:=KE h;have d:=QC h;have b:=Aa8 (x:=n) (X:=65536) (y:=Fq p) (Y:=53477376000) h0 h1 (by omega) d.2.2.2;have a0:0<=DV p n:=by unfold DV; omega
 have a1:=Amy (AZ p) a0;have a2:=Al8 a0 (show 0<=AZ p by omega);have a3:=AmB (DV p n) (show AZ p≠0 by omega);have a4:=Aml (DV p n) (show 0<AZ p by omega);unfold DV at*; omega
theorem OA {p:List C} {n:Int} (h:Bh p=true) (h0:0<=n) (h1:n<=65536):CE p n=0/\DR p n=qi 3 p+DV p n/AZ p/\FV p n=DV p n % AZ p:=by
 have e:CE p n=0:=by unfold CE; rw[if_neg (by simp[h]),if_neg (by omega)]
 exact⟨e,if_pos e,if_pos e⟩
theorem Qh {p:List C} {n:Int} (h:¬CE p n=0):0=DR p n/\0=FV p n:=⟨(if_neg h).symm,(if_neg h).symm⟩
theorem VT {p:List C} {n:Int} (h:CE p n=0):Bh p=true/\0<=n/\n<=65536:=by
 unfold CE at h;split at h
 · cases h
 · split at h
   · cases h
   · rename_i h1 h2; exact⟨by simpa using h1,by omega,by omega⟩
theorem VN {p:List C} {n:Int} (h:Bh p=true) (h0:n<0∨65536<n):CE p n=2:=by unfold CE; rw[if_neg (by simp[h]),if_pos h0]
theorem AaB {p:List C} {n:Int} (h:Bh p=false):CE p n=1:=by unfold CE; rw[if_pos h]
end Go
namespace Go.Sx
theorem v250 (p:List C):WD hP p->pLe 0 (qi 1 p)/\pLe (qi 1 p) 768000->AnC (iMul (qi 1 p) 65536)/\iMul (qi 1 p) 65536=AZ p:=by
 intro hw hp;simp only[D,AZ,E]at hp ⊢;simp only[InR]; omega
def r250:Cr PR:=K [] 250 6 {ps:=[(true,hP)],rs:=[(false,hI)],pre:=λa=>pLe 0 (qi 1 (AnQ a))/\pLe (qi 1 (AnQ a)) 768000,out:=λa=>[[.i (AZ (AnQ a))]]} U λa=>Y (v250 (AnQ a))
theorem v226 (p:List C):WD hP p->pLe 0 (qi 1 p)/\pLe (qi 1 p) 768000->AnC (iMul (qi 1 p) 65536)/\iMul (qi 1 p) 65536=AZ p:=by
 intro hw hp;simp only[D,AZ,E]at hp ⊢;simp only[InR]; omega
def r226:Cr PR:=K [] 226 6 {ps:=[(true,hP)],rs:=[(false,hI)],pre:=λa=>pLe 0 (qi 1 (AnQ a))/\pLe (qi 1 (AnQ a)) 768000,out:=λa=>[[.i (AZ (AnQ a))]]} U λa=>Y (v226 (AnQ a))
theorem v236 (p:List C):WD hP p->True/\Cn (Ai (qi 0 p) (qi 1 p)) (Cn (bLe (qi 0 p) 768000) (Cn (bLe (qi 1 p) 768000) (Cn (bLe (-4096) (qi 2 p)) (Cn (bLe (qi 2 p) 4096) (Cn (bLe 0 (qi 3 p)) (Cn (bLe (qi 3 p) 1125899906842624) (Cn (bLe 0 (qi 4 p)) ((pLe 0 (qi 1 p)/\pLe (qi 1 p) 768000)/\(AnC (AZ p)->bLt (qi 4 p) (AZ p)=Bh p)) (false=Bh p)) (false=Bh p)) (false=Bh p)) (false=Bh p)) (false=Bh p)) (false=Bh p)) (false=Bh p)) (false=Bh p):=by
 intro hw;have h:Ai (qi 0 p) (qi 1 p)=true->1<=qi 0 p/\1<=qi 1 p:=λh=>by simp only[Ai,AlE]at h; omega
 simp only[D,E,Bh]
 cases hr:Ai (qi 0 p) (qi 1 p)
 · simp
 have h:=h hr;simp only[AlR,E]
 repeat' (first|apply And.intro|intro _)
 all_goals (first|omega|(simp only[decide_eq_decide]; omega)|(symm; simp only[AlD]; omega)|contradiction)
def r236:Cr PR:=K0 [r133,r250] 236 6 {ps:=[(true,hP)],rs:=[(false,[.bool])],out:=λa=>[[.b (Bh (AnQ a))]]} U λa=>Y (v236 (AnQ a))
theorem v186 (p:List C):WD hP p->True/\Cn (Ai (qi 0 p) (qi 1 p)) (Cn (bLe (qi 0 p) 768000) (Cn (bLe (qi 1 p) 768000) (Cn (bLe (-4096) (qi 2 p)) (Cn (bLe (qi 2 p) 4096) (Cn (bLe 0 (qi 3 p)) (Cn (bLe (qi 3 p) 1125899906842624) (Cn (bLe 0 (qi 4 p)) ((pLe 0 (qi 1 p)/\pLe (qi 1 p) 768000)/\(AnC (AZ p)->bLt (qi 4 p) (AZ p)=Bh p)) (false=Bh p)) (false=Bh p)) (false=Bh p)) (false=Bh p)) (false=Bh p)) (false=Bh p)) (false=Bh p)) (false=Bh p):=by
 intro hw;have h:Ai (qi 0 p) (qi 1 p)=true->1<=qi 0 p/\1<=qi 1 p:=λh=>by simp only[Ai,AlE]at h; omega
 simp only[D,E,Bh]
 cases hr:Ai (qi 0 p) (qi 1 p)
 · simp
 have h:=h hr;simp only[AlR,E]
 repeat' (first|apply And.intro|intro _)
 all_goals (first|omega|(simp only[decide_eq_decide]; omega)|(symm; simp only[AlD]; omega)|contradiction)
def r186:Cr PR:=K0 [r143,r226] 186 6 {ps:=[(true,hP)],rs:=[(false,[.bool])],out:=λa=>[[.b (Bh (AnQ a))]]} U λa=>Y (v186 (AnQ a))
theorem v242 (p:List C):WD hP p->Bh p=true->AnC (iAdd 65536 (qi 2 p))/\AnC (iMul (qi 0 p) (iAdd 65536 (qi 2 p)))/\iMul (qi 0 p) (iAdd 65536 (qi 2 p))=Fq p:=by
 intro hw hp;have v:=KE hp;have b:=QC hp;simp only[D,InR,E];unfold Fq at*; omega
def r242:Cr PR:=K [] 242 6 {ps:=[(true,hP)],rs:=[(false,hI)],pre:=λa=>Bh (AnQ a)=true,out:=λa=>[[.i (Fq (AnQ a))]]} U λa=>Y (v242 (AnQ a))
theorem v223 (p:List C) (a:Int):WD hP p/\AnC a->True/\True/\Cn (bNot (Bh p)) ([C.i 0,C.i 0,C.i 0,C.i 0,C.i 0]=sg 0 [0,0,0,0,0] (Nu p a)/\1=Ko p a) (Cn (bLt a (-4096)) ([C.i 0,C.i 0,C.i 0,C.i 0,C.i 0]=sg 0 [0,0,0,0,0] (Nu p a)/\2=Ko p a) (Cn (bLt 4096 a) ([C.i 0,C.i 0,C.i 0,C.i 0,C.i 0]=sg 0 [0,0,0,0,0] (Nu p a)/\2=Ko p a) (C.i (qi 0 p)::C.i (qi 1 p)::C.i a::sg 3 [0,0] p=sg 0 [0,0,0,0,0] (Nu p a)/\0=Ko p a))):=by
 intro hw;simp only[D,E];have b:Bh p=false∨a< -4096∨4096<a->([C.i 0,C.i 0,C.i 0,C.i 0,C.i 0]:List C)=sg 0 [0,0,0,0,0] (Nu p a):=λh=>by
  have:Nu p a=[]:=if_neg (by unfold Ko; split<;>(try split)<;>simp_all);rw[this]; rfl
 have k:Bh p=true->a< -4096∨4096<a->2=Ko p a:=λh h2=>by unfold Ko; rw[if_neg (by simp[h]),if_pos h2]
 have g:Bh p=true->-4096<=a->a<=4096->C.i (qi 0 p)::C.i (qi 1 p)::C.i a::sg 3 [0,0] p=sg 0 [0,0,0,0,0] (Nu p a)/\0=Ko p a:=λh h1 h2=>by
  have e:Ko p a=0:=by unfold Ko; rw[if_neg (by simp[h]),if_neg (by omega)]
  exact⟨by unfold Nu; rw[if_pos e]; rfl,e.symm⟩
 refine⟨λh=>⟨b (.inl h),(if_pos h).symm⟩,λh=> ?_⟩;exact⟨λh1=>⟨b (.inr (.inl h1)),k h (.inl h1)⟩,λh1=>⟨λh2=>⟨b (.inr (.inr h2)),k h (.inr h2)⟩,λh2=>g h (by omega) (by omega)⟩⟩
def r223:Cr PR:=K0 [r186] 223 6 {ps:=[(true,hP),(false,hI)],rs:=[(true,hP),(false,hI)],out:=λa=>[rb [0,0,0,0,0] (Nu (AnQ a) (AnG a)),[.i (Ko (AnQ a) (AnG a))]]} U λa=>Y (v223 (AnQ a) (AnG a))
theorem v217 (p:List C) (n:Int):WD hP p/\AnC n->True/\True/\Cn (bNot (Bh p)) (0=DR p n/\0=FV p n/\1=CE p n) (Cn (bLt n 0) (0=DR p n/\0=FV p n/\2=CE p n) (Cn (bLt 65536 n) (0=DR p n/\0=FV p n/\2=CE p n) (Bh p=true/\(AnC (Fq p)->AnC (iMul n (Fq p))/\AnC (iAdd (qi 4 p) (iMul n (Fq p)))/\(pLe 0 (qi 1 p)/\pLe (qi 1 p) 768000)/\(AnC (AZ p)->(pNe (AZ p) 0/\AnC (iQuo (iAdd (qi 4 p) (iMul n (Fq p))) (AZ p)))/\AnC (iAdd (qi 3 p) (iQuo (iAdd (qi 4 p) (iMul n (Fq p))) (AZ p)))/\(pLe 0 (qi 1 p)/\pLe (qi 1 p) 768000)/\(AnC (AZ p)->pNe (AZ p) 0/\iAdd (qi 3 p) (iQuo (iAdd (qi 4 p) (iMul n (Fq p))) (AZ p))=DR p n/\iRem (iAdd (qi 4 p) (iMul n (Fq p))) (AZ p)=FV p n/\0=CE p n)))))):=by
 intro hw;simp only[D,E];refine⟨λh=> ?_,λh=>⟨λh1=> ?_,λh1=>⟨λh2=> ?_,λh2=> ?_⟩⟩⟩
 · have e:=AaB (n:=n) h;exact⟨(Qh (by omega)).1,(Qh (by omega)).2,e.symm⟩
 · have e:=VN h (.inl h1);exact⟨(Qh (by omega)).1,(Qh (by omega)).2,e.symm⟩
 · have e:=VN h (.inr h2);exact⟨(Qh (by omega)).1,(Qh (by omega)).2,e.symm⟩
 have v:=KE h;have b:=NE h (show 0<=n by omega) (by omega);have q:=QC h;have e:=OA h (show 0<=n by omega) (by omega);rw[show qi 4 p+n*Fq p=DV p n from rfl,h,e.1,e.2.1,e.2.2,AlI b.2.2.1,AmP b.2.2.1];simp only[InR]
 repeat' (first|apply And.intro|intro _)
 all_goals (first|trivial|rfl|omega)
def r217:Cr PR:=K0 [r186,r242,r226] 217 6 {ps:=[(true,hP),(false,hI)],rs:=[(false,hI),(false,hI),(false,hI)],out:=λa=>[[.i (DR (AnQ a) (AnG a))],[.i (FV (AnQ a) (AnG a))],[.i (CE (AnQ a) (AnG a))]]} U λa=>Y (v217 (AnQ a) (AnG a))
theorem v240 (p:List C) (n:Int):WD hP p/\AnC n->True/\(AnC (DR p n)/\AnC (FV p n)/\AnC (CE p n)->Cn (bNe (CE p n) 0) ([C.i 0,C.i 0,C.i 0,C.i 0,C.i 0]=sg 0 [0,0,0,0,0] (IV p n)/\CE p n=HY p n) (Cn (bLt 1125899906842624 (DR p n)) ([C.i 0,C.i 0,C.i 0,C.i 0,C.i 0]=sg 0 [0,0,0,0,0] (IV p n)/\2=HY p n) ([C.i (qi 0 p),C.i (qi 1 p),C.i (qi 2 p),C.i (DR p n),C.i (FV p n)]=sg 0 [0,0,0,0,0] (IV p n)/\0=HY p n))):=by
 intro hw;simp only[D,E];intro _;have b:∀ {e:Int},¬e=0->e=HY p n->([C.i 0,C.i 0,C.i 0,C.i 0,C.i 0]:List C)=sg 0 [0,0,0,0,0] (IV p n)/\e=HY p n:=λh e=>⟨by unfold IV; rw[if_neg (by omega)]; rfl,e⟩
 have b1:CE p n=0->1125899906842624<DR p n->2=HY p n:=λh h1=>(if_pos ⟨h,h1⟩).symm;have b2:¬CE p n=0->CE p n=HY p n:=λh=>(if_neg (by simp[h])).symm;have b3:CE p n=0->¬1125899906842624<DR p n->[C.i (qi 0 p),C.i (qi 1 p),C.i (qi 2 p),C.i (DR p n),C.i (FV p n)]=sg 0 [0,0,0,0,0] (IV p n)/\0=HY p n:=λh h1=>by
  have e:HY p n=0:=by unfold HY; rw[if_neg (by simp[h1])]; exact h
  exact⟨by unfold IV; rw[if_pos e]; rfl,e.symm⟩
 exact⟨λh=>b h (b2 h),λh=>⟨λh1=>b (by omega) (b1 h h1),λh1=>b3 h h1⟩⟩
def r240:Cr PR:=K0 [r217] 240 6 {ps:=[(true,hP),(false,hI)],rs:=[(true,hP),(false,hI)],out:=λa=>[rb [0,0,0,0,0] (IV (AnQ a) (AnG a)),[.i (HY (AnQ a) (AnG a))]]} U λa=>Y (v240 (AnQ a) (AnG a))
theorem v214 (p:List C) (n:Int):WD hP p/\AnC n->True/\(AnC (DR p n)/\AnC (FV p n)/\AnC (CE p n)->Cn (bNe (CE p n) 0) (0=MZ p n/\CE p n=CE p n) (Cn (bEq n 0) (0=MZ p n/\0=CE p n) (AnC (iSub n 1)/\True/\(AnC (DR p (iSub n 1))/\AnC (FV p (iSub n 1))/\AnC (CE p (iSub n 1))->AnC (iAdd (DR p (iSub n 1)) 2)/\AnC (iSub (iMax (iAdd (DR p (iSub n 1)) 2) (DR p n)) (qi 3 p))/\iSub (iMax (iAdd (DR p (iSub n 1)) 2) (DR p n)) (qi 3 p)=MZ p n/\0=CE p n)))):=by
 intro hw;simp only[D,E];refine λ_=>⟨λh=>(if_neg h).symm,λh=> ?_⟩
 obtain⟨hv,h0,h1⟩:=VT h;have e:=OA hv h0 h1;have b:=NE hv h0 h1;have v:=KE hv;have en:MZ p n=JQ p n:=if_pos h;rw[en];refine⟨λhn=>⟨(if_pos hn).symm,h.symm⟩,λhn=> ?_⟩;have e':=OA (n:=n-1) hv (by omega) (by omega);have b':=NE (n:=n-1) hv (by omega) (by omega);have eN:JQ p n=max (DV p (n-1)/AZ p+2) (DV p n/AZ p):=if_neg hn;rw[eN,e'.2.1,e.2.1];simp only[InR];refine⟨by omega,λ_=>⟨by omega,by omega,by omega,h.symm⟩⟩
def r214:Cr PR:=K0 [r217] 214 6 {ps:=[(true,hP),(false,hI)],rs:=[(false,hI),(false,hI)],out:=λa=>[[.i (MZ (AnQ a) (AnG a))],[.i (CE (AnQ a) (AnG a))]]} U λa=>Y (v214 (AnQ a) (AnG a))
end Go.Sx
namespace Go
open Go.Sx
theorem Xf {a b c:Int} (hb:0<b):a<=c/b↔a*b<=c:=Am9 hb
theorem Sr {p:List C} {m n:Int} (h:Bh p=true) (hn:0<=n) (h0:0<=m) (h1:m<=65536):JQ p m<=n↔m<=MK p n:=by
 have q:=QC h;have v:=KE h;by_cases hm:m=0
 · unfold JQ MK; rw[if_pos hm]; omega
 have e1:DV p (m-1)/AZ p+2<=n↔m<=((n-1)*AZ p-1-qi 4 p)/Fq p+1:=by
  have a:m<=((n-1)*AZ p-1-qi 4 p)/Fq p+1↔(m-1)*Fq p<=(n-1)*AZ p-1-qi 4 p:=by rw[←Xf (by omega)]; omega
  have b:DV p (m-1)/AZ p+2<=n↔DV p (m-1)<(n-1)*AZ p:=by rw[←Int.ediv_lt_iff_lt_mul (by omega)]; omega
  rw[a,b]; unfold DV; omega
 have e2:DV p m/AZ p<=n↔m<=((n+1)*AZ p-1-qi 4 p)/Fq p:=by
  have b:DV p m/AZ p<=n↔DV p m<(n+1)*AZ p:=by rw[←Int.ediv_lt_iff_lt_mul (by omega)]; omega
  rw[Xf (by omega),b]; unfold DV; omega
 unfold JQ MK;rw[if_neg hm];omega
def Tc (p:List C) (n i j:Int):Prop:=0<=i/\i<=MK p n/\MK p n<=j/\j<=65536
theorem SX (p:List C) (n:Int):0<=MK p n/\MK p n<=65536:=by unfold MK; omega
theorem Xo {p:List C} {n:Int} (h:Bh p=true) (h0:n<0∨1099511627776<n):Iw p n=2:=by unfold Iw; rw[if_neg (by simp[h]),if_pos h0]
theorem Ur {p:List C} {n:Int} (h:Bh p=true) (h0:0<=n) (h1:n<=1099511627776):Iw p n=0:=by unfold Iw; rw[if_neg (by simp[h]),if_neg (by omega)]
end Go
namespace Go.Sx
def A169 (p:List C) (n:Int):FuncId->Nat->LoopAnn:=λ_ ii=> .inv (Int×Int) (λz=>Tc p n z.1 z.2) (λz=>[(6,.int .i64 z.1),(7,.int .i64 z.2)]) (λ_=>[]) [] [0,1,2,4,5,6,7,8,9,13,19,22,36] (λz=>(z.2-z.1).toNat)
theorem v169 (p:List C) (n:Int):WD hP p/\AnC n->True/\True/\Cn (bNot (Bh p)) (0=Gq p n/\1=Iw p n) (Cn (bLt n 0) (0=Gq p n/\2=Iw p n) (Cn (bLt 1099511627776 n) (0=Gq p n/\2=Iw p n) ((∃(x:Int×Int),Tc p n x.1 x.2/\0=x.1/\65536=x.2)/\∀(x:Int×Int),Tc p n x.1 x.2->AnC x.1/\AnC x.2->Cn (bLt x.1 x.2) (AnC (iAdd x.1 x.2)/\AnC (iAdd (iAdd x.1 x.2) 1)/\(pNe 2 0/\AnC (iQuo (iAdd (iAdd x.1 x.2) 1) 2))/\True/\(AnC (MZ p (iQuo (iAdd (iAdd x.1 x.2) 1) 2))/\AnC (CE p (iQuo (iAdd (iAdd x.1 x.2) 1) 2))->Cn (bLe (MZ p (iQuo (iAdd (iAdd x.1 x.2) 1) 2)) n) (Sm (sg 0 [0,0,0,0,0] p)/\Sm n/\Sm (sg 0 [0,0,0,0,0] p)/\∃(y:Int×Int),Tc p n y.1 y.2/\iQuo (iAdd (iAdd x.1 x.2) 1) 2=y.1/\x.2=y.2/\nLt (y.2-y.1).toNat (x.2-x.1).toNat) (AnC (iSub (iQuo (iAdd (iAdd x.1 x.2) 1) 2) 1)/\Sm (sg 0 [0,0,0,0,0] p)/\Sm n/\Sm (sg 0 [0,0,0,0,0] p)/\∃(y:Int×Int),Tc p n y.1 y.2/\x.1=y.1/\iSub (iQuo (iAdd (iAdd x.1 x.2) 1) 2) 1=y.2/\nLt (y.2-y.1).toNat (x.2-x.1).toNat))) (x.1=Gq p n/\0=Iw p n)))):=by
 intro hw;simp only[D,E];have z:∀ {e:Int},e≠0->Iw p n=e->0=Gq p n/\e=Iw p n:=λh e=>⟨(if_neg (by omega)).symm,e.symm⟩
 refine⟨λh=>z (by omega) (if_pos h),λh=>⟨λh1=>z (by omega) (Xo h (.inl h1)),λh1=>⟨λh2=>z (by omega) (Xo h (.inr h2)),λh2=> ?_⟩⟩⟩;have m:=SX p n;have e0:=Ur (n:=n) h (by omega) (by omega);have rng:∀ {k:Int},0<=k->k<=200000->AnC k:=λa b=>by simp only[InR]; omega
 refine⟨⟨(0,65536),⟨by simp only; omega,m.1,m.2,by simp only; omega⟩,rfl,rfl⟩,?_⟩;rintro⟨i,j⟩ ⟨a0,a1,a2,a3⟩ _;simp only at a0 a1 a2 a3 ⊢;refine⟨λhl=> ?_,λhl=>⟨by unfold Gq; rw[if_pos e0]; omega,e0.symm⟩⟩;rw[AlI (show 0<=i+j+1 by omega)];have I:=Sr (m:=(i+j+1)/2) (n:=n) h (by omega) (by omega) (by omega);have e1:MZ p ((i+j+1)/2)=JQ p ((i+j+1)/2):=if_pos (OA h (by omega) (by omega)).1;rw[e1];exact⟨rng (by omega) (by omega),rng (by omega) (by omega),⟨by omega,rng (by omega) (by omega)⟩,λ_=>⟨λhc=>⟨(_,j),⟨by simp only; omega,by simp only; omega,a2,a3⟩,rfl,rfl,by simp only; omega⟩,λhc=>⟨rng (by omega) (by omega),(i,_),⟨a0,a1,by simp only; omega,by simp only; omega⟩,rfl,rfl,by simp only; omega⟩⟩⟩
def r169:Cr PR:=K0 [r186,r214] 169 6 {ps:=[(true,hP),(false,hI)],rs:=[(false,hI),(false,hI)],out:=λa=>[[.i (Gq (AnQ a) (AnG a))],[.i (Iw (AnQ a) (AnG a))]]} (λa=>A169 (AnQ a) (AnG a)) λa=>Y (v169 (AnQ a) (AnG a))
end Go.Sx

namespace Go
open Go.Sx
def Bg (r:List C):List C:=sg 1 [0,0,0,0,0] r
def AX (r:List C):Bool:=Bh (Bg r)&&AO (qi 0 r) (ql 6 r)
def Ak (r:List C):Int:=bif AX r then((ql 6 r).length:Int)/qi 0 r else 0
def KT (ch n d:Int):List C:=[.i ch,.i n,.i d,.i 0,.i 0,.i 0,.l []]
def F8 (ch n d:Int):List C:=if AX (KT ch n d)=false then[]else KT ch n d
def Lc (ch n d:Int):Int:=if AX (KT ch n d)=false then 1 else 0
def DZ (r:List C) (ch:Int) (da:List (List C)):Int:=if AX r=false∨AO ch da=false then 1 else if ch≠qi 0 r then 11 else if 65536<((ql 6 r).length+(da.length:Int))/qi 0 r then 3 else 0
def DW (r:List C) (ch:Int) (da:List (List C)):List C:=if DZ r ch da=0 then sga 0 [0,0,0,0,0,0] r [.l (ql 6 r++da)]else[]
theorem Eo {ch:Int} {da:List (List C)} (h:AO ch da=true):(da.length:Int)=ch*((da.length:Int)/ch)/\0<=(da.length:Int)/ch/\(da.length:Int)<=524288:=by
 have v:=Df h;have d:=Anc (da.length:Int) ch;have q:=Al8 (Am6 da.length) (show 0<=ch by omega);have b:=Aa8 (x:=ch) (X:=8) (y:=(da.length:Int)/ch) (Y:=65536) (by omega) (by omega) q (by omega);omega
theorem Eb {r:List C} (h:AX r=true):Bh (Bg r)=true/\AO (qi 0 r) (ql 6 r)=true:=by simpa[AX]using h
theorem IJ {r:List C} (h:AX r=true):Ak r=((ql 6 r).length:Int)/qi 0 r:=by unfold Ak; rw[h]; rfl
theorem RU {r:List C} {ch e:Int} {da:List (List C)} (h:e≠0) (he:DZ r ch da=e):([C.i 0,C.i 0,C.i 0,C.i 0,C.i 0,C.i 0,C.l []]:List C)=sg 0 [0,0,0,0,0,0,3] (DW r ch da)/\e=DZ r ch da:=
 ⟨by unfold DW; rw[if_neg (by omega)]; rfl,he.symm⟩
theorem Zi {r:List C} {ch:Int} {da xs:List (List C)} (he:DZ r ch da=0) (hx:xs=ql 6 r++da):sga 0 [0,0,0,0,0,0] r [C.l xs]=sg 0 [0,0,0,0,0,0,3] (DW r ch da)/\0=DZ r ch da:=
 ⟨by unfold DW; rw[if_pos he,hx]; rfl,he.symm⟩
theorem Zf {r:List C} {ch:Int} {da:List (List C)} (h:AX r=false∨AO ch da=false):DZ r ch da=1:=if_pos h
theorem AaO {r:List C} {ch:Int} {da:List (List C)} (h:AX r=true) (h1:AO ch da=true) (h2:ch≠qi 0 r):DZ r ch da=11:=by unfold DZ; rw[if_neg (by simp[h,h1]),if_pos h2]
theorem YE {r:List C} {ch:Int} {da:List (List C)} (h:AX r=true) (h1:AO ch da=true) (h2:ch=qi 0 r):DZ r ch da=if 65536<((ql 6 r).length+(da.length:Int))/qi 0 r then 3 else 0:=by unfold DZ; rw[if_neg (by simp[h,h1]),if_neg (by simp[h2])]
end Go
namespace Go.Sx
theorem v197 (r:List C):WD hR r->True/\Cn (Bh (Bg r)) (True/\AO (qi 0 r) (ql 6 r)=AX r) (false=AX r):=by
 intro hw;simp only[D,E,AX];exact⟨λh=>by rw[h]; rfl,λh=>by rw[h]; rfl⟩
def r197:Cr PR:=K0 [r236,r237] 197 6 {ps:=[(true,hR)],rs:=[(false,[.bool])],out:=λa=>[[.b (AX (AnQ a))]]} U λa=>Y (v197 (AnQ a))
theorem v124 (r:List C):WD hR r->True/\Cn (Bh (Bg r)) (True/\AO (qi 0 r) (ql 6 r)=AX r) (false=AX r):=by
 intro hw;simp only[D,E,AX];exact⟨λh=>by rw[h]; rfl,λh=>by rw[h]; rfl⟩
def r124:Cr PR:=K0 [r186,r108] 124 6 {ps:=[(true,hR)],rs:=[(false,[.bool])],out:=λa=>[[.b (AX (AnQ a))]]} U λa=>Y (v124 (AnQ a))
theorem v199 (r:List C):WD hR r->True/\True/\Cn (bNot (AX r)) (0=Ak r) (AnE (ql 6 r)->(pNe (qi 0 r) 0/\AnC (iQuo (iLen (ql 6 r)) (qi 0 r)))/\iQuo (iLen (ql 6 r)) (qi 0 r)=Ak r):=by
 intro hw;have n0:=Am6 (ql 6 r).length;simp only[D,E,AlI n0,Ak];refine⟨λh=>by rw[h]; rfl,λh _=> ?_⟩;have v:=Df (Eb h).2;exact⟨⟨by omega,LW (hw.l 6).1⟩,by rw[h]; rfl⟩
def r199:Cr PR:=K0 [r197] 199 6 {ps:=[(true,hR)],rs:=[(false,hI)],out:=λa=>[[.i (Ak (AnQ a))]]} U λa=>Y (v199 (AnQ a))
theorem v125 (r:List C):WD hR r->True/\True/\Cn (bNot (AX r)) (0=Ak r) (AnE (ql 6 r)->(pNe (qi 0 r) 0/\AnC (iQuo (iLen (ql 6 r)) (qi 0 r)))/\iQuo (iLen (ql 6 r)) (qi 0 r)=Ak r):=by
 intro hw;have n0:=Am6 (ql 6 r).length;simp only[D,E,AlI n0,Ak];refine⟨λh=>by rw[h]; rfl,λh _=> ?_⟩;have v:=Df (Eb h).2;exact⟨⟨by omega,LW (hw.l 6).1⟩,by rw[h]; rfl⟩
def r125:Cr PR:=K0 [r124] 125 6 {ps:=[(true,hR)],rs:=[(false,hI)],out:=λa=>[[.i (Ak (AnQ a))]]} U λa=>Y (v125 (AnQ a))
theorem v97 (ch:Int) (n:Int) (d:Int):AnC ch/\AnC n/\AnC d->True/\True/\Cn (bNot (AX [C.i ch,C.i n,C.i d,C.i 0,C.i 0,C.i 0,C.l []])) ([C.i 0,C.i 0,C.i 0,C.i 0,C.i 0,C.i 0,C.l []]=sg 0 [0,0,0,0,0,0,3] (F8 ch n d)/\1=Lc ch n d) ([C.i ch,C.i n,C.i d,C.i 0,C.i 0,C.i 0,C.l []]=sg 0 [0,0,0,0,0,0,3] (F8 ch n d)/\0=Lc ch n d):=by
 intro hw;have e1:AX (KT ch n d)=false->([C.i 0,C.i 0,C.i 0,C.i 0,C.i 0,C.i 0,C.l []]:List C)=sg 0 [0,0,0,0,0,0,3] (F8 ch n d)/\1=Lc ch n d:=λh=>⟨by unfold F8; rw[if_pos h]; rfl,(if_pos h).symm⟩
 have e2:AX (KT ch n d)=true->KT ch n d=sg 0 [0,0,0,0,0,0,3] (F8 ch n d)/\0=Lc ch n d:=λh=>⟨by unfold F8; rw[if_neg (by simp[h])]; rfl,(if_neg (by simp[h])).symm⟩
 simp only[D,E];exact⟨e1,e2⟩
def r97:Cr PR:=K0 [r124] 97 6 {ps:=[(false,hI),(true,hII)],rs:=[(true,hR),(false,hI)],out:=λa=>[rb [0,0,0,0,0,0,3] (F8 (AnF a) (AnG a) (AnJ a)),[.i (Lc (AnF a) (AnG a) (AnJ a))]]} U λa=>Y (v97 (AnF a) (AnG a) (AnJ a))
def AgK (r:List C) (ch:Int) (da:List (List C)):Prop:=[C.i 0,C.i 0,C.i 0,C.i 0,C.i 0,C.i 0,C.l []]=sg 0 [0,0,0,0,0,0,3] (DW r ch da)
theorem v111 (r:List C) (ch:Int) (da:List (List C)):WD hR r/\AnC ch/\WL hW da->True/\True/\Cn (bNot (AX r)) ((AgK r ch da)/\1=DZ r ch da) (True/\True/\Cn (bNot (AO ch da)) ((AgK r ch da)/\1=DZ r ch da) (Cn (bNe ch (qi 0 r)) ((AgK r ch da)/\11=DZ r ch da) (AnE (ql 6 r)->AnE da->AnC (iAdd (iLen (ql 6 r)) (iLen da))/\(pNe (qi 0 r) 0/\AnC (iQuo (iAdd (iLen (ql 6 r)) (iLen da)) (qi 0 r)))/\Cn (bLt 65536 (iQuo (iAdd (iLen (ql 6 r)) (iLen da)) (qi 0 r))) ((AgK r ch da)/\3=DZ r ch da) (Abb 4 (iLen (ql 6 r))/\Abb 4 (iLen (ql 6 r++da))/\sga 0 [0,0,0,0,0,0] r [C.l (ql 6 r++da)]=sg 0 [0,0,0,0,0,0,3] (DW r ch da)/\0=DZ r ch da)))):=by
 intro hw;delta AgK;have n0:(0:Int)<=(ql 6 r).length+(da.length:Int):=by omega
 simp only[D,E,AlI n0];refine⟨λh=>RU (by omega) (Zf (.inl h)),λh=>⟨λh1=>RU (by omega) (Zf (.inr h1)),λh1=>⟨λh2=>RU (by omega) (AaO h h1 h2),λh2 _ _=> ?_⟩⟩⟩;have v:=Eb h;have l1:=Eo v.2;have l2:=Eo h1;have c:=Df v.2;have e3:=YE h h1 h2;have q:=LW (a:=(ql 6 r).length+da.length) (b:=qi 0 r) (by omega);rw[Amr]at q;refine⟨by simp only[InR]; omega,⟨by omega,q⟩,λh3=>RU (by omega) (by rw[e3,if_pos h3]),λh3=> ?_⟩;rw[if_neg h3]at e3;have room:∀ {k:Int},0<=k->k<=2000000->AnC k:=λa b=>by simp only[InR]; omega
 exact⟨by omega,by rw[AlF]; omega,Zi e3 rfl⟩
def r111:Cr PR:=K0 [r124,r108] 111 6 {ps:=[(true,hR),(true,hK)],rs:=[(true,hR),(false,hI)],out:=λa=>[rb [0,0,0,0,0,0,3] (DW (AnQ a) (AnG a) (L a 1 1)),[.i (DZ (AnQ a) (AnG a) (L a 1 1))]]} U λa=>Y (v111 (AnQ a) (AnG a) (L a 1 1))
end Go.Sx

namespace Go
open Go.Sx
def RF (a b f q:Int):Int:=Aa3 .i32 ((a*(q-f)+b*f+q/2)/q)
def BX (r:List C) (i:Int):Int:=DV (Bg r) i/AZ (Bg r)
def Nq (r:List C) (i:Int):Int:=DV (Bg r) i % AZ (Bg r)
def PG (r:List C) (k:Int):Int:=min k (Ak r-1)*qi 0 r
def YA (r:List C) (i c:Int):List C:=[.i (RF (qi 0 (rGet (ql 6 r) (PG r (BX r i)+c))) (qi 0 (rGet (ql 6 r) (PG r (BX r i+1)+c))) (Nq r i) (AZ (Bg r)))]
def PY (r:List C) (i m:Int):List (List C):=(List.range m.toNat).map fun(c:Nat)=>YA r i c
def FQ (r:List C) (n:Int):List (List C):=(List.range n.toNat).flatMap fun(i:Nat)=>PY r i (qi 0 r)
def Vf (r:List C) (n i:Int) (ys:List (List C)):Prop:=0<=i/\i<=n/\ys=FQ r i
def UM (r:List C) (i c:Int) (ys:List (List C)):Prop:=0<=c/\c<=qi 0 r/\ys=FQ r i++PY r i c
def Rj (r:List C) (n:Int):Prop:=n=0∨1<=Ak r
theorem VJ {t q:Int} (hq:0<q):(t.tmod q<0->t.tdiv q-1=t/q)/\(¬t.tmod q<0->t.tdiv q=t/q):=by
 have h1:=Int.mul_tdiv_add_tmod t q;have h2:=AiG t hq;refine⟨λh=>((Anr (a:=t) (b:=q) (r:=t.tmod q+q) (q:=t.tdiv q-1) hq).2 ⟨?_,by omega,by omega⟩).1.symm,λh=>((Anr (a:=t) (b:=q) (r:=t.tmod q) (q:=t.tdiv q) hq).2 ⟨by omega,by omega,by omega⟩).1.symm⟩;rw[Int.mul_sub,Int.mul_one]; omega
theorem QN {a y Y:Int} (h0: -8388608<=a) (h1:a<=8388607) (h2:0<=y) (h3:y<=Y): -(8388608*y)<=a*y/\a*y<=8388608*y:=by
 have b1:=AlS h0 h2;have b2:=AlS h1 h2;omega
end Go
namespace Go.Sx
theorem v241 (a:Int) (b:Int) (f:Int) (q:Int):InR .i32 a/\InR .i32 b/\AnC f/\AnC q->pLe (-8388608) a/\pLe a 8388607/\pLe (-8388608) b/\pLe b 8388607/\pLe 0 f/\pLe f q/\pLe 65536 q/\pLe q 50331648000->AnC (iSub q f)/\AnC (iMul a (iSub q f))/\AnC (iMul b f)/\AnC (iAdd (iMul a (iSub q f)) (iMul b f))/\(pNe 2 0/\AnC (iQuo q 2))/\AnC (iAdd (iAdd (iMul a (iSub q f)) (iMul b f)) (iQuo q 2))/\(pNe q 0/\AnC (iQuo (iAdd (iAdd (iMul a (iSub q f)) (iMul b f)) (iQuo q 2)) q))/\pNe q 0/\Cn (bLt (iRem (iAdd (iAdd (iMul a (iSub q f)) (iMul b f)) (iQuo q 2)) q) 0) (AnC (iSub (iQuo (iAdd (iAdd (iMul a (iSub q f)) (iMul b f)) (iQuo q 2)) q) 1)/\Aa3 .i32 (iSub (iQuo (iAdd (iAdd (iMul a (iSub q f)) (iMul b f)) (iQuo q 2)) q) 1)=RF a b f q) (Aa3 .i32 (iQuo (iAdd (iAdd (iMul a (iSub q f)) (iMul b f)) (iQuo q 2)) q)=RF a b f q):=by
 intro hw hp;simp only[D,E]at hp ⊢;obtain⟨a0,a1,b0,b1,f0,f1,q0,q1⟩:=hp;have m1:=QN (y:=q-f) a0 a1 (by omega) (AlO _);have m2:=QN (y:=f) b0 b1 f0 (AlO _);rw[AlI (show 0<=q by omega)];unfold RF;generalize a*(q-f)=x at*;generalize b*f=y at*;have t:=VJ (t:=x+y+q/2) (q:=q) (by omega);have n:=Int.natAbs_tdiv_le_natAbs (x+y+q/2) q;have rng:∀ {k:Int},-1000000000000000000<=k->k<=1000000000000000000->AnC k:=λa b=>by simp only[InR]; omega
 refine⟨rng (by omega) (by omega),rng (by omega) (by omega),rng (by omega) (by omega),rng (by omega) (by omega),⟨by omega,rng (by omega) (by omega)⟩,rng (by omega) (by omega),⟨by omega,rng (by omega) (by omega)⟩,by omega,λh=>⟨rng (by omega) (by omega),by rw[t.1 h]⟩,λh=>by rw[t.2 h]⟩
def r241:Cr PR:=K [] 241 6 {ps:=[(false,hW),(false,hW),(false,hI),(false,hI)],rs:=[(false,hW)],pre:=λa=>pLe (-8388608) (AnF a)/\(pLe (AnF a) 8388607/\(pLe (-8388608) (AnG a)/\(pLe (AnG a) 8388607/\(pLe 0 (AnI a)/\(pLe (AnI a) (AnM a)/\(pLe 65536 (AnM a)/\pLe (AnM a) 50331648000)))))),out:=λa=>[[.i (RF (AnF a) (AnG a) (AnI a) (AnM a))]]} U λa=>Y (v241 (AnF a) (AnG a) (AnI a) (AnM a))
end Go.Sx
namespace Go
open Go.Sx
theorem Aad (r:List C) {i:Int} (h:0<=i):FQ r (i+1)=FQ r i++PY r i (qi 0 r):=by
 unfold FQ;rw[show(i+1).toNat=i.toNat+1 by omega,AmI,AmW,AmL,Amc h]
theorem Z7 (r:List C) {i c:Int} (h:0<=c):PY r i (c+1)=PY r i c++[YA r i c]:=by
 unfold PY;rw[show(c+1).toNat=c.toNat+1 by omega,AmI,AmN,Ane,Amc h]
theorem Vy (r:List C) (i c:Int):(PY r i c).length=c.toNat:=by simp[PY]
theorem P9 (r:List C) (n:Int) (h:0<=qi 0 r):((FQ r n).length:Int)=n.toNat*qi 0 r:=by
 unfold FQ;generalize n.toNat=m
 induction m with
 |zero=>simp
 |succ m ih=>rw[AmI,AmW,AmL,AlF,Amr,ih,Vy,Int.natCast_succ,Amt]; omega
theorem Wp {xs:List (List C)} {i:Int} (h:xs.all Gp=true) (h0:0<=i) (h1:i<(xs.length:Int)): -8388608<=qi 0 (rGet xs i)/\qi 0 (rGet xs i)<=8388607:=by
 have hm:rGet xs i∈xs:=by
  unfold rGet;rw[List.getD_eq_getElem?_getD,List.getElem?_eq_getElem (show i.toNat<xs.length by omega)];exact Anf _
 simpa[Gp]using Al6.1 h _ hm
theorem NM {ch:Int} {da:List (List C)} (h:AO ch da=true):da.all Gp=true:=by
 unfold AO at h; rw[AlG]at h; exact h.2
theorem Wh {r:List C} {k:Int} (h:AX r=true) (hw:1<=Ak r) (hk:0<=k):0<=PG r k/\PG r k+qi 0 r<=(ql 6 r).length/\((ql 6 r).length:Int)<=524288:=by
 have v:=Eb h;have c:=Df v.2;have l:=Eo v.2;rw[←IJ h]at l;have b:=AlS (show min k (Ak r-1)<=Ak r-1 by omega) (show 0<=qi 0 r by omega);rw[Int.sub_mul,AmR,Amo (Ak r)]at b;have a:=Al1 (show 0<=min k (Ak r-1) by omega) (show 0<=qi 0 r by omega);unfold PG; omega
end Go
namespace Go.Sx
def A216 (r:List C) (n:Int):FuncId->Nat->LoopAnn:=λ_ ii=>bif Nat.beq ii 4 then .ghostB 5 1 hW 21 (.inv (Int×List (List C)) (λz=>Vf r n z.1 z.2) (λz=>[(7,.int .i64 z.1)]) (λz=>[(2,.box [.int .i64 (qi 0 r),.own 3 0] 95),(3,.row hW 21 0 z.2)]) [2,3] [0,1,2,4,5,6,7,8,9,11,12,13,14,22,56] (λz=>(n-z.1).toNat))else .on (λsv0=>match sv0.tmps.getD 7 .undef with| .int _ ci=> .inv (Int×List (List C)) (λz=>UM r ci z.1 z.2) (λz=>[(14,.int .i64 z.1)]) (λz=>[(2,.box [.int .i64 (qi 0 r),.own 3 0] 95),(3,.row hW 21 0 z.2)]) [2,3] [0,1,2,4,5,6,7,8,9,11,12,13,14,22,56] (λz=>(qi 0 r-z.1).toNat)|_=> .unroll 0)
def AbY (r:List C) (x:Int×List (List C)):Int:=(DR (Bg r) x.1)
def AhK (r:List C) (x:Int×List (List C)) (x_1:Int×List (List C)):Int:=(RF (qi 0 (rGet (ql 6 r) (iAdd (iMul (iMin (iSub (AbY r x) (qi 4 r)) (iSub (Ak r) 1)) (qi 0 r)) x_1.1))) (qi 0 (rGet (ql 6 r) (iAdd (iMul (iMin (iAdd (iSub (AbY r x) (qi 4 r)) 1) (iSub (Ak r) 1)) (qi 0 r)) x_1.1))) (FV (Bg r) x.1) (AZ (Bg r)))
def AhJ (r:List C) (x:Int×List (List C)) (x_1:Int×List (List C)):List C:=(rGet (ql 6 r) (iAdd (iMul (iMin (iAdd (iSub (AbY r x) (qi 4 r)) 1) (iSub (Ak r) 1)) (qi 0 r)) x_1.1))
def AhI (r:List C) (x:Int×List (List C)) (x_1:Int×List (List C)):List C:=(rGet (ql 6 r) (iAdd (iMul (iMin (iSub (AbY r x) (qi 4 r)) (iSub (Ak r) 1)) (qi 0 r)) x_1.1))
theorem v216 (r:List C) (n:Int):WD hR r/\AnC n->AX r=true/\pLe 0 n/\pLe n 65536/\Rj r n->True/\(AnC (Ak r)->(∃(x:Int×List (List C)),Vf r n x.1 x.2/\0=x.1/\Sm (qi 0 r)/\[]=x.2)/\∀(x:Int×List (List C)),Vf r n x.1 x.2->AnC x.1/\AnC (qi 0 r)/\WL hW x.2->Cn (bLt x.1 n) (True/\(AnC (AbY r x)/\AnC (FV (Bg r) x.1)/\AnC (CE (Bg r) x.1)->AnC (iSub (AbY r x) (qi 4 r))/\AnC (iSub (Ak r) 1)/\AnC (iMul (iMin (iSub (AbY r x) (qi 4 r)) (iSub (Ak r) 1)) (qi 0 r))/\AnC (iAdd (iSub (AbY r x) (qi 4 r)) 1)/\AnC (iSub (Ak r) 1)/\AnC (iMul (iMin (iAdd (iSub (AbY r x) (qi 4 r)) 1) (iSub (Ak r) 1)) (qi 0 r))/\(∃(x_1:Int×List (List C)),UM r x.1 x_1.1 x_1.2/\0=x_1.1/\Sm (qi 0 r)/\x.2=x_1.2)/\∀(x_1:Int×List (List C)),UM r x.1 x_1.1 x_1.2->AnC x_1.1/\AnC (qi 0 r)/\WL hW x_1.2->Cn (bLt x_1.1 (qi 0 r)) (AnC (iAdd (iMul (iMin (iSub (AbY r x) (qi 4 r)) (iSub (Ak r) 1)) (qi 0 r)) x_1.1)/\pIn 0 (iLen (ql 6 r)) (iAdd (iMul (iMin (iSub (AbY r x) (qi 4 r)) (iSub (Ak r) 1)) (qi 0 r)) x_1.1)/\(InR .i32 (qi 0 (AhI r x x_1))->AnC (iAdd (iMul (iMin (iAdd (iSub (AbY r x) (qi 4 r)) 1) (iSub (Ak r) 1)) (qi 0 r)) x_1.1)/\pIn 0 (iLen (ql 6 r)) (iAdd (iMul (iMin (iAdd (iSub (AbY r x) (qi 4 r)) 1) (iSub (Ak r) 1)) (qi 0 r)) x_1.1)/\(InR .i32 (qi 0 (AhJ r x x_1))->(pLe 0 (qi 1 (Bg r))/\pLe (qi 1 (Bg r)) 768000)/\(AnC (AZ (Bg r))->(pLe (-8388608) (qi 0 (AhI r x x_1))/\pLe (qi 0 (AhI r x x_1)) 8388607/\pLe (-8388608) (qi 0 (AhJ r x x_1))/\pLe (qi 0 (AhJ r x x_1)) 8388607/\pLe 0 (FV (Bg r) x.1)/\pLe (FV (Bg r) x.1) (AZ (Bg r))/\pLe 65536 (AZ (Bg r))/\pLe (AZ (Bg r)) 50331648000)/\(InR .i32 (AhK r x x_1)->Abb 4 (iLen (x_1.2++[[C.i (AhK r x x_1)]]))/\AnC (iAdd x_1.1 1)/\Sm (sg 0 [0,0,0,0,0,0,3] r)/\Sm n/\Sm (Ak r)/\Sm x.1/\Sm (AbY r x)/\Sm (FV (Bg r) x.1)/\Sm (iSub (AbY r x) (qi 4 r))/\Sm (iMul (iMin (iSub (AbY r x) (qi 4 r)) (iSub (Ak r) 1)) (qi 0 r))/\Sm (iMul (iMin (iAdd (iSub (AbY r x) (qi 4 r)) 1) (iSub (Ak r) 1)) (qi 0 r))/\Sm (sg 0 [0,0,0,0,0,0,3] r)/\∃(y:Int×List (List C)),UM r x.1 y.1 y.2/\iAdd x_1.1 1=y.1/\Sm (qi 0 r)/\x_1.2++[[C.i (AhK r x x_1)]]=y.2/\nLt (qi 0 r-y.1).toNat (qi 0 r-x_1.1).toNat))))) (AnC (iAdd x.1 1)/\Sm (sg 0 [0,0,0,0,0,0,3] r)/\Sm n/\Sm (Ak r)/\Sm (sg 0 [0,0,0,0,0,0,3] r)/\∃(y:Int×List (List C)),Vf r n y.1 y.2/\iAdd x.1 1=y.1/\Sm (qi 0 r)/\x_1.2=y.2/\nLt (n-y.1).toNat (n-x.1).toNat))) (Sm (qi 0 r)/\x.2=FQ r n)):=by
 intro hw hp;delta AbY AhK AhJ AhI;simp only[D,E]at hp ⊢;intro _;have hv:=Eb hp.1;have c:=Df hv.2;refine⟨⟨(0,[]),⟨AlO _,hp.2.1,rfl⟩,rfl,rfl⟩,?_⟩;rintro⟨i,ys⟩ ⟨i0,i1,i2⟩ _;simp only at i0 i1 i2 ⊢;subst i2;refine⟨λhl _=> ?_,λhl=>by rw[show i=n by omega]⟩;have k:=OA hv.1 i0 (show i<=65536 by omega);have kb:=NE hv.1 i0 (show i<=65536 by omega);have k1:DR (Bg r) i-qi 4 r=BX r i:=by rw[k.2.1]; show qi 4 r+BX r i-qi 4 r=_; omega
 have k2:FV (Bg r) i=Nq r i:=k.2.2;have w1:1<=Ak r:=hp.2.2.2.resolve_left (by omega);simp only[k1,k2];simp only[show∀x,min x (Ak r-1)*qi 0 r=PG r x from λ_=>rfl];have q:=QC hv.1;have pv:=KE hv.1;have K0:0<=BX r i/\BX r i<=4000000000000000:=⟨kb.2.2.2.2.1,kb.2.2.2.2.2.1⟩
 have F0:0<=Nq r i/\Nq r i<AZ (Bg r):=kb.2.2.2.2.2.2;have A0:=Wh hp.1 w1 K0.1;have A1:=Wh hp.1 w1 (k:=BX r i+1) (by omega);have W1:Ak r<=65536:=by rw[IJ hp.1]; omega
 have sa:=NM hv.2;have ln:=P9 r i (by omega);have lb:=Aa8 (x:=i) (X:=65536) (y:=qi 0 r) (Y:=8) i0 (by omega) (by omega) (by omega);rw[Amc i0]at ln;have rng:∀ {k:Int},-10000000000000000<=k->k<=10000000000000000->AnC k:=λa b=>by simp only[InR]; omega
 refine⟨rng (by omega) (by omega),rng (by omega) (by omega),rng (by omega) (by omega),rng (by omega) (by omega),rng (by omega) (by omega),rng (by omega) (by omega),⟨(0,_),⟨AlO _,by omega,(Ame _).symm⟩,rfl,rfl⟩,?_⟩;rintro⟨m,zs⟩ ⟨m0,m1,m2⟩ _;simp only at m0 m1 m2 ⊢;subst m2;refine⟨λhc=> ?_,λhc=>⟨rng (by omega) (by omega),(i+1,_),⟨by simp only; omega,by simp only; omega,?_⟩,rfl,rfl,by simp only; omega⟩⟩
 · have s0:=Wp sa (i:=PG r (BX r i)+m) (by omega) (by omega);have s1:=Wp sa (i:=PG r (BX r i+1)+m) (by omega) (by omega);refine⟨rng (by omega) (by omega),⟨by omega,by omega⟩,λ_=>⟨rng (by omega) (by omega),⟨by omega,by omega⟩,λ_=>⟨⟨by omega,by omega⟩,λ_=>⟨⟨s0.1,s0.2,s1.1,s1.2,F0.1,by omega,q.1,q.2.1⟩,λ_=>⟨?_,rng (by omega) (by omega),(m+1,_),⟨by simp only; omega,by simp only; omega,?_⟩,rfl,rfl,by simp only; omega⟩⟩⟩⟩⟩
   · simp only[AlF,AlJ,Vy]; omega
   · simp only; rw[Z7 r m0,←Amn]; rfl
 · simp only; rw[Aad r i0,show m=qi 0 r by omega]
def r216:Cr PR:=K [r125,r217,r226,r241] 216 6 {ps:=[(true,hR),(false,hI)],rs:=[(true,hK)],pre:=λa=>AX (AnQ a)=true/\(pLe 0 (AnG a)/\(pLe (AnG a) 65536/\Rj (AnQ a) (AnG a))),out:=λa=>[[.i (qi 0 (AnQ a)),.l (FQ (AnQ a) (AnG a))]]} (λa=>A216 (AnQ a) (AnG a)) λa=>Y (v216 (AnQ a) (AnG a))
end Go.Sx
namespace Go
open Go.Sx
def FB (r:List C) (n:Int):Int:=HY (Bg r) n
def Qx (r:List C) (n:Int):Int:=min (BX r n) (Ak r)*qi 0 r
def H8 (r:List C) (n:Int):List C:=if FB r n=0 then sga 0 [0,0,0,0] r [.i (DR (Bg r) n),.i (FV (Bg r) n),.l (cutRows (ql 6 r) (some (Qx r n)) none)]else[]
def ER (r:List C) (n:Int):Int:=if AX r=false then 1 else if n<0∨65536<n then 2 else if Ak r<JQ (Bg r) n then 4 else FB r n
def Hw (r:List C) (n:Int):Int:=if ER r n=0 then qi 0 r else 0
def GK (r:List C) (n:Int):List (List C):=if ER r n=0 then FQ r n else[]
def Jz (r:List C) (n:Int):List C:=if ER r n=0 then H8 r n else[]
theorem We {r:List C} {n:Int} (h:AX r=true) (h0:0<=n) (h1:n<=65536):0<=BX r n/\BX r n<=4000000000000000/\0<=Qx r n/\Qx r n<=(ql 6 r).length/\((ql 6 r).length:Int)<=524288/\0<=Ak r/\Ak r<=65536:=by
 have v:=Eb h;have c:=Df v.2;have l:=Eo v.2;have kb:=NE v.1 h0 h1;have K0:0<=BX r n/\BX r n<=4000000000000000:=⟨kb.2.2.2.2.1,kb.2.2.2.2.2.1⟩
 rw[←IJ h]at l c;have b:=AlS (show min (BX r n) (Ak r)<=Ak r by omega) (show 0<=qi 0 r by omega);have a:=Al1 (show 0<=min (BX r n) (Ak r) by omega) (show 0<=qi 0 r by omega);rw[Amo (Ak r)]at b;unfold Qx; omega
theorem AaC {p:List C} {n:Int} (h:HY p n=0):CE p n=0/\DR p n<=1125899906842624:=by
 unfold HY at h;split at h
 · cases h
 · rename_i h2;have:¬1125899906842624<DR p n:=λh3=>h2 ⟨h,h3⟩;exact⟨h,by omega⟩
theorem V9 {r:List C} {n:Int} (h:AX r=true) (h0:0<=n) (h1:n<=65536):DR (Bg r) n-qi 4 r=BX r n:=by
 rw[(OA (Eb h).1 h0 h1).2.1]; show qi 4 r+BX r n-qi 4 r=_; omega
theorem Zv {r:List C} {n:Int} (h:AX r=true) (h0:0<=n) (h1:n<=65536) (hn:JQ (Bg r) n<=Ak r):Rj r n:=by
 by_cases hz:n=0
 · exact .inl hz
 · have kb:=NE (n:=n-1) (Eb h).1 (by omega) (by omega);unfold JQ at hn; rw[if_neg hz]at hn;exact .inr (by omega)
theorem Zd {r:List C} {n:Int} (h:AX r=true) (h0:0<=n) (h1:n<=65536):ER r n=if Ak r<JQ (Bg r) n then 4 else FB r n:=by
 unfold ER; rw[if_neg (by simp[h]),if_neg (by omega)]
end Go
namespace Go.Sx
theorem v215 (r:List C) (n:Int):WD hR r/\AnC n->AX r=true->True/\(WD hP (IV (Bg r) n)/\AnC (HY (Bg r) n)->Cn (bNe (HY (Bg r) n) 0) ([C.i 0,C.i 0,C.i 0,C.i 0,C.i 0,C.i 0,C.l []]=sg 0 [0,0,0,0,0,0,3] (H8 r n)/\HY (Bg r) n=FB r n) (AnC (iSub (qi 3 (IV (Bg r) n)) (qi 4 r))/\True/\(AnC (Ak r)->AnC (iMul (iMin (iSub (qi 3 (IV (Bg r) n)) (qi 4 r)) (Ak r)) (qi 0 r))/\geB (some (iMul (iMin (iSub (qi 3 (IV (Bg r) n)) (qi 4 r)) (Ak r)) (qi 0 r))) none (iLen (ql 6 r))/\Abb 4 (iLen (cutRows (ql 6 r) (some (iMul (iMin (iSub (qi 3 (IV (Bg r) n)) (qi 4 r)) (Ak r)) (qi 0 r))) none))/\C.i (qi 0 r)::sga 0 [0,0,0,0,0] (IV (Bg r) n) [C.l (cutRows (ql 6 r) (some (iMul (iMin (iSub (qi 3 (IV (Bg r) n)) (qi 4 r)) (Ak r)) (qi 0 r))) none)]=sg 0 [0,0,0,0,0,0,3] (H8 r n)/\0=FB r n))):=by
 intro hw hp;simp only[D,E];refine λ_=>⟨λh=>⟨by unfold H8 FB; rw[if_neg h]; rfl,rfl⟩,λh=> ?_⟩
 have p:=VT (AaC h).1;have g:=We hp p.2.1 p.2.2;have e:IV (Bg r) n=[.i (qi 1 r),.i (qi 2 r),.i (qi 3 r),.i (DR (Bg r) n),.i (FV (Bg r) n)]:=if_pos h;have k:qi 3 (IV (Bg r) n)-qi 4 r=BX r n:=by rw[e]; exact V9 hp p.2.1 p.2.2
 rw[k,show min (BX r n) (Ak r)*qi 0 r=Qx r n from rfl];have rng:∀ {k:Int},-10000000000000000<=k->k<=10000000000000000->AnC k:=λa b=>by simp only[InR]; omega
 refine⟨rng (by omega) (by omega),λ_=>⟨rng (by omega) (by omega),⟨g.2.2.1,g.2.2.2.1⟩,by simp only[cutRows,Amk]; omega,?_,h.symm⟩⟩;unfold H8 FB;rw[if_pos h,e]; rfl
def r215:Cr PR:=K [r240,r125] 215 6 {ps:=[(true,hR),(false,hI)],rs:=[(true,hR),(false,hI)],pre:=λa=>AX (AnQ a)=true,out:=λa=>[rb [0,0,0,0,0,0,3] (H8 (AnQ a) (AnG a)),[.i (FB (AnQ a) (AnG a))]]} U λa=>Y (v215 (AnQ a) (AnG a))
def AgH (r:List C) (n:Int):Prop:=[C.i 0,C.i 0,C.i 0,C.i 0,C.i 0,C.i 0,C.l []]=sg 0 [0,0,0,0,0,0,3] (Jz r n)
theorem v170 (r:List C) (n:Int):WD hR r/\AnC n->True/\True/\Cn (bNot (AX r)) (0=Hw r n/\[]=GK r n/\(AgH r n)/\1=ER r n) (True/\(AnC (MZ (Bg r) n)/\AnC (CE (Bg r) n)->Cn (bNe (CE (Bg r) n) 0) (0=Hw r n/\[]=GK r n/\(AgH r n)/\CE (Bg r) n=ER r n) (True/\(AnC (Ak r)->Cn (bLt (Ak r) (MZ (Bg r) n)) (0=Hw r n/\[]=GK r n/\(AgH r n)/\4=ER r n) (AX r=true/\(WD hR (H8 r n)/\AnC (FB r n)->Cn (bNe (FB r n) 0) (0=Hw r n/\[]=GK r n/\(AgH r n)/\FB r n=ER r n) ((AX r=true/\pLe 0 n/\pLe n 65536/\Rj r n)/\(AnC (qi 0 r)/\WL hW (FQ r n)->qi 0 r=Hw r n/\FQ r n=GK r n/\sg 0 [0,0,0,0,0,0,3] (H8 r n)=sg 0 [0,0,0,0,0,0,3] (Jz r n)/\0=ER r n)))))))):=by
 intro hw;delta AgH;simp only[D,E];have z:∀ {e:Int},e≠0->ER r n=e->0=Hw r n/\[]=GK r n/\([C.i 0,C.i 0,C.i 0,C.i 0,C.i 0,C.i 0,C.l []]:List C)=sg 0 [0,0,0,0,0,0,3] (Jz r n)/\e=ER r n:=λh e=>by
  have:¬ER r n=0:=by omega
  unfold Hw GK Jz;rw[if_neg this,if_neg this,if_neg this];exact⟨rfl,rfl,rfl,e.symm⟩
 refine⟨λh=>z (by omega) (if_pos h),λh _=>⟨λh1=>z h1 ?_,λh1 _=> ?_⟩⟩
 · have v:=(Eb h).1;by_cases hn:n<0∨65536<n
   · rw[VN v hn]; unfold ER; rw[if_neg (by simp[h]),if_pos hn]
   · exact(h1 (OA v (by omega) (by omega)).1).elim
 have p:=VT h1;have t:=Zd h p.2.1 p.2.2;have en:MZ (Bg r) n=JQ (Bg r) n:=if_pos h1;rw[en];refine⟨λh2=>z (by omega) (by rw[t,if_pos h2]),λh2=>⟨h,λ_=> ?_⟩⟩;rw[if_neg h2]at t;refine⟨λh3=>z h3 t,λh3=>⟨⟨h,p.2.1,p.2.2,Zv h p.2.1 p.2.2 (by omega)⟩,λ_=> ?_⟩⟩;have:ER r n=0:=by omega
 unfold Hw GK Jz;rw[if_pos this,if_pos this,if_pos this];exact⟨rfl,rfl,rfl,this.symm⟩
def r170:Cr PR:=K0 [r124,r214,r125,r215,r216] 170 6 {ps:=[(true,hR),(false,hI)],rs:=[(true,hK),(true,hR),(false,hI)],out:=λa=>[[.i (Hw (AnQ a) (AnG a)),.l (GK (AnQ a) (AnG a))],rb [0,0,0,0,0,0,3] (Jz (AnQ a) (AnG a)),[.i (ER (AnQ a) (AnG a))]]} U λa=>Y (v170 (AnQ a) (AnG a))
end Go.Sx

