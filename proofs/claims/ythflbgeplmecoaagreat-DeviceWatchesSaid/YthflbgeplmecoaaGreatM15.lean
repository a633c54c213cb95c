import Derived.Test.YthflbgeplmecoaaGreatSxUse
import Derived.Test.YthflbgeplmecoaaGreatM18
set_option linter.unusedVariables false
set_option linter.unusedSimpArgs false
set_option maxRecDepth 100000
set_option maxHeartbeats 4000000
namespace Go
open Go.Sx
def Sp.smpF (x:List C):Bool:=decide (-8388608≤qi 0 x∧qi 0 x≤8388607)
def Sp.blkB (ch n:Int):Bool:=decide (1≤ch∧ch≤8∧n % ch=0∧n/ch≤65536)
def Sp.blk (ch:Int) (da:List (List C)):Bool:=Sp.blkB ch (da.length:Int)&&da.all Sp.smpF
end Go
namespace Go
open Go.Sx
theorem Sp.blk_no {ch:Int} {da:List (List C)} (h:¬(1≤ch∧ch≤8∧(da.length:Int) % ch=0∧(da.length:Int)/ch≤65536)):false=Sp.blk ch da:=by
 unfold Sp.blk Sp.blkB; rw[decide_eq_false h]; rfl
theorem Sp.blk_yes {ch:Int} {da:List (List C)} (h:1≤ch∧ch≤8∧(da.length:Int) % ch=0∧(da.length:Int)/ch≤65536):Sp.blk ch da=da.all Sp.smpF:=by
 unfold Sp.blk Sp.blkB; rw[decide_eq_true h]; rfl
theorem Sp.quo_in {a:Nat} {b:Int} (h:a≤9223372036854775807):InR .i64 ((a:Int)/b):=by
 have:=Int.natAbs_ediv_le_natAbs a b
 simp only[InR]; omega
end Go
namespace Go.Sx
def A120 (da:List (List C)):FuncId→Nat→LoopAnn:=fun _ _=>lp 34 da.length (Sp.alI Sp.smpF da) [0,1,2,4,30,32,33,34,35,40]
theorem v120 (ch:Int) (da:List (List C)):InR .i64 ch∧WL hW da→Cn (bLt ch 1) (false=Sp.blk ch da) (Cn (bLt 8 ch) (false=Sp.blk ch da) (pLe (iLen da) 9223372036854775807→pNe ch 0∧Cn (bNe (iRem (iLen da) ch) 0) (false=Sp.blk ch da) (pLe (iLen da) 9223372036854775807→(pNe ch 0∧InR .i64 (iQuo (iLen da) ch))∧Cn (bLt 65536 (iQuo (iLen da) ch)) (false=Sp.blk ch da) (pLe (iLen da) 9223372036854775807→(∃(x:Int),Sp.alI Sp.smpF da x∧0=x)∧∀(x:Int),Sp.alI Sp.smpF da x→InR .i64 x→Cn (bLt x (iLen da)) (pIn 0 (iLen da) x∧(InR .i32 (qi 0 (rGet da x))→Cn (bLe (-8388608) (qi 0 (rGet da x))) (True∧Cn (bNot (bLe (qi 0 (rGet da x)) 8388607)) (false=Sp.blk ch da) (InR .i64 (iAdd x 1)∧Sm [C.i ch,C.l da]∧Sm da∧Sm (iLen da)∧Sm [C.i ch,C.l da]∧∃(y:Int),Sp.alI Sp.smpF da y∧iAdd x 1=y∧nLt (da.length-y.toNat) (da.length-x.toNat))) (True∧false=Sp.blk ch da))) (true=Sp.blk ch da))))):=by
 intro hw
 have n0:=Int.natCast_nonneg da.length
 simp only[D,E,Int.tdiv_eq_ediv_of_nonneg n0,Int.tmod_eq_emod_of_nonneg n0]
 have q:=Sp.quo_in (a:=da.length) (b:=ch) hw.2.1
 refine⟨fun h=>Sp.blk_no (by omega),fun h1=>⟨fun h=>Sp.blk_no (by omega),fun h2 _=>⟨by omega,fun h=>Sp.blk_no (by omega),fun h3 _=>⟨⟨by omega,q⟩,fun h=>Sp.blk_no (by omega),fun h4 _=> ?_⟩⟩⟩⟩
 rw[Sp.blk_yes (by omega)]
 exact lpA al0 (fun x h=>h.1) (fun x h h0 hx _=>⟨fun a=>⟨fun b=>alB h hx (decide_eq_false (by omega)),fun b=>⟨inS hw.2 h0 hx,x+1,alN h hx (decide_eq_true (by omega)),rfl,by omega⟩⟩,fun a=>alB h hx (decide_eq_false (by omega))⟩) (fun x h hx=>alE h hx)
def r120:Cr PR:=K0 [] 120 6 {ps:=[(true,[.int .i64,.sl hW])],rs:=[(false,[.bool])],pre:=fun _=>True,out:=fun a=>[[.b (Sp.blk (I a 0 0) (L a 0 1))]]} (fun a=>A120 (L a 0 1)) fun a=>Y (v120 (I a 0 0) (L a 0 1))
end Go.Sx
namespace Go.Sx
def A59 (da:List (List C)):FuncId→Nat→LoopAnn:=fun _ _=>lp 34 da.length (Sp.alI Sp.smpF da) [0,1,2,4,30,32,33,34,35,40]
theorem v59 (ch:Int) (da:List (List C)):InR .i64 ch∧WL hW da→Cn (bLt ch 1) (false=Sp.blk ch da) (Cn (bLt 8 ch) (false=Sp.blk ch da) (pLe (iLen da) 9223372036854775807→pNe ch 0∧Cn (bNe (iRem (iLen da) ch) 0) (false=Sp.blk ch da) (pLe (iLen da) 9223372036854775807→(pNe ch 0∧InR .i64 (iQuo (iLen da) ch))∧Cn (bLt 65536 (iQuo (iLen da) ch)) (false=Sp.blk ch da) (pLe (iLen da) 9223372036854775807→(∃(x:Int),Sp.alI Sp.smpF da x∧0=x)∧∀(x:Int),Sp.alI Sp.smpF da x→InR .i64 x→Cn (bLt x (iLen da)) (pIn 0 (iLen da) x∧(InR .i32 (qi 0 (rGet da x))→Cn (bLe (-8388608) (qi 0 (rGet da x))) (True∧Cn (bNot (bLe (qi 0 (rGet da x)) 8388607)) (false=Sp.blk ch da) (InR .i64 (iAdd x 1)∧Sm [C.i ch,C.l da]∧Sm da∧Sm (iLen da)∧Sm [C.i ch,C.l da]∧∃(y:Int),Sp.alI Sp.smpF da y∧iAdd x 1=y∧nLt (da.length-y.toNat) (da.length-x.toNat))) (True∧false=Sp.blk ch da))) (true=Sp.blk ch da))))):=by
 intro hw
 have n0:=Int.natCast_nonneg da.length
 simp only[D,E,Int.tdiv_eq_ediv_of_nonneg n0,Int.tmod_eq_emod_of_nonneg n0]
 have q:=Sp.quo_in (a:=da.length) (b:=ch) hw.2.1
 refine⟨fun h=>Sp.blk_no (by omega),fun h1=>⟨fun h=>Sp.blk_no (by omega),fun h2 _=>⟨by omega,fun h=>Sp.blk_no (by omega),fun h3 _=>⟨⟨by omega,q⟩,fun h=>Sp.blk_no (by omega),fun h4 _=> ?_⟩⟩⟩⟩
 rw[Sp.blk_yes (by omega)]
 exact lpA al0 (fun x h=>h.1) (fun x h h0 hx _=>⟨fun a=>⟨fun b=>alB h hx (decide_eq_false (by omega)),fun b=>⟨inS hw.2 h0 hx,x+1,alN h hx (decide_eq_true (by omega)),rfl,by omega⟩⟩,fun a=>alB h hx (decide_eq_false (by omega))⟩) (fun x h hx=>alE h hx)
def r59:Cr PR:=K0 [] 59 6 {ps:=[(true,[.int .i64,.sl hW])],rs:=[(false,[.bool])],pre:=fun _=>True,out:=fun a=>[[.b (Sp.blk (I a 0 0) (L a 0 1))]]} (fun a=>A59 (L a 0 1)) fun a=>Y (v59 (I a 0 0) (L a 0 1))
end Go.Sx
namespace Go
open Go.Sx
def Sp.zrs (n:Int):List (List C):=List.replicate n.toNat [.i 0]
def Sp.silE (ch n:Int):Int:=if 1≤ch∧ch≤8∧0≤n∧n≤65536 then 0 else 2
def Sp.silC (ch n:Int):Int:=if Sp.silE ch n=0 then ch else 0
def Sp.e0 (x y:List C):Bool:=bEq (qi 0 x) (qi 0 y)
def Sp.silD (ch n:Int):List (List C):=if Sp.silE ch n=0 then Sp.zrs (ch*n)else[]
end Go
namespace Go
open Go.Sx
theorem Sp.frm_of {ch:Int} {da:List (List C)} (h:Sp.blk ch da=true):1≤ch∧ch≤8∧(da.length:Int) % ch=0∧(da.length:Int)/ch≤65536:=by
 unfold Sp.blk Sp.blkB at h
 simp only[Bool.and_eq_true,decide_eq_true_eq]at h
 exact h.1
theorem Sp.sil_no {ch n:Int} (h:¬(1≤ch∧ch≤8∧0≤n∧n≤65536)):0=Sp.silC ch n∧[]=Sp.silD ch n∧2=Sp.silE ch n:=by
 have e:Sp.silE ch n=2:=if_neg h
 simp[Sp.silC,Sp.silD,e]
end Go
namespace Go.Sx
end Go.Sx
namespace Go.Sx
def m73_0 (ch:Int) (n:Int):Prop:=0=Sp.silC ch n∧[]=Sp.silD ch n∧2=Sp.silE ch n
theorem v73 (ch:Int) (n:Int):InR .i64 ch∧InR .i64 n→Cn (bLt ch 1) ((m73_0 ch n)) (Cn (bLt 8 ch) ((m73_0 ch n)) (Cn (bLt n 0) ((m73_0 ch n)) (Cn (bLt 65536 n) ((m73_0 ch n)) (InR .i64 (iMul ch n)∧(pLe 0 (iMul ch n)∧pLe (iMul ch n) (iMul ch n)∧pRoom 4 (iMul ch n))∧ch=Sp.silC ch n∧List.replicate (iMul ch n).toNat [C.i 0]=Sp.silD ch n∧0=Sp.silE ch n)))):=by
 intro hw
 delta m73_0
 simp only[D,E]
 refine⟨fun h=>Sp.sil_no (by omega),fun h1=>⟨fun h=>Sp.sil_no (by omega),fun h2=>⟨fun h=>Sp.sil_no (by omega),fun h3=>⟨fun h=>Sp.sil_no (by omega),fun h4=> ?_⟩⟩⟩⟩
 have b:=mul_bd (x:=ch) (X:=8) (y:=n) (Y:=65536) (by omega) (by omega) (by omega) (by omega)
 have e:Sp.silE ch n=0:=if_pos (by omega)
 refine⟨by simp only[InR]; omega,⟨b.1,Int.le_refl _,by omega⟩,?_,?_,e.symm⟩
 · unfold Sp.silC; rw[if_pos e]
 · unfold Sp.silD; rw[if_pos e]; rfl
def r73:Cr PR:=K0 [] 73 6 {ps:=[(false,hI),(false,hI)],rs:=[(true,[.int .i64,.sl hW]),(false,hI)],pre:=fun _=>True,out:=fun a=>[[.i (Sp.silC (I a 0 0) (I a 1 0)),.l (Sp.silD (I a 0 0) (I a 1 0))],[.i (Sp.silE (I a 0 0) (I a 1 0))]]} U fun a=>Y (v73 (I a 0 0) (I a 1 0))
end Go.Sx
namespace Go.Sx
end Go.Sx
namespace Go.Sx
end Go.Sx
namespace Go.Sx
end Go.Sx
namespace Go.Sx
end Go.Sx
namespace Go.Sx
end Go.Sx

set_option linter.unusedVariables false
set_option linter.unusedSimpArgs false
set_option maxRecDepth 100000
set_option maxHeartbeats 4000000
namespace Go
open Go.Sx
def Sp.phQ (p:List C):Int:=qi 1 p*65536
def Sp.phS (p:List C):Int:=qi 0 p*(65536+qi 2 p)
def Sp.phV (p:List C):Bool:=Sp.rvalid (qi 0 p) (qi 1 p)&&decide (qi 0 p≤768000∧qi 1 p≤768000∧-4096≤qi 2 p∧qi 2 p≤4096∧0≤qi 3 p∧qi 3 p≤1125899906842624∧0≤qi 4 p∧qi 4 p<Sp.phQ p)
def Sp.phA (p:List C) (n:Int):Int:=qi 4 p+n*Sp.phS p
def Sp.phE (p:List C) (n:Int):Int:=if Sp.phV p=false then 1 else if n<0∨65536<n then 2 else 0
def Sp.phX (p:List C) (n:Int):Int:=if Sp.phE p n=0 then qi 3 p+Sp.phA p n/Sp.phQ p else 0
def Sp.phF (p:List C) (n:Int):Int:=if Sp.phE p n=0 then Sp.phA p n % Sp.phQ p else 0
def Sp.avE (p:List C) (n:Int):Int:=if Sp.phE p n=0∧1125899906842624<Sp.phX p n then 2 else Sp.phE p n
def Sp.avV (p:List C) (n:Int):List C:=if Sp.avE p n=0 then[.i (qi 0 p),.i (qi 1 p),.i (qi 2 p),.i (Sp.phX p n),.i (Sp.phF p n)]else[]
def Sp.rtE (p:List C) (a:Int):Int:=if Sp.phV p=false then 1 else if a< -4096∨4096<a then 2 else 0
def Sp.rtV (p:List C) (a:Int):List C:=if Sp.rtE p a=0 then[.i (qi 0 p),.i (qi 1 p),.i a,.i (qi 3 p),.i (qi 4 p)]else[]
def Sp.phN (p:List C) (n:Int):Int:=if n=0 then 0 else max (Sp.phA p (n-1)/Sp.phQ p+2) (Sp.phA p n/Sp.phQ p)
def Sp.ndV (p:List C) (n:Int):Int:=if Sp.phE p n=0 then Sp.phN p n else 0
def Sp.phM (p:List C) (n:Int):Int:=max 0 (min 65536 (min (((n-1)*Sp.phQ p-1-qi 4 p)/Sp.phS p+1) (((n+1)*Sp.phQ p-1-qi 4 p)/Sp.phS p)))
def Sp.mkpE (p:List C) (n:Int):Int:=if Sp.phV p=false then 1 else if n<0∨1099511627776<n then 2 else 0
def Sp.mkpV (p:List C) (n:Int):Int:=if Sp.mkpE p n=0 then Sp.phM p n else 0
end Go
namespace Go
open Go.Sx
def Sp.pnV (n d:Int):List C:=if Sp.phV [.i n,.i d]=false then[]else[.i n,.i d]
def Sp.pnE (n d:Int):Int:=if Sp.phV [.i n,.i d]=false then 1 else 0
end Go
namespace Go
open Go.Sx
theorem Sp.phV_of {p:List C} (h:Sp.phV p=true):1≤qi 0 p∧qi 0 p≤768000∧1≤qi 1 p∧qi 1 p≤768000∧-4096≤qi 2 p∧qi 2 p≤4096∧0≤qi 3 p∧qi 3 p≤1125899906842624∧0≤qi 4 p∧qi 4 p<Sp.phQ p:=by
 simp only[Sp.phV,Sp.rvalid,Bool.and_eq_true,decide_eq_true_eq]at h
 omega
theorem Sp.ph_bd {p:List C} (h:Sp.phV p=true):65536≤Sp.phQ p∧Sp.phQ p≤50331648000∧61440≤Sp.phS p∧Sp.phS p≤53477376000:=by
 have v:=Sp.phV_of h
 have b:=mul_bd (x:=qi 0 p-1) (X:=767999) (y:=65536+qi 2 p) (Y:=69632) (by omega) (by omega) (by omega) (by omega)
 rw[Int.sub_mul,Int.one_mul]at b
 unfold Sp.phQ Sp.phS; omega
theorem Sp.phA_bd {p:List C} {n:Int} (h:Sp.phV p=true) (h0:0≤n) (h1:n≤65536):0≤n*Sp.phS p∧n*Sp.phS p≤3504693313536000∧0≤Sp.phA p n∧Sp.phA p n≤4000000000000000∧0≤Sp.phA p n/Sp.phQ p∧Sp.phA p n/Sp.phQ p≤4000000000000000∧0≤Sp.phA p n % Sp.phQ p∧Sp.phA p n % Sp.phQ p<Sp.phQ p:=by
 have v:=Sp.phV_of h
 have d:=Sp.ph_bd h
 have b:=mul_bd (x:=n) (X:=65536) (y:=Sp.phS p) (Y:=53477376000) h0 h1 (by omega) d.2.2.2
 have a0:0≤Sp.phA p n:=by unfold Sp.phA; omega
 have a1:=Int.ediv_le_self (Sp.phQ p) a0
 have a2:=Int.ediv_nonneg a0 (show 0≤Sp.phQ p by omega)
 have a3:=Int.emod_nonneg (Sp.phA p n) (show Sp.phQ p≠0 by omega)
 have a4:=Int.emod_lt_of_pos (Sp.phA p n) (show 0<Sp.phQ p by omega)
 unfold Sp.phA at*; omega
theorem Sp.phE0 {p:List C} {n:Int} (h:Sp.phV p=true) (h0:0≤n) (h1:n≤65536):Sp.phE p n=0∧Sp.phX p n=qi 3 p+Sp.phA p n/Sp.phQ p∧Sp.phF p n=Sp.phA p n % Sp.phQ p:=by
 have e:Sp.phE p n=0:=by unfold Sp.phE; rw[if_neg (by simp[h]),if_neg (by omega)]
 exact⟨e,if_pos e,if_pos e⟩
theorem Sp.phE1 {p:List C} {n:Int} (h:¬Sp.phE p n=0):0=Sp.phX p n∧0=Sp.phF p n:=⟨(if_neg h).symm,(if_neg h).symm⟩
theorem Sp.phEn {p:List C} {n:Int} (h:Sp.phV p=true) (h0:n<0∨65536<n):Sp.phE p n=2:=by unfold Sp.phE; rw[if_neg (by simp[h]),if_pos h0]
theorem Sp.phEb {p:List C} {n:Int} (h:Sp.phV p=false):Sp.phE p n=1:=by unfold Sp.phE; rw[if_pos h]
end Go
namespace Go.Sx
theorem v261 (p:List C):WD hP p→pLe 0 (qi 1 p)∧pLe (qi 1 p) 768000→InR .i64 (iMul (qi 1 p) 65536)∧iMul (qi 1 p) 65536=Sp.phQ p:=by
 intro hw hp
 simp only[D,Sp.phQ,E]at hp ⊢
 simp only[InR]; omega
def r261:Cr PR:=K [] 261 6 {ps:=[(true,hP)],rs:=[(false,hI)],pre:=fun a=>pLe 0 (qi 1 (arg 0 a))∧pLe (qi 1 (arg 0 a)) 768000,out:=fun a=>[[.i (Sp.phQ (arg 0 a))]]} U fun a=>Y (v261 (arg 0 a))
end Go.Sx
namespace Go.Sx
theorem v228 (p:List C):WD hP p→pLe 0 (qi 1 p)∧pLe (qi 1 p) 768000→InR .i64 (iMul (qi 1 p) 65536)∧iMul (qi 1 p) 65536=Sp.phQ p:=by
 intro hw hp
 simp only[D,Sp.phQ,E]at hp ⊢
 simp only[InR]; omega
def r228:Cr PR:=K [] 228 6 {ps:=[(true,hP)],rs:=[(false,hI)],pre:=fun a=>pLe 0 (qi 1 (arg 0 a))∧pLe (qi 1 (arg 0 a)) 768000,out:=fun a=>[[.i (Sp.phQ (arg 0 a))]]} U fun a=>Y (v228 (arg 0 a))
end Go.Sx
namespace Go.Sx
theorem v229 (p:List C):WD hP p→True∧Cn (Sp.rvalid (qi 0 p) (qi 1 p)) (Cn (bLe (qi 0 p) 768000) (Cn (bLe (qi 1 p) 768000) (Cn (bLe (-4096) (qi 2 p)) (Cn (bLe (qi 2 p) 4096) (Cn (bLe 0 (qi 3 p)) (Cn (bLe (qi 3 p) 1125899906842624) (Cn (bLe 0 (qi 4 p)) ((pLe 0 (qi 1 p)∧pLe (qi 1 p) 768000)∧(InR .i64 (Sp.phQ p)→bLt (qi 4 p) (Sp.phQ p)=Sp.phV p)) (false=Sp.phV p)) (false=Sp.phV p)) (false=Sp.phV p)) (false=Sp.phV p)) (false=Sp.phV p)) (false=Sp.phV p)) (false=Sp.phV p)) (false=Sp.phV p):=by
 intro hw
 have h:Sp.rvalid (qi 0 p) (qi 1 p)=true→1≤qi 0 p∧1≤qi 1 p:=fun h=>by simp only[Sp.rvalid,decide_eq_true_eq]at h; omega
 simp only[D,E,Sp.phV]
 cases hr:Sp.rvalid (qi 0 p) (qi 1 p)
 · simp
 have h:=h hr
 simp only[Bool.true_and,E]
 repeat' (first|apply And.intro|intro _)
 all_goals (first|omega|(simp only[decide_eq_decide]; omega)|(symm; simp only[decide_eq_false_iff_not]; omega)|contradiction)
def r229:Cr PR:=K0 [r144,r261] 229 6 {ps:=[(true,hP)],rs:=[(false,[.bool])],pre:=fun _=>True,out:=fun a=>[[.b (Sp.phV (arg 0 a))]]} U fun a=>Y (v229 (arg 0 a))
end Go.Sx
namespace Go.Sx
theorem v182 (p:List C):WD hP p→True∧Cn (Sp.rvalid (qi 0 p) (qi 1 p)) (Cn (bLe (qi 0 p) 768000) (Cn (bLe (qi 1 p) 768000) (Cn (bLe (-4096) (qi 2 p)) (Cn (bLe (qi 2 p) 4096) (Cn (bLe 0 (qi 3 p)) (Cn (bLe (qi 3 p) 1125899906842624) (Cn (bLe 0 (qi 4 p)) ((pLe 0 (qi 1 p)∧pLe (qi 1 p) 768000)∧(InR .i64 (Sp.phQ p)→bLt (qi 4 p) (Sp.phQ p)=Sp.phV p)) (false=Sp.phV p)) (false=Sp.phV p)) (false=Sp.phV p)) (false=Sp.phV p)) (false=Sp.phV p)) (false=Sp.phV p)) (false=Sp.phV p)) (false=Sp.phV p):=by
 intro hw
 have h:Sp.rvalid (qi 0 p) (qi 1 p)=true→1≤qi 0 p∧1≤qi 1 p:=fun h=>by simp only[Sp.rvalid,decide_eq_true_eq]at h; omega
 simp only[D,E,Sp.phV]
 cases hr:Sp.rvalid (qi 0 p) (qi 1 p)
 · simp
 have h:=h hr
 simp only[Bool.true_and,E]
 repeat' (first|apply And.intro|intro _)
 all_goals (first|omega|(simp only[decide_eq_decide]; omega)|(symm; simp only[decide_eq_false_iff_not]; omega)|contradiction)
def r182:Cr PR:=K0 [r76,r228] 182 6 {ps:=[(true,hP)],rs:=[(false,[.bool])],pre:=fun _=>True,out:=fun a=>[[.b (Sp.phV (arg 0 a))]]} U fun a=>Y (v182 (arg 0 a))
end Go.Sx
namespace Go.Sx
theorem v262 (p:List C) (n:Int):WD hP p∧InR .i64 n→Sp.phV p=true∧pLe 0 n∧pLe n 65536→InR .i64 (iMul n (qi 0 p))∧InR .i64 (iAdd 65536 (qi 2 p))∧InR .i64 (iMul (iMul n (qi 0 p)) (iAdd 65536 (qi 2 p)))∧InR .i64 (iAdd (qi 4 p) (iMul (iMul n (qi 0 p)) (iAdd 65536 (qi 2 p))))∧iAdd (qi 4 p) (iMul (iMul n (qi 0 p)) (iAdd 65536 (qi 2 p)))=Sp.phA p n:=by
 intro hw hp
 have v:=Sp.phV_of hp.1
 have b:=Sp.phA_bd hp.1 hp.2.1 hp.2.2
 have q:=Sp.ph_bd hp.1
 have c:=mul_bd (x:=n) (X:=65536) (y:=qi 0 p) (Y:=768000) hp.2.1 hp.2.2 (by omega) (by omega)
 have e:n*qi 0 p*(65536+qi 2 p)=n*Sp.phS p:=by unfold Sp.phS; rw[Int.mul_assoc]
 simp only[D,e,InR,Sp.phA,E]
 omega
def r262:Cr PR:=K [] 262 6 {ps:=[(true,hP),(false,hI)],rs:=[(false,hI)],pre:=fun a=>Sp.phV (arg 0 a)=true∧(pLe 0 (I a 1 0)∧pLe (I a 1 0) 65536),out:=fun a=>[[.i (Sp.phA (arg 0 a) (I a 1 0))]]} U fun a=>Y (v262 (arg 0 a) (I a 1 0))
end Go.Sx
namespace Go.Sx
end Go.Sx
namespace Go.Sx
theorem v186 (p:List C) (a:Int):WD hP p∧InR .i64 a→True∧True∧Cn (bNot (Sp.phV p)) ([C.i 0,C.i 0,C.i 0,C.i 0,C.i 0]=sg 0 [0,0,0,0,0] (Sp.rtV p a)∧1=Sp.rtE p a) (Cn (bLe (-4096) a) (True∧Cn (bNot (bLe a 4096)) ([C.i 0,C.i 0,C.i 0,C.i 0,C.i 0]=sg 0 [0,0,0,0,0] (Sp.rtV p a)∧2=Sp.rtE p a) (C.i (qi 0 p)::C.i (qi 1 p)::C.i a::sg 3 [0,0] p=sg 0 [0,0,0,0,0] (Sp.rtV p a)∧0=Sp.rtE p a)) (True∧[C.i 0,C.i 0,C.i 0,C.i 0,C.i 0]=sg 0 [0,0,0,0,0] (Sp.rtV p a)∧2=Sp.rtE p a)):=by
 intro hw
 simp only[D,E]
 have b:Sp.phV p=false∨a< -4096∨4096<a→([C.i 0,C.i 0,C.i 0,C.i 0,C.i 0]:List C)=sg 0 [0,0,0,0,0] (Sp.rtV p a):=fun h=>by
  have:Sp.rtV p a=[]:=if_neg (by unfold Sp.rtE; split<;>(try split)<;>simp_all)
  rw[this]; rfl
 have k:Sp.phV p=true→a< -4096∨4096<a→2=Sp.rtE p a:=fun h h2=>by unfold Sp.rtE; rw[if_neg (by simp[h]),if_pos h2]
 have g:Sp.phV p=true→-4096≤a→a≤4096→C.i (qi 0 p)::C.i (qi 1 p)::C.i a::sg 3 [0,0] p=sg 0 [0,0,0,0,0] (Sp.rtV p a)∧0=Sp.rtE p a:=fun h h1 h2=>by
  have e:Sp.rtE p a=0:=by unfold Sp.rtE; rw[if_neg (by simp[h]),if_neg (by omega)]
  exact⟨by unfold Sp.rtV; rw[if_pos e]; rfl,e.symm⟩
 refine⟨fun h=>⟨b (.inl h),(if_pos h).symm⟩,fun h=> ?_⟩
 exact⟨fun h1=>⟨fun h2=>⟨b (.inr (.inr (by omega))),k h (.inr (by omega))⟩,fun h2=>g h h1 h2⟩,fun h1=>⟨b (.inr (.inl (by omega))),k h (.inl (by omega))⟩⟩
def r186:Cr PR:=K0 [r229] 186 6 {ps:=[(true,hP),(false,hI)],rs:=[(true,hP),(false,hI)],pre:=fun _=>True,out:=fun a=>[rb [0,0,0,0,0] (Sp.rtV (arg 0 a) (I a 1 0)),[.i (Sp.rtE (arg 0 a) (I a 1 0))]]} U fun a=>Y (v186 (arg 0 a) (I a 1 0))
end Go.Sx
namespace Go.Sx
end Go.Sx
namespace Go.Sx
theorem v221 (n:Int) (d:Int):InR .i64 n∧InR .i64 d→True∧True∧Cn (bNot (Sp.phV [C.i n,C.i d,C.i 0,C.i 0,C.i 0])) ([C.i 0,C.i 0,C.i 0,C.i 0,C.i 0]=sg 0 [0,0,0,0,0] (Sp.pnV n d)∧1=Sp.pnE n d) ([C.i n,C.i d,C.i 0,C.i 0,C.i 0]=sg 0 [0,0,0,0,0] (Sp.pnV n d)∧0=Sp.pnE n d):=by
 intro hw
 have e:Sp.phV [.i n,.i d,.i 0,.i 0,.i 0]=Sp.phV [.i n,.i d]:=rfl
 simp only[D,E,e]
 exact⟨fun h=>⟨by unfold Sp.pnV; rw[if_pos h]; rfl,(if_pos h).symm⟩,fun h=>⟨by unfold Sp.pnV; rw[if_neg (by simp[h])]; rfl,(if_neg (by simp[h])).symm⟩⟩
def r221:Cr PR:=K0 [r229] 221 6 {ps:=[(true,hII)],rs:=[(true,hP),(false,hI)],pre:=fun _=>True,out:=fun a=>[rb [0,0,0,0,0] (Sp.pnV (I a 0 0) (I a 0 1)),[.i (Sp.pnE (I a 0 0) (I a 0 1))]]} U fun a=>Y (v221 (I a 0 0) (I a 0 1))
end Go.Sx
namespace Go.Sx
theorem v265 (p:List C) (n:Int):WD hP p∧InR .i64 n→True∧True∧Cn (bNot (Sp.phV p)) (0=Sp.phX p n∧0=Sp.phF p n∧1=Sp.phE p n) (Cn (bLt n 0) (0=Sp.phX p n∧0=Sp.phF p n∧2=Sp.phE p n) (Cn (bLt 65536 n) (0=Sp.phX p n∧0=Sp.phF p n∧2=Sp.phE p n) ((Sp.phV p=true∧pLe 0 n∧pLe n 65536)∧(InR .i64 (Sp.phA p n)→(pLe 0 (qi 1 p)∧pLe (qi 1 p) 768000)∧(InR .i64 (Sp.phQ p)→(pNe (Sp.phQ p) 0∧InR .i64 (iQuo (Sp.phA p n) (Sp.phQ p)))∧InR .i64 (iAdd (qi 3 p) (iQuo (Sp.phA p n) (Sp.phQ p)))∧(pLe 0 (qi 1 p)∧pLe (qi 1 p) 768000)∧(InR .i64 (Sp.phQ p)→pNe (Sp.phQ p) 0∧iAdd (qi 3 p) (iQuo (Sp.phA p n) (Sp.phQ p))=Sp.phX p n∧iRem (Sp.phA p n) (Sp.phQ p)=Sp.phF p n∧0=Sp.phE p n)))))):=by
 intro hw
 simp only[D,E]
 refine⟨fun h=> ?_,fun h=>⟨fun h1=> ?_,fun h1=>⟨fun h2=> ?_,fun h2=> ?_⟩⟩⟩
 · have e:=Sp.phEb (n:=n) h
   exact⟨(Sp.phE1 (by omega)).1,(Sp.phE1 (by omega)).2,e.symm⟩
 · have e:=Sp.phEn h (.inl h1)
   exact⟨(Sp.phE1 (by omega)).1,(Sp.phE1 (by omega)).2,e.symm⟩
 · have e:=Sp.phEn h (.inr h2)
   exact⟨(Sp.phE1 (by omega)).1,(Sp.phE1 (by omega)).2,e.symm⟩
 have v:=Sp.phV_of h
 have b:=Sp.phA_bd h (show 0≤n by omega) (by omega)
 have q:=Sp.ph_bd h
 have e:=Sp.phE0 h (show 0≤n by omega) (by omega)
 rw[h,e.1,e.2.1,e.2.2,Int.tdiv_eq_ediv_of_nonneg b.2.2.1,Int.tmod_eq_emod_of_nonneg b.2.2.1]
 simp only[InR]
 repeat' (first|apply And.intro|intro _)
 all_goals (first|trivial|rfl|omega)
def r265:Cr PR:=K0 [r229,r262,r261] 265 6 {ps:=[(true,hP),(false,hI)],rs:=[(false,hI),(false,hI),(false,hI)],pre:=fun _=>True,out:=fun a=>[[.i (Sp.phX (arg 0 a) (I a 1 0))],[.i (Sp.phF (arg 0 a) (I a 1 0))],[.i (Sp.phE (arg 0 a) (I a 1 0))]]} U fun a=>Y (v265 (arg 0 a) (I a 1 0))
end Go.Sx
namespace Go.Sx
end Go.Sx
namespace Go.Sx
theorem v264 (p:List C) (n:Int):WD hP p∧InR .i64 n→True∧(InR .i64 (Sp.phX p n)∧InR .i64 (Sp.phF p n)∧InR .i64 (Sp.phE p n)→Cn (bEq (Sp.phE p n) 0) (Cn (bLt 1125899906842624 (Sp.phX p n)) ([C.i 0,C.i 0,C.i 0,C.i 0,C.i 0]=sg 0 [0,0,0,0,0] (Sp.avV p n)∧2=Sp.avE p n) (Cn (bNe (Sp.phE p n) 0) ([C.i 0,C.i 0,C.i 0,C.i 0,C.i 0]=sg 0 [0,0,0,0,0] (Sp.avV p n)∧Sp.phE p n=Sp.avE p n) ([C.i (qi 0 p),C.i (qi 1 p),C.i (qi 2 p),C.i (Sp.phX p n),C.i (Sp.phF p n)]=sg 0 [0,0,0,0,0] (Sp.avV p n)∧0=Sp.avE p n))) (Cn (bNe (Sp.phE p n) 0) ([C.i 0,C.i 0,C.i 0,C.i 0,C.i 0]=sg 0 [0,0,0,0,0] (Sp.avV p n)∧Sp.phE p n=Sp.avE p n) ([C.i (qi 0 p),C.i (qi 1 p),C.i (qi 2 p),C.i (Sp.phX p n),C.i (Sp.phF p n)]=sg 0 [0,0,0,0,0] (Sp.avV p n)∧0=Sp.avE p n))):=by
 intro hw
 simp only[D,E]
 intro _
 have b:∀ {e:Int},¬e=0→e=Sp.avE p n→([C.i 0,C.i 0,C.i 0,C.i 0,C.i 0]:List C)=sg 0 [0,0,0,0,0] (Sp.avV p n)∧e=Sp.avE p n:=fun h e=>⟨by unfold Sp.avV; rw[if_neg (by omega)]; rfl,e⟩
 have b1:Sp.phE p n=0→1125899906842624<Sp.phX p n→2=Sp.avE p n:=fun h h1=>(if_pos ⟨h,h1⟩).symm
 have b2:¬Sp.phE p n=0→Sp.phE p n=Sp.avE p n:=fun h=>(if_neg (by simp[h])).symm
 have b3:Sp.phE p n=0→¬1125899906842624<Sp.phX p n→[C.i (qi 0 p),C.i (qi 1 p),C.i (qi 2 p),C.i (Sp.phX p n),C.i (Sp.phF p n)]=sg 0 [0,0,0,0,0] (Sp.avV p n)∧0=Sp.avE p n:=fun h h1=>by
  have e:Sp.avE p n=0:=by unfold Sp.avE; rw[if_neg (by simp[h1])]; exact h
  exact⟨by unfold Sp.avV; rw[if_pos e]; rfl,e.symm⟩
 exact⟨fun h=>⟨fun h1=>b (by omega) (b1 h h1),fun h1=>⟨fun h2=>(h2 h).elim,fun _=>b3 h h1⟩⟩,fun h=>⟨fun _=>b h (b2 h),fun h2=>(h h2).elim⟩⟩
def r264:Cr PR:=K0 [r265] 264 6 {ps:=[(true,hP),(false,hI)],rs:=[(true,hP),(false,hI)],pre:=fun _=>True,out:=fun a=>[rb [0,0,0,0,0] (Sp.avV (arg 0 a) (I a 1 0)),[.i (Sp.avE (arg 0 a) (I a 1 0))]]} U fun a=>Y (v264 (arg 0 a) (I a 1 0))
end Go.Sx
namespace Go.Sx
end Go.Sx
namespace Go.Sx
theorem v234 (p:List C) (n:Int):WD hP p∧InR .i64 n→Sp.phV p=true∧pLe 0 n∧pLe n 65536→Cn (bEq n 0) (0=Sp.phN p n) (InR .i64 (iSub n 1)∧(Sp.phV p=true∧pLe 0 (iSub n 1)∧pLe (iSub n 1) 65536)∧(InR .i64 (Sp.phA p (iSub n 1))→(pLe 0 (qi 1 p)∧pLe (qi 1 p) 768000)∧(InR .i64 (Sp.phQ p)→(pNe (Sp.phQ p) 0∧InR .i64 (iQuo (Sp.phA p (iSub n 1)) (Sp.phQ p)))∧InR .i64 (iAdd (iQuo (Sp.phA p (iSub n 1)) (Sp.phQ p)) 2)∧(Sp.phV p=true∧pLe 0 n∧pLe n 65536)∧(InR .i64 (Sp.phA p n)→(pLe 0 (qi 1 p)∧pLe (qi 1 p) 768000)∧(InR .i64 (Sp.phQ p)→(pNe (Sp.phQ p) 0∧InR .i64 (iQuo (Sp.phA p n) (Sp.phQ p)))∧iMax (iAdd (iQuo (Sp.phA p (iSub n 1)) (Sp.phQ p)) 2) (iQuo (Sp.phA p n) (Sp.phQ p))=Sp.phN p n))))):=by
 intro hw hp
 simp only[D,E]at hp ⊢
 have v:=Sp.phV_of hp.1
 have b:=Sp.phA_bd hp.1 hp.2.1 hp.2.2
 have q:=Sp.ph_bd hp.1
 refine⟨fun h=>(if_pos h).symm,fun h=> ?_⟩
 have b':=Sp.phA_bd (n:=n-1) hp.1 (by omega) (by omega)
 rw[Int.tdiv_eq_ediv_of_nonneg b.2.2.1,Int.tdiv_eq_ediv_of_nonneg b'.2.2.1,hp.1]
 simp only[InR]
 repeat' (first|apply And.intro|intro _)
 all_goals (first|trivial|omega|rfl|exact(if_neg h).symm)
def r234:Cr PR:=K [r262,r261] 234 6 {ps:=[(true,hP),(false,hI)],rs:=[(false,hI)],pre:=fun a=>Sp.phV (arg 0 a)=true∧(pLe 0 (I a 1 0)∧pLe (I a 1 0) 65536),out:=fun a=>[[.i (Sp.phN (arg 0 a) (I a 1 0))]]} U fun a=>Y (v234 (arg 0 a) (I a 1 0))
end Go.Sx
namespace Go.Sx
theorem v236 (p:List C) (n:Int):WD hP p∧InR .i64 n→True∧True∧Cn (bNot (Sp.phV p)) (0=Sp.ndV p n∧1=Sp.phE p n) (Cn (bLt n 0) (0=Sp.ndV p n∧2=Sp.phE p n) (Cn (bLt 65536 n) (0=Sp.ndV p n∧2=Sp.phE p n) ((Sp.phV p=true∧pLe 0 n∧pLe n 65536)∧(InR .i64 (Sp.phN p n)→Sp.phN p n=Sp.ndV p n∧0=Sp.phE p n)))):=by
 intro hw
 simp only[D,E]
 have z:∀ {e:Int},e≠0→Sp.phE p n=e→0=Sp.ndV p n∧e=Sp.phE p n:=fun h e=>⟨(if_neg (by omega)).symm,e.symm⟩
 refine⟨fun h=>z (by omega) (Sp.phEb h),fun h=>⟨fun h1=>z (by omega) (Sp.phEn h (.inl h1)),fun h1=>⟨fun h2=>z (by omega) (Sp.phEn h (.inr h2)),fun h2=>⟨⟨h,by omega,by omega⟩,fun _=> ?_⟩⟩⟩⟩
 have e:=(Sp.phE0 h (show 0≤n by omega) (by omega)).1
 exact⟨(if_pos e).symm,e.symm⟩
def r236:Cr PR:=K0 [r229,r234] 236 6 {ps:=[(true,hP),(false,hI)],rs:=[(false,hI),(false,hI)],pre:=fun _=>True,out:=fun a=>[[.i (Sp.ndV (arg 0 a) (I a 1 0))],[.i (Sp.phE (arg 0 a) (I a 1 0))]]} U fun a=>Y (v236 (arg 0 a) (I a 1 0))
end Go.Sx
namespace Go.Sx
end Go.Sx
namespace Go
open Go.Sx
theorem Sp.le_dv {a b c:Int} (hb:0<b):a≤c/b↔a*b≤c:=Int.le_ediv_iff_mul_le hb
theorem Sp.phM_iff {p:List C} {m n:Int} (h:Sp.phV p=true) (hn:0≤n) (h0:0≤m) (h1:m≤65536):Sp.phN p m≤n↔m≤Sp.phM p n:=by
 have q:=Sp.ph_bd h
 have v:=Sp.phV_of h
 by_cases hm:m=0
 · unfold Sp.phN Sp.phM; rw[if_pos hm]; omega
 have e1:Sp.phA p (m-1)/Sp.phQ p+2≤n↔m≤((n-1)*Sp.phQ p-1-qi 4 p)/Sp.phS p+1:=by
  have a:m≤((n-1)*Sp.phQ p-1-qi 4 p)/Sp.phS p+1↔(m-1)*Sp.phS p≤(n-1)*Sp.phQ p-1-qi 4 p:=by rw[←Sp.le_dv (by omega)]; omega
  have b:Sp.phA p (m-1)/Sp.phQ p+2≤n↔Sp.phA p (m-1)<(n-1)*Sp.phQ p:=by rw[←Int.ediv_lt_iff_lt_mul (by omega)]; omega
  rw[a,b]; unfold Sp.phA; omega
 have e2:Sp.phA p m/Sp.phQ p≤n↔m≤((n+1)*Sp.phQ p-1-qi 4 p)/Sp.phS p:=by
  have b:Sp.phA p m/Sp.phQ p≤n↔Sp.phA p m<(n+1)*Sp.phQ p:=by rw[←Int.ediv_lt_iff_lt_mul (by omega)]; omega
  rw[Sp.le_dv (by omega),b]; unfold Sp.phA; omega
 unfold Sp.phN Sp.phM
 rw[if_neg hm]
 omega
end Go
namespace Go
open Go.Sx
def Sp.pmI (p:List C) (n i j:Int):Prop:=0≤i∧i≤Sp.phM p n∧Sp.phM p n≤j∧j≤65536
end Go
namespace Go
open Go.Sx
theorem Sp.phM_bd (p:List C) (n:Int):0≤Sp.phM p n∧Sp.phM p n≤65536:=by unfold Sp.phM; omega
theorem Sp.mkpE2 {p:List C} {n:Int} (h:Sp.phV p=true) (h0:n<0∨1099511627776<n):Sp.mkpE p n=2:=by unfold Sp.mkpE; rw[if_neg (by simp[h]),if_pos h0]
theorem Sp.mkpE0 {p:List C} {n:Int} (h:Sp.phV p=true) (h0:0≤n) (h1:n≤1099511627776):Sp.mkpE p n=0:=by unfold Sp.mkpE; rw[if_neg (by simp[h]),if_neg (by omega)]
end Go
namespace Go.Sx
def A188 (p:List C) (n:Int):FuncId→Nat→LoopAnn:=fun ff ii=>bif Nat.beq ff 232 then .inv (Int×Int) (fun z=>Sp.pmI p n z.1 z.2) (fun z=>[(5,.int .i64 z.1),(6,.int .i64 z.2)]) (fun _=>[]) [] [0,1,4,5,6,7,11,21] (fun z=>(z.2-z.1).toNat)else .unroll 3
theorem v188 (p:List C) (n:Int):WD hP p∧InR .i64 n→True∧True∧Cn (bNot (Sp.phV p)) (0=Sp.mkpV p n∧1=Sp.mkpE p n) (Cn (bLt n 0) (0=Sp.mkpV p n∧2=Sp.mkpE p n) (Cn (bLt 1099511627776 n) (0=Sp.mkpV p n∧2=Sp.mkpE p n) ((∃(x:Int×Int),Sp.pmI p n x.1 x.2∧0=x.1∧65536=x.2)∧∀(x:Int×Int),Sp.pmI p n x.1 x.2→InR .i64 x.1∧InR .i64 x.2→Cn (bLt x.1 x.2) (InR .i64 (iAdd x.1 x.2)∧pSh 64 1∧InR .i64 (iAdd (iWrap .i64 (iShr (iWrap .u64 (iAdd x.1 x.2)) 1)) 1)∧(Sp.phV p=true∧pLe 0 (iAdd (iWrap .i64 (iShr (iWrap .u64 (iAdd x.1 x.2)) 1)) 1)∧pLe (iAdd (iWrap .i64 (iShr (iWrap .u64 (iAdd x.1 x.2)) 1)) 1) 65536)∧(InR .i64 (Sp.phN p (iAdd (iWrap .i64 (iShr (iWrap .u64 (iAdd x.1 x.2)) 1)) 1))→True∧Cn (bNot (bLt n (Sp.phN p (iAdd (iWrap .i64 (iShr (iWrap .u64 (iAdd x.1 x.2)) 1)) 1)))) (InR .i64 (iAdd (iWrap .i64 (iShr (iWrap .u64 (iAdd x.1 x.2)) 1)) 1)∧Sm (sg 0 [0,0,0,0,0] p)∧Sm [C.i n]∧∃(y:Int×Int),Sp.pmI p n y.1 y.2∧iAdd (iWrap .i64 (iShr (iWrap .u64 (iAdd x.1 x.2)) 1)) 1=y.1∧x.2=y.2∧nLt (y.2-y.1).toNat (x.2-x.1).toNat) (Sm (sg 0 [0,0,0,0,0] p)∧Sm [C.i n]∧∃(y:Int×Int),Sp.pmI p n y.1 y.2∧x.1=y.1∧iWrap .i64 (iShr (iWrap .u64 (iAdd x.1 x.2)) 1)=y.2∧nLt (y.2-y.1).toNat (x.2-x.1).toNat))) (x.1=Sp.mkpV p n∧0=Sp.mkpE p n)))):=by
 intro hw
 simp only[D,E]
 have z:∀ {e:Int},e≠0→Sp.mkpE p n=e→0=Sp.mkpV p n∧e=Sp.mkpE p n:=fun h e=>⟨(if_neg (by omega)).symm,e.symm⟩
 refine⟨fun h=>z (by omega) (if_pos h),fun h=>⟨fun h1=>z (by omega) (Sp.mkpE2 h (.inl h1)),fun h1=>⟨fun h2=>z (by omega) (Sp.mkpE2 h (.inr h2)),fun h2=> ?_⟩⟩⟩
 have m:=Sp.phM_bd p n
 have e0:=Sp.mkpE0 (n:=n) h (by omega) (by omega)
 have rng:∀ {k:Int},0≤k→k≤200000→InR .i64 k:=fun a b=>by simp only[InR]; omega
 refine⟨⟨(0,65536),⟨by simp only; omega,m.1,m.2,by simp only; omega⟩,rfl,rfl⟩,?_⟩
 rintro⟨i,j⟩ ⟨a0,a1,a2,a3⟩ _
 simp only at a0 a1 a2 a3 ⊢
 refine⟨fun hl=> ?_,fun hl=>⟨by unfold Sp.mkpV; rw[if_pos e0]; omega,e0.symm⟩⟩
 have W:iWrap .i64 (iShr (iWrap .u64 (i+j)) 1)=(i+j)/2:=by
  rw[Sp.wrap64 (by omega) (by omega),show iShr (i+j) 1=(i+j)/2 from Int.fdiv_eq_ediv_of_nonneg _ (by decide)]
  exact Sp.wrapi (by omega) (by omega)
 have I:=Sp.phM_iff (m:=(i+j)/2+1) (n:=n) h (by omega) (by omega) (by omega)
 rw[W]
 exact⟨rng (by omega) (by omega),by decide,rng (by omega) (by omega),⟨h,by omega,by omega⟩,fun _=>⟨fun hc=>⟨rng (by omega) (by omega),(_,j),⟨by simp only; omega,by simp only; omega,a2,a3⟩,rfl,rfl,by simp only; omega⟩,fun hc=>⟨(i,_),⟨a0,a1,by simp only; omega,by simp only; omega⟩,rfl,rfl,by simp only; omega⟩⟩⟩
def r188:Cr PR:=K0 [r229,r234] 188 6 {ps:=[(true,hP),(false,hI)],rs:=[(false,hI),(false,hI)],pre:=fun _=>True,out:=fun a=>[[.i (Sp.mkpV (arg 0 a) (I a 1 0))],[.i (Sp.mkpE (arg 0 a) (I a 1 0))]]} (fun a=>A188 (arg 0 a) (I a 1 0)) fun a=>Y (v188 (arg 0 a) (I a 1 0))
end Go.Sx
namespace Go.Sx
end Go.Sx

set_option linter.unusedVariables false
set_option linter.unusedSimpArgs false
set_option maxRecDepth 100000
set_option maxHeartbeats 4000000
namespace Go
open Go.Sx
def Sp.rp (r:List C):List C:=sg 1 [0,0,0,0,0] r
def Sp.rsV (r:List C):Bool:=Sp.phV (Sp.rp r)&&Sp.blk (qi 0 r) (ql 6 r)
def Sp.rsW (r:List C):Int:=bif Sp.rsV r then((ql 6 r).length:Int)/qi 0 r else 0
def Sp.rn (ch n d:Int):List C:=[.i ch,.i n,.i d,.i 0,.i 0,.i 0,.l []]
def Sp.rnV (ch n d:Int):List C:=if Sp.rsV (Sp.rn ch n d)=false then[]else Sp.rn ch n d
def Sp.rnE (ch n d:Int):Int:=if Sp.rsV (Sp.rn ch n d)=false then 1 else 0
def Sp.fdE (r:List C) (ch:Int) (da:List (List C)):Int:=if Sp.rsV r=false∨Sp.blk ch da=false then 1 else if ch≠qi 0 r then 11 else if 65536<((ql 6 r).length+(da.length:Int))/qi 0 r then 3 else 0
def Sp.fdV (r:List C) (ch:Int) (da:List (List C)):List C:=if Sp.fdE r ch da=0 then sga 0 [0,0,0,0,0,0] r [.l (ql 6 r++da)]else[]
end Go
namespace Go
open Go.Sx
theorem Sp.blk_len {ch:Int} {da:List (List C)} (h:Sp.blk ch da=true):(da.length:Int)=ch*((da.length:Int)/ch)∧0≤(da.length:Int)/ch∧(da.length:Int)≤524288:=by
 have v:=Sp.frm_of h
 have d:=Int.mul_ediv_add_emod (da.length:Int) ch
 have q:=Int.ediv_nonneg (Int.natCast_nonneg da.length) (show 0≤ch by omega)
 have b:=mul_bd (x:=ch) (X:=8) (y:=(da.length:Int)/ch) (Y:=65536) (by omega) (by omega) q (by omega)
 omega
theorem Sp.rsV_of {r:List C} (h:Sp.rsV r=true):Sp.phV (Sp.rp r)=true∧Sp.blk (qi 0 r) (ql 6 r)=true:=by simpa[Sp.rsV]using h
theorem Sp.rsW_of {r:List C} (h:Sp.rsV r=true):Sp.rsW r=((ql 6 r).length:Int)/qi 0 r:=by unfold Sp.rsW; rw[h]; rfl
theorem Sp.fd_no {r:List C} {ch e:Int} {da:List (List C)} (h:e≠0) (he:Sp.fdE r ch da=e):([C.i 0,C.i 0,C.i 0,C.i 0,C.i 0,C.i 0,C.l []]:List C)=sg 0 [0,0,0,0,0,0,3] (Sp.fdV r ch da)∧e=Sp.fdE r ch da:=
 ⟨by unfold Sp.fdV; rw[if_neg (by omega)]; rfl,he.symm⟩
theorem Sp.fd_yes {r:List C} {ch:Int} {da xs:List (List C)} (he:Sp.fdE r ch da=0) (hx:xs=ql 6 r++da):sga 0 [0,0,0,0,0,0] r [C.l xs]=sg 0 [0,0,0,0,0,0,3] (Sp.fdV r ch da)∧0=Sp.fdE r ch da:=
 ⟨by unfold Sp.fdV; rw[if_pos he,hx]; rfl,he.symm⟩
theorem Sp.fd1 {r:List C} {ch:Int} {da:List (List C)} (h:Sp.rsV r=false∨Sp.blk ch da=false):Sp.fdE r ch da=1:=if_pos h
theorem Sp.fd2 {r:List C} {ch:Int} {da:List (List C)} (h:Sp.rsV r=true) (h1:Sp.blk ch da=true) (h2:ch≠qi 0 r):Sp.fdE r ch da=11:=by unfold Sp.fdE; rw[if_neg (by simp[h,h1]),if_pos h2]
theorem Sp.fd3 {r:List C} {ch:Int} {da:List (List C)} (h:Sp.rsV r=true) (h1:Sp.blk ch da=true) (h2:ch=qi 0 r):Sp.fdE r ch da=if 65536<((ql 6 r).length+(da.length:Int))/qi 0 r then 3 else 0:=by unfold Sp.fdE; rw[if_neg (by simp[h,h1]),if_neg (by simp[h2])]
end Go
namespace Go.Sx
theorem v197 (r:List C):WD hR r→True∧Cn (Sp.phV (Sp.rp r)) (True∧Sp.blk (qi 0 r) (ql 6 r)=Sp.rsV r) (false=Sp.rsV r):=by
 intro hw
 simp only[D,E,Sp.rsV]
 exact⟨fun h=>by rw[h]; rfl,fun h=>by rw[h]; rfl⟩
def r197:Cr PR:=K0 [r229,r120] 197 6 {ps:=[(true,hR)],rs:=[(false,[.bool])],pre:=fun _=>True,out:=fun a=>[[.b (Sp.rsV (arg 0 a))]]} U fun a=>Y (v197 (arg 0 a))
end Go.Sx
namespace Go.Sx
theorem v118 (r:List C):WD hR r→True∧Cn (Sp.phV (Sp.rp r)) (True∧Sp.blk (qi 0 r) (ql 6 r)=Sp.rsV r) (false=Sp.rsV r):=by
 intro hw
 simp only[D,E,Sp.rsV]
 exact⟨fun h=>by rw[h]; rfl,fun h=>by rw[h]; rfl⟩
def r118:Cr PR:=K0 [r182,r59] 118 6 {ps:=[(true,hR)],rs:=[(false,[.bool])],pre:=fun _=>True,out:=fun a=>[[.b (Sp.rsV (arg 0 a))]]} U fun a=>Y (v118 (arg 0 a))
end Go.Sx
namespace Go.Sx
theorem v185 (r:List C):WD hR r→True∧True∧Cn (bNot (Sp.rsV r)) (0=Sp.rsW r) (pLe (iLen (ql 6 r)) 9223372036854775807→(pNe (qi 0 r) 0∧InR .i64 (iQuo (iLen (ql 6 r)) (qi 0 r)))∧iQuo (iLen (ql 6 r)) (qi 0 r)=Sp.rsW r):=by
 intro hw
 have n0:=Int.natCast_nonneg (ql 6 r).length
 simp only[D,E,Int.tdiv_eq_ediv_of_nonneg n0,Sp.rsW]
 refine⟨fun h=>by rw[h]; rfl,fun h _=> ?_⟩
 have v:=Sp.frm_of (Sp.rsV_of h).2
 exact⟨⟨by omega,Sp.quo_in (hw.l 6).1⟩,by rw[h]; rfl⟩
def r185:Cr PR:=K0 [r197] 185 6 {ps:=[(true,hR)],rs:=[(false,hI)],pre:=fun _=>True,out:=fun a=>[[.i (Sp.rsW (arg 0 a))]]} U fun a=>Y (v185 (arg 0 a))
end Go.Sx
namespace Go.Sx
theorem v55 (r:List C):WD hR r→True∧True∧Cn (bNot (Sp.rsV r)) (0=Sp.rsW r) (pLe (iLen (ql 6 r)) 9223372036854775807→(pNe (qi 0 r) 0∧InR .i64 (iQuo (iLen (ql 6 r)) (qi 0 r)))∧iQuo (iLen (ql 6 r)) (qi 0 r)=Sp.rsW r):=by
 intro hw
 have n0:=Int.natCast_nonneg (ql 6 r).length
 simp only[D,E,Int.tdiv_eq_ediv_of_nonneg n0,Sp.rsW]
 refine⟨fun h=>by rw[h]; rfl,fun h _=> ?_⟩
 have v:=Sp.frm_of (Sp.rsV_of h).2
 exact⟨⟨by omega,Sp.quo_in (hw.l 6).1⟩,by rw[h]; rfl⟩
def r55:Cr PR:=K0 [r118] 55 6 {ps:=[(true,hR)],rs:=[(false,hI)],pre:=fun _=>True,out:=fun a=>[[.i (Sp.rsW (arg 0 a))]]} U fun a=>Y (v55 (arg 0 a))
end Go.Sx
namespace Go.Sx
theorem v165 (ch:Int) (n:Int) (d:Int):InR .i64 ch∧InR .i64 n∧InR .i64 d→True∧(WD hP (Sp.pnV n d)∧InR .i64 (Sp.pnE n d)→Cn (bNe (Sp.pnE n d) 0) ([C.i 0,C.i 0,C.i 0,C.i 0,C.i 0,C.i 0,C.l []]=sg 0 [0,0,0,0,0,0,3] (Sp.rnV ch n d)∧1=Sp.rnE ch n d) (True∧True∧Cn (bNot (Sp.rsV (C.i ch::sga 0 [0,0,0,0,0] (Sp.pnV n d) [C.l []]))) ([C.i 0,C.i 0,C.i 0,C.i 0,C.i 0,C.i 0,C.l []]=sg 0 [0,0,0,0,0,0,3] (Sp.rnV ch n d)∧1=Sp.rnE ch n d) (C.i ch::sga 0 [0,0,0,0,0] (Sp.pnV n d) [C.l []]=sg 0 [0,0,0,0,0,0,3] (Sp.rnV ch n d)∧0=Sp.rnE ch n d))):=by
 intro hw
 have e1:Sp.rsV (Sp.rn ch n d)=false→([C.i 0,C.i 0,C.i 0,C.i 0,C.i 0,C.i 0,C.l []]:List C)=sg 0 [0,0,0,0,0,0,3] (Sp.rnV ch n d)∧1=Sp.rnE ch n d:=fun h=>⟨by unfold Sp.rnV; rw[if_pos h]; rfl,(if_pos h).symm⟩
 have e2:Sp.rsV (Sp.rn ch n d)=true→Sp.rn ch n d=sg 0 [0,0,0,0,0,0,3] (Sp.rnV ch n d)∧0=Sp.rnE ch n d:=fun h=>⟨by unfold Sp.rnV; rw[if_neg (by simp[h])]; rfl,(if_neg (by simp[h])).symm⟩
 simp only[D,E]
 refine fun _=>⟨fun h=>e1 ?_,fun h=> ?_⟩
 · have e:Sp.rsV (Sp.rn ch n d)=(Sp.phV [.i n,.i d]&&Sp.blk ch []):=rfl
   cases hv:Sp.phV [.i n,.i d]
   · rw[e,hv]; rfl
   · exact(h (if_neg (by simp[hv]))).elim
 · have e:Sp.pnV n d=[.i n,.i d]:=if_neg (fun hv=>by unfold Sp.pnE at h; rw[if_pos hv]at h; cases h)
   rw[e]
   exact⟨e1,e2⟩
def r165:Cr PR:=K0 [r197,r221] 165 6 {ps:=[(false,hI),(true,hII)],rs:=[(true,hR),(false,hI)],pre:=fun _=>True,out:=fun a=>[rb [0,0,0,0,0,0,3] (Sp.rnV (I a 0 0) (I a 1 0) (I a 1 1)),[.i (Sp.rnE (I a 0 0) (I a 1 0) (I a 1 1))]]} U fun a=>Y (v165 (I a 0 0) (I a 1 0) (I a 1 1))
end Go.Sx
namespace Go.Sx
theorem v174 (ch:Int) (n:Int) (d:Int):InR .i64 ch∧InR .i64 n∧InR .i64 d→True∧True∧Cn (bNot (Sp.rsV [C.i ch,C.i n,C.i d,C.i 0,C.i 0,C.i 0,C.l []])) ([C.i 0,C.i 0,C.i 0,C.i 0,C.i 0,C.i 0,C.l []]=sg 0 [0,0,0,0,0,0,3] (Sp.rnV ch n d)∧1=Sp.rnE ch n d) ([C.i ch,C.i n,C.i d,C.i 0,C.i 0,C.i 0,C.l []]=sg 0 [0,0,0,0,0,0,3] (Sp.rnV ch n d)∧0=Sp.rnE ch n d):=by
 intro hw
 have e1:Sp.rsV (Sp.rn ch n d)=false→([C.i 0,C.i 0,C.i 0,C.i 0,C.i 0,C.i 0,C.l []]:List C)=sg 0 [0,0,0,0,0,0,3] (Sp.rnV ch n d)∧1=Sp.rnE ch n d:=fun h=>⟨by unfold Sp.rnV; rw[if_pos h]; rfl,(if_pos h).symm⟩
 have e2:Sp.rsV (Sp.rn ch n d)=true→Sp.rn ch n d=sg 0 [0,0,0,0,0,0,3] (Sp.rnV ch n d)∧0=Sp.rnE ch n d:=fun h=>⟨by unfold Sp.rnV; rw[if_neg (by simp[h])]; rfl,(if_neg (by simp[h])).symm⟩
 simp only[D,E]
 exact⟨e1,e2⟩
def r174:Cr PR:=K0 [r118] 174 6 {ps:=[(false,hI),(true,hII)],rs:=[(true,hR),(false,hI)],pre:=fun _=>True,out:=fun a=>[rb [0,0,0,0,0,0,3] (Sp.rnV (I a 0 0) (I a 1 0) (I a 1 1)),[.i (Sp.rnE (I a 0 0) (I a 1 0) (I a 1 1))]]} U fun a=>Y (v174 (I a 0 0) (I a 1 0) (I a 1 1))
end Go.Sx
namespace Go.Sx
def m167_0 (r:List C) (ch:Int) (da:List (List C)):Prop:=[C.i 0,C.i 0,C.i 0,C.i 0,C.i 0,C.i 0,C.l []]=sg 0 [0,0,0,0,0,0,3] (Sp.fdV r ch da)
theorem v167 (r:List C) (ch:Int) (da:List (List C)):WD hR r∧InR .i64 ch∧WL hW da→True∧True∧Cn (bNot (Sp.rsV r)) ((m167_0 r ch da)∧1=Sp.fdE r ch da) (True∧True∧Cn (bNot (Sp.blk ch da)) ((m167_0 r ch da)∧1=Sp.fdE r ch da) (Cn (bNe ch (qi 0 r)) ((m167_0 r ch da)∧11=Sp.fdE r ch da) (pLe (iLen (ql 6 r)) 9223372036854775807→pLe (iLen da) 9223372036854775807→InR .i64 (iAdd (iLen (ql 6 r)) (iLen da))∧(pNe (qi 0 r) 0∧InR .i64 (iQuo (iAdd (iLen (ql 6 r)) (iLen da)) (qi 0 r)))∧Cn (bLt 65536 (iQuo (iAdd (iLen (ql 6 r)) (iLen da)) (qi 0 r))) ((m167_0 r ch da)∧3=Sp.fdE r ch da) (WL hW (ql 6 r)→pLe (iLen (ql 6 r)) 9223372036854775807→InR .i64 (iAdd 0 (iLen (ql 6 r)))∧Cn (bLt (iAdd 0 (iLen (ql 6 r))) 0) False (WL hW da→pLe (iLen da) 9223372036854775807→InR .i64 (iAdd (iAdd 0 (iLen (ql 6 r))) (iLen da))∧Cn (bLt (iAdd (iAdd 0 (iLen (ql 6 r))) (iLen da)) 0) False (Cn (bLt (iAdd (iAdd 0 (iLen (ql 6 r))) (iLen da)) 0) False (InR .i64 (iSub (iAdd (iAdd 0 (iLen (ql 6 r))) (iLen da)) (0-0))∧Cn (bLt 0 (iSub (iAdd (iAdd 0 (iLen (ql 6 r))) (iLen da)) (0-0))) (geB none (some 0) 0∧(pLe 0 (iSub (iAdd (iAdd 0 (iLen (ql 6 r))) (iLen da)) (0-0))∧pRoom 4 (iSub (iAdd (iAdd 0 (iLen (ql 6 r))) (iLen da)) (0-0)))∧(pLe 0 0∧pLe 0 (iLen (List.replicate (iSub (iAdd (iAdd 0 (iLen (ql 6 r))) (iLen da)) (0-0)).toNat [C.i 0])))∧(WL hW (ql 6 r)→pRoom 4 (iLen (List.take (Int.toNat 0) (List.replicate (iSub (iAdd (iAdd 0 (iLen (ql 6 r))) (iLen da)) (0-0)).toNat [C.i 0])++ql 6 r))∧(WL hW da→pRoom 4 (iLen (List.take (Int.toNat 0) (List.replicate (iSub (iAdd (iAdd 0 (iLen (ql 6 r))) (iLen da)) (0-0)).toNat [C.i 0])++ql 6 r++da))∧sga 0 [0,0,0,0,0,0] r [C.l (List.take (Int.toNat 0) (List.replicate (iSub (iAdd (iAdd 0 (iLen (ql 6 r))) (iLen da)) (0-0)).toNat [C.i 0])++ql 6 r++da)]=sg 0 [0,0,0,0,0,0,3] (Sp.fdV r ch da)∧0=Sp.fdE r ch da))) (WL hW (ql 6 r)→pRoom 4 (iLen (ql 6 r))∧(WL hW da→pRoom 4 (iLen (ql 6 r++da))∧sga 0 [0,0,0,0,0,0] r [C.l (ql 6 r++da)]=sg 0 [0,0,0,0,0,0,3] (Sp.fdV r ch da)∧0=Sp.fdE r ch da))))))))):=by
 intro hw
 delta m167_0
 have n0:(0:Int)≤(ql 6 r).length+(da.length:Int):=by omega
 simp only[D,E,Int.tdiv_eq_ediv_of_nonneg n0]
 refine⟨fun h=>Sp.fd_no (by omega) (Sp.fd1 (.inl h)),fun h=>⟨fun h1=>Sp.fd_no (by omega) (Sp.fd1 (.inr h1)),fun h1=>⟨fun h2=>Sp.fd_no (by omega) (Sp.fd2 h h1 h2),fun h2 _ _=> ?_⟩⟩⟩
 have v:=Sp.rsV_of h
 have l1:=Sp.blk_len v.2
 have l2:=Sp.blk_len h1
 have c:=Sp.frm_of v.2
 have e3:=Sp.fd3 h h1 h2
 have q:=Sp.quo_in (a:=(ql 6 r).length+da.length) (b:=qi 0 r) (by omega)
 rw[Int.natCast_add]at q
 refine⟨by simp only[InR]; omega,⟨by omega,q⟩,fun h3=>Sp.fd_no (by omega) (by rw[e3,if_pos h3]),fun h3=> ?_⟩
 rw[if_neg h3]at e3
 have room:∀ {k:Int},0≤k→k≤2000000→InR .i64 k:=fun a b=>by simp only[InR]; omega
 simp only[List.length_replicate,List.length_append,List.length_take,geB,Int.toNat_zero,List.take_zero,List.nil_append,Int.zero_add,Int.sub_zero]
 have y:=Sp.fd_yes e3 (xs:=ql 6 r++da) rfl
 repeat' (first|apply And.intro|intro _)
 all_goals (first|exact y.1|exact y.2|omega)
def r167:Cr PR:=K0 [r197,r120,(mark 2000042)] 167 6 {ps:=[(true,hR),(true,[.int .i64,.sl hW])],rs:=[(true,hR),(false,hI)],pre:=fun _=>True,out:=fun a=>[rb [0,0,0,0,0,0,3] (Sp.fdV (arg 0 a) (I a 1 0) (L a 1 1)),[.i (Sp.fdE (arg 0 a) (I a 1 0) (L a 1 1))]]} U fun a=>Y (v167 (arg 0 a) (I a 1 0) (L a 1 1))
end Go.Sx
namespace Go.Sx
end Go.Sx
namespace Go.Sx
end Go.Sx

set_option linter.unusedVariables false
set_option linter.unusedSimpArgs false
set_option maxRecDepth 100000
set_option maxHeartbeats 4000000
namespace Go
open Go.Sx
def Sp.btw (a b f q:Int):Int:=iWrap .i32 ((a*(q-f)+b*f+q/2)/q)
def Sp.frK (r:List C) (i:Int):Int:=Sp.phA (Sp.rp r) i/Sp.phQ (Sp.rp r)
def Sp.frF (r:List C) (i:Int):Int:=Sp.phA (Sp.rp r) i % Sp.phQ (Sp.rp r)
def Sp.frA (r:List C) (k:Int):Int:=min k (Sp.rsW r-1)*qi 0 r
def Sp.smF (r:List C) (i c:Int):List C:=[.i (Sp.btw (qi 0 (rGet (ql 6 r) (Sp.frA r (Sp.frK r i)+c))) (qi 0 (rGet (ql 6 r) (Sp.frA r (Sp.frK r i+1)+c))) (Sp.frF r i) (Sp.phQ (Sp.rp r)))]
def Sp.frR (r:List C) (i m:Int):List (List C):=(List.range m.toNat).map fun(c:Nat)=>Sp.smF r i c
def Sp.frs (r:List C) (n:Int):List (List C):=(List.range n.toNat).flatMap fun(i:Nat)=>Sp.frR r i (qi 0 r)
def Sp.frO (r:List C) (n i:Int) (ys:List (List C)):Prop:=0≤i∧i≤n∧ys=Sp.frs r i
def Sp.frI (r:List C) (i c:Int) (ys:List (List C)):Prop:=0≤c∧c≤qi 0 r∧ys=Sp.frs r i++Sp.frR r i c
def Sp.frP (r:List C) (n:Int):Prop:=n=0∨1≤Sp.rsW r
end Go
namespace Go
open Go.Sx
theorem Sp.floor_t {t q:Int} (hq:0<q):(t.tmod q<0→t.tdiv q-1=t/q)∧(¬t.tmod q<0→t.tdiv q=t/q):=by
 have h1:=Int.mul_tdiv_add_tmod t q
 have h2:=rem_bd t hq
 refine⟨fun h=>((Int.ediv_emod_unique (a:=t) (b:=q) (r:=t.tmod q+q) (q:=t.tdiv q-1) hq).2 ⟨?_,by omega,by omega⟩).1.symm,fun h=>((Int.ediv_emod_unique (a:=t) (b:=q) (r:=t.tmod q) (q:=t.tdiv q) hq).2 ⟨by omega,by omega,by omega⟩).1.symm⟩
 rw[Int.mul_sub,Int.mul_one]; omega
theorem Sp.mul_ab {a y Y:Int} (h0: -8388608≤a) (h1:a≤8388607) (h2:0≤y) (h3:y≤Y): -(8388608*y)≤a*y∧a*y≤8388608*y:=by
 have b1:=Int.mul_le_mul_of_nonneg_right h0 h2
 have b2:=Int.mul_le_mul_of_nonneg_right h1 h2
 omega
end Go
namespace Go.Sx
end Go.Sx
namespace Go
open Go.Sx
theorem Sp.frs_s (r:List C) {i:Int} (h:0≤i):Sp.frs r (i+1)=Sp.frs r i++Sp.frR r i (qi 0 r):=by
 unfold Sp.frs
 rw[show(i+1).toNat=i.toNat+1 by omega,List.range_succ,List.flatMap_append,List.flatMap_singleton,Int.toNat_of_nonneg h]
theorem Sp.frR_s (r:List C) {i c:Int} (h:0≤c):Sp.frR r i (c+1)=Sp.frR r i c++[Sp.smF r i c]:=by
 unfold Sp.frR
 rw[show(c+1).toNat=c.toNat+1 by omega,List.range_succ,List.map_append,List.map_singleton,Int.toNat_of_nonneg h]
theorem Sp.frR_len (r:List C) (i c:Int):(Sp.frR r i c).length=c.toNat:=by simp[Sp.frR]
theorem Sp.frs_len (r:List C) (n:Int) (h:0≤qi 0 r):((Sp.frs r n).length:Int)=n.toNat*qi 0 r:=by
 unfold Sp.frs
 generalize n.toNat=m
 induction m with
 |zero=>simp
 |succ m ih=>rw[List.range_succ,List.flatMap_append,List.flatMap_singleton,List.length_append,Int.natCast_add,ih,Sp.frR_len,Int.natCast_succ,Int.add_mul]; omega
theorem Sp.smp_at {xs:List (List C)} {i:Int} (h:xs.all Sp.smpF=true) (h0:0≤i) (h1:i<(xs.length:Int)): -8388608≤qi 0 (rGet xs i)∧qi 0 (rGet xs i)≤8388607:=by
 have hm:rGet xs i∈xs:=by
  unfold rGet
  rw[List.getD_eq_getElem?_getD,List.getElem?_eq_getElem (show i.toNat<xs.length by omega)]
  exact List.getElem_mem _
 simpa[Sp.smpF]using List.all_eq_true.1 h _ hm
theorem Sp.blk_all {ch:Int} {da:List (List C)} (h:Sp.blk ch da=true):da.all Sp.smpF=true:=by
 unfold Sp.blk at h; rw[Bool.and_eq_true]at h; exact h.2
theorem Sp.frA_bd {r:List C} {k:Int} (h:Sp.rsV r=true) (hw:1≤Sp.rsW r) (hk:0≤k):0≤Sp.frA r k∧Sp.frA r k+qi 0 r≤(ql 6 r).length∧((ql 6 r).length:Int)≤524288:=by
 have v:=Sp.rsV_of h
 have c:=Sp.frm_of v.2
 have l:=Sp.blk_len v.2
 rw[←Sp.rsW_of h]at l
 have b:=Int.mul_le_mul_of_nonneg_right (show min k (Sp.rsW r-1)≤Sp.rsW r-1 by omega) (show 0≤qi 0 r by omega)
 rw[Int.sub_mul,Int.one_mul,Int.mul_comm (Sp.rsW r)]at b
 have a:=Int.mul_nonneg (show 0≤min k (Sp.rsW r-1) by omega) (show 0≤qi 0 r by omega)
 unfold Sp.frA; omega
end Go
namespace Go.Sx
end Go.Sx
namespace Go
open Go.Sx
def Sp.psE (r:List C) (n:Int):Int:=Sp.avE (Sp.rp r) n
def Sp.psG (r:List C) (n:Int):Int:=min (Sp.frK r n) (Sp.rsW r)*qi 0 r
def Sp.psV (r:List C) (n:Int):List C:=if Sp.psE r n=0 then sga 0 [0,0,0,0] r [.i (Sp.phX (Sp.rp r) n),.i (Sp.phF (Sp.rp r) n),.l (cutRows (ql 6 r) (some (Sp.psG r n)) none)]else[]
end Go
namespace Go
open Go.Sx
theorem Sp.psG_bd {r:List C} {n:Int} (h:Sp.rsV r=true) (h0:0≤n) (h1:n≤65536):0≤Sp.frK r n∧Sp.frK r n≤4000000000000000∧0≤Sp.psG r n∧Sp.psG r n≤(ql 6 r).length∧((ql 6 r).length:Int)≤524288∧0≤Sp.rsW r∧Sp.rsW r≤65536:=by
 have v:=Sp.rsV_of h
 have c:=Sp.frm_of v.2
 have l:=Sp.blk_len v.2
 have kb:=Sp.phA_bd v.1 h0 h1
 have K0:0≤Sp.frK r n∧Sp.frK r n≤4000000000000000:=⟨kb.2.2.2.2.1,kb.2.2.2.2.2.1⟩
 rw[←Sp.rsW_of h]at l c
 have b:=Int.mul_le_mul_of_nonneg_right (show min (Sp.frK r n) (Sp.rsW r)≤Sp.rsW r by omega) (show 0≤qi 0 r by omega)
 have a:=Int.mul_nonneg (show 0≤min (Sp.frK r n) (Sp.rsW r) by omega) (show 0≤qi 0 r by omega)
 rw[Int.mul_comm (Sp.rsW r)]at b
 unfold Sp.psG; omega
theorem Sp.need_w {r:List C} {n:Int} (h:Sp.rsV r=true) (h0:0≤n) (h1:n≤65536) (hn:Sp.phN (Sp.rp r) n≤Sp.rsW r):Sp.frP r n:=by
 by_cases hz:n=0
 · exact .inl hz
 · have kb:=Sp.phA_bd (n:=n-1) (Sp.rsV_of h).1 (by omega) (by omega)
   unfold Sp.phN at hn; rw[if_neg hz]at hn
   exact .inr (by omega)
end Go
namespace Go.Sx
end Go.Sx
namespace Go.Sx
end Go.Sx

