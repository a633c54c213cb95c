import Derived.Test.YthflbgeplmecoaaGreatSxUse
import Derived.Test.YthflbgeplmecoaaGreatM06
set_option linter.unusedVariables false
set_option linter.unusedSimpArgs false
set_option maxRecDepth 100000
set_option maxHeartbeats 4000000
namespace Go
open Go.Sx
def Sp.dd (d:List C):List C:=sg 0 [0,2,0,0,0,0,0,3] d
def Sp.dg (d:List C):List C:=sg 17 [0,0,0,0,0,0,0,0,0,0,0,3,0,0] d
def Sp.nN (d:List C):Int:=Sp.mkV (qi 9 d) (qi 12 d) (qi 9 d)
def Sp.nD (d:List C):Int:=Sp.mkV (qi 9 d) (qi 12 d) (qi 12 d)
def Sp.bN (d:List C):Int:=if qi 2 d=1 then Sp.invV (Sp.nN d) (Sp.nD d) (Sp.nD d)else Sp.nN d
def Sp.bD (d:List C):Int:=if qi 2 d=1 then Sp.invV (Sp.nN d) (Sp.nD d) (Sp.nN d)else Sp.nD d
end Go
namespace Go.Sx
end Go.Sx
namespace Go.Sx
theorem v113 (xs:List (List C)):WL hII xs→pLe (iLen xs) 1000000→(xs=[]→[]=xs)∧pRoom 16 (iLen xs)∧Sm xs:=by
 intro hw hp
 simp only[D,E]at hp ⊢
 exact⟨fun h=>h.symm,by omega⟩
def r113:Cr PR:=K [] 113 6 {ps:=[(false,[.sl hII])],rs:=[(false,[.sl hII])],pre:=fun a=>pLe (iLen (L a 0 0)) 1000000,out:=fun a=>[[.l (L a 0 0)]]} U fun a=>Y (v113 (L a 0 0))
end Go.Sx
namespace Go.Sx
end Go.Sx
namespace Go.Sx
theorem v115 (xs:List (List C)):WL hI xs→pLe (iLen xs) 1000000→(xs=[]→[]=xs)∧pRoom 8 (iLen xs)∧Sm xs:=by
 intro hw hp
 simp only[D,E]at hp ⊢
 exact⟨fun h=>h.symm,by omega⟩
def r115:Cr PR:=K [] 115 6 {ps:=[(false,hL)],rs:=[(false,hL)],pre:=fun a=>pLe (iLen (L a 0 0)) 1000000,out:=fun a=>[[.l (L a 0 0)]]} U fun a=>Y (v115 (L a 0 0))
end Go.Sx
namespace Go.Sx
theorem v116 (xs:List (List C)):WL hS xs→pLe (iLen xs) 1000000→(xs=[]→[]=xs)∧pRoom 24 (iLen xs)∧Sm xs:=by
 intro hw hp
 simp only[D,E]at hp ⊢
 exact⟨fun h=>h.symm,by omega⟩
def r116:Cr PR:=K [] 116 6 {ps:=[(false,[.sl hS])],rs:=[(false,[.sl hS])],pre:=fun a=>pLe (iLen (L a 0 0)) 1000000,out:=fun a=>[[.l (L a 0 0)]]} U fun a=>Y (v116 (L a 0 0))
end Go.Sx
namespace Go.Sx
theorem v102 (d:List C):WD hV d→pLe (iLen (ql 10 d)) 9223372036854775807→iLen (ql 10 d)= ↑(ql 10 d).length:=by
 intro hw
 exact fun _=>rfl
def r102:Cr PR:=K0 [] 102 6 {ps:=[(true,hV)],rs:=[(false,hI)],pre:=fun _=>True,out:=fun a=>[[.i ((ql 10 (arg 0 a)).length:Int)]]} U fun a=>Y (v102 (arg 0 a))
end Go.Sx
namespace Go.Sx
theorem v85 (d:List C):WD hV d→Sm (bEq (qi 2 d) 1):=by
 intro hw
 exact Sm_iff.2 trivial
def r85:Cr PR:=K0 [] 85 6 {ps:=[(true,hV)],rs:=[(false,[.bool])],pre:=fun _=>True,out:=fun a=>[[.b (bEq (qi 2 (arg 0 a)) 1)]]} U fun a=>Y (v85 (arg 0 a))
end Go.Sx
namespace Go.Sx
def m98_0 (d:List C):Prop:=false=decide (8000≤qi 12 d∧qi 12 d≤192000∧16≤qi 13 d∧qi 13 d≤8192)
theorem v98 (d:List C):WD hV d→Cn (bLe 8000 (qi 12 d)) (Cn (bLe (qi 12 d) 192000) (Cn (bLe 16 (qi 13 d)) (bLe (qi 13 d) 8192=decide (8000≤qi 12 d∧qi 12 d≤192000∧16≤qi 13 d∧qi 13 d≤8192)) ((m98_0 d))) ((m98_0 d))) ((m98_0 d)):=by
 intro hw
 delta m98_0
 simp only[D,E]
 repeat' (first|apply And.intro|intro _)
 all_goals (first|(simp only[decide_eq_decide]; omega)|(symm; simp only[decide_eq_false_iff_not]; omega))
def r98:Cr PR:=K0 [] 98 6 {ps:=[(true,hV)],rs:=[(false,[.bool])],pre:=fun _=>True,out:=fun a=>[[.b (decide (8000≤qi 12 (arg 0 a)∧qi 12 (arg 0 a)≤192000∧16≤qi 13 (arg 0 a)∧qi 13 (arg 0 a)≤8192))]]} U fun a=>Y (v98 (arg 0 a))
end Go.Sx
namespace Go.Sx
theorem v82 (d:List C):WD hV d→True∧(InR .i64 (Sp.mkV (qi 9 d) (qi 12 d) (qi 9 d))∧InR .i64 (Sp.mkV (qi 9 d) (qi 12 d) (qi 12 d))∧InR .i64 (Sp.mkE (qi 9 d) (qi 12 d))→Sp.mkV (qi 9 d) (qi 12 d) (qi 9 d)=Sp.nN d∧Sp.mkV (qi 9 d) (qi 12 d) (qi 12 d)=Sp.nD d):=by
 intro hw
 exact⟨trivial,fun _=>⟨rfl,rfl⟩⟩
def r82:Cr PR:=K0 [r143] 82 6 {ps:=[(true,hV)],rs:=[(true,hII)],pre:=fun _=>True,out:=fun a=>[[.i (Sp.nN (arg 0 a)),.i (Sp.nD (arg 0 a))]]} U fun a=>Y (v82 (arg 0 a))
end Go.Sx
namespace Go.Sx
theorem v103 (d:List C):WD hV d→True∧True∧Cn (bNot (bEq (qi 2 d) 1)) (True∧(InR .i64 (Sp.nN d)∧InR .i64 (Sp.nD d)→Sp.nN d=Sp.bN d∧Sp.nD d=Sp.bD d)) (True∧(InR .i64 (Sp.nN d)∧InR .i64 (Sp.nD d)→True∧(InR .i64 (Sp.invV (Sp.nN d) (Sp.nD d) (Sp.nD d))∧InR .i64 (Sp.invV (Sp.nN d) (Sp.nD d) (Sp.nN d))∧InR .i64 (Sp.invE (Sp.nN d) (Sp.nD d))→Sp.invV (Sp.nN d) (Sp.nD d) (Sp.nD d)=Sp.bN d∧Sp.invV (Sp.nN d) (Sp.nD d) (Sp.nN d)=Sp.bD d))):=by
 intro hw
 simp only[D,E]
 exact⟨fun h _=>⟨(if_neg h).symm,(if_neg h).symm⟩,fun h _ _=>⟨(if_pos h).symm,(if_pos h).symm⟩⟩
def r103:Cr PR:=K0 [r85,r82,r88] 103 6 {ps:=[(true,hV)],rs:=[(true,hII)],pre:=fun _=>True,out:=fun a=>[[.i (Sp.bN (arg 0 a)),.i (Sp.bD (arg 0 a))]]} U fun a=>Y (v103 (arg 0 a))
end Go.Sx
namespace Go
open Go.Sx
def Sp.upd (N:List C→List C) (xs:List (List C)) (i:Int):List (List C):=(xs.take i.toNat).map N++xs.drop i.toNat
def Sp.nM (m:List C):List C:=[.l (ql 0 m)]
def Sp.nB (x:List C):List C:=[.i (qi 0 x),.l (ql 1 x),.l ((ql 2 x).map Sp.nM),.l (ql 3 x)]
def Sp.owB (d:List C) (i:Int):List (List C):=Sp.upd Sp.nB (ql 7 d) i
def Sp.owM (d:List C) (i k:Int):List (List C):=Sp.upd Sp.nM (ql 2 (rGet (Sp.owB d i) i)) k
def Sp.nV (d:List C):List C:=sga 0 [0,2,0,0,0,0,0] d (.l ((ql 7 d).map Sp.nB)::sg 8 [0,0,3,0,0,0,3,1,0,0,0,0,0,0,0,0,0,0,0,0,3,0,0] d)
def Sp.szM (m:List C):Bool:=decide ((ql 0 m).length≤1000000)
def Sp.szB (x:List C):Bool:=decide ((ql 1 x).length≤1000000∧(ql 2 x).length≤1000000∧(ql 3 x).length≤1000000)&&(ql 2 x).all Sp.szM
def Sp.szV (d:List C):Bool:=decide ((ql 7 d).length≤1000000∧(ql 10 d).length≤1000000∧(ql 14 d).length≤1000000∧(ql 28 d).length≤1000000)&&(ql 7 d).all Sp.szB
def Sp.owI (xs:List (List C)) (i:Int):Prop:=0≤i∧i≤(xs.length:Int)
end Go
namespace Go
open Go.Sx
section
variable {N:List C→List C} {xs:List (List C)} {i:Int}
theorem Sp.upd_at (h0:0≤i) (h1:i<(xs.length:Int)):rGet (Sp.upd N xs i) i=rGet xs i:=by
 unfold Sp.upd rGet
 simp only[List.getD_eq_getElem?_getD]
 rw[List.getElem?_append_right (by simp; omega),List.length_map,List.length_take,List.getElem?_drop,show i.toNat+(i.toNat-min i.toNat xs.length)=i.toNat by omega]
theorem rGet_mem (h0:0≤i) (h1:i<(xs.length:Int)):rGet xs i∈xs:=by
 unfold rGet
 rw[List.getD_eq_getElem?_getD,List.getElem?_eq_getElem (show i.toNat<xs.length by omega)]
 exact List.getElem_mem _
theorem Sp.upd_len:(Sp.upd N xs i).length=xs.length:=by unfold Sp.upd; simp; omega
theorem Sp.upd_end (h:¬i<(xs.length:Int)):Sp.upd N xs i=xs.map N:=by
 unfold Sp.upd; rw[List.take_of_length_le (by omega),List.drop_eq_nil_of_le (by omega),List.append_nil]
theorem Sp.upd_set (h0:0≤i) (h1:i<(xs.length:Int)):rSet (Sp.upd N xs i) i (N (rGet xs i))=Sp.upd N xs (i+1):=by
 unfold Sp.upd rSet
 rw[List.set_append_right _ _ (by simp; omega),List.length_map,List.length_take,show i.toNat-min i.toNat xs.length=0 by omega,drop_at h0 h1,List.set_cons_zero,take_s h0 h1,List.map_append,List.append_assoc]; rfl
end
end Go
namespace Go.Sx
def A53 (d:List C):FuncId→Nat→LoopAnn:=fun ff ii=>bif Nat.beq ff 53 then(bif Nat.beq ii 3 then .on (fun sv0=>match sv0.tmps.getD 3 .undef with| .own kk vv=> .inv Int (fun z=>Sp.owI (ql 7 d) z) (fun z=>[(14,.int .i64 z)]) (fun z=>[(kk,.row hX 110 vv (Sp.owB d z))]) [kk] ([0,1,2,3,4,5,6,7,12,13,14,15,36,37,38,39]++[1000000+kk]) (fun z=>(ql 7 d).length-z.toNat)|_=> .unroll 2)else bif Nat.beq ii 8 then .on (fun sv0=>match sv0.tmps.getD 36 .undef with| .own k2 v2=>(match sv0.tmps.getD 4 .undef with| .int _ ci=> .inv Int (fun z=>Sp.owI (ql 2 (rGet (Sp.owB d ci) ci)) z) (fun z=>[(38,.int .i64 z)]) (fun z=>[(k2,.row [.sl hI] 28 v2 (Sp.owM d ci z))]) [k2] ([0,1,2,3,4,5,6,7,12,13,14,15,36,37,38,39]++[1000000+k2]) (fun z=>(ql 2 (rGet (Sp.owB d ci) ci)).length-z.toNat)|_=> .unroll 0)|_=> .unroll 2)else bif Nat.beq ii 2000012 then .on (fun sv0=>match sv0.tmps.getD 36 .undef with| .own k2 _=> .settleN k2 (.unroll 0)|_=> .unroll 0)else bif Nat.beq ii 2000014 then .settle (.unroll 0)else .unroll 0)else .unroll 0
def m53_0 (d:List C) (x:Int):List C:=(rGet (Sp.owB d x) x)
theorem v53 (d:List C):WD hV d→Sp.szV d=true→(ql 7 d=[]→pLe (iLen (ql 10 d)) 1000000∧(WL hI (ql 10 d)→pLe (iLen (ql 14 d)) 1000000∧(WL hS (ql 14 d)→pLe (iLen (ql 28 d)) 1000000∧(WL hW (ql 28 d)→sga 0 [0,2,0,0,0,0,0] d (C.l []::sg 8 [0,0,3,0,0,0,3,1,0,0,0,0,0,0,0,0,0,0,0,0,3,0,0] d)=sg 0 [0,2,0,0,0,0,0,3,0,0,3,0,0,0,3,1,0,0,0,0,0,0,0,0,0,0,0,0,3,0,0] (Sp.nV d)))))∧pRoom 80 (iLen (ql 7 d))∧(pLe (iLen (ql 7 d)) 9223372036854775807→(∃(x:Int),Sp.owI (ql 7 d) x∧0=x∧ql 7 d=Sp.owB d x)∧∀(x:Int),Sp.owI (ql 7 d) x→InR .i64 x∧WL hX (Sp.owB d x)→Cn (bLt x (iLen (ql 7 d))) (pIn 0 (iLen (Sp.owB d x)) x∧(InR .i64 (qi 0 (m53_0 d x))∧WL hII (ql 1 (m53_0 d x))∧WL [Sh.sl hI] (ql 2 (m53_0 d x))∧WL hII (ql 3 (m53_0 d x))→pLe (iLen (ql 1 (m53_0 d x))) 1000000∧(WL hII (ql 1 (m53_0 d x))→pLe (iLen (ql 3 (m53_0 d x))) 1000000∧(WL hII (ql 3 (m53_0 d x))→(ql 2 (m53_0 d x)=[]→pIn 0 (iLen (Sp.owB d x)) x∧InR .i64 (iAdd x 1)∧Sm (sg 0 [0,2,0,0,0,0,0,3,0,0,3,0,0,0,3,1,0,0,0,0,0,0,0,0,0,0,0,0,3,0,0] d)∧Sm (iLen (ql 7 d))∧Sm (sg 0 [0,2,0,0,0,0,0,3,0,0,3,0,0,0,3,1,0,0,0,0,0,0,0,0,0,0,0,0,3,0,0] d)∧Sm (ByteArray.mk (Array.mk []))∧∃(y:Int),Sp.owI (ql 7 d) y∧iAdd x 1=y∧rSet (Sp.owB d x) x [C.i (qi 0 (m53_0 d x)),C.l (ql 1 (m53_0 d x)),C.l [],C.l (ql 3 (m53_0 d x))]=Sp.owB d y∧nLt ((ql 7 d).length-y.toNat) ((ql 7 d).length-x.toNat))∧pRoom 24 (iLen (ql 2 (m53_0 d x)))∧(pLe (iLen (ql 2 (m53_0 d x))) 9223372036854775807→(∃(x_1:Int),Sp.owI (ql 2 (m53_0 d x)) x_1∧0=x_1∧ql 2 (m53_0 d x)=Sp.owM d x x_1)∧∀(x_1:Int),Sp.owI (ql 2 (m53_0 d x)) x_1→InR .i64 x_1∧WL [Sh.sl hI] (Sp.owM d x x_1)→Cn (bLt x_1 (iLen (ql 2 (m53_0 d x)))) (pIn 0 (iLen (Sp.owM d x x_1)) x_1∧(WL hI (ql 0 (rGet (Sp.owM d x x_1) x_1))→pLe (iLen (ql 0 (rGet (Sp.owM d x x_1) x_1))) 1000000∧(WL hI (ql 0 (rGet (Sp.owM d x x_1) x_1))→pIn 0 (iLen (Sp.owM d x x_1)) x_1∧InR .i64 (iAdd x_1 1)∧Sm (sg 0 [0,2,0,0,0,0,0,3,0,0,3,0,0,0,3,1,0,0,0,0,0,0,0,0,0,0,0,0,3,0,0] d)∧Sm x∧Sm (iLen (ql 7 d))∧Sm x∧Sm (iLen (ql 2 (m53_0 d x)))∧Sm (sg 0 [0,2,0,0,0,0,0,3,0,0,3,0,0,0,3,1,0,0,0,0,0,0,0,0,0,0,0,0,3,0,0] d)∧Sm (ByteArray.mk (Array.mk []))∧Sm (Sp.owB d x)∧Sm (qi 0 (m53_0 d x))∧Sm (ql 1 (m53_0 d x))∧Sm (ql 3 (m53_0 d x))∧∃(y:Int),Sp.owI (ql 2 (m53_0 d x)) y∧iAdd x_1 1=y∧rSet (Sp.owM d x x_1) x_1 [C.l (ql 0 (rGet (Sp.owM d x x_1) x_1))]=Sp.owM d x y∧nLt ((ql 2 (m53_0 d x)).length-y.toNat) ((ql 2 (m53_0 d x)).length-x_1.toNat)))) (pIn 0 (iLen (Sp.owB d x)) x∧InR .i64 (iAdd x 1)∧Sm (sg 0 [0,2,0,0,0,0,0,3,0,0,3,0,0,0,3,1,0,0,0,0,0,0,0,0,0,0,0,0,3,0,0] d)∧Sm (iLen (ql 7 d))∧Sm (sg 0 [0,2,0,0,0,0,0,3,0,0,3,0,0,0,3,1,0,0,0,0,0,0,0,0,0,0,0,0,3,0,0] d)∧Sm (ByteArray.mk (Array.mk []))∧∃(y:Int),Sp.owI (ql 7 d) y∧iAdd x 1=y∧rSet (Sp.owB d x) x [C.i (qi 0 (m53_0 d x)),C.l (ql 1 (m53_0 d x)),C.l (Sp.owM d x x_1),C.l (ql 3 (m53_0 d x))]=Sp.owB d y∧nLt ((ql 7 d).length-y.toNat) ((ql 7 d).length-x.toNat))))))) (pLe (iLen (ql 10 d)) 1000000∧(WL hI (ql 10 d)→pLe (iLen (ql 14 d)) 1000000∧(WL hS (ql 14 d)→pLe (iLen (ql 28 d)) 1000000∧(WL hW (ql 28 d)→sga 0 [0,2,0,0,0,0,0] d (C.l (Sp.owB d x)::sg 8 [0,0,3,0,0,0,3,1,0,0,0,0,0,0,0,0,0,0,0,0,3,0,0] d)=sg 0 [0,2,0,0,0,0,0,3,0,0,3,0,0,0,3,1,0,0,0,0,0,0,0,0,0,0,0,0,3,0,0] (Sp.nV d)))))):=by
 intro hw hp
 delta m53_0
 have sz:=hp
 unfold Sp.szV at sz
 simp only[Bool.and_eq_true,decide_eq_true_eq,List.all_eq_true]at sz
 simp only[D,E]
 refine⟨fun h=>⟨by omega,fun _=>⟨by omega,fun _=>⟨by omega,fun _=>by unfold Sp.nV; rw[h]; rfl⟩⟩⟩,by omega,fun _=>⟨⟨0,⟨Int.le_refl _,by omega⟩,rfl,rfl⟩,?_⟩⟩
 intro x ⟨h0,h1⟩ _
 refine⟨fun hx=> ?_,fun hx=>⟨by omega,fun _=>⟨by omega,fun _=>⟨by omega,fun _=>by rw[show Sp.owB d x=(ql 7 d).map Sp.nB from Sp.upd_end hx]; rfl⟩⟩⟩⟩
 have ex:rGet (Sp.owB d x) x=rGet (ql 7 d) x:=Sp.upd_at h0 hx
 have el:(Sp.owB d x).length=(ql 7 d).length:=Sp.upd_len
 have sb:=sz.2 _ (rGet_mem h0 hx)
 unfold Sp.szB at sb
 simp only[Bool.and_eq_true,decide_eq_true_eq,List.all_eq_true]at sb
 rw[←ex]at sb
 have nx:∀ms,ms=(ql 2 (rGet (Sp.owB d x) x)).map Sp.nM→∃y,Sp.owI (ql 7 d) y∧x+1=y∧rSet (Sp.owB d x) x [C.i (qi 0 (rGet (Sp.owB d x) x)),C.l (ql 1 (rGet (Sp.owB d x) x)),C.l ms,C.l (ql 3 (rGet (Sp.owB d x) x))]=Sp.owB d y∧(ql 7 d).length-y.toNat<(ql 7 d).length-x.toNat:=fun ms e=>⟨x+1,⟨by omega,by omega⟩,rfl,by rw[e,ex]; exact Sp.upd_set h0 hx,by omega⟩
 have ix:InR .i64 (x+1):=by simp only[InR]; omega
 refine⟨⟨h0,by omega⟩,fun _=>⟨by omega,fun _=>⟨by omega,fun _=>⟨fun h=>⟨⟨h0,by omega⟩,ix,nx [] (by rw[h]; rfl)⟩,by omega,fun _=>⟨⟨0,⟨Int.le_refl _,by omega⟩,rfl,rfl⟩,?_⟩⟩⟩⟩⟩
 intro k ⟨k0,k1⟩ _
 refine⟨fun hk=> ?_,fun hk=>⟨⟨h0,by omega⟩,ix,nx _ (Sp.upd_end hk)⟩⟩
 have fx:rGet (Sp.owM d x k) k=rGet (ql 2 (rGet (Sp.owB d x) x)) k:=Sp.upd_at k0 hk
 have fl:(Sp.owM d x k).length=(ql 2 (rGet (Sp.owB d x) x)).length:=Sp.upd_len
 have sm:=sb.2 _ (rGet_mem k0 hk)
 simp only[Sp.szM,decide_eq_true_eq]at sm
 rw[←fx]at sm
 exact⟨⟨k0,by omega⟩,fun _=>⟨by omega,fun _=>⟨⟨k0,by omega⟩,by simp only[InR]; omega,k+1,⟨by omega,by omega⟩,rfl,by rw[fx]; exact Sp.upd_set k0 hk,by omega⟩⟩⟩
def r53:Cr PR:=K [r113,r115,r116,r117] 53 6 {ps:=[(true,hV)],rs:=[(true,hV)],pre:=fun a=>Sp.szV (arg 0 a)=true,out:=fun a=>[rb [0,2,0,0,0,0,0,3,0,0,3,0,0,0,3,1,0,0,0,0,0,0,0,0,0,0,0,0,3,0,0] (Sp.nV (arg 0 a))]} (fun a=>A53 (arg 0 a)) fun a=>Y (v53 (arg 0 a))
end Go.Sx

set_option linter.unusedVariables false
set_option linter.unusedSimpArgs false
set_option maxRecDepth 100000
set_option maxHeartbeats 4000000
namespace Go
open Go.Sx
def Sp.jt (d:List C):Int:=if qi 2 d=1 then Sp.ceiV (qi 6 d) (Sp.bN d) (Sp.bD d)+1 else qi 6 d+1
def Sp.iN (d:List C):Int:=if qi 2 d=1 then qi 13 d else Sp.mkV (qi 13 d*qi 9 d) (qi 12 d) (qi 13 d*qi 9 d)
def Sp.iD (d:List C):Int:=if qi 2 d=1 then 1 else Sp.mkV (qi 13 d*qi 9 d) (qi 12 d) (qi 12 d)
def Sp.dst (d:List C):Bool:=decide (8000≤qi 12 d∧qi 12 d≤192000∧16≤qi 13 d∧qi 13 d≤8192)
def Sp.dvV (d:List C):Bool:=(Sp.dsV d&&(Sp.ofH (ql 7 d) (qi 8 d) (qi 9 d) (ql 10 d) (qi 11 d)&&(Sp.dst d&&Sp.cval (ql 14 d))))&&(decide (0≤qi 16 d∧qi 16 d≤1099511627776)&&(Sp.bgV (Sp.dg d)&&decide (qi 22 d=((ql 10 d).length:Int)∧qi 23 d=Sp.bN d∧qi 24 d=Sp.bD d)))
end Go
namespace Go
open Go.Sx
theorem Sp.ceiV_bd (n a b:Int): -4611686018427387904≤Sp.ceiV n a b∧Sp.ceiV n a b≤4611686018427387904:=by
 unfold Sp.ceiV
 split
 · rename_i h
   unfold Sp.ceiE at h
   split at h
   · omega
   · cases hi:Sp.inr (Sp.cei n a b)
     · rw[hi]at h; cases h
     · unfold Sp.inr at hi; exact of_decide_eq_true hi
 · omega
end Go
namespace Go.Sx
theorem v86 (d:List C):WD hV d→pLe 0 (qi 13 d)∧pLe (qi 13 d) 8192∧pLe 0 (qi 9 d)∧pLe (qi 9 d) 768000→True∧Cn (bEq (qi 2 d) 1) (qi 13 d=Sp.iN d∧1=Sp.iD d) (InR .i64 (iMul (qi 13 d) (qi 9 d))∧True∧(InR .i64 (Sp.mkV (iMul (qi 13 d) (qi 9 d)) (qi 12 d) (iMul (qi 13 d) (qi 9 d)))∧InR .i64 (Sp.mkV (iMul (qi 13 d) (qi 9 d)) (qi 12 d) (qi 12 d))∧InR .i64 (Sp.mkE (iMul (qi 13 d) (qi 9 d)) (qi 12 d))→Sp.mkV (iMul (qi 13 d) (qi 9 d)) (qi 12 d) (iMul (qi 13 d) (qi 9 d))=Sp.iN d∧Sp.mkV (iMul (qi 13 d) (qi 9 d)) (qi 12 d) (qi 12 d)=Sp.iD d)):=by
 intro hw hp
 simp only[D,E]at hp ⊢
 have b:=mul_bd (x:=qi 13 d) (X:=8192) (y:=qi 9 d) (Y:=768000) hp.1 hp.2.1 hp.2.2.1 hp.2.2.2
 exact⟨fun h=>⟨(if_pos h).symm,(if_pos h).symm⟩,fun h=>⟨by simp only[InR]; omega,fun _=>⟨(if_neg h).symm,(if_neg h).symm⟩⟩⟩
def r86:Cr PR:=K [r85,r143] 86 6 {ps:=[(true,hV)],rs:=[(true,hII)],pre:=fun a=>pLe 0 (qi 13 (arg 0 a))∧(pLe (qi 13 (arg 0 a)) 8192∧(pLe 0 (qi 9 (arg 0 a))∧pLe (qi 9 (arg 0 a)) 768000)),out:=fun a=>[[.i (Sp.iN (arg 0 a)),.i (Sp.iD (arg 0 a))]]} U fun a=>Y (v86 (arg 0 a))
end Go.Sx
namespace Go.Sx
theorem v87 (d:List C):WD hV d→pLe 0 (qi 6 d)∧pLe (qi 6 d) 4096→True∧True∧Cn (bNot (bEq (qi 2 d) 1)) (InR .i64 (iAdd (qi 6 d) 1)∧iAdd (qi 6 d) 1=Sp.jt d) (True∧(InR .i64 (Sp.bN d)∧InR .i64 (Sp.bD d)→True∧(InR .i64 (Sp.ceiV (qi 6 d) (Sp.bN d) (Sp.bD d))∧InR .i64 (Sp.ceiE (qi 6 d) (Sp.bN d) (Sp.bD d))→InR .i64 (iAdd (Sp.ceiV (qi 6 d) (Sp.bN d) (Sp.bD d)) 1)∧iAdd (Sp.ceiV (qi 6 d) (Sp.bN d) (Sp.bD d)) 1=Sp.jt d))):=by
 intro hw hp
 simp only[D,E]at hp ⊢
 have b:=Sp.ceiV_bd (qi 6 d) (Sp.bN d) (Sp.bD d)
 exact⟨fun h=>⟨by simp only[InR]; omega,(if_neg (by omega)).symm⟩,fun h _ _=>⟨by simp only[InR]; omega,(if_pos (by omega)).symm⟩⟩
def r87:Cr PR:=K [r85,r103,r89] 87 6 {ps:=[(true,hV)],rs:=[(false,hI)],pre:=fun a=>pLe 0 (qi 6 (arg 0 a))∧pLe (qi 6 (arg 0 a)) 4096,out:=fun a=>[[.i (Sp.jt (arg 0 a))]]} U fun a=>Y (v87 (arg 0 a))
end Go.Sx
namespace Go.Sx
theorem v64 (d:List C):WD hV d→True∧Cn (Sp.dsV d) (True∧Cn (Sp.ofH (ql 7 d) (qi 8 d) (qi 9 d) (ql 10 d) (qi 11 d)) (True∧Cn (decide (8000≤qi 12 d∧qi 12 d≤192000∧16≤qi 13 d∧qi 13 d≤8192)) (True∧Cn (Sp.cval (ql 14 d)) (Cn (bLe 0 (qi 16 d)) (Cn (bLe (qi 16 d) 1099511627776) (True∧Cn (Sp.bgV (Sp.dg d)) (True∧(InR .i64 ↑(ql 10 d).length→Cn (bEq (qi 22 d) ↑(ql 10 d).length) (True∧(InR .i64 (Sp.bN d)∧InR .i64 (Sp.bD d)→bAnd (bEq (qi 23 d) (Sp.bN d)) (bEq (qi 24 d) (Sp.bD d))=Sp.dvV d)) (false=Sp.dvV d))) (false=Sp.dvV d)) (false=Sp.dvV d)) (false=Sp.dvV d)) (false=Sp.dvV d)) (false=Sp.dvV d)) (false=Sp.dvV d)) (false=Sp.dvV d):=by
 intro hw
 have e:Sp.dvV d=((Sp.dsV d&&(Sp.ofH (ql 7 d) (qi 8 d) (qi 9 d) (ql 10 d) (qi 11 d)&&(Sp.dst d&&Sp.cval (ql 14 d))))&&(decide (0≤qi 16 d∧qi 16 d≤1099511627776)&&(Sp.bgV (Sp.dg d)&&decide (qi 22 d=((ql 10 d).length:Int)∧qi 23 d=Sp.bN d∧qi 24 d=Sp.bD d)))):=rfl
 have ed:Sp.dst d=decide (8000≤qi 12 d∧qi 12 d≤192000∧16≤qi 13 d∧qi 13 d≤8192):=rfl
 simp only[D,E]
 rw[e]
 cases Sp.dsV d
 · simp
 cases Sp.ofH (ql 7 d) (qi 8 d) (qi 9 d) (ql 10 d) (qi 11 d)
 · simp
 cases hs:Sp.dst d
 · have hs:=of_decide_eq_false (ed.symm.trans hs)
   simp[hs]
 have hs:=of_decide_eq_true (ed.symm.trans hs)
 cases Sp.cval (ql 14 d)
 · simp[hs]
 cases Sp.bgV (Sp.dg d)
 · simp[hs]
 simp only[Bool.true_and,E]
 repeat' (first|apply And.intro|intro _)
 all_goals (first|contradiction|omega|(simp only[←Bool.decide_and,decide_eq_decide]; omega)|(symm; simp only[←Bool.decide_and,decide_eq_false_iff_not]; omega))
def r64:Cr PR:=K0 [r96,r99,r98,r97,r128,r102,r103] 64 6 {ps:=[(true,hV)],rs:=[(false,[.bool])],pre:=fun _=>True,out:=fun a=>[[.b (Sp.dvV (arg 0 a))]]} U fun a=>Y (v64 (arg 0 a))
end Go.Sx
namespace Go.Sx
theorem v25 (d:List C):WD hV d→True∧Sp.dvV d=Sp.dvV d:=by
 intro hw
 exact⟨trivial,rfl⟩
def r25:Cr PR:=K0 [r64] 25 6 {ps:=[(true,hV)],rs:=[(false,[.bool])],pre:=fun _=>True,out:=fun a=>[[.b (Sp.dvV (arg 0 a))]]} U fun a=>Y (v25 (arg 0 a))
end Go.Sx
namespace Go.Sx
theorem v83 (d:List C):WD hV d→True∧(InR .i64 (Sp.mkV (qi 9 d) (qi 12 d) (qi 9 d))∧InR .i64 (Sp.mkV (qi 9 d) (qi 12 d) (qi 12 d))∧InR .i64 (Sp.mkE (qi 9 d) (qi 12 d))→Sp.mkV (qi 9 d) (qi 12 d) (qi 9 d)=Sp.nN d∧Sp.mkV (qi 9 d) (qi 12 d) (qi 12 d)=Sp.nD d∧Sm (Sp.mkE (qi 9 d) (qi 12 d))):=by
 intro hw
 exact⟨trivial,fun _=>⟨rfl,rfl,Sm_iff.2 trivial⟩⟩
def r83:Cr PR:=K0 [r34] 83 6 {ps:=[(true,hV)],rs:=[(true,hII),(false,hI)],pre:=fun _=>True,out:=fun a=>[[.i (Sp.nN (arg 0 a)),.i (Sp.nD (arg 0 a))],[.i (Sp.mkE (qi 9 (arg 0 a)) (qi 12 (arg 0 a)))]]} U fun a=>Y (v83 (arg 0 a))
end Go.Sx
namespace Go.Sx
theorem v95 (d:List C):WD hV d→True∧(InR .i64 (Sp.nN d)∧InR .i64 (Sp.nD d)∧InR .i64 (Sp.mkE (qi 9 d) (qi 12 d))→Cn (bEq (qi 2 d) 1) (True∧(InR .i64 (Sp.invV (Sp.nN d) (Sp.nD d) (Sp.nD d))∧InR .i64 (Sp.invV (Sp.nN d) (Sp.nD d) (Sp.nN d))∧InR .i64 (Sp.invE (Sp.nN d) (Sp.nD d))→Sp.invV (Sp.nN d) (Sp.nD d) (Sp.nD d)=Sp.bN d∧Sp.invV (Sp.nN d) (Sp.nD d) (Sp.nN d)=Sp.bD d)) (Sp.nN d=Sp.bN d∧Sp.nD d=Sp.bD d)):=by
 intro hw
 simp only[D,E]
 exact fun _=>⟨fun h _=>⟨(if_pos h).symm,(if_pos h).symm⟩,fun h=>⟨(if_neg h).symm,(if_neg h).symm⟩⟩
def r95:Cr PR:=K0 [r83,r90] 95 6 {ps:=[(true,hV)],rs:=[(true,hII)],pre:=fun _=>True,out:=fun a=>[[.i (Sp.bN (arg 0 a)),.i (Sp.bD (arg 0 a))]]} U fun a=>Y (v95 (arg 0 a))
end Go.Sx
namespace Go.Sx
theorem v108 (d:List C):WD hV d→pLe 0 (qi 6 d)∧pLe (qi 6 d) 4096∧(qi 2 d=1∨qi 2 d=2)→Cn (bEq (qi 2 d) 2) (InR .i64 (iAdd (qi 6 d) 1)∧iAdd (qi 6 d) 1=Sp.jt d) (True∧(InR .i64 (Sp.bN d)∧InR .i64 (Sp.bD d)→True∧(InR .i64 (Sp.ceiV (qi 6 d) (Sp.bN d) (Sp.bD d))∧InR .i64 (Sp.ceiE (qi 6 d) (Sp.bN d) (Sp.bD d))→InR .i64 (iAdd (Sp.ceiV (qi 6 d) (Sp.bN d) (Sp.bD d)) 1)∧iAdd (Sp.ceiV (qi 6 d) (Sp.bN d) (Sp.bD d)) 1=Sp.jt d))):=by
 intro hw hp
 simp only[D,E]at hp ⊢
 have b:=Sp.ceiV_bd (qi 6 d) (Sp.bN d) (Sp.bD d)
 exact⟨fun h=>⟨by simp only[InR]; omega,(if_neg (by omega)).symm⟩,fun h _ _=>⟨by simp only[InR]; omega,(if_pos (by omega)).symm⟩⟩
def r108:Cr PR:=K [r95,r91] 108 6 {ps:=[(true,hV)],rs:=[(false,hI)],pre:=fun a=>pLe 0 (qi 6 (arg 0 a))∧pLe (qi 6 (arg 0 a)) 4096∧(qi 2 (arg 0 a)=1∨qi 2 (arg 0 a)=2),out:=fun a=>[[.i (Sp.jt (arg 0 a))]]} U fun a=>Y (v108 (arg 0 a))
end Go.Sx
namespace Go.Sx
theorem v47 (d:List C):WD hV d→True∧Cn (Sp.dsV d) (True∧Cn (Sp.ofH (ql 7 d) (qi 8 d) (qi 9 d) (ql 10 d) (qi 11 d)) (Cn (bLe 8000 (qi 12 d)) (Cn (bLe (qi 12 d) 192000) (Cn (bLe 16 (qi 13 d)) (Cn (bLe (qi 13 d) 8192) (True∧Cn (Sp.cval (ql 14 d)) (Cn (bLe 0 (qi 16 d)) (Cn (bLe (qi 16 d) 1099511627776) (True∧Cn (Sp.bgV (Sp.dg d)) (pLe (iLen (ql 10 d)) 9223372036854775807→Cn (bEq (qi 22 d) (iLen (ql 10 d))) (True∧(InR .i64 (Sp.bN d)∧InR .i64 (Sp.bD d)→bAnd (bEq (qi 23 d) (Sp.bN d)) (bEq (qi 24 d) (Sp.bD d))=Sp.dvV d)) (false=Sp.dvV d)) (false=Sp.dvV d)) (false=Sp.dvV d)) (false=Sp.dvV d)) (false=Sp.dvV d)) (false=Sp.dvV d)) (false=Sp.dvV d)) (false=Sp.dvV d)) (false=Sp.dvV d)) (false=Sp.dvV d)) (false=Sp.dvV d):=by
 intro hw
 have e:Sp.dvV d=((Sp.dsV d&&(Sp.ofH (ql 7 d) (qi 8 d) (qi 9 d) (ql 10 d) (qi 11 d)&&(Sp.dst d&&Sp.cval (ql 14 d))))&&(decide (0≤qi 16 d∧qi 16 d≤1099511627776)&&(Sp.bgV (Sp.dg d)&&decide (qi 22 d=((ql 10 d).length:Int)∧qi 23 d=Sp.bN d∧qi 24 d=Sp.bD d)))):=rfl
 have ed:Sp.dst d=decide (8000≤qi 12 d∧qi 12 d≤192000∧16≤qi 13 d∧qi 13 d≤8192):=rfl
 simp only[D,E]
 rw[e]
 cases Sp.dsV d
 · simp
 cases Sp.ofH (ql 7 d) (qi 8 d) (qi 9 d) (ql 10 d) (qi 11 d)
 · simp
 cases hs:Sp.dst d
 · have hs:=of_decide_eq_false (ed.symm.trans hs)
   simp only[Bool.false_and,Bool.and_false,E]; repeat' (first|apply And.intro|intro _)
   all_goals (first|trivial|contradiction|omega)
 have hs:=of_decide_eq_true (ed.symm.trans hs)
 cases Sp.cval (ql 14 d)
 · simp[hs]
 cases Sp.bgV (Sp.dg d)
 · simp[hs]
 simp only[Bool.true_and,E]
 repeat' (first|apply And.intro|intro _)
 all_goals (first|contradiction|omega|(simp only[←Bool.decide_and,decide_eq_decide]; omega)|(symm; simp only[←Bool.decide_and,decide_eq_false_iff_not]; omega))
def r47:Cr PR:=K0 [r93,r94,r75,r54,r95] 47 6 {ps:=[(true,hV)],rs:=[(false,[.bool])],pre:=fun _=>True,out:=fun a=>[[.b (Sp.dvV (arg 0 a))]]} U fun a=>Y (v47 (arg 0 a))
end Go.Sx

set_option linter.unusedVariables false
set_option linter.unusedSimpArgs false
set_option maxRecDepth 100000
set_option maxHeartbeats 4000000
namespace Go
open Go.Sx
abbrev Sp.z31 (x:List C):Prop:=([C.i 0,C.s (ByteArray.mk (Array.mk [])),C.i 0,C.i 0,C.i 0,C.i 0,C.i 0,C.l [],C.i 0,C.i 0,C.l [],C.i 0,C.i 0,C.i 0,C.l [],C.b false,C.i 0,C.i 0,C.i 0,C.i 0,C.i 0,C.i 0,C.i 0,C.i 0,C.i 0,C.i 0,C.i 0,C.i 0,C.l [],C.i 0,C.i 0]:List C)=sg 0 [0,2,0,0,0,0,0,3,0,0,3,0,0,0,3,1,0,0,0,0,0,0,0,0,0,0,0,0,3,0,0] x
def Sp.run (d:List C) (t:Int):List C:=sga 0 [0,2,0,0,0,0,0,3,0,0,3,0,0,0,3] d (.b true:: .i t::sg 17 [0,0,0,0,0,0,0,0,0,0,0,3,0,0] d)
def Sp.stE (d:List C) (t:Int):Int:=if Sp.dvV d=false then 1 else if t<0∨1099511627776<t then 2 else if t % qi 13 d≠0 then 11 else if qb 15 d=true then 9 else 0
def Sp.stV (d:List C) (t:Int):List C:=if Sp.stE d t=0 then Sp.run (Sp.nV d) t else[]
def Sp.stR (d:List C) (t:Int):List C:=if Sp.stE d t=0 then Sp.run d t else[]
def Sp.duE (d:List C) (a b:Int):Int:=if Sp.dvV d=false then 1 else if a<0∨1099511627776<b∨b<a then 2 else if qb 15 d=true∧max a (qi 16 d)<b∧65536<Sp.btV (ql 14 d) (max a (qi 16 d)) b then 3 else 0
def Sp.duV (d:List C) (a b:Int):Int:=if Sp.duE d a b=0∧qb 15 d=true∧max a (qi 16 d)<b then Sp.btV (ql 14 d) (max a (qi 16 d)) b else 0
end Go
namespace Go
open Go.Sx
theorem Sp.dvV_of {d:List C} (h:Sp.dvV d=true):(Sp.dsV d=true∧Sp.ofH (ql 7 d) (qi 8 d) (qi 9 d) (ql 10 d) (qi 11 d)=true∧(8000≤qi 12 d∧qi 12 d≤192000∧16≤qi 13 d∧qi 13 d≤8192)∧Sp.cval (ql 14 d)=true)∧(0≤qi 16 d∧qi 16 d≤1099511627776)∧Sp.bgV (Sp.dg d)=true∧qi 22 d=((ql 10 d).length:Int)∧qi 23 d=Sp.bN d∧qi 24 d=Sp.bD d:=by
 simpa only[Sp.dvV,Sp.dst,Bool.and_eq_true,decide_eq_true_eq]using h
theorem Sp.dvV_per {d:List C} (h:Sp.dvV d=true):16≤qi 13 d∧qi 13 d≤8192:=by have:=(Sp.dvV_of h).1.2.2.1; omega
theorem Sp.isV_len {xs:List (List C)} (h:Sp.isV xs=true):xs.length≤64:=by
 unfold Sp.isV at h; rw[Bool.and_eq_true,decide_eq_true_eq]at h; exact h.2
theorem Sp.wit_len {xs:List (List C)} {lo hi:Int} (h:Sp.wit xs lo hi=true):xs.length≤64:=by
 unfold Sp.wit at h; rw[Bool.and_eq_true,Bool.and_eq_true]at h; exact Sp.isV_len h.2.1
theorem Sp.dk_all {h:List (List C)→List C→Bool}:∀ {xs p:List (List C)},Sp.dk h p xs=true→∀x∈xs,∃q,h q x=true
 |[],_,_,x,hx=>by cases hx
 |y::r,p,e,x,hx=>by
  simp only[Sp.dk,Bool.and_eq_true]at e
  rcases List.mem_cons.1 hx with rfl|hx
  · exact⟨p,e.1⟩
  · exact Sp.dk_all e.2 x hx
theorem Sp.bxF_sz {x:List C} (h:Sp.bxF x=true):Sp.szB x=true:=by
 unfold Sp.bxF at h
 simp only[Bool.and_eq_true,decide_eq_true_eq]at h
 have a:=Sp.wit_len h.2.1
 have b:=Sp.wit_len h.2.2.1
 unfold Sp.szB
 rw[Bool.and_eq_true,decide_eq_true_eq]
 refine⟨by omega,List.all_eq_true.2 fun m hm=> ?_⟩
 obtain⟨q,hq⟩:=Sp.dk_all h.2.2.2.1 m hm
 unfold Sp.mpF Sp.cmV at hq
 simp only[Bool.and_eq_true,decide_eq_true_eq]at hq
 unfold Sp.szM; rw[decide_eq_true_eq]; omega
theorem Sp.dvV_sz {d:List C} (h:Sp.dvV d=true):Sp.szV d=true:=by
 have v:=Sp.dvV_of h
 have g:=Sp.rsV_of (Sp.bgV_of v.2.2.1).1
 have c:=Sp.frm_of g.2
 have l:=Sp.blk_len g.2
 have c1:1≤qi 22 d∧qi 22 d≤8:=⟨c.1,c.2.1⟩
 have l1:((ql 28 d).length:Int)≤524288:=l.2.2
 have k:=v.1.2.2.2
 unfold Sp.cval at k
 rw[Bool.and_eq_true,decide_eq_true_eq]at k
 have b:=v.1.1
 unfold Sp.dsV Sp.bsV at b
 simp only[Bool.and_eq_true,decide_eq_true_eq]at b
 unfold Sp.szV
 rw[Bool.and_eq_true,decide_eq_true_eq]
 exact⟨by omega,List.all_eq_true.2 fun x hx=>Sp.bxF_sz (List.all_eq_true.1 b.2.2.2 x hx)⟩
end Go
namespace Go.Sx
def m42_0 (d:List C) (t:Int):Prop:=[C.i 0,C.s (ByteArray.mk (Array.mk [])),C.i 0,C.i 0,C.i 0,C.i 0,C.i 0,C.l [],C.i 0,C.i 0,C.l [],C.i 0,C.i 0,C.i 0,C.l [],C.b false,C.i 0,C.i 0,C.i 0,C.i 0,C.i 0,C.i 0,C.i 0,C.i 0,C.i 0,C.i 0,C.i 0,C.i 0,C.l [],C.i 0,C.i 0]=sg 0 [0,2,0,0,0,0,0,3,0,0,3,0,0,0,3,1,0,0,0,0,0,0,0,0,0,0,0,0,3,0,0] (Sp.stR d t)
theorem v42 (d:List C) (t:Int):WD hV d∧InR .i64 t→True∧True∧Cn (bNot (Sp.dvV d)) ((m42_0 d t)∧1=Sp.stE d t) (Cn (bLt t 0) ((m42_0 d t)∧2=Sp.stE d t) (Cn (bLt 1099511627776 t) ((m42_0 d t)∧2=Sp.stE d t) (pNe (qi 13 d) 0∧Cn (bNe (iRem t (qi 13 d)) 0) ((m42_0 d t)∧11=Sp.stE d t) (Cn (qb 15 d) ((m42_0 d t)∧9=Sp.stE d t) (sga 0 [0,2,0,0,0,0,0,3,0,0,3,0,0,0,3] d (C.b true::C.i t::sg 17 [0,0,0,0,0,0,0,0,0,0,0,3,0,0] d)=sg 0 [0,2,0,0,0,0,0,3,0,0,3,0,0,0,3,1,0,0,0,0,0,0,0,0,0,0,0,0,3,0,0] (Sp.stR d t)∧0=Sp.stE d t))))):=by
 intro hw
 delta m42_0
 have no:∀ {x:Int},x≠0→Sp.stE d t=x→Sp.z31 (Sp.stR d t)∧x=Sp.stE d t:=fun h h1=>⟨by unfold Sp.stR; rw[if_neg (by omega)]; rfl,h1.symm⟩
 simp only[D,E]
 refine⟨fun h=>no (by omega) (if_pos h),fun h=>⟨fun h1=>no (by omega) (by unfold Sp.stE; rw[if_neg (by simp[h]),if_pos (.inl h1)]),fun h1=>⟨fun h2=>no (by omega) (by unfold Sp.stE; rw[if_neg (by simp[h]),if_pos (.inr h2)]),fun h2=> ?_⟩⟩⟩
 have p:=Sp.dvV_per h
 have e3:Sp.stE d t=if t % qi 13 d≠0 then 11 else if qb 15 d=true then 9 else 0:=by unfold Sp.stE; rw[if_neg (by simp[h]),if_neg (by omega)]
 rw[Int.tmod_eq_emod_of_nonneg (by omega)]
 refine⟨by omega,fun h3=>no (by omega) (by rw[e3,if_pos h3]),fun h3=>⟨fun h4=>no (by omega) (by rw[e3,if_neg (by omega),if_pos h4]),fun h4=> ?_⟩⟩
 have e0:Sp.stE d t=0:=by rw[e3,if_neg (by omega),if_neg (by simp[h4])]
 exact⟨by unfold Sp.stR; rw[if_pos e0]; rfl,e0.symm⟩
def r42:Cr PR:=K0 [r47] 42 6 {ps:=[(true,hV),(false,hI)],rs:=[(true,hV),(false,hI)],pre:=fun _=>True,out:=fun a=>[rb [0,2,0,0,0,0,0,3,0,0,3,0,0,0,3,1,0,0,0,0,0,0,0,0,0,0,0,0,3,0,0] (Sp.stR (arg 0 a) (I a 1 0)),[.i (Sp.stE (arg 0 a) (I a 1 0))]]} U fun a=>Y (v42 (arg 0 a) (I a 1 0))
end Go.Sx
namespace Go.Sx
def m13_0 (d:List C) (t:Int):Prop:=[C.i 0,C.s (ByteArray.mk (Array.mk [])),C.i 0,C.i 0,C.i 0,C.i 0,C.i 0,C.l [],C.i 0,C.i 0,C.l [],C.i 0,C.i 0,C.i 0,C.l [],C.b false,C.i 0,C.i 0,C.i 0,C.i 0,C.i 0,C.i 0,C.i 0,C.i 0,C.i 0,C.i 0,C.i 0,C.i 0,C.l [],C.i 0,C.i 0]=sg 0 [0,2,0,0,0,0,0,3,0,0,3,0,0,0,3,1,0,0,0,0,0,0,0,0,0,0,0,0,3,0,0] (Sp.stV d t)
theorem v13 (d:List C) (t:Int):WD hV d∧InR .i64 t→True∧True∧Cn (bNot (Sp.dvV d)) ((m13_0 d t)∧1=Sp.stE d t) (Cn (bLt t 0) ((m13_0 d t)∧2=Sp.stE d t) (Cn (bLt 1099511627776 t) ((m13_0 d t)∧2=Sp.stE d t) (pNe (qi 13 d) 0∧Cn (bNe (iRem t (qi 13 d)) 0) ((m13_0 d t)∧11=Sp.stE d t) (Cn (qb 15 d) ((m13_0 d t)∧9=Sp.stE d t) (Sp.szV d=true∧(WD hV (Sp.nV d)→sga 0 [0,2,0,0,0,0,0,3,0,0,3,0,0,0,3] (Sp.nV d) (C.b true::C.i t::sg 17 [0,0,0,0,0,0,0,0,0,0,0,3,0,0] (Sp.nV d))=sg 0 [0,2,0,0,0,0,0,3,0,0,3,0,0,0,3,1,0,0,0,0,0,0,0,0,0,0,0,0,3,0,0] (Sp.stV d t)∧0=Sp.stE d t)))))):=by
 intro hw
 delta m13_0
 have no:∀ {x:Int},x≠0→Sp.stE d t=x→Sp.z31 (Sp.stV d t)∧x=Sp.stE d t:=fun h h1=>⟨by unfold Sp.stV; rw[if_neg (by omega)]; rfl,h1.symm⟩
 simp only[D,E]
 refine⟨fun h=>no (by omega) (if_pos h),fun h=>⟨fun h1=>no (by omega) (by unfold Sp.stE; rw[if_neg (by simp[h]),if_pos (.inl h1)]),fun h1=>⟨fun h2=>no (by omega) (by unfold Sp.stE; rw[if_neg (by simp[h]),if_pos (.inr h2)]),fun h2=> ?_⟩⟩⟩
 have p:=Sp.dvV_per h
 have e3:Sp.stE d t=if t % qi 13 d≠0 then 11 else if qb 15 d=true then 9 else 0:=by unfold Sp.stE; rw[if_neg (by simp[h]),if_neg (by omega)]
 rw[Int.tmod_eq_emod_of_nonneg (by omega)]
 refine⟨by omega,fun h3=>no (by omega) (by rw[e3,if_pos h3]),fun h3=>⟨fun h4=>no (by omega) (by rw[e3,if_neg (by omega),if_pos h4]),fun h4=> ?_⟩⟩
 have e0:Sp.stE d t=0:=by rw[e3,if_neg (by omega),if_neg (by simp[h4])]
 exact⟨Sp.dvV_sz h,fun _=>⟨by unfold Sp.stV; rw[if_pos e0]; rfl,e0.symm⟩⟩
def r13:Cr PR:=K0 [r25,r53] 13 6 {ps:=[(true,hV),(false,hI)],rs:=[(true,hV),(false,hI)],pre:=fun _=>True,out:=fun a=>[rb [0,2,0,0,0,0,0,3,0,0,3,0,0,0,3,1,0,0,0,0,0,0,0,0,0,0,0,0,3,0,0] (Sp.stV (arg 0 a) (I a 1 0)),[.i (Sp.stE (arg 0 a) (I a 1 0))]]} U fun a=>Y (v13 (arg 0 a) (I a 1 0))
end Go.Sx
namespace Go.Sx
theorem v24 (d:List C) (a:Int) (b:Int):WD hV d∧InR .i64 a∧InR .i64 b→True∧True∧Cn (bNot (Sp.dvV d)) (0=Sp.duV d a b∧1=Sp.duE d a b) (Cn (bLt a 0) (0=Sp.duV d a b∧2=Sp.duE d a b) (Cn (bLt 1099511627776 b) (0=Sp.duV d a b∧2=Sp.duE d a b) (Cn (bLt b a) (0=Sp.duV d a b∧2=Sp.duE d a b) (True∧Cn (bNot (qb 15 d)) (0=Sp.duV d a b∧0=Sp.duE d a b) (Cn (bLe b (iMax a (qi 16 d))) (0=Sp.duV d a b∧0=Sp.duE d a b) (True∧(InR .i64 (Sp.btV (ql 14 d) (iMax a (qi 16 d)) b)∧InR .i64 (Sp.btE (ql 14 d) (iMax a (qi 16 d)) b)→Cn (bLt 65536 (Sp.btV (ql 14 d) (iMax a (qi 16 d)) b)) (0=Sp.duV d a b∧3=Sp.duE d a b) (Sp.btV (ql 14 d) (iMax a (qi 16 d)) b=Sp.duV d a b∧0=Sp.duE d a b)))))))):=by
 intro hw
 have z:∀ {x:Int},x≠0→Sp.duE d a b=x→0=Sp.duV d a b∧x=Sp.duE d a b:=fun h h1=>⟨(if_neg (by omega)).symm,h1.symm⟩
 simp only[D,E]
 refine⟨fun h=>z (by omega) (if_pos h),fun h=>⟨fun h1=>z (by omega) (by unfold Sp.duE; rw[if_neg (by simp[h]),if_pos (by omega)]),fun h1=>⟨fun h2=>z (by omega) (by unfold Sp.duE; rw[if_neg (by simp[h]),if_pos (by omega)]),fun h2=>⟨fun h3=>z (by omega) (by unfold Sp.duE; rw[if_neg (by simp[h]),if_pos (by omega)]),fun h3=> ?_⟩⟩⟩⟩
 have e:Sp.duE d a b=if qb 15 d=true∧max a (qi 16 d)<b∧65536<Sp.btV (ql 14 d) (max a (qi 16 d)) b then 3 else 0:=by unfold Sp.duE; rw[if_neg (by simp[h]),if_neg (by omega)]
 have n:¬(qb 15 d=true∧max a (qi 16 d)<b)→0=Sp.duV d a b∧0=Sp.duE d a b:=fun g=>⟨(if_neg fun k=>g k.2).symm,by rw[e,if_neg fun k=>g ⟨k.1,k.2.1⟩]⟩
 have y:qb 15 d=true→max a (qi 16 d)<b→(65536<Sp.btV (ql 14 d) (max a (qi 16 d)) b→0=Sp.duV d a b∧3=Sp.duE d a b)∧(¬65536<Sp.btV (ql 14 d) (max a (qi 16 d)) b→Sp.btV (ql 14 d) (max a (qi 16 d)) b=Sp.duV d a b∧0=Sp.duE d a b):=fun g1 g2=>by
  refine⟨fun g=>z (by omega) (by rw[e,if_pos ⟨g1,g2,g⟩]),fun g=> ?_⟩
  have e0:Sp.duE d a b=0:=by rw[e,if_neg fun k=>g k.2.2]
  exact⟨(if_pos ⟨e0,g1,g2⟩).symm,e0.symm⟩
 exact⟨fun h4=>n (by simp[h4]),fun h4=>⟨fun h5=>n (by omega),fun h5 _=>y h4 (by omega)⟩⟩
def r24:Cr PR:=K0 [r25,r63] 24 6 {ps:=[(true,hV),(false,hI),(false,hI)],rs:=[(false,hI),(false,hI)],pre:=fun _=>True,out:=fun a=>[[.i (Sp.duV (arg 0 a) (I a 1 0) (I a 2 0))],[.i (Sp.duE (arg 0 a) (I a 1 0) (I a 2 0))]]} U fun a=>Y (v24 (arg 0 a) (I a 1 0) (I a 2 0))
end Go.Sx
namespace Go.Sx
end Go.Sx

set_option linter.unusedVariables false
set_option linter.unusedSimpArgs false
set_option maxRecDepth 100000
set_option maxHeartbeats 4000000
namespace Go
open Go.Sx
def Sp.ckE (d:List C) (k ch:Int) (da:List (List C)) (a b:Int):Int:=if Sp.dvV d=false∨Sp.blk ch da=false∨qi 2 d≠k then 1 else if ch≠((ql 10 d).length:Int)then 11 else Sp.duE d a b
def Sp.ckV (d:List C) (k ch:Int) (da:List (List C)) (a b:Int):Int:=if Sp.ckE d k ch da a b=0 then Sp.duV d a b else 0
def Sp.brd (d g:List C):List C:=sga 0 [0,2,0,0,0,0,0,3,0,0,3,0,0,0,3,1,0] d (sg 0 [0,0,0,0,0,0,0,0,0,0,0,3,0,0] g)
def Sp.mvB (d:List C) (ch:Int) (da:List (List C)):List C:=Sp.puV (Sp.dg d) ch da
def Sp.mvE (d:List C) (ch:Int) (da:List (List C)) (n:Int):Int:=if Sp.puE (Sp.dg d) ch da≠0 then Sp.puE (Sp.dg d) ch da else Sp.plE (Sp.mvB d ch da) n
def Sp.mvC (d:List C) (ch:Int) (da:List (List C)) (n:Int):Int:=if Sp.mvE d ch da n=0 then Sp.plC (Sp.mvB d ch da) n else 0
def Sp.mvD (d:List C) (ch:Int) (da:List (List C)) (n:Int):List (List C):=if Sp.mvE d ch da n=0 then Sp.plD (Sp.mvB d ch da) n else[]
def Sp.mvL (d:List C) (ch:Int) (da:List (List C)) (n:Int):Int:=if Sp.mvE d ch da n=0 then Sp.puL (Sp.dg d) ch da else 0
def Sp.mvM (d:List C) (ch:Int) (da:List (List C)) (n:Int):Int:=if Sp.mvE d ch da n=0 then Sp.plN (Sp.mvB d ch da) n else 0
def Sp.mvV (d:List C) (ch:Int) (da:List (List C)) (n:Int):List C:=if Sp.mvE d ch da n=0 then Sp.brd (Sp.nV d) (Sp.plV (Sp.mvB d ch da) n)else[]
end Go
namespace Go.Sx
theorem v57 (d:List C) (k:Int) (ch:Int) (da:List (List C)) (a:Int) (b:Int):WD hV d∧InR .i64 k∧InR .i64 ch∧WL hW da∧InR .i64 a∧InR .i64 b→True∧True∧Cn (bNot (Sp.dvV d)) (0=Sp.ckV d k ch da a b∧1=Sp.ckE d k ch da a b) (True∧True∧Cn (bNot (Sp.blk ch da)) (0=Sp.ckV d k ch da a b∧1=Sp.ckE d k ch da a b) (Cn (bNe (qi 2 d) k) (0=Sp.ckV d k ch da a b∧1=Sp.ckE d k ch da a b) (True∧(InR .i64 ↑(ql 10 d).length→Cn (bNe ch ↑(ql 10 d).length) (0=Sp.ckV d k ch da a b∧11=Sp.ckE d k ch da a b) (True∧(InR .i64 (Sp.duV d a b)∧InR .i64 (Sp.duE d a b)→Sp.duV d a b=Sp.ckV d k ch da a b∧Sp.duE d a b=Sp.ckE d k ch da a b)))))):=by
 intro hw
 have no:∀ {x:Int},x≠0→Sp.ckE d k ch da a b=x→0=Sp.ckV d k ch da a b∧x=Sp.ckE d k ch da a b:=fun h h1=>⟨(if_neg (by omega)).symm,h1.symm⟩
 simp only[D,E]
 refine⟨fun h=>no (by omega) (if_pos (.inl h)),fun h=>⟨fun h1=>no (by omega) (if_pos (.inr (.inl h1))),fun h1=>⟨fun h2=>no (by omega) (if_pos (.inr (.inr h2))),fun h2 _=> ?_⟩⟩⟩
 have e:Sp.ckE d k ch da a b=if ch≠((ql 10 d).length:Int)then 11 else Sp.duE d a b:=by unfold Sp.ckE; rw[if_neg (by simp[h,h1]; omega)]
 refine⟨fun h3=>no (by omega) (by rw[e,if_pos h3]),fun h3 _=> ?_⟩
 rw[if_neg (by omega)]at e
 refine⟨?_,e.symm⟩
 by_cases h4:Sp.duE d a b=0
 · exact(if_pos (by omega)).symm
 · rw[show Sp.ckV d k ch da a b=0 from if_neg (by omega)]; exact if_neg fun g=>h4 g.1
def r57:Cr PR:=K0 [r64,r120,r102,r24] 57 6 {ps:=[(true,hV),(false,hI),(true,[.int .i64,.sl hW]),(false,hI),(false,hI)],rs:=[(false,hI),(false,hI)],pre:=fun _=>True,out:=fun a=>[[.i (Sp.ckV (arg 0 a) (I a 1 0) (I a 2 0) (L a 2 1) (I a 3 0) (I a 4 0))],[.i (Sp.ckE (arg 0 a) (I a 1 0) (I a 2 0) (L a 2 1) (I a 3 0) (I a 4 0))]]} U fun a=>Y (v57 (arg 0 a) (I a 1 0) (I a 2 0) (L a 2 1) (I a 3 0) (I a 4 0))
end Go.Sx
namespace Go.Sx
theorem v58 (d:List C) (ch:Int) (da:List (List C)) (n:Int):WD hV d∧InR .i64 ch∧WL hW da∧InR .i64 n→Sp.szV d=true→True∧(WD hG (Sp.puV (Sp.dg d) ch da)∧InR .i64 (Sp.puL (Sp.dg d) ch da)∧InR .i64 (Sp.puE (Sp.dg d) ch da)→Cn (bEq (Sp.puE (Sp.dg d) ch da) 0) (True∧(InR .i64 (Sp.plC (Sp.puV (Sp.dg d) ch da) n)∧WL hW (Sp.plD (Sp.puV (Sp.dg d) ch da) n)∧InR .i64 (Sp.plN (Sp.puV (Sp.dg d) ch da) n)∧WD hG (Sp.plV (Sp.puV (Sp.dg d) ch da) n)∧InR .i64 (Sp.plE (Sp.puV (Sp.dg d) ch da) n)→Cn (bNe (Sp.plE (Sp.puV (Sp.dg d) ch da) n) 0) (0=Sp.mvC d ch da n∧[]=Sp.mvD d ch da n∧0=Sp.mvL d ch da n∧0=Sp.mvM d ch da n∧Sp.z31 (Sp.mvV d ch da n)∧Sp.plE (Sp.puV (Sp.dg d) ch da) n=Sp.mvE d ch da n) (Sp.szV d=true∧(WD hV (Sp.nV d)→Sp.plC (Sp.puV (Sp.dg d) ch da) n=Sp.mvC d ch da n∧Sp.plD (Sp.puV (Sp.dg d) ch da) n=Sp.mvD d ch da n∧Sp.puL (Sp.dg d) ch da=Sp.mvL d ch da n∧Sp.plN (Sp.puV (Sp.dg d) ch da) n=Sp.mvM d ch da n∧sga 0 [0,2,0,0,0,0,0,3,0,0,3,0,0,0,3,1,0] (sg 0 [0,2,0,0,0,0,0,3,0,0,3,0,0,0,3,1,0,0,0,0,0,0,0,0,0,0,0,0,3,0,0] (Sp.nV d)) (sg 0 [0,0,0,0,0,0,0,0,0,0,0,3,0,0] (Sp.plV (Sp.puV (Sp.dg d) ch da) n))=sg 0 [0,2,0,0,0,0,0,3,0,0,3,0,0,0,3,1,0,0,0,0,0,0,0,0,0,0,0,0,3,0,0] (Sp.mvV d ch da n)∧0=Sp.mvE d ch da n)))) (Cn (bNe (Sp.puE (Sp.dg d) ch da) 0) (0=Sp.mvC d ch da n∧[]=Sp.mvD d ch da n∧0=Sp.mvL d ch da n∧0=Sp.mvM d ch da n∧Sp.z31 (Sp.mvV d ch da n)∧Sp.puE (Sp.dg d) ch da=Sp.mvE d ch da n) (Sp.szV d=true∧(WD hV (Sp.nV d)→0=Sp.mvC d ch da n∧[]=Sp.mvD d ch da n∧Sp.puL (Sp.dg d) ch da=Sp.mvL d ch da n∧0=Sp.mvM d ch da n∧sga 0 [0,2,0,0,0,0,0,3,0,0,3,0,0,0,3,1,0] (sg 0 [0,2,0,0,0,0,0,3,0,0,3,0,0,0,3,1,0,0,0,0,0,0,0,0,0,0,0,0,3,0,0] (Sp.nV d)) (sg 0 [0,0,0,0,0,0,0,0,0,0,0,3,0,0] (Sp.puV (Sp.dg d) ch da))=sg 0 [0,2,0,0,0,0,0,3,0,0,3,0,0,0,3,1,0,0,0,0,0,0,0,0,0,0,0,0,3,0,0] (Sp.mvV d ch da n)∧0=Sp.mvE d ch da n)))):=by
 intro hw hp
 have no:∀ {x:Int},x≠0→Sp.mvE d ch da n=x→0=Sp.mvC d ch da n∧[]=Sp.mvD d ch da n∧0=Sp.mvL d ch da n∧0=Sp.mvM d ch da n∧Sp.z31 (Sp.mvV d ch da n)∧x=Sp.mvE d ch da n:=fun h h1=>by
  have e:¬Sp.mvE d ch da n=0:=by omega
  unfold Sp.mvC Sp.mvD Sp.mvL Sp.mvM Sp.mvV
  rw[if_neg e,if_neg e,if_neg e,if_neg e,if_neg e]
  exact⟨rfl,rfl,rfl,rfl,rfl,h1.symm⟩
 have hp':=hp
 simp only[D,E]
 refine fun _=>⟨fun h _=>⟨fun h1=>no h1 (by unfold Sp.mvE; rw[if_neg (by omega)]; rfl),fun h1=>⟨hp',fun _=> ?_⟩⟩,fun h=>⟨fun h1=>no h1 (if_pos h1),fun h1=>(h h1).elim⟩⟩
 have e0:Sp.mvE d ch da n=0:=by unfold Sp.mvE; rw[if_neg (by omega)]; exact h1
 unfold Sp.mvC Sp.mvD Sp.mvL Sp.mvM Sp.mvV
 rw[if_pos e0,if_pos e0,if_pos e0,if_pos e0,if_pos e0]
 exact⟨rfl,rfl,rfl,rfl,rfl,e0.symm⟩
def r58:Cr PR:=K [r121,r122,r53] 58 6 {ps:=[(true,hV),(true,[.int .i64,.sl hW]),(false,hI)],rs:=[(true,[.int .i64,.sl hW]),(false,hI),(false,hI),(true,hV),(false,hI)],pre:=fun a=>Sp.szV (arg 0 a)=true,out:=fun a=>[[.i (Sp.mvC (arg 0 a) (I a 1 0) (L a 1 1) (I a 2 0)),.l (Sp.mvD (arg 0 a) (I a 1 0) (L a 1 1) (I a 2 0))],[.i (Sp.mvL (arg 0 a) (I a 1 0) (L a 1 1) (I a 2 0))],[.i (Sp.mvM (arg 0 a) (I a 1 0) (L a 1 1) (I a 2 0))],rb [0,2,0,0,0,0,0,3,0,0,3,0,0,0,3,1,0,0,0,0,0,0,0,0,0,0,0,0,3,0,0] (Sp.mvV (arg 0 a) (I a 1 0) (L a 1 1) (I a 2 0)),[.i (Sp.mvE (arg 0 a) (I a 1 0) (L a 1 1) (I a 2 0))]]} U fun a=>Y (v58 (arg 0 a) (I a 1 0) (L a 1 1) (I a 2 0))
end Go.Sx

set_option linter.unusedVariables false
set_option linter.unusedSimpArgs false
set_option maxRecDepth 100000
set_option maxHeartbeats 4000000
namespace Go
open Go.Sx
def Sp.pyE (d:List C) (ch:Int) (da:List (List C)) (a b:Int):Int:=if Sp.ckE d 1 ch da a b≠0 then Sp.ckE d 1 ch da a b else bif qb 15 d then Sp.mvE d ch da (Sp.ckV d 1 ch da a b)else 0
def Sp.pyC (d:List C) (ch:Int) (da:List (List C)) (a b:Int):Int:=if Sp.ckE d 1 ch da a b≠0 then 0 else bif qb 15 d then Sp.mvC d ch da (Sp.ckV d 1 ch da a b)else ch
def Sp.pyD (d:List C) (ch:Int) (da:List (List C)) (a b:Int):List (List C):=if Sp.ckE d 1 ch da a b≠0 then[]else bif qb 15 d then Sp.mvD d ch da (Sp.ckV d 1 ch da a b)else[]
def Sp.pyL (d:List C) (ch:Int) (da:List (List C)) (a b:Int):Int:=if Sp.ckE d 1 ch da a b≠0 then 0 else bif qb 15 d then Sp.mvL d ch da (Sp.ckV d 1 ch da a b)else 0
def Sp.pyM (d:List C) (ch:Int) (da:List (List C)) (a b:Int):Int:=if Sp.ckE d 1 ch da a b≠0 then 0 else bif qb 15 d then Sp.mvM d ch da (Sp.ckV d 1 ch da a b)else 0
def Sp.pyV (d:List C) (ch:Int) (da:List (List C)) (a b:Int):List C:=if Sp.ckE d 1 ch da a b≠0 then[]else bif qb 15 d then Sp.mvV d ch da (Sp.ckV d 1 ch da a b)else Sp.nV d
end Go
namespace Go.Sx
theorem v18 (d:List C) (ch:Int) (da:List (List C)) (a:Int) (b:Int):WD hV d∧InR .i64 ch∧WL hW da∧InR .i64 a∧InR .i64 b→True∧(InR .i64 (Sp.ckV d 1 ch da a b)∧InR .i64 (Sp.ckE d 1 ch da a b)→Cn (bNe (Sp.ckE d 1 ch da a b) 0) (0=Sp.pyC d ch da a b∧[]=Sp.pyD d ch da a b∧0=Sp.pyL d ch da a b∧0=Sp.pyM d ch da a b∧Sp.z31 (Sp.pyV d ch da a b)∧Sp.ckE d 1 ch da a b=Sp.pyE d ch da a b) (True∧Cn (bNot (qb 15 d)) (Sp.szV d=true∧(WD hV (Sp.nV d)→ch=Sp.pyC d ch da a b∧[]=Sp.pyD d ch da a b∧0=Sp.pyL d ch da a b∧0=Sp.pyM d ch da a b∧sg 0 [0,2,0,0,0,0,0,3,0,0,3,0,0,0,3,1,0,0,0,0,0,0,0,0,0,0,0,0,3,0,0] (Sp.nV d)=sg 0 [0,2,0,0,0,0,0,3,0,0,3,0,0,0,3,1,0,0,0,0,0,0,0,0,0,0,0,0,3,0,0] (Sp.pyV d ch da a b)∧0=Sp.pyE d ch da a b)) (Sp.szV d=true∧(InR .i64 (Sp.mvC d ch da (Sp.ckV d 1 ch da a b))∧WL hW (Sp.mvD d ch da (Sp.ckV d 1 ch da a b))∧InR .i64 (Sp.mvL d ch da (Sp.ckV d 1 ch da a b))∧InR .i64 (Sp.mvM d ch da (Sp.ckV d 1 ch da a b))∧WD hV (Sp.mvV d ch da (Sp.ckV d 1 ch da a b))∧InR .i64 (Sp.mvE d ch da (Sp.ckV d 1 ch da a b))→Sp.mvC d ch da (Sp.ckV d 1 ch da a b)=Sp.pyC d ch da a b∧Sp.mvD d ch da (Sp.ckV d 1 ch da a b)=Sp.pyD d ch da a b∧Sp.mvL d ch da (Sp.ckV d 1 ch da a b)=Sp.pyL d ch da a b∧Sp.mvM d ch da (Sp.ckV d 1 ch da a b)=Sp.pyM d ch da a b∧sg 0 [0,2,0,0,0,0,0,3,0,0,3,0,0,0,3,1,0,0,0,0,0,0,0,0,0,0,0,0,3,0,0] (Sp.mvV d ch da (Sp.ckV d 1 ch da a b))=sg 0 [0,2,0,0,0,0,0,3,0,0,3,0,0,0,3,1,0,0,0,0,0,0,0,0,0,0,0,0,3,0,0] (Sp.pyV d ch da a b)∧Sp.mvE d ch da (Sp.ckV d 1 ch da a b)=Sp.pyE d ch da a b)))):=by
 intro hw
 have sz:Sp.ckE d 1 ch da a b=0→Sp.szV d=true:=fun h=>Sp.dvV_sz (by
  cases hv:Sp.dvV d
  · unfold Sp.ckE at h; rw[if_pos (.inl hv)]at h; cases h
  · rfl)
 simp only[D,E,Sp.pyC,Sp.pyD,Sp.pyL,Sp.pyM,Sp.pyV,Sp.pyE]
 refine fun _=>⟨fun h=> ?_,fun h=> ?_⟩
 · rw[if_pos h,if_pos h,if_pos h,if_pos h,if_pos h]
   exact⟨rfl,rfl,rfl,rfl,rfl,(if_pos h).symm⟩
 have hn:¬Sp.ckE d 1 ch da a b≠0:=by omega
 rw[if_neg hn,if_neg hn,if_neg hn,if_neg hn,if_neg hn,if_neg hn]
 refine⟨fun h1=>⟨sz h,fun _=> ?_⟩,fun h1=>⟨sz h,fun _=> ?_⟩⟩
 · rw[h1]; exact⟨rfl,rfl,rfl,rfl,rfl,rfl⟩
 · rw[h1]; exact⟨rfl,rfl,rfl,rfl,rfl,rfl⟩
def r18:Cr PR:=K0 [r57,r58,r53] 18 6 {ps:=[(true,hV),(true,[.int .i64,.sl hW]),(false,hI),(false,hI)],rs:=[(true,[.int .i64,.sl hW]),(false,hI),(false,hI),(true,hV),(false,hI)],pre:=fun _=>True,out:=fun a=>[[.i (Sp.pyC (arg 0 a) (I a 1 0) (L a 1 1) (I a 2 0) (I a 3 0)),.l (Sp.pyD (arg 0 a) (I a 1 0) (L a 1 1) (I a 2 0) (I a 3 0))],[.i (Sp.pyL (arg 0 a) (I a 1 0) (L a 1 1) (I a 2 0) (I a 3 0))],[.i (Sp.pyM (arg 0 a) (I a 1 0) (L a 1 1) (I a 2 0) (I a 3 0))],rb [0,2,0,0,0,0,0,3,0,0,3,0,0,0,3,1,0,0,0,0,0,0,0,0,0,0,0,0,3,0,0] (Sp.pyV (arg 0 a) (I a 1 0) (L a 1 1) (I a 2 0) (I a 3 0)),[.i (Sp.pyE (arg 0 a) (I a 1 0) (L a 1 1) (I a 2 0) (I a 3 0))]]} U fun a=>Y (v18 (arg 0 a) (I a 1 0) (L a 1 1) (I a 2 0) (I a 3 0))
end Go.Sx

set_option linter.unusedVariables false
set_option linter.unusedSimpArgs false
set_option maxRecDepth 100000
set_option maxHeartbeats 4000000
namespace Go
open Go.Sx
def Sp.opU (x:List C) (n r:Int) (m:List (List C)) (z:Int) (k:List (List C)) (q p:Int):List C:=sga 0 [0,2,0,0,0,0,0,3] x [.i n,.i r,.l m,.i z,.i q,.i p,.l k,.b false,.i 0,.i 0,.i 0,.i 0,.i 0,.i 0,.i 0,.i 0,.i 0,.i 0,.i 0,.i 0,.l [],.i 0,.i 0]
def Sp.oW (d:List C):Int:=Sp.ceiV 1 (Sp.iN d) (Sp.iD d)
def Sp.oQ (d:List C):Int:=Sp.planQ (Sp.iN d) (Sp.iD d) (qi 5 d) (Sp.jt d) (iQuo (Sp.oW d) 4) 16
def Sp.oP (d:List C):Int:=Sp.oQ d+Sp.planB (Sp.iN d) (Sp.iD d) (qi 5 d) (Sp.jt d) (iQuo (Sp.oW d) 4) 16
def Sp.oX (d:List C) (v:Int):Int:=Sp.planV (Sp.iN d) (Sp.iD d) (qi 5 d) (Sp.jt d) (iQuo (Sp.oW d) 4) 16 v
def Sp.oE (d:List C):Int:=Sp.planE (Sp.iN d) (Sp.iD d) (qi 5 d) (Sp.jt d) (iQuo (Sp.oW d) 4) 16
def Sp.oBE (d:List C):Int:=Sp.bnE ((ql 10 d).length:Int) (Sp.bN d) (Sp.bD d) (Sp.oX d (Sp.oQ d)) (Sp.oX d (iQuo (Sp.oW d) 4)) (Sp.oX d 16) (Sp.oX d (Sp.planM (qi 5 d))) (Sp.oX d (Sp.oP d)) (iMax 0 (iSub (Sp.oX d (Sp.oQ d)) (Sp.oW d)))
def Sp.oBV (d:List C):List C:=Sp.bnV ((ql 10 d).length:Int) (Sp.bN d) (Sp.bD d) (Sp.oX d (Sp.oQ d)) (Sp.oX d (iQuo (Sp.oW d) 4)) (Sp.oX d 16) (Sp.oX d (Sp.planM (qi 5 d))) (Sp.oX d (Sp.oP d)) (iMax 0 (iSub (Sp.oX d (Sp.oQ d)) (Sp.oW d)))
def Sp.oE0 (d:List C):Int:=if Sp.dsV d=false∨Sp.cval (ql 14 d)=false∨Sp.dst d=false then 1 else if Sp.ofH (ql 7 d) (qi 8 d) (qi 9 d) (ql 10 d) (qi 11 d)=false then 7 else if Sp.nN d*64<Sp.nD d∨Sp.nD d*64<Sp.nN d then 11 else if Sp.oE d≠0 then Sp.oE d else Sp.oBE d
def Sp.opE (x:List C) (n r:Int) (m:List (List C)) (z:Int) (k:List (List C)) (q p:Int):Int:=Sp.oE0 (Sp.opU x n r m z k q p)
def Sp.opR (x:List C) (n r:Int) (m:List (List C)) (z:Int) (k:List (List C)) (q p:Int):List C:=if Sp.opE x n r m z k q p=0 then Sp.brd (Sp.opU x n r m z k q p) (Sp.oBV (Sp.opU x n r m z k q p))else[]
def Sp.opV (x:List C) (n r:Int) (m:List (List C)) (z:Int) (k:List (List C)) (q p:Int):List C:=if Sp.opE x n r m z k q p=0 then Sp.nV (Sp.brd (Sp.opU x n r m z k q p) (Sp.oBV (Sp.opU x n r m z k q p)))else[]
end Go
namespace Go
open Go.Sx
theorem Sp.ck_bd:∀(r:List (List C)) (y:List C),Sp.ck Sp.spF Sp.spG (some y) r=true→Sp.spF y=true→∀x∈y::r,qi 0 y≤qi 0 x∧qi 1 x≤qi 1 ((y::r).getD r.length [])∧qi 0 x≤qi 1 x
 |[],y,_,hy,x,hx=>by
  have e:=List.mem_singleton.1 hx
  subst e
  have h:=of_decide_eq_true hy
  exact⟨Int.le_refl _,Int.le_refl _,h.2.1⟩
 |z::r,y,h,hy,x,hx=>by
  simp only[Sp.ck,Bool.and_eq_true]at h
  have a:=Sp.ck_bd r z h.2 h.1.1
  have g:=of_decide_eq_true h.1.2
  have fy:=of_decide_eq_true hy
  have az:=a z List.mem_cons_self
  rw[List.length_cons,List.getD_cons_succ]
  rcases List.mem_cons.1 hx with rfl|hx
  · exact⟨Int.le_refl _,by omega,by omega⟩
  · have ax:=a x hx
    exact⟨by omega,by omega,by omega⟩
theorem Sp.wit_bd {xs:List (List C)} {lo hi n:Int} (h:Sp.wit xs lo hi=true) (hn:Sp.isH xs n=true):lo≤n∧n≤hi:=by
 unfold Sp.wit at h
 simp only[Bool.and_eq_true,decide_eq_true_eq]at h
 obtain⟨_,hv,h1,h2⟩:=h
 unfold Sp.isH Sp.sps at hn
 rw[hv,cond_true,List.any_eq_true]at hn
 obtain⟨x,hx,hi⟩:=hn
 have hi:=of_decide_eq_true hi
 unfold Sp.isV at hv
 rw[Bool.and_eq_true]at hv
 cases xs with
 |nil=>cases hx
 |cons y r=>
  have c:=hv.1
  simp only[Sp.ck,Bool.and_eq_true]at c
  have b:=Sp.ck_bd r y c.2 c.1.1 x hx
  have e:rGet (y::r) (((y::r).length:Int)-1)=(y::r).getD r.length []:=by
   unfold rGet; rw[show(((y::r).length:Int)-1).toNat=r.length by simp]
  rw[e]at h2
  have h1:lo≤qi 0 y:=h1
  omega
theorem Sp.ofH_bd {l:List (List C)} {k r z:Int} {m:List (List C)} (h:Sp.ofH l k r m z=true):1000≤r∧r≤768000:=by
 unfold Sp.ofH Sp.bxs at h
 rw[List.any_eq_true]at h
 obtain⟨x,hx,hi⟩:=h
 cases hv:Sp.bsV l
 · rw[hv]at hx; cases hx
 rw[hv]at hx
 unfold Sp.bsV at hv
 rw[Bool.and_eq_true]at hv
 have hb:=List.all_eq_true.1 hv.2 x hx
 unfold Sp.bxF at hb
 simp only[Bool.and_eq_true]at hb
 have hi':((Sp.kd (qi 0 x) k&&Sp.isH (ql 1 x) r)&&Sp.hs (ql 2 x) m&&Sp.isH (ql 3 x) z)=true:=hi
 simp only[Bool.and_eq_true]at hi'
 exact Sp.wit_bd hb.2.1 hi'.1.1.2
end Go
namespace Go
open Go.Sx
theorem Sp.mkV_bd {a b v:Int} (h:0≤v):0≤Sp.mkV a b v∧Sp.mkV a b v≤v:=by
 unfold Sp.mkV
 split
 · exact⟨Int.ediv_nonneg h (Int.natCast_nonneg _),Int.ediv_le_self _ h⟩
 · omega
theorem Sp.dsV_of {d:List C} (h:Sp.dsV d=true):((qi 2 d=1∨qi 2 d=2)∧0≤qi 3 d∧qi 3 d≤65535∧0≤qi 4 d∧qi 4 d≤1048576∧0≤qi 5 d∧qi 5 d≤2048∧0≤qi 6 d∧qi 6 d≤4096∧1≤(ql 7 d).length∧(ql 7 d).length≤8)∧∀x∈ql 7 d,Sp.szB x=true:=by
 unfold Sp.dsV Sp.bsV at h
 simp only[Bool.and_eq_true,decide_eq_true_eq]at h
 exact⟨h.2.1,fun x hx=>Sp.bxF_sz (List.all_eq_true.1 h.2.2.2 x hx)⟩
theorem Sp.plan_ok {n e k j d g:Int} (h:Sp.planE n e k j d g=0):0≤Sp.planQ n e k j d g∧Sp.planQ n e k j d g≤65536:=by
 by_cases o:Sp.decl n e k j=false∨d<0∨65536<d∨g<1∨4096<g
 · rw[Sp.plan_out o]at h; cases h
 have i:=Sp.plan_in (n:=n) (e:=e) (k:=k) (j:=j) (d:=d) (g:=g) (by simpa using fun a=>o (.inl a)) (by omega) (by omega) (by omega) (by omega)
 have hM:Sp.planM k≤4096:=by
  by_cases hM:4096<Sp.planM k
  · have:=i.1 hM; omega
  · omega
 have i2:=i.2.1 hM
 have:¬(65536<Sp.planS n e k j∨65536<Sp.planQ n e k j d g+Sp.planB n e k j d g):=fun q=>by have:=i2.1 q; omega
 omega
theorem Sp.bn_ok {ch n d t e g m cap fill:Int} (h:Sp.bnE ch n d t e g m cap fill=0):Sp.bnV ch n d t e g m cap fill=Sp.bn ch n d t e g m cap fill∧1≤ch∧ch≤8∧0≤fill∧fill≤cap∧cap≤65536∧Sp.rsV (Sp.rn ch n d)=true∧Sp.valid t e g m=true:=by
 refine⟨if_pos h,?_⟩
 unfold Sp.bnE at h
 split at h
 · cases h
 rename_i h1
 split at h
 · cases h
 rename_i h2
 have v:Sp.rsV (Sp.rn ch n d)=true:=by simpa using fun a=>h2 (.inl a)
 have c:=Sp.frm_of (Sp.rsV_of v).2
 exact⟨c.1,c.2.1,by omega,by omega,by omega,v,by simpa using fun a=>h2 (.inr a)⟩
theorem Sp.op_sz {x:List C} {n r:Int} {m:List (List C)} {z:Int} {k:List (List C)} {q p:Int} (h:Sp.dsV x=true) (hk:Sp.cval k=true) (hb:Sp.oBE (Sp.opU x n r m z k q p)=0):Sp.szV (Sp.brd (Sp.opU x n r m z k q p) (Sp.oBV (Sp.opU x n r m z k q p)))=true:=by
 have v:=Sp.dsV_of h
 have b:=Sp.bn_ok hb
 have e:Sp.oBV (Sp.opU x n r m z k q p)=_:=b.1
 have f:=b.2.2.2
 have hm:(m.length:Int)≤8:=b.2.2.1
 have hm1:1≤(m.length:Int):=b.2.1
 unfold Sp.cval at hk
 rw[Bool.and_eq_true,decide_eq_true_eq]at hk
 have mb:=mul_bd (x:=(m.length:Int)) (X:=8) (y:=iMax 0 (iSub (Sp.oX (Sp.opU x n r m z k q p) (Sp.oQ (Sp.opU x n r m z k q p))) (Sp.oW (Sp.opU x n r m z k q p)))) (Y:=65536) (by omega) hm f.1 (by omega)
 have l:(ql 28 (Sp.brd (Sp.opU x n r m z k q p) (Sp.oBV (Sp.opU x n r m z k q p)))).length≤1000000:=by
  show(ql 11 (Sp.oBV (Sp.opU x n r m z k q p))).length≤1000000
  rw[e]
  show(Sp.zrs ((m.length:Int)*_)).length≤1000000
  rw[Sp.zrs_len]; omega
 unfold Sp.szV
 rw[Bool.and_eq_true,decide_eq_true_eq]
 exact⟨⟨by show(ql 7 x).length≤_; omega,by show m.length≤_; omega,by show k.length≤_; omega,l⟩,List.all_eq_true.2 v.2⟩
end Go
namespace Go.Sx
theorem v48 (x:List C) (n:Int) (r:Int) (m:List (List C)) (z:Int) (k:List (List C)) (q:Int) (p:Int):WD hD x∧InR .i64 n∧InR .i64 r∧WL hI m∧InR .i64 z∧WL hS k∧InR .i64 q∧InR .i64 p→True∧True∧Cn (bNot (Sp.dsV x)) (Sp.z31 (Sp.opV x n r m z k q p)∧1=Sp.opE x n r m z k q p) (True∧True∧Cn (bNot (Sp.cval k)) (Sp.z31 (Sp.opV x n r m z k q p)∧1=Sp.opE x n r m z k q p) (True∧True∧Cn (bNot (decide (8000≤qi 12 (Sp.opU x n r m z k q p)∧qi 12 (Sp.opU x n r m z k q p)≤192000∧16≤qi 13 (Sp.opU x n r m z k q p)∧qi 13 (Sp.opU x n r m z k q p)≤8192))) (Sp.z31 (Sp.opV x n r m z k q p)∧1=Sp.opE x n r m z k q p) (True∧True∧Cn (bNot (Sp.ofH (ql 7 x) n r m z)) (Sp.z31 (Sp.opV x n r m z k q p)∧7=Sp.opE x n r m z k q p) (True∧(InR .i64 (Sp.nN (Sp.opU x n r m z k q p))∧InR .i64 (Sp.nD (Sp.opU x n r m z k q p))→InR .i64 (iMul (Sp.nN (Sp.opU x n r m z k q p)) 64)∧Cn (bLt (iMul (Sp.nN (Sp.opU x n r m z k q p)) 64) (Sp.nD (Sp.opU x n r m z k q p))) (Sp.z31 (Sp.opV x n r m z k q p)∧11=Sp.opE x n r m z k q p) (InR .i64 (iMul (Sp.nD (Sp.opU x n r m z k q p)) 64)∧Cn (bLt (iMul (Sp.nD (Sp.opU x n r m z k q p)) 64) (Sp.nN (Sp.opU x n r m z k q p))) (Sp.z31 (Sp.opV x n r m z k q p)∧11=Sp.opE x n r m z k q p) ((pLe 0 (qi 13 (Sp.opU x n r m z k q p))∧pLe (qi 13 (Sp.opU x n r m z k q p)) 8192∧pLe 0 (qi 9 (Sp.opU x n r m z k q p))∧pLe (qi 9 (Sp.opU x n r m z k q p)) 768000)∧(InR .i64 (Sp.iN (Sp.opU x n r m z k q p))∧InR .i64 (Sp.iD (Sp.opU x n r m z k q p))→True∧(InR .i64 (Sp.oW (Sp.opU x n r m z k q p))∧InR .i64 (Sp.ceiE 1 (Sp.iN (Sp.opU x n r m z k q p)) (Sp.iD (Sp.opU x n r m z k q p)))→(pLe 0 (qi 6 (Sp.opU x n r m z k q p))∧pLe (qi 6 (Sp.opU x n r m z k q p)) 4096)∧(InR .i64 (Sp.jt (Sp.opU x n r m z k q p))→(pNe 4 0∧InR .i64 (iQuo (Sp.oW (Sp.opU x n r m z k q p)) 4))∧True∧(InR .i64 (Sp.oX (Sp.opU x n r m z k q p) (Sp.oQ (Sp.opU x n r m z k q p)))∧InR .i64 (Sp.oX (Sp.opU x n r m z k q p) (iQuo (Sp.oW (Sp.opU x n r m z k q p)) 4))∧InR .i64 (Sp.oX (Sp.opU x n r m z k q p) 16)∧InR .i64 (Sp.oX (Sp.opU x n r m z k q p) (Sp.planM (qi 5 x)))∧InR .i64 (Sp.oX (Sp.opU x n r m z k q p) (Sp.oP (Sp.opU x n r m z k q p)))∧InR .i64 (Sp.oE (Sp.opU x n r m z k q p))→Cn (bNe (Sp.oE (Sp.opU x n r m z k q p)) 0) (Sp.z31 (Sp.opV x n r m z k q p)∧Sp.oE (Sp.opU x n r m z k q p)=Sp.opE x n r m z k q p) (True∧(InR .i64 ↑(ql 10 (Sp.opU x n r m z k q p)).length→True∧(InR .i64 (Sp.bN (Sp.opU x n r m z k q p))∧InR .i64 (Sp.bD (Sp.opU x n r m z k q p))→InR .i64 (iSub (Sp.oX (Sp.opU x n r m z k q p) (Sp.oQ (Sp.opU x n r m z k q p))) (Sp.oW (Sp.opU x n r m z k q p)))∧True∧(WD hG (Sp.oBV (Sp.opU x n r m z k q p))∧InR .i64 (Sp.oBE (Sp.opU x n r m z k q p))→Cn (bNe (Sp.oBE (Sp.opU x n r m z k q p)) 0) (Sp.z31 (Sp.opV x n r m z k q p)∧Sp.oBE (Sp.opU x n r m z k q p)=Sp.opE x n r m z k q p) (Sp.szV (Sp.brd (Sp.opU x n r m z k q p) (Sp.oBV (Sp.opU x n r m z k q p)))=true∧(WD hV (Sp.nV (Sp.brd (Sp.opU x n r m z k q p) (Sp.oBV (Sp.opU x n r m z k q p))))→sg 0 [0,2,0,0,0,0,0,3,0,0,3,0,0,0,3,1,0,0,0,0,0,0,0,0,0,0,0,0,3,0,0] (Sp.nV (Sp.brd (Sp.opU x n r m z k q p) (Sp.oBV (Sp.opU x n r m z k q p))))=sg 0 [0,2,0,0,0,0,0,3,0,0,3,0,0,0,3,1,0,0,0,0,0,0,0,0,0,0,0,0,3,0,0] (Sp.opV x n r m z k q p)∧0=Sp.opE x n r m z k q p))))))))))))))))):=by
 intro hw
 have no:∀ {y:Int},y≠0→Sp.opE x n r m z k q p=y→Sp.z31 (Sp.opV x n r m z k q p)∧y=Sp.opE x n r m z k q p:=fun h h1=>⟨by unfold Sp.opV; rw[if_neg (by omega)]; rfl,h1.symm⟩
 have ds:Sp.dst (Sp.opU x n r m z k q p)=decide (8000≤q∧q≤192000∧16≤p∧p≤8192):=rfl
 have dc:decide (8000≤qi 12 (Sp.opU x n r m z k q p)∧qi 12 (Sp.opU x n r m z k q p)≤192000∧16≤qi 13 (Sp.opU x n r m z k q p)∧qi 13 (Sp.opU x n r m z k q p)≤8192)=Sp.dst (Sp.opU x n r m z k q p):=rfl
 have e1:Sp.dsV x=false∨Sp.cval k=false∨Sp.dst (Sp.opU x n r m z k q p)=false→Sp.opE x n r m z k q p=1:=fun h=>if_pos h
 rw[dc]
 simp only[D,E]
 refine⟨fun h=>no (by omega) (e1 (.inl h)),fun h=>⟨fun h1=>no (by omega) (e1 (.inr (.inl h1))),fun h1=>⟨fun h2=>no (by omega) (e1 (.inr (.inr h2))),fun h2=> ?_⟩⟩⟩
 have e2:Sp.opE x n r m z k q p=if Sp.ofH (ql 7 x) n r m z=false then 7 else if Sp.nN (Sp.opU x n r m z k q p)*64<Sp.nD (Sp.opU x n r m z k q p)∨Sp.nD (Sp.opU x n r m z k q p)*64<Sp.nN (Sp.opU x n r m z k q p)then 11 else if Sp.oE (Sp.opU x n r m z k q p)≠0 then Sp.oE (Sp.opU x n r m z k q p)else Sp.oBE (Sp.opU x n r m z k q p):=if_neg fun a=>a.elim (fun a=>by cases h.symm.trans a) fun a=>a.elim (fun a=>by cases h1.symm.trans a) fun a=>by cases h2.symm.trans a
 refine⟨fun h3=>no (by omega) (by rw[e2,if_pos h3]),fun h3 _=> ?_⟩
 rw[if_neg (by simp[h3])]at e2
 have rb:=Sp.ofH_bd h3
 have db:=of_decide_eq_true (ds.symm.trans h2)
 have nb:0≤Sp.nN (Sp.opU x n r m z k q p)∧Sp.nN (Sp.opU x n r m z k q p)≤r:=Sp.mkV_bd (a:=r) (b:=q) (v:=r) (by omega)
 have nd:0≤Sp.nD (Sp.opU x n r m z k q p)∧Sp.nD (Sp.opU x n r m z k q p)≤q:=Sp.mkV_bd (a:=r) (b:=q) (v:=q) (by omega)
 have dv:=(Sp.dsV_of h).1
 have wb:=Sp.ceiV_bd 1 (Sp.iN (Sp.opU x n r m z k q p)) (Sp.iD (Sp.opU x n r m z k q p))
 have wb': -4611686018427387904≤Sp.oW (Sp.opU x n r m z k q p)∧Sp.oW (Sp.opU x n r m z k q p)≤4611686018427387904:=wb
 have w4:=Int.natAbs_tdiv_le_natAbs (Sp.oW (Sp.opU x n r m z k q p)) 4
 refine⟨by simp only[InR]; omega,fun h4=>no (by omega) (by rw[e2,if_pos (.inl h4)]),fun h4=>⟨by simp only[InR]; omega,fun h5=>no (by omega) (by rw[e2,if_pos (.inr h5)]),fun h5=>⟨⟨by show 0≤p; omega,by show p≤8192; omega,by show 0≤r; omega,by show r≤768000; omega⟩,fun _ _=>⟨⟨by show 0≤qi 6 x; omega,by show qi 6 x≤4096; omega⟩,fun _=>⟨⟨by omega,by simp only[InR]; omega⟩,fun _=> ?_⟩⟩⟩⟩⟩
 rw[if_neg (by omega)]at e2
 refine⟨fun h6=>no h6 (by rw[e2,if_pos h6]),fun h6 _ _=> ?_⟩
 rw[if_neg (by omega)]at e2
 have po:=Sp.plan_ok h6
 have ox:Sp.oX (Sp.opU x n r m z k q p) (Sp.oQ (Sp.opU x n r m z k q p))=Sp.oQ (Sp.opU x n r m z k q p):=if_pos h6
 have po':0≤Sp.oQ (Sp.opU x n r m z k q p)∧Sp.oQ (Sp.opU x n r m z k q p)≤65536:=po
 refine⟨by rw[ox]; simp only[InR]; omega,fun _=>⟨fun h7=>no h7 e2,fun h7=>⟨Sp.op_sz h h1 h7,fun _=>⟨?_,by omega⟩⟩⟩⟩
 unfold Sp.opV; rw[if_pos (by omega)]
def r48:Cr PR:=K0 [r96,r97,r98,r99,r82,r86,r89,r87,r100,r102,r103,r101,r53] 48 6 {ps:=[(true,hD),(true,hC),(true,[.sl hS]),(false,hI),(false,hI)],rs:=[(true,hV),(false,hI)],pre:=fun _=>True,out:=fun a=>[rb [0,2,0,0,0,0,0,3,0,0,3,0,0,0,3,1,0,0,0,0,0,0,0,0,0,0,0,0,3,0,0] (Sp.opV (arg 0 a) (I a 1 0) (I a 1 1) (L a 1 2) (I a 1 3) (L a 2 0) (I a 3 0) (I a 4 0)),[.i (Sp.opE (arg 0 a) (I a 1 0) (I a 1 1) (L a 1 2) (I a 1 3) (L a 2 0) (I a 3 0) (I a 4 0))]]} U fun a=>Y (v48 (arg 0 a) (I a 1 0) (I a 1 1) (L a 1 2) (I a 1 3) (L a 2 0) (I a 3 0) (I a 4 0))
end Go.Sx

set_option linter.unusedVariables false
set_option linter.unusedSimpArgs false
set_option maxRecDepth 100000
set_option maxHeartbeats 4000000
namespace Go
open Go.Sx
end Go
namespace Go
open Go.Sx
end Go
namespace Go.Sx
theorem F:(∀p:Prop,(False→p)=True)∧((false=true)=False)∧((true=false)=False)∧(∀ {α:Type} (x:α),(x=x)=True)∧((¬True)=False)∧((¬False)=True)∧(∀p:Prop,(p→True)=True)∧(∀ {α:Type} (x:α),(x≠x)=False)∧(∀p:Prop,(False∧p)=False)∧(∀p:Prop,(p∧False)=False)∧(¬(1:Int)=0)∧(¬(0:Int)=1)∧(∀p:Prop,(True∨p)=True)∧(∀p:Prop,(False∨p)=p)∧(∀p:Prop,(p∨False)=p):=
 ⟨fun _=>by simp,by simp,by simp,fun _=>by simp,by simp,by simp,fun _=>by simp,fun _=>by simp,fun _=>by simp,fun _=>by simp,by omega,by omega,fun _=>by simp,fun _=>by simp,fun _=>by simp⟩
end Go.Sx
namespace Go.Sx
end Go.Sx
namespace Go
open Go.Sx
end Go
namespace Go.Sx
end Go.Sx
namespace Go.Sx
end Go.Sx
namespace Go
open Go.Sx
end Go
namespace Go
open Go.Sx
theorem Sp.rvalid_swap {a b:Int} (h:Sp.rvalid a b=true):Sp.rvalid b a=true:=by
 have r:=Sp.rvalid_of h
 have:Sp.gcd b a=Sp.gcd a b:=by unfold Sp.gcd; rw[Int.gcd_comm]
 unfold Sp.rvalid
 rw[this]
 simp only[decide_eq_true_eq]; omega
theorem Sp.gcd_dvd {a b:Int}:a/Sp.gcd a b*Sp.gcd a b=a∧b/Sp.gcd a b*Sp.gcd a b=b:=
 ⟨Int.ediv_mul_cancel (Int.gcd_dvd_left ..),Int.ediv_mul_cancel (Int.gcd_dvd_right ..)⟩
theorem Sp.mul_val (a b c d:Int):Sp.mulX a b c d*(Sp.gcd a d*Sp.gcd c b)=a*c∧Sp.mulY a b c d*(Sp.gcd a d*Sp.gcd c b)=b*d:=by
 have e1:=Sp.gcd_dvd (a:=a) (b:=d)
 have e2:=Sp.gcd_dvd (a:=c) (b:=b)
 unfold Sp.mulX Sp.mulY
 constructor
 · rw[show a/Sp.gcd a d*(c/Sp.gcd c b)*(Sp.gcd a d*Sp.gcd c b)=(a/Sp.gcd a d*Sp.gcd a d)*(c/Sp.gcd c b*Sp.gcd c b) by ac_rfl,e1.1,e2.1]
 · rw[show b/Sp.gcd c b*(d/Sp.gcd a d)*(Sp.gcd a d*Sp.gcd c b)=(b/Sp.gcd c b*Sp.gcd c b)*(d/Sp.gcd a d*Sp.gcd a d) by ac_rfl,e2.2,e1.2]
theorem Sp.mk_of {a b:Int} (h1:1≤a) (h2:a≤68719476736) (h3:1≤b) (h4:b≤68719476736):Sp.mkE a b=0∧Sp.rvalid (Sp.mkV a b a) (Sp.mkV a b b)=true∧Sp.mkV a b a*Sp.gcd a b=a∧Sp.mkV a b b*Sp.gcd a b=b∧1≤Sp.gcd a b∧1≤Sp.mkV a b a∧Sp.mkV a b a≤a∧1≤Sp.mkV a b b∧Sp.mkV a b b≤b:=by
 have e:=Sp.mk_ok h1 h2 h3 h4
 have g:=Sp.gcd_quo (a:=a) (b:=b) h1 h3
 have v:∀v,Sp.mkV a b v=v/Sp.gcd a b:=fun v=>if_pos e
 have d:=Sp.gcd_dvd (a:=a) (b:=b)
 have p:=Sp.gcd_pos (a:=a) (b:=b) h1
 rw[v,v]
 refine⟨e,?_,d.1,d.2,p.1,g⟩
 unfold Sp.rvalid
 rw[Sp.gcd_one h1,decide_eq_true_eq]
 omega
theorem Sp.cross {a b c d:Int} (h:Sp.rvalid a b=true) (h':Sp.rvalid c d=true) (e:a*d=c*b):a=c∧b=d:=by
 have r:=Sp.rvalid_of h
 have s:=Sp.rvalid_of h'
 have c1:Nat.Coprime a.natAbs b.natAbs:=by have:=r.2.2.2.2; unfold Sp.gcd Int.gcd at this; show Nat.gcd _ _=1; omega
 have c2:Nat.Coprime c.natAbs d.natAbs:=by have:=s.2.2.2.2; unfold Sp.gcd Int.gcd at this; show Nat.gcd _ _=1; omega
 have en:a.natAbs*d.natAbs=c.natAbs*b.natAbs:=by rw[←Int.natAbs_mul,←Int.natAbs_mul,e]
 have d1:a ∣ c:=Int.natAbs_dvd_natAbs.1 (c1.dvd_of_dvd_mul_right ⟨d.natAbs,en.symm⟩)
 have d2:c ∣ a:=Int.natAbs_dvd_natAbs.1 (c2.dvd_of_dvd_mul_right ⟨b.natAbs,en⟩)
 have e1:a=c:=Int.le_antisymm (Int.le_of_dvd (by omega) d1) (Int.le_of_dvd (by omega) d2)
 subst e1
 exact⟨rfl,(Int.eq_of_mul_eq_mul_left (by omega) e).symm⟩
theorem Sp.mul_mk {p r R:Int} (h0:1≤p) (h1:1≤r) (h2:p*r≤68719476736) (h3:1≤R) (h4:R≤68719476736):Sp.mulV p 1 (Sp.mkV r R r) (Sp.mkV r R R) (Sp.mulX p 1 (Sp.mkV r R r) (Sp.mkV r R R))=Sp.mkV (p*r) R (p*r)∧Sp.mulV p 1 (Sp.mkV r R r) (Sp.mkV r R R) (Sp.mulY p 1 (Sp.mkV r R r) (Sp.mkV r R R))=Sp.mkV (p*r) R R∧Sp.mulE p 1 (Sp.mkV r R r) (Sp.mkV r R R)=0:=by
 have hp:p≤p*r:=by have:=Int.mul_le_mul_of_nonneg_left h1 (show 0≤p by omega); omega
 have hr:r≤p*r:=by have:=Int.mul_le_mul_of_nonneg_right h0 (show 0≤r by omega); omega
 obtain⟨e1,v1,g1,g2,g3,b1,b2,b3,b4⟩:=Sp.mk_of (a:=r) (b:=R) h1 (by omega) h3 h4
 obtain⟨e2,v2,k1,k2,k3,c1,c2,c3,c4⟩:=Sp.mk_of (a:=p*r) (b:=R) (by omega) h2 h3 h4
 have m:=Sp.mul_val p 1 (Sp.mkV r R r) (Sp.mkV r R R)
 have vp:Sp.rvalid p 1=true:=by
  unfold Sp.rvalid Sp.gcd
  rw[Int.gcd_one,decide_eq_true_eq]; omega
 have bd:=Sp.mul_bd4 vp v1
 generalize Sp.mkV r R r=n at*
 generalize Sp.mkV r R R=d at*
 generalize Sp.mkV (p*r) R (p*r)=n' at*
 generalize Sp.mkV (p*r) R R=d' at*
 have gx:1≤Sp.gcd p d:=by have:=Sp.gcd_pos (a:=p) (b:=d) h0; omega
 have gy:1≤Sp.gcd n 1:=by have:=Sp.gcd_pos (a:=n) (b:=1) b1; omega
 have hx:1≤Sp.mulX p 1 n d∧Sp.mulX p 1 n d≤68719476736:=by
  unfold Sp.mulX
  have a1:=bd.1; have a2:=bd.2.2.1
  have q1:p/Sp.gcd p d≤p:=Int.ediv_le_self _ (by omega)
  have q2:n/Sp.gcd n 1≤r:=Int.le_trans (Int.ediv_le_self _ (by omega)) b2
  have q3:=Int.mul_le_mul q1 q2 (by omega) (by omega)
  have q4:=Int.mul_le_mul a1 a2 (by omega) (by omega)
  omega
 have hy:1≤Sp.mulY p 1 n d∧Sp.mulY p 1 n d≤68719476736:=by
  unfold Sp.mulY
  have a1:=bd.2.2.2.2.1; have a2:=bd.2.2.2.2.2.2.1
  have q1:1/Sp.gcd n 1≤1:=Int.ediv_le_self _ (by omega)
  have q2:=bd.2.2.2.2.2.2.2
  have q3:=Int.mul_le_mul q1 q2 (by omega) (by omega)
  have q4:=Int.mul_le_mul a1 a2 (by omega) (by omega)
  omega
 have he:Sp.mulE p 1 n d=0:=by unfold Sp.mulE; rw[if_neg (by simp[vp,v1]),if_neg (by omega)]
 have vm:Sp.rvalid (Sp.mulX p 1 n d) (Sp.mulY p 1 n d)=true:=by
  have h1:Nat.Coprime (n.natAbs) (d.natAbs):=by have:=(Sp.rvalid_of v1).2.2.2.2; unfold Sp.gcd Int.gcd at this; show Nat.gcd _ _=1; omega
  have n1:Sp.gcd n 1=1:=by unfold Sp.gcd; rw[Int.gcd_one]; rfl
  have o1:=Sp.gcd_one (a:=p) (b:=d) h0
  unfold Sp.rvalid
  rw[decide_eq_true_eq]
  refine⟨hx.1,hy.1,hx.2,hy.2,?_⟩
  unfold Sp.mulX Sp.mulY
  rw[n1,Int.ediv_one,Int.ediv_one,Int.one_mul]
  have o2:Nat.Coprime (p/Sp.gcd p d).natAbs (d/Sp.gcd p d).natAbs:=by unfold Sp.gcd Int.gcd at o1; show Nat.gcd _ _=1; unfold Sp.gcd Int.gcd; omega
  have o3:Nat.Coprime n.natAbs (d/Sp.gcd p d).natAbs:=Nat.Coprime.coprime_dvd_right (Int.natAbs_dvd_natAbs.2 ⟨Sp.gcd p d,Sp.gcd_dvd.2.symm⟩) h1
  have o4:=Nat.Coprime.mul_left o2 o3
  rw[←Int.natAbs_mul]at o4
  unfold Nat.Coprime at o4
  show((Nat.gcd _ _:Nat):Int)=1
  rw[o4]; rfl
 have cr:Sp.mulX p 1 n d*d'=n'*Sp.mulY p 1 n d:=by
  have gp:0<Sp.gcd p d*Sp.gcd n 1*Sp.gcd (p*r) R:=Int.mul_pos (Int.mul_pos (by omega) (by omega)) (by omega)
  refine Int.eq_of_mul_eq_mul_right (by omega:Sp.gcd p d*Sp.gcd n 1*Sp.gcd (p*r) R≠0) ?_
  have x1:Sp.mulX p 1 n d*d'*(Sp.gcd p d*Sp.gcd n 1*Sp.gcd (p*r) R)=(Sp.mulX p 1 n d*(Sp.gcd p d*Sp.gcd n 1))*(d'*Sp.gcd (p*r) R):=by ac_rfl
  have x2:n'*Sp.mulY p 1 n d*(Sp.gcd p d*Sp.gcd n 1*Sp.gcd (p*r) R)=(n'*Sp.gcd (p*r) R)*(Sp.mulY p 1 n d*(Sp.gcd p d*Sp.gcd n 1)):=by ac_rfl
  rw[x1,x2,m.1,m.2,k1,k2,Int.one_mul]
  generalize Sp.gcd r R=g at*
  rw[←g2,←g1]; ac_rfl
 have c:=Sp.cross vm v2 cr
 unfold Sp.mulV
 rw[if_pos he,if_pos he]
 exact⟨c.1,c.2,he⟩
end Go
namespace Go
open Go.Sx
def Sp.pd (d:List C):Prop:=Sp.dsV d=true∧Sp.ofH (ql 7 d) (qi 8 d) (qi 9 d) (ql 10 d) (qi 11 d)=true∧(8000≤qi 12 d∧qi 12 d≤192000∧16≤qi 13 d∧qi 13 d≤8192)∧Sp.cval (ql 14 d)=true
end Go
namespace Go
open Go.Sx
theorem Sp.pd_b {d:List C} (h:Sp.pd d):(qi 2 d=1∨qi 2 d=2)∧0≤qi 4 d∧qi 4 d≤1048576∧0≤qi 5 d∧qi 5 d≤2048∧0≤qi 6 d∧qi 6 d≤4096∧1000≤qi 9 d∧qi 9 d≤768000∧8000≤qi 12 d∧qi 12 d≤192000∧16≤qi 13 d∧qi 13 d≤8192:=by
 have a:=(Sp.dsV_of h.1).1
 have r:=Sp.ofH_bd h.2.1
 have s:=h.2.2.1
 omega
theorem Sp.dv_b {d:List C} (h:Sp.dvV d=true):(qi 2 d=1∨qi 2 d=2)∧0≤qi 4 d∧qi 4 d≤1048576∧0≤qi 5 d∧qi 5 d≤2048∧0≤qi 6 d∧qi 6 d≤4096∧1000≤qi 9 d∧qi 9 d≤768000∧8000≤qi 12 d∧qi 12 d≤192000∧16≤qi 13 d∧qi 13 d≤8192∧1≤qi 17 d∧qi 17 d≤65536:=by
 have a:=Sp.pd_b (Sp.dvV_of h).1
 have g:=(Sp.dvV_of h).2.2.1
 unfold Sp.bgV at g; simp only[Bool.and_eq_true,decide_eq_true_eq]at g
 have g1:1≤qi 17 d∧qi 17 d≤65536:=⟨g.2.2.1,g.2.2.2.1⟩
 omega
theorem Sp.nm_b {d:List C} (h:Sp.pd d):Sp.mkE (qi 9 d) (qi 12 d)=0∧Sp.rvalid (Sp.nN d) (Sp.nD d)=true∧Sp.nN d*Sp.gcd (qi 9 d) (qi 12 d)=qi 9 d∧Sp.nD d*Sp.gcd (qi 9 d) (qi 12 d)=qi 12 d∧1≤Sp.gcd (qi 9 d) (qi 12 d)∧1≤Sp.nN d∧Sp.nN d≤qi 9 d∧1≤Sp.nD d∧Sp.nD d≤qi 12 d:=by
 have b:=Sp.pd_b h
 exact Sp.mk_of (by omega) (by omega) (by omega) (by omega)
theorem Sp.in_b {d:List C} (h:Sp.pd d):(1≤Sp.iN d∧Sp.iN d≤6291456000∧1≤Sp.iD d∧Sp.iD d≤192000)∧Sp.rvalid (Sp.iN d) (Sp.iD d)=true:=by
 have b:=Sp.pd_b h
 have m:=mul_bd (x:=qi 13 d) (X:=8192) (y:=qi 9 d) (Y:=768000) (by omega) (by omega) (by omega) (by omega)
 have m1:=Int.mul_le_mul_of_nonneg_left (show 1≤qi 9 d by omega) (show 0≤qi 13 d by omega)
 have k:=Sp.mk_of (a:=qi 13 d*qi 9 d) (b:=qi 12 d) (by omega) (by omega) (by omega) (by omega)
 unfold Sp.iN Sp.iD
 split
 · refine⟨by omega,?_⟩
   unfold Sp.rvalid Sp.gcd
   rw[Int.gcd_one,decide_eq_true_eq]; omega
 · exact⟨by omega,k.2.1⟩
end Go
namespace Go.Sx
theorem v106 (d:List C):WD hV d→pLe 16 (qi 13 d)∧pLe (qi 13 d) 8192∧pLe 1 (qi 9 d)∧pLe (qi 9 d) 768000∧pLe 1 (qi 12 d)∧pLe (qi 12 d) 192000∧(qi 2 d=1∨qi 2 d=2)→Cn (bEq (qi 2 d) 2) (True∧(InR .i64 (Sp.nN d)∧InR .i64 (Sp.nD d)∧InR .i64 (Sp.mkE (qi 9 d) (qi 12 d))→True∧(InR .i64 (Sp.mulV (qi 13 d) 1 (Sp.nN d) (Sp.nD d) (Sp.mulX (qi 13 d) 1 (Sp.nN d) (Sp.nD d)))∧InR .i64 (Sp.mulV (qi 13 d) 1 (Sp.nN d) (Sp.nD d) (Sp.mulY (qi 13 d) 1 (Sp.nN d) (Sp.nD d)))∧InR .i64 (Sp.mulE (qi 13 d) 1 (Sp.nN d) (Sp.nD d))→Sp.mulV (qi 13 d) 1 (Sp.nN d) (Sp.nD d) (Sp.mulX (qi 13 d) 1 (Sp.nN d) (Sp.nD d))=Sp.iN d∧Sp.mulV (qi 13 d) 1 (Sp.nN d) (Sp.nD d) (Sp.mulY (qi 13 d) 1 (Sp.nN d) (Sp.nD d))=Sp.iD d))) (qi 13 d=Sp.iN d∧1=Sp.iD d):=by
 intro hw hp
 simp only[D,E]at hp ⊢
 have b:=mul_bd (x:=qi 13 d) (X:=8192) (y:=qi 9 d) (Y:=768000) (by omega) (by omega) (by omega) (by omega)
 have m:=Sp.mul_mk (p:=qi 13 d) (r:=qi 9 d) (R:=qi 12 d) (by omega) (by omega) (by omega) (by omega) (by omega)
 refine⟨fun h _ _=> ?_,fun h=>⟨(if_pos (by omega)).symm,(if_pos (by omega)).symm⟩⟩
 unfold Sp.iN Sp.iD
 rw[if_neg (by omega),if_neg (by omega)]
 exact⟨m.1,m.2.1⟩
def r106:Cr PR:=K [r83,r168] 106 6 {ps:=[(true,hV)],rs:=[(true,hII)],pre:=fun a=>pLe 16 (qi 13 (arg 0 a))∧(pLe (qi 13 (arg 0 a)) 8192∧(pLe 1 (qi 9 (arg 0 a))∧(pLe (qi 9 (arg 0 a)) 768000∧(pLe 1 (qi 12 (arg 0 a))∧(pLe (qi 12 (arg 0 a)) 192000∧(qi 2 (arg 0 a)=1∨qi 2 (arg 0 a)=2)))))),out:=fun a=>[[.i (Sp.iN (arg 0 a)),.i (Sp.iD (arg 0 a))]]} U fun a=>Y (v106 (arg 0 a))
end Go.Sx
namespace Go.Sx
end Go.Sx
namespace Go.Sx
end Go.Sx
namespace Go.Sx
end Go.Sx

set_option linter.unusedVariables false
set_option linter.unusedSimpArgs false
set_option maxRecDepth 100000
set_option maxHeartbeats 4000000
namespace Go
open Go.Sx
def Sp.oZ (d:List C):Int:=iQuo (iSub (iAdd (Sp.iN d) (Sp.iD d)) 1) (Sp.iD d)
def Sp.xQ (d:List C):Int:=Sp.planQ (Sp.iN d) (Sp.iD d) (qi 5 d) (Sp.jt d) (iQuo (Sp.oZ d) 4) 16
def Sp.xP (d:List C):Int:=Sp.xQ d+Sp.planB (Sp.iN d) (Sp.iD d) (qi 5 d) (Sp.jt d) (iQuo (Sp.oZ d) 4) 16
def Sp.xX (d:List C) (v:Int):Int:=Sp.planV (Sp.iN d) (Sp.iD d) (qi 5 d) (Sp.jt d) (iQuo (Sp.oZ d) 4) 16 v
def Sp.xE (d:List C):Int:=Sp.planE (Sp.iN d) (Sp.iD d) (qi 5 d) (Sp.jt d) (iQuo (Sp.oZ d) 4) 16
def Sp.xBE (d:List C):Int:=Sp.bnE (iLen (ql 10 d)) (Sp.bN d) (Sp.bD d) (Sp.xX d (Sp.xQ d)) (Sp.xX d (iQuo (Sp.oZ d) 4)) (Sp.xX d 16) (Sp.xX d (Sp.planM (qi 5 d))) (Sp.xX d (Sp.xP d)) (iMax 0 (iSub (Sp.xX d (Sp.xQ d)) (Sp.oZ d)))
def Sp.xBV (d:List C):List C:=Sp.bnV (iLen (ql 10 d)) (Sp.bN d) (Sp.bD d) (Sp.xX d (Sp.xQ d)) (Sp.xX d (iQuo (Sp.oZ d) 4)) (Sp.xX d 16) (Sp.xX d (Sp.planM (qi 5 d))) (Sp.xX d (Sp.xP d)) (iMax 0 (iSub (Sp.xX d (Sp.xQ d)) (Sp.oZ d)))
end Go
namespace Go
open Go.Sx
theorem Sp.cei_up {a b:Int} (hb:1≤b):Sp.cei 1 a b=(a+b-1)/b:=by
 unfold Sp.cei
 have e1:=Int.mul_ediv_add_emod (a+b-1) b
 have e2:=Int.mul_ediv_add_emod (-1*a) b
 have p1:=Int.emod_nonneg (a+b-1) (show b≠0 by omega)
 have p2:=Int.emod_lt_of_pos (a+b-1) (show 0<b by omega)
 have p3:=Int.emod_nonneg (-1*a) (show b≠0 by omega)
 have p4:=Int.emod_lt_of_pos (-1*a) (show 0<b by omega)
 generalize (a+b-1)/b=x at*
 generalize-1*a/b=y at*
 have m:b*(x+y)=b*x+b*y:=Int.mul_add ..
 by_cases h1:1≤x+y
 · have:=Int.mul_le_mul_of_nonneg_left h1 (show 0≤b by omega); omega
 · by_cases h2:x+y≤-1
   · have:=Int.mul_le_mul_of_nonneg_left h2 (show 0≤b by omega); omega
   · omega
theorem Sp.oW_b {d:List C} (h:Sp.pd d):Sp.oZ d=Sp.oW d∧1≤Sp.oW d∧Sp.oW d≤6291456000:=by
 have i:=Sp.in_b h
 have r:=Sp.rvalid_of i.2
 have c:Sp.chk 1 (Sp.iN d) (Sp.iD d)=0:=((Sp.chk_c 1 (Sp.iN d) (Sp.iD d)).2 i.2).2 (by omega)
 have u:=Sp.cei_up (a:=Sp.iN d) (b:=Sp.iD d) (by omega)
 have d1:1≤(Sp.iN d+Sp.iD d-1)/Sp.iD d:=(Int.le_ediv_iff_mul_le (by omega)).2 (by omega)
 have d2:(Sp.iN d+Sp.iD d-1)/Sp.iD d<Sp.iN d+1:=Int.ediv_lt_of_lt_mul (by omega) (by
  have:=Int.mul_le_mul_of_nonneg_left (show 1≤Sp.iD d by omega) (show 0≤Sp.iN d by omega)
  have e:(Sp.iN d+1)*Sp.iD d=Sp.iN d*Sp.iD d+Sp.iD d:=by rw[Int.add_mul,Int.one_mul]
  omega)
 have e:Sp.oW d=(Sp.iN d+Sp.iD d-1)/Sp.iD d:=by
  unfold Sp.oW
  rw[←u]
  exact((Sp.ceiI c).1 (by omega)).2
 refine⟨?_,by omega,by omega⟩
 rw[e]
 exact Int.tdiv_eq_ediv_of_nonneg (by show 0≤Sp.iN d+Sp.iD d-1; omega)
theorem Sp.x_o {d:List C} (h:Sp.oZ d=Sp.oW d):Sp.xQ d=Sp.oQ d∧Sp.xP d=Sp.oP d∧(∀v,Sp.xX d v=Sp.oX d v)∧Sp.xE d=Sp.oE d∧Sp.xBV d=Sp.oBV d:=by
 have q:Sp.xQ d=Sp.oQ d:=by unfold Sp.xQ Sp.oQ; rw[h]
 have p:Sp.xP d=Sp.oP d:=by unfold Sp.xP Sp.oP; rw[h,q]
 have x:∀v,Sp.xX d v=Sp.oX d v:=fun v=>by unfold Sp.xX Sp.oX; rw[h]
 refine⟨q,p,x,by unfold Sp.xE Sp.oE; rw[h],?_⟩
 unfold Sp.xBV Sp.oBV
 rw[x,x,x,x,x,q,p,h]
theorem Sp.b_b {d:List C} (h:Sp.pd d):Sp.rvalid (Sp.bN d) (Sp.bD d)=true∧Sp.bN d≤768000∧Sp.bD d≤768000∧Sp.bN d=(if qi 2 d=1 then Sp.nD d else Sp.nN d)∧Sp.bD d=(if qi 2 d=1 then Sp.nN d else Sp.nD d):=by
 have b:=Sp.pd_b h
 have n:=Sp.nm_b h
 have e:∀v,Sp.invV (Sp.nN d) (Sp.nD d) v=v:=fun v=>by unfold Sp.invV; rw[n.2.1]; rfl
 unfold Sp.bN Sp.bD
 rw[e,e]
 split
 · exact⟨Sp.rvalid_swap n.2.1,by omega,by omega,rfl,rfl⟩
 · exact⟨n.2.1,by omega,by omega,rfl,rfl⟩
theorem Sp.ofH_ch {l:List (List C)} {k r z:Int} {m:List (List C)} (h:Sp.ofH l k r m z=true):1≤m.length∧m.length≤8:=by
 unfold Sp.ofH Sp.bxs at h
 rw[List.any_eq_true]at h
 obtain⟨x,hx,hi⟩:=h
 cases hv:Sp.bsV l
 · rw[hv]at hx; cases hx
 rw[hv]at hx
 unfold Sp.bsV at hv
 rw[Bool.and_eq_true]at hv
 have hb:=List.all_eq_true.1 hv.2 x hx
 unfold Sp.bxF at hb
 simp only[Bool.and_eq_true]at hb
 have hi':((Sp.kd (qi 0 x) k&&Sp.isH (ql 1 x) r)&&Sp.hs (ql 2 x) m&&Sp.isH (ql 3 x) z)=true:=hi
 simp only[Bool.and_eq_true]at hi'
 have hs:=hi'.1.2
 unfold Sp.hs at hs
 obtain⟨y,hy,e⟩:=List.any_eq_true.1 hs
 obtain⟨p,hp⟩:=Sp.dk_all hb.2.2.2.1 y hy
 unfold Sp.mpF at hp
 unfold Sp.cmV at hp
 simp only[Bool.and_eq_true,decide_eq_true_eq]at hp
 have:(ql 0 y).length=m.length:=Classical.byContradiction fun n=>by
  have:=rlL (g:=Sp.e0) n
  unfold Sp.sm at e
  rw[e]at this; cases this
 omega
theorem Sp.plan_b {n e k j d g:Int} (h:Sp.planE n e k j d g=0):Sp.valid (Sp.planQ n e k j d g) d g (Sp.planM k)=true∧3≤Sp.planQ n e k j d g∧0≤Sp.planB n e k j d g∧Sp.planQ n e k j d g+Sp.planB n e k j d g≤65536:=by
 by_cases o:Sp.decl n e k j=false∨d<0∨65536<d∨g<1∨4096<g
 · rw[Sp.plan_out o]at h; cases h
 have hd:Sp.decl n e k j=true:=by simpa using fun a=>o (.inl a)
 have i:=Sp.plan_in (n:=n) (e:=e) (k:=k) (j:=j) (d:=d) (g:=g) hd (by omega) (by omega) (by omega) (by omega)
 have hM:Sp.planM k≤4096:=by
  by_cases hM:4096<Sp.planM k
  · have:=i.1 hM; omega
  · omega
 have i2:=i.2.1 hM
 have b:¬(65536<Sp.planS n e k j∨65536<Sp.planQ n e k j d g+Sp.planB n e k j d g):=fun q=>by have:=i2.1 q; omega
 have hd':=Sp.decl_of hd
 have m:=Sp.planM_bd (k:=k) (by omega) (by omega)
 have w2:=Sp.wob_bd (n:=n) (d:=e) (k:=k+Sp.planM k) (by omega) (by omega) (by omega) (by omega) (by omega) (by omega)
 have u2:=Sp.up_bd (a:=n) (b:=e) (by omega) (by omega)
 have dm:Sp.demV 0 d g (Sp.planM k) n e k j=Sp.up n e+Sp.wob n e (k+Sp.planM k)+2*j+3:=if_neg (by omega)
 have q:Sp.planQ n e k j d g=Sp.demV 0 d g (Sp.planM k) n e k j+Sp.planB n e k j d g:=rfl
 refine⟨?_,by omega,by omega,by omega⟩
 rw[Sp.valid_iff]; omega
theorem Sp.pd_br {d:List C} (h:Sp.pd d) (he:Sp.oE d=0):Sp.oBE d=0:=by
 have p:=Sp.plan_b he
 have w:=Sp.oW_b h
 have b:=Sp.b_b h
 have c:=Sp.ofH_ch h.2.1
 have v:∀v,Sp.oX d v=v:=fun v=>if_pos he
 have rv:=Sp.rvalid_of b.1
 have q:Sp.oQ d=Sp.planQ (Sp.iN d) (Sp.iD d) (qi 5 d) (Sp.jt d) (iQuo (Sp.oW d) 4) 16:=rfl
 have q2:Sp.oP d=Sp.oQ d+Sp.planB (Sp.iN d) (Sp.iD d) (qi 5 d) (Sp.jt d) (iQuo (Sp.oW d) 4) 16:=rfl
 have k:Sp.rsV (Sp.rn ((ql 10 d).length:Int) (Sp.bN d) (Sp.bD d))=true:=by
  show(Sp.phV [.i (Sp.bN d),.i (Sp.bD d),.i 0,.i 0,.i 0]&&Sp.blk ((ql 10 d).length:Int) [])=true
  unfold Sp.phV Sp.phQ Sp.blk Sp.blkB
  simp only[Bool.and_eq_true,decide_eq_true_eq]
  refine⟨⟨b.1,b.2.1,b.2.2.1,show(-4096:Int)≤0 by decide,show(0:Int)≤4096 by decide,show(0:Int)≤0 by decide,show(0:Int)≤1125899906842624 by decide,show(0:Int)≤0 by decide,?_⟩,⟨by omega,by omega,by simp,by simp⟩,rfl⟩
  show 0<Sp.bD d*65536
  omega
 unfold Sp.oBE Sp.bnE
 rw[v,v,v,v,v]
 have m0:0≤iMax 0 (iSub (Sp.oQ d) (Sp.oW d))∧iMax 0 (iSub (Sp.oQ d) (Sp.oW d))≤Sp.oQ d:=by
  show 0≤max 0 (Sp.oQ d-Sp.oW d)∧max 0 (Sp.oQ d-Sp.oW d)≤Sp.oQ d
  omega
 rw[if_neg (by omega),if_neg]
 rintro(h1|h1)
 · rw[k]at h1; cases h1
 · rw[q,p.1]at h1; cases h1
end Go
namespace Go.Sx
theorem v50 (x:List C) (n:Int) (r:Int) (m:List (List C)) (z:Int) (k:List (List C)) (q:Int) (p:Int):WD hD x∧InR .i64 n∧InR .i64 r∧WL hI m∧InR .i64 z∧WL hS k∧InR .i64 q∧InR .i64 p→True∧True∧Cn (bNot (Sp.dsV x)) (Sp.z31 (Sp.opR x n r m z k q p)∧1=Sp.opE x n r m z k q p) (True∧True∧Cn (bNot (Sp.cval k)) (Sp.z31 (Sp.opR x n r m z k q p)∧1=Sp.opE x n r m z k q p) (Cn (bLt q 8000) (Sp.z31 (Sp.opR x n r m z k q p)∧1=Sp.opE x n r m z k q p) (Cn (bLt 192000 q) (Sp.z31 (Sp.opR x n r m z k q p)∧1=Sp.opE x n r m z k q p) (Cn (bLt p 16) (Sp.z31 (Sp.opR x n r m z k q p)∧1=Sp.opE x n r m z k q p) (Cn (bLt 8192 p) (Sp.z31 (Sp.opR x n r m z k q p)∧1=Sp.opE x n r m z k q p) (True∧True∧Cn (bNot (Sp.ofH (ql 7 x) n r m z)) (Sp.z31 (Sp.opR x n r m z k q p)∧7=Sp.opE x n r m z k q p) (InR .i64 (iMul 64 q)∧Cn (bLt (iMul 64 q) r) (Sp.z31 (Sp.opR x n r m z k q p)∧11=Sp.opE x n r m z k q p) (InR .i64 (iMul 64 r)∧Cn (bLt (iMul 64 r) q) (Sp.z31 (Sp.opR x n r m z k q p)∧11=Sp.opE x n r m z k q p) ((pLe 16 (qi 13 (Sp.opU x n r m z k q p))∧pLe (qi 13 (Sp.opU x n r m z k q p)) 8192∧pLe 1 (qi 9 (Sp.opU x n r m z k q p))∧pLe (qi 9 (Sp.opU x n r m z k q p)) 768000∧pLe 1 (qi 12 (Sp.opU x n r m z k q p))∧pLe (qi 12 (Sp.opU x n r m z k q p)) 192000∧(qi 2 (Sp.opU x n r m z k q p)=1∨qi 2 (Sp.opU x n r m z k q p)=2))∧(InR .i64 (Sp.iN (Sp.opU x n r m z k q p))∧InR .i64 (Sp.iD (Sp.opU x n r m z k q p))→InR .i64 (iAdd (Sp.iN (Sp.opU x n r m z k q p)) (Sp.iD (Sp.opU x n r m z k q p)))∧InR .i64 (iSub (iAdd (Sp.iN (Sp.opU x n r m z k q p)) (Sp.iD (Sp.opU x n r m z k q p))) 1)∧(pNe (Sp.iD (Sp.opU x n r m z k q p)) 0∧InR .i64 (Sp.oZ (Sp.opU x n r m z k q p)))∧(pLe 0 (qi 6 (Sp.opU x n r m z k q p))∧pLe (qi 6 (Sp.opU x n r m z k q p)) 4096∧(qi 2 (Sp.opU x n r m z k q p)=1∨qi 2 (Sp.opU x n r m z k q p)=2))∧(InR .i64 (Sp.jt (Sp.opU x n r m z k q p))→(pNe 4 0∧InR .i64 (iQuo (Sp.oZ (Sp.opU x n r m z k q p)) 4))∧True∧(InR .i64 (Sp.xX (Sp.opU x n r m z k q p) (Sp.xQ (Sp.opU x n r m z k q p)))∧InR .i64 (Sp.xX (Sp.opU x n r m z k q p) (iQuo (Sp.oZ (Sp.opU x n r m z k q p)) 4))∧InR .i64 (Sp.xX (Sp.opU x n r m z k q p) 16)∧InR .i64 (Sp.xX (Sp.opU x n r m z k q p) (Sp.planM (qi 5 x)))∧InR .i64 (Sp.xX (Sp.opU x n r m z k q p) (Sp.xP (Sp.opU x n r m z k q p)))∧InR .i64 (Sp.xE (Sp.opU x n r m z k q p))→Cn (bNe (Sp.xE (Sp.opU x n r m z k q p)) 0) (Sp.z31 (Sp.opR x n r m z k q p)∧Sp.xE (Sp.opU x n r m z k q p)=Sp.opE x n r m z k q p) (pLe (iLen m) 9223372036854775807→True∧(InR .i64 (Sp.bN (Sp.opU x n r m z k q p))∧InR .i64 (Sp.bD (Sp.opU x n r m z k q p))→InR .i64 (iSub (Sp.xX (Sp.opU x n r m z k q p) (Sp.xQ (Sp.opU x n r m z k q p))) (Sp.oZ (Sp.opU x n r m z k q p)))∧True∧(WD hG (Sp.xBV (Sp.opU x n r m z k q p))∧InR .i64 (Sp.xBE (Sp.opU x n r m z k q p))→sga 0 [0,2,0,0,0,0,0,3] x (C.i n::C.i r::C.l m::C.i z::C.i q::C.i p::C.l k::C.b false::C.i 0::sg 0 [0,0,0,0,0,0,0,0,0,0,0,3,0,0] (Sp.xBV (Sp.opU x n r m z k q p)))=sg 0 [0,2,0,0,0,0,0,3,0,0,3,0,0,0,3,1,0,0,0,0,0,0,0,0,0,0,0,0,3,0,0] (Sp.opR x n r m z k q p)∧0=Sp.opE x n r m z k q p))))))))))))))):=by
 intro hw
 have no:∀ {y:Int},y≠0→Sp.opE x n r m z k q p=y→Sp.z31 (Sp.opR x n r m z k q p)∧y=Sp.opE x n r m z k q p:=fun h h1=>⟨by unfold Sp.opR; rw[if_neg (by omega)]; rfl,h1.symm⟩
 have ds:Sp.dst (Sp.opU x n r m z k q p)=decide (8000≤q∧q≤192000∧16≤p∧p≤8192):=rfl
 have e1:Sp.dsV x=false∨Sp.cval k=false∨Sp.dst (Sp.opU x n r m z k q p)=false→Sp.opE x n r m z k q p=1:=fun h=>if_pos h
 have e1':¬(8000≤q∧q≤192000∧16≤p∧p≤8192)→Sp.opE x n r m z k q p=1:=fun h=>e1 (.inr (.inr (ds.trans (decide_eq_false h))))
 simp only[D,E]
 refine⟨fun h=>no (by omega) (e1 (.inl h)),fun h=>⟨fun h1=>no (by omega) (e1 (.inr (.inl h1))),fun h1=>⟨fun h2=>no (by omega) (e1' (by omega)),fun g1=>⟨fun h2=>no (by omega) (e1' (by omega)),fun g2=>⟨fun h2=>no (by omega) (e1' (by omega)),fun g3=>⟨fun h2=>no (by omega) (e1' (by omega)),fun g4=> ?_⟩⟩⟩⟩⟩⟩
 have db:8000≤q∧q≤192000∧16≤p∧p≤8192:=by omega
 have h2:Sp.dst (Sp.opU x n r m z k q p)=true:=ds.trans (decide_eq_true db)
 have e2:Sp.opE x n r m z k q p=if Sp.ofH (ql 7 x) n r m z=false then 7 else if Sp.nN (Sp.opU x n r m z k q p)*64<Sp.nD (Sp.opU x n r m z k q p)∨Sp.nD (Sp.opU x n r m z k q p)*64<Sp.nN (Sp.opU x n r m z k q p)then 11 else if Sp.oE (Sp.opU x n r m z k q p)≠0 then Sp.oE (Sp.opU x n r m z k q p)else Sp.oBE (Sp.opU x n r m z k q p):=if_neg fun a=>a.elim (fun a=>by cases h.symm.trans a) fun a=>a.elim (fun a=>by cases h1.symm.trans a) fun a=>by cases h2.symm.trans a
 refine⟨fun h3=>no (by omega) (by rw[e2,if_pos h3]),fun h3=> ?_⟩
 rw[if_neg (by simp[h3])]at e2
 have pd:Sp.pd (Sp.opU x n r m z k q p):=⟨h,h3,db,h1⟩
 have rb:=Sp.ofH_bd h3
 have nb:=Sp.nm_b pd
 have nbr:Sp.nN (Sp.opU x n r m z k q p)*Sp.gcd r q=r:=nb.2.2.1
 have nbq:Sp.nD (Sp.opU x n r m z k q p)*Sp.gcd r q=q:=nb.2.2.2.1
 have gp:1≤Sp.gcd r q:=nb.2.2.2.2.1
 have l1:=Int.mul_lt_mul_right (a:=Sp.gcd r q) (b:=Sp.nN (Sp.opU x n r m z k q p)*64) (c:=Sp.nD (Sp.opU x n r m z k q p)) (by omega)
 have l2:=Int.mul_lt_mul_right (a:=Sp.gcd r q) (b:=Sp.nD (Sp.opU x n r m z k q p)*64) (c:=Sp.nN (Sp.opU x n r m z k q p)) (by omega)
 rw[Int.mul_right_comm,nbr,nbq]at l1
 rw[Int.mul_right_comm,nbr,nbq]at l2
 have dv:=(Sp.dsV_of h).1
 have w:=Sp.oW_b pd
 have xo:=Sp.x_o w.1
 have ib:=(Sp.in_b pd).1
 have bp:=Sp.pd_b pd
 refine⟨by simp only[InR]; omega,fun h4=>no (by omega) (by rw[e2,if_pos (.inr (l2.1 (by omega)))]),fun h4=>⟨by simp only[InR]; omega,fun h5=>no (by omega) (by rw[e2,if_pos (.inl (l1.1 (by omega)))]),fun h5=>⟨⟨by show 16≤p; omega,by show p≤8192; omega,by show 1≤r; omega,by show r≤768000; omega,by show 1≤q; omega,by show q≤192000; omega,by show qi 2 x=1∨qi 2 x=2; omega⟩,fun _=>⟨by simp only[InR]; omega,by simp only[InR]; omega,⟨by omega,by rw[w.1]; simp only[InR]; omega⟩,⟨by show 0≤qi 6 x; omega,by show qi 6 x≤4096; omega,by show qi 2 x=1∨qi 2 x=2; omega⟩,fun _=> ?_⟩⟩⟩⟩
 have n4:¬(Sp.nN (Sp.opU x n r m z k q p)*64<Sp.nD (Sp.opU x n r m z k q p)∨Sp.nD (Sp.opU x n r m z k q p)*64<Sp.nN (Sp.opU x n r m z k q p)):=fun a=>a.elim (fun a=>by have:=l1.2 a; omega) fun a=>by have:=l2.2 a; omega
 rw[if_neg n4]at e2
 rw[xo.2.2.2.1,xo.2.2.2.2,xo.1,xo.2.2.1,w.1]
 have w4:=Int.natAbs_tdiv_le_natAbs (Sp.oW (Sp.opU x n r m z k q p)) 4
 refine⟨⟨by omega,by simp only[InR]; omega⟩,fun _=>⟨fun h6=>no h6 (by rw[e2,if_pos h6]),fun h6 _ _=> ?_⟩⟩
 rw[if_neg (by omega)]at e2
 have po:=Sp.plan_b h6
 have ox:Sp.oX (Sp.opU x n r m z k q p) (Sp.oQ (Sp.opU x n r m z k q p))=Sp.oQ (Sp.opU x n r m z k q p):=if_pos h6
 have po':3≤Sp.oQ (Sp.opU x n r m z k q p)∧Sp.oQ (Sp.opU x n r m z k q p)≤65536:=⟨po.2.1,by have:=po.2.2.1; have:=po.2.2.2; show Sp.planQ _ _ _ _ _ _≤_; omega⟩
 have e0:Sp.opE x n r m z k q p=0:=e2.trans (Sp.pd_br pd h6)
 refine⟨by rw[ox]; simp only[InR]; omega,fun _=>⟨?_,e0.symm⟩⟩
 unfold Sp.opR; rw[if_pos e0]
 rfl
def r50:Cr PR:=K0 [r93,r75,r94,r106,r107,r108,r109,r95] 50 6 {ps:=[(true,hD),(true,hC),(true,[.sl hS]),(false,hI),(false,hI)],rs:=[(true,hV),(false,hI)],pre:=fun _=>True,out:=fun a=>[rb [0,2,0,0,0,0,0,3,0,0,3,0,0,0,3,1,0,0,0,0,0,0,0,0,0,0,0,0,3,0,0] (Sp.opR (arg 0 a) (I a 1 0) (I a 1 1) (L a 1 2) (I a 1 3) (L a 2 0) (I a 3 0) (I a 4 0)),[.i (Sp.opE (arg 0 a) (I a 1 0) (I a 1 1) (L a 1 2) (I a 1 3) (L a 2 0) (I a 3 0) (I a 4 0))]]} U fun a=>Y (v50 (arg 0 a) (I a 1 0) (I a 1 1) (L a 1 2) (I a 1 3) (L a 2 0) (I a 3 0) (I a 4 0))
end Go.Sx
namespace Go
open Go.Sx
end Go
namespace Go
open Go.Sx
end Go
namespace Go.Sx
end Go.Sx
namespace Go.Sx
end Go.Sx

