import Derived.Test.YtejdbdegdanecaaGreatSxUse
import Derived.Test.YtejdbdegdanecaaGreatM21
set_option linter.unusedVariables false
set_option linter.unusedSimpArgs false
set_option maxRecDepth 100000
set_option maxHeartbeats 4000000
namespace Go
open Go.Sx
def PE (f:List C->List C->List C) (a:List C) (xs:List (List C)) (i:Int):List C:=(xs.take i.toNat).foldl f a
def EP (xs:List (List C)) (i:Int):Prop:=0<=i/\i<=(xs.length:Int)
def Yf (a b:Int):Int:=Aaj .u64 (Aaj .u64 a-Aaj .u64 b)
def Ez (a b:Int):Int:=if b<a then Yf a b else Yf b a
def KT (a b:Int):Int:=if a<b then-1 else if b<a then 1 else 0
def Jm (w a b:Int):Int:=if KT (Ez a w) (Ez b w)≠0 then KT (Ez a w) (Ez b w)else KT a b
def IY (w a b:Int):Int:=if a=b then 0 else if a=w∨(b≠w/\b<a)then-1 else 1
def Uo (n:Int) (s x:List C):List C:=if qb 1 s=false∨Ez n (max (qi 0 x) (min (qi 1 x) n))<Ez n (qi 0 s)then[.i (max (qi 0 x) (min (qi 1 x) n)),.b true]else s
def EN (xs:List (List C)) (n i:Int):List C:=PE (Uo n) [.i 0,.b false] (AA xs) i
def F8 (xs:List (List C)) (n:Int):List C:=(AA xs).foldl (Uo n) [.i 0,.b false]
def Qi (b:List (List C)) (x:List C):Bool:=decide (0<=BK (Bc (qi 0 x)) 0 b)
def D7 (a b:List (List C)):List (List C):=(a.filter (Qi b)).map λx=>[.i (qi 0 x)]
def JU (a b:List (List C)) (i:Int):List (List C):=D7 (a.take i.toNat) b
def QT:List (List C)->List (List C)->Int
 |x::r,y::s=>if qi 0 x=qi 0 y then QT r s else if qi 0 x<qi 0 y then-1 else 1
 |_,_=>0
def UA (a b:List (List C)) (i:Int):Prop:=0<=i/\i<=(a.length:Int)/\a.length=b.length/\QT (a.drop i.toNat) (b.drop i.toNat)=QT a b
def GH (w a b:List (List C)):Int:=if Dk Cm a w≠Dk Cm b w then(if Dk Cm a w=true then-1 else 1)else if KT (D7 w b).length (D7 w a).length≠0 then KT (D7 w b).length (D7 w a).length else if KT (a.length:Int) b.length≠0 then KT (a.length:Int) b.length else QT a b
end Go
namespace Go
open Go.Sx
theorem PM {f:List C->List C->List C} {a:List C} {xs:List (List C)} {i:Int} (h0:0<=i) (h:i<(xs.length:Int)):PE f a xs (i+1)=f (PE f a xs i) (rGet xs i):=by
 unfold PE; rw[Abm h0 h,List.foldl_append]; rfl
theorem Ve {f:List C->List C->List C} {a:List C} {xs:List (List C)} {i:Int} (h:¬i<(xs.length:Int)):PE f a xs i=xs.foldl f a:=by
 unfold PE; rw[List.take_of_length_le (by omega)]
theorem NW {xs:List (List C)} {i:Int} (h:EP xs i) (hl:i<(xs.length:Int)):EP xs (i+1):=⟨by have:=h.1; omega,by omega⟩
theorem Y4 {a b:List (List C)} {i:Int} (h0:0<=i) (h:i<(a.length:Int)):JU a b (i+1)=JU a b i++(if 0<=BK (Bc (qi 0 (rGet a i))) 0 b then[[.i (qi 0 (rGet a i))]]else[]):=by
 unfold JU D7;rw[Abm h0 h,List.filter_append,List.map_append];congr 1;generalize rGet a i=x;by_cases hc:0<=BK (Bc (qi 0 x)) 0 b
 · rw[if_pos hc,show[x].filter (Qi b)=[x]from by simp[Qi,hc]]; rfl
 · rw[if_neg hc,show[x].filter (Qi b)=[]from by simp[Qi]; omega]; rfl
theorem QY (a b:List (List C)):(D7 a b).length<=a.length:=by
 unfold D7; rw[List.length_map]; exact List.length_filter_le ..
end Go
namespace Go.Sx
theorem v154 (a:Int) (b:Int):InR .i64 a/\InR .i64 b->True->Cn (bLt b a) (Aaj .u64 (iSub (Aaj .u64 a) (Aaj .u64 b))=Ez a b) (Aaj .u64 (iSub (Aaj .u64 b) (Aaj .u64 a))=Ez a b):=by
 intro hw hp;simp only[D];exact⟨λh=>(if_pos (by simpa[bLt]using h)).symm,λh=>(if_neg (by simpa[bLt]using h)).symm⟩
def r154:Cr PR:=Kw (λ_=>true) [] 154 6 {ps:=[(false,hI),(false,hI)],rs:=[(false,[.int .u64])],pre:=λ_=>True,out:=λa=>[[.i (Ez (I a 0 0) (I a 1 0))]]} U λa=>Y (v154 (I a 0 0) (I a 1 0))
end Go.Sx
namespace Go.Sx
theorem v85 (w:Int) (a:Int) (b:Int):InR .i64 w/\InR .i64 a/\InR .i64 b->True->True/\(InR .u64 (Ez a w)->True/\(InR .u64 (Ez b w)->Cn (bLt (Ez a w) (Ez b w)) (-1=Jm w a b) (Cn (bLt (Ez b w) (Ez a w)) (1=Jm w a b) (Cn (bLt a b) (-1=Jm w a b) (Cn (bLt b a) (1=Jm w a b) (0=Jm w a b)))))):=by
 intro hw hp;simp only[D,E];have o:∀x y:Int,KT x y=if x<y then-1 else if y<x then 1 else 0:=λ_ _=>rfl;unfold Jm;rw[o,o];generalize Ez a w=p;generalize Ez b w=q
 repeat' (first|apply And.intro|intro _)
 all_goals ((repeat' split)<;>omega)
def r85:Cr PR:=Kw (λ_=>true) [r154] 85 6 {ps:=[(false,hI),(false,hI),(false,hI)],rs:=[(false,hI)],pre:=λ_=>True,out:=λa=>[[.i (Jm (I a 0 0) (I a 1 0) (I a 2 0))]]} U λa=>Y (v85 (I a 0 0) (I a 1 0) (I a 2 0))
end Go.Sx
namespace Go.Sx
theorem v82 (w:Int) (a:Int) (b:Int):InR .i64 w/\InR .i64 a/\InR .i64 b->Cn (bEq a b) (0=IY w a b) (Cn (bEq a w) (-1=IY w a b) (Cn (bNe b w) (Cn (bLt b a) (-1=IY w a b) (1=IY w a b)) (1=IY w a b))):=by
 intro hw;simp only[D,E];unfold IY
 repeat' (first|apply And.intro|intro _)
 all_goals ((repeat' split)<;>omega)
def r82:Cr PR:=K0 [] 82 6 {ps:=[(false,hI),(false,hI),(false,hI)],rs:=[(false,hI)],pre:=λ_=>True,out:=λa=>[[.i (IY (I a 0 0) (I a 1 0) (I a 2 0))]]} U λa=>Y (v82 (I a 0 0) (I a 1 0) (I a 2 0))
end Go.Sx
namespace Go.Sx
theorem v150 (a:Int) (b:Int):InR .i64 a/\InR .i64 b->True->Cn (bLt a b) (Aaj .u64 (iSub (Aaj .u64 b) (Aaj .u64 a))=Ez b a) (Aaj .u64 (iSub (Aaj .u64 a) (Aaj .u64 b))=Ez b a):=by
 intro hw hp;simp only[D];exact⟨λh=>(if_pos (by simpa[bLt]using h)).symm,λh=>(if_neg (by simpa[bLt]using h)).symm⟩
def r150:Cr PR:=Kw (λ_=>true) [] 150 6 {ps:=[(false,hI),(false,hI)],rs:=[(false,[.int .u64])],pre:=λ_=>True,out:=λa=>[[.i (Ez (I a 1 0) (I a 0 0))]]} U λa=>Y (v150 (I a 0 0) (I a 1 0))
end Go.Sx
namespace Go.Sx
def A83 (xs:List (List C)) (n:Int):FuncId->Nat->LoopAnn:=λ_ _=> .inv Int (λz=>EP (AA xs) z) (λz=>[(14,.int .i64 z),(6,.int .i64 (qi 0 (EN xs n z))),(7,.bool (qb 1 (EN xs n z)))]) (λ_=>[]) [] [0,1,2,4,5,6,7,9,10,12,13,14,15,35] (λz=>(AA xs).length-z.toNat)
def AjR (xs:List (List C)) (n:Int) (x:Int):Prop:=InR .i64 (iAdd x 1)/\Sm [C.l xs]/\Sm n/\Sm (AA xs)/\Sm (iLen (AA xs))/\Sm [C.l xs]/\∃(y:Int),EP (AA xs) y/\iAdd x 1=y/\iMax (qi 0 (rGet (AA xs) x)) (iMin (qi 1 (rGet (AA xs) x)) n)=qi 0 (EN xs n y)/\true=qb 1 (EN xs n y)/\nLt ((AA xs).length-y.toNat) ((AA xs).length-x.toNat)
theorem v83 (xs:List (List C)) (n:Int):WL hII xs/\InR .i64 n->True/\(WL hII (AA xs)->pLe (iLen (AA xs)) 9223372036854775807->(∃(x:Int),EP (AA xs) x/\0=x/\0=qi 0 (EN xs n x)/\false=qb 1 (EN xs n x))/\∀(x:Int),EP (AA xs) x->InR .i64 x/\InR .i64 (qi 0 (EN xs n x))->Cn (bLt x (iLen (AA xs))) (pIn 0 (iLen (AA xs)) x/\(InR .i64 (qi 0 (rGet (AA xs) x))/\InR .i64 (qi 1 (rGet (AA xs) x))->True/\Cn (bNot (qb 1 (EN xs n x))) ((AjR xs n x)) (True/\(InR .u64 (Ez n (iMax (qi 0 (rGet (AA xs) x)) (iMin (qi 1 (rGet (AA xs) x)) n)))->True/\(InR .u64 (Ez n (qi 0 (EN xs n x)))->Cn (bLt (Ez n (iMax (qi 0 (rGet (AA xs) x)) (iMin (qi 1 (rGet (AA xs) x)) n))) (Ez n (qi 0 (EN xs n x)))) ((AjR xs n x)) (InR .i64 (iAdd x 1)/\Sm [C.l xs]/\Sm n/\Sm (AA xs)/\Sm (iLen (AA xs))/\Sm [C.l xs]/\∃(y:Int),EP (AA xs) y/\iAdd x 1=y/\qi 0 (EN xs n x)=qi 0 (EN xs n y)/\qb 1 (EN xs n x)=qb 1 (EN xs n y)/\nLt ((AA xs).length-y.toNat) ((AA xs).length-x.toNat))))))) (qi 0 (EN xs n x)=qi 0 (F8 xs n)/\qb 1 (EN xs n x)=qb 1 (F8 xs n))):=by
 intro hw;delta AjR;simp only[D,E];refine λhW _=>⟨⟨0,⟨Int.le_refl _,by omega⟩,rfl,rfl,rfl⟩,?_⟩
 intro x hx _;refine⟨λhl=>⟨⟨hx.1,hl⟩,λ_=> ?_⟩,λhl=> ?_⟩
 · have e : EN xs n (x + 1) = Uo n (EN xs n x) (rGet (AA xs) x) := PM hx.1 hl;have ix := inS hW hx.1 hl;have yes : qb 1 (EN xs n x) = false ∨ Ez n (max (qi 0 (rGet (AA xs) x)) (min (qi 1 (rGet (AA xs) x)) n)) < Ez n (qi 0 (EN xs n x)) -> ∃ y, EP (AA xs) y /\ x + 1 = y /\ max (qi 0 (rGet (AA xs) x)) (min (qi 1 (rGet (AA xs) x)) n) = qi 0 (EN xs n y) /\ true = qb 1 (EN xs n y) /\ (AA xs).length - y.toNat < (AA xs).length - x.toNat := λh => by
    have e2:=e.trans (if_pos h);exact⟨x+1,NW hx hl,rfl,by rw[e2]; rfl,by rw[e2]; rfl,by have:=hx.1; omega⟩
   refine⟨λh=>⟨ix,yes (.inl h)⟩,λh _ _=>⟨λh1=>⟨ix,yes (.inr h1)⟩,λh1=> ?_⟩⟩;have e2:EN xs n (x+1)=EN xs n x:=e.trans (if_neg (by rw[h]; rintro(a|a)<;>first|exact h1 a|cases a));exact⟨ix,x+1,NW hx hl,rfl,by rw[e2],by rw[e2],by have:=hx.1; omega⟩
 · have e:EN xs n x=F8 xs n:=Ve hl;rw[e]; exact⟨rfl,rfl⟩
def r83:Cr PR:=K0 [r149,r150] 83 6 {ps:=[(true,[.sl hII]),(false,hI)],rs:=[(false,hI),(false,[.bool])],pre:=λ_=>True,out:=λa=>[[.i (qi 0 (F8 (L a 0 0) (I a 1 0)))],[.b (qb 1 (F8 (L a 0 0) (I a 1 0)))]]} (λa=>A83 (L a 0 0) (I a 1 0)) λa=>Y (v83 (L a 0 0) (I a 1 0))
end Go.Sx
namespace Go.Sx
def A153 (a:List (List C)) (b:List (List C)):FuncId->Nat->LoopAnn:=λ_ _=> .ghost 5 hI 3 (.on (λsv0=>match sv0.tmps.getD 5 .undef with| .own rr _=> .inv Int (λz=>EP a z) (λz=>[(10,.int .i64 z),(5,.own rr 0)]) (λz=>[(rr,.row hI 3 0 (JU a b z))]) [rr] [0,1,4,5,7,8,9,10,11,17] (λz=>a.length-z.toNat)|_=> .unroll 0))
theorem v153 (a:List (List C)) (b:List (List C)):WL hI a/\WL hI b->pLe (iLen a) 1000->pLe (iLen a) 9223372036854775807->(∃(x:Int),EP a x/\0=x/\[]=JU a b x)/\∀(x:Int),EP a x->InR .i64 x/\WL hI (JU a b x)->Cn (bLt x (iLen a)) (pIn 0 (iLen a) x/\(InR .i64 (qi 0 (rGet a x))->True/\(InR .i64 (BK (Bc (qi 0 (rGet a x))) 0 b)->Cn (bLe 0 (BK (Bc (qi 0 (rGet a x))) 0 b)) (Aar 8 (iLen (JU a b x++[[C.i (qi 0 (rGet a x))]]))/\InR .i64 (iAdd x 1)/\Sm a/\Sm b/\Sm a/\Sm (iLen a)/\∃(y:Int),EP a y/\iAdd x 1=y/\JU a b x++[[C.i (qi 0 (rGet a x))]]=JU a b y/\nLt (a.length-y.toNat) (a.length-x.toNat)) (InR .i64 (iAdd x 1)/\Sm a/\Sm b/\Sm a/\Sm (iLen a)/\∃(y:Int),EP a y/\iAdd x 1=y/\JU a b x=JU a b y/\nLt (a.length-y.toNat) (a.length-x.toNat))))) (JU a b x=D7 a b):=by
 intro hw hp;simp only[D,E]at hp ⊢;refine λ_=>⟨⟨0,⟨Int.le_refl _,by omega⟩,rfl,rfl⟩,?_⟩
 intro x hx _;have x0:=hx.1;refine⟨λhl=>⟨⟨x0,hl⟩,λ_ _=> ?_⟩,λhl=> ?_⟩
 · have e:=Y4 (b:=b) x0 hl;have l:=QY (a.take x.toNat) b;have l':(JU a b x).length<=(a.take x.toNat).length:=l;rw[List.length_take]at l';have ix:InR .i64 (x+1):=by simp only[InR]; omega
   refine⟨λh=>⟨by rw[List.length_append,List.length_singleton]; omega,ix,x+1,NW hx hl,rfl,?_,by omega⟩,λh=>⟨ix,x+1,NW hx hl,rfl,?_,by omega⟩⟩
   · rw[e,if_pos h]
   · rw[e,if_neg (by omega),List.append_nil]
 · unfold JU; rw[List.take_of_length_le (by omega)]
def r153:Cr PR:=K [r102] 153 8 {ps:=[(false,hL),(false,hL)],rs:=[(false,hL)],pre:=λa=>pLe (iLen (L a 0 0)) 1000,out:=λa=>[[.l (D7 (L a 0 0) (L a 1 0))]]} (λa=>A153 (L a 0 0) (L a 1 0)) λa=>Y (v153 (L a 0 0) (L a 1 0))
end Go.Sx
namespace Go.Sx
def A84 (a:List (List C)) (b:List (List C)):FuncId->Nat->LoopAnn:=λ_ _=>lp 48 a.length (UA a b) [0,1,2,6,7,8,9,10,11,20,21,34,44,47,48,49,59,68]
theorem v84 (w:List (List C)) (a:List (List C)) (b:List (List C)):WL hI w/\WL hI a/\WL hI b->pLe (iLen w) 1000->True/\True/\Cn (Ajq (Dk Cm a w) (Dk Cm b w)) (Cn (Dk Cm a w) (-1=GH w a b) (1=GH w a b)) (pLe (iLen w) 1000/\(WL hI (D7 w b)->pLe (iLen (D7 w b)) 9223372036854775807->pLe (iLen w) 1000/\(WL hI (D7 w a)->pLe (iLen (D7 w a)) 9223372036854775807->Cn (bLt (Aaj .u64 (iLen (D7 w b))) (Aaj .u64 (iLen (D7 w a)))) (-1=GH w a b) (Cn (bLt (Aaj .u64 (iLen (D7 w a))) (Aaj .u64 (iLen (D7 w b)))) (1=GH w a b) (pLe (iLen a) 9223372036854775807->pLe (iLen b) 9223372036854775807->Cn (bLt (Aaj .u64 (iLen a)) (Aaj .u64 (iLen b))) (-1=GH w a b) (Cn (bLt (Aaj .u64 (iLen b)) (Aaj .u64 (iLen a))) (1=GH w a b) (pLe (iLen a) 9223372036854775807->(∃(x:Int),UA a b x/\0=x)/\∀(x:Int),UA a b x->InR .i64 x->Cn (bLt x (iLen a)) (pIn 0 (iLen a) x/\(InR .i64 (qi 0 (rGet a x))->pIn 0 (iLen b) x/\(InR .i64 (qi 0 (rGet b x))->Cn (bNe (qi 0 (rGet a x)) (qi 0 (rGet b x))) (pIn 0 (iLen a) x/\(InR .i64 (qi 0 (rGet a x))->pIn 0 (iLen b) x/\(InR .i64 (qi 0 (rGet b x))->Cn (bLt (qi 0 (rGet a x)) (qi 0 (rGet b x))) (-1=GH w a b) (1=GH w a b)))) (Sm w/\Sm a/\Sm b/\Sm (Dk Cm a w)/\Sm (Dk Cm b w)/\Sm (iLen a)/\∃(y:Int),UA a b y/\Aaj .i64 (iAdd x 1)=y/\nLt (a.length-y.toNat) (a.length-x.toNat))))) (0=GH w a b)))))))):=by
 intro hw hp;have la:=hw.2.1.1;have lb:=hw.2.2.1;have ml:maxLen=9223372036854775807:=rfl;have ca:=QY w a;have cb:=QY w b;simp only[D,E]at hp ⊢;have wr:∀n:Nat,n<=maxLen->Aaj .u64 (n:Int)=n:=λn h=>Bv (by omega) (by omega);rw[wr _ (show(D7 w b).length<=maxLen by omega),wr _ (show(D7 w a).length<=maxLen by omega),wr _ la,wr _ lb];have o:∀x y:Int,KT x y=if x<y then-1 else if y<x then 1 else 0:=λ_ _=>rfl;have M:GH w a b=if Dk Cm a w≠Dk Cm b w then(if Dk Cm a w=true then-1 else 1)else if KT (D7 w b).length (D7 w a).length≠0 then KT (D7 w b).length (D7 w a).length else if KT (a.length:Int) b.length≠0 then KT (a.length:Int) b.length else QT a b:=rfl;have m1:(Dk Cm a w==Dk Cm b w)=false->GH w a b=if Dk Cm a w=true then-1 else 1:=λh=>if_pos (by simpa using h);refine⟨λh=>⟨λh1=>by rw[m1 h,if_pos h1],λh1=>by rw[m1 h,if_neg (by simp[h1])]⟩,λh=>⟨hp,λ_ _=>⟨hp,λ_ _=> ?_⟩⟩⟩;rw[if_neg (by simpa using h)]at M;refine⟨λg=>by rw[M,o,if_pos g,if_pos (by decide)],λg=>⟨λg'=>by rw[M,o,if_neg g,if_pos g',if_pos (by decide)],λg' _ _=> ?_⟩⟩;rw[o,if_neg g,if_neg g',if_neg (by decide)]at M;refine⟨λk=>by rw[M,o,if_pos k,if_pos (by decide)],λk=>⟨λk'=>by rw[M,o,if_neg k,if_pos k',if_pos (by decide)],λk' _=> ?_⟩⟩;rw[o,if_neg k,if_neg k',if_neg (by decide)]at M;rw[M]
 refine⟨⟨0,⟨Int.le_refl _,by omega,by omega,rfl⟩,rfl⟩,?_⟩;intro x ⟨x0,x1,x2,x3⟩ _;refine⟨λhl=>⟨⟨x0,hl⟩,λ_=>⟨⟨x0,by omega⟩,λ_=> ?_⟩⟩,λhl=> ?_⟩
 · rw[Aaq x0 hl,Aaq x0 (by omega),QT]at x3;refine⟨λn=>⟨⟨x0,hl⟩,λ_=>⟨⟨x0,by omega⟩,λ_=>⟨λu=> ?_,λu=> ?_⟩⟩⟩,λn=>⟨x+1,⟨by omega,by omega,x2,?_⟩,GY (by omega) (by omega),by omega⟩⟩
   · rw[←x3,if_neg n,if_pos u]
   · rw[←x3,if_neg n,if_neg u]
   · rw[←x3,if_pos n]
 · rw[←x3,List.drop_eq_nil_of_le (by omega)]; rfl
def r84:Cr PR:=Kw (λ_=>true) [r151,r153] 84 8 {ps:=[(false,hL),(false,hL),(false,hL)],rs:=[(false,hI)],pre:=λa=>pLe (iLen (L a 0 0)) 1000,out:=λa=>[[.i (GH (L a 0 0) (L a 1 0) (L a 2 0))]]} (λa=>A84 (L a 1 0) (L a 2 0)) λa=>Y (v84 (L a 0 0) (L a 1 0) (L a 2 0))
end Go.Sx

set_option linter.unusedVariables false
set_option linter.unusedSimpArgs false
set_option maxRecDepth 100000
set_option maxHeartbeats 4000000
namespace Go
open Go.Sx
def QR (k w:Int):Nat->Int
 |0=>0
 |n+1=>if Hq k (n+1)=true/\(QR k w n=0∨IY w (n+1) (QR k w n)<0)then n+1 else QR k w n
def QN (k w z:Int):Prop:=1<=z/\z<=8
def Gi (k w z:Int):Int:=QR k w (z-1).toNat
def O4 (w:List (List C)) (s x:List C):List C:=if qb 1 s=false∨GH w (ql 0 x) (ql 0 s)<0 then[.l (ql 0 x),.b true]else s
def Wq:List C:=[.l [],.b false]
def Gy (w ms:List (List C)) (z:Int):List C:=PE (O4 w) Wq ms z
def XJ (w ms:List (List C)):List C:=ms.foldl (O4 w) Wq
def IU (b c:List C):List C:=[.i (QR (qi 0 b) (qi 0 c) 7),.i (qi 0 (F8 (ql 1 b) (qi 1 c))),.l (ql 0 (XJ (ql 2 c) (ql 2 b))),.i (qi 0 (F8 (ql 3 b) (qi 3 c)))]
def Nl (w a b:List C):Int:=if IY (qi 0 w) (qi 0 a) (qi 0 b)≠0 then IY (qi 0 w) (qi 0 a) (qi 0 b)else if Jm (qi 1 w) (qi 1 a) (qi 1 b)≠0 then Jm (qi 1 w) (qi 1 a) (qi 1 b)else if GH (ql 2 w) (ql 2 a) (ql 2 b)≠0 then GH (ql 2 w) (ql 2 a) (ql 2 b)else Jm (qi 3 w) (qi 3 a) (qi 3 b)
def Uj (w:List C) (s x:List C):List C:=if qb 4 s=false∨Nl w (IU x w) s<0 then[.i (qi 0 (IU x w)),.i (qi 1 (IU x w)),.l (ql 2 (IU x w)),.i (qi 3 (IU x w)),.b true]else s
def YJ:List C:=[.i 0,.i 0,.l [],.i 0,.b false]
def BG (w:List C) (l:List (List C)) (z:Int):List C:=PE (Uj w) YJ (AL l) z
def IA (w:List C) (l:List (List C)):List C:=(AL l).foldl (Uj w) YJ
end Go
namespace Go
open Go.Sx
theorem ZP {k w x:Int} (h:1<=x):Gi k w (x+1)=if Hq k x=true/\(Gi k w x=0∨IY w x (Gi k w x)<0)then x else Gi k w x:=by
 unfold Gi;rw[show(x+1-1).toNat=(x-1).toNat+1 by omega,QR,show((x-1).toNat:Int)+1=x by omega]
theorem Zz {w ms:List (List C)} {z:Int} (hz:EP ms z) (h:0<z):qb 1 (Gy w ms z)=true:=by
 have e:Gy w ms (z-1+1)=O4 w (Gy w ms (z-1)) (rGet ms (z-1)):=PM (by omega) (by have:=hz.2; omega);rw[show z-1+1=z by omega]at e;rw[e];unfold O4;split
 · rfl
 · rename_i n
   cases hb:qb 1 (Gy w ms (z-1))
   · exact(n (.inl hb)).elim
   · rfl
end Go
namespace Go.Sx
def A39 (b:List C) (c:List C):FuncId->Nat->LoopAnn:=λ_ ii=>bif Nat.beq ii 3 then .on (λsv0=>match(sv0.heap[3]? :Option HB)with|some (.box [_,r,m,s] ty)=> .inv Int (λz=>QN (qi 0 b) (qi 0 c) z) (λz=>[(6,.int .i64 z)]) (λz=>[(3,.box [.int .i64 (Gi (qi 0 b) (qi 0 c) z),r,m,s] ty)]) [3] [0,1,2,3,4,5,6,7,8,10,33,58,59,60,61,77] (λz=>(8-z).toNat)|_=> .unroll 0)else .on (λsv0=>match(sv0.heap[3]? :Option HB)with|some (.box [k,r,_,s] ty)=> .inv Int (λz=>EP (ql 2 b) z) (λz=>[(60,.int .i64 z)]) (λz=>[(3,.box [k,r,.sl hI (ql 0 (Gy (ql 2 c) (ql 2 b) z)),s] ty)]) [3] [0,1,2,3,4,5,6,7,8,10,33,58,59,60,61,77] (λz=>(ql 2 b).length-z.toNat)|_=> .unroll 0)
def Aka (b:List C) (c:List C) (x:Int) (x_1:Int):Prop:=InR .i64 (iAdd x_1 1)/\Sm (sg 0 [0,3,3,3] b)/\Sm (sg 0 [0,0,3,0] c)/\Sm x/\Sm (ql 2 b)/\Sm (iLen (ql 2 b))/\Sm (sg 0 [0,3,3,3] b)/\Sm (sg 0 [0,0,3,0] c)/\∃(y:Int),EP (ql 2 b) y/\iAdd x_1 1=y/\Sm (Gi (qi 0 b) (qi 0 c) x)/\Sm (qi 0 (F8 (ql 1 b) (qi 1 c)))/\ql 0 (rGet (ql 2 b) x_1)=ql 0 (Gy (ql 2 c) (ql 2 b) y)/\Sm (qi 0 (F8 (ql 3 b) (qi 3 c)))/\nLt ((ql 2 b).length-y.toNat) ((ql 2 b).length-x_1.toNat)
def Aj9 (b:List C) (c:List C) (x:Int):Prop:=InR .i64 (iAdd x 1)/\Sm (sg 0 [0,3,3,3] b)/\Sm (sg 0 [0,0,3,0] c)/\Sm (sg 0 [0,3,3,3] b)/\Sm (sg 0 [0,0,3,0] c)/\∃(y:Int),QN (qi 0 b) (qi 0 c) y/\iAdd x 1=y/\Gi (qi 0 b) (qi 0 c) x=Gi (qi 0 b) (qi 0 c) y/\Sm (0:Int)/\Sm (0:Int)/\nLt (8-y).toNat (8-x).toNat
def Aj8 (b:List C) (c:List C) (x:Int):Prop:=InR .i64 (iAdd x 1)/\Sm (sg 0 [0,3,3,3] b)/\Sm (sg 0 [0,0,3,0] c)/\Sm (sg 0 [0,3,3,3] b)/\Sm (sg 0 [0,0,3,0] c)/\∃(y:Int),QN (qi 0 b) (qi 0 c) y/\iAdd x 1=y/\x=Gi (qi 0 b) (qi 0 c) y/\Sm (0:Int)/\Sm (0:Int)/\nLt (8-y).toNat (8-x).toNat
theorem v39 (b:List C) (c:List C):InR .i64 (qi 0 b)/\WL hII (ql 1 b)/\WL [Sh.sl hI] (ql 2 b)/\WL hII (ql 3 b)/\InR .i64 (qi 0 c)/\InR .i64 (qi 1 c)/\WL hI (ql 2 c)/\InR .i64 (qi 3 c)->pLe (iLen (ql 2 c)) 1000->(∃(x:Int),QN (qi 0 b) (qi 0 c) x/\1=x/\0=Gi (qi 0 b) (qi 0 c) x/\Sm (0:Int)/\Sm (0:Int))/\∀(x:Int),QN (qi 0 b) (qi 0 c) x->InR .i64 x/\InR .i64 (Gi (qi 0 b) (qi 0 c) x)/\InR .i64 0/\InR .i64 0->Cn (bLe x 7) (True/\Cn (Hq (qi 0 b) x) (Cn (bEq (Gi (qi 0 b) (qi 0 c) x) 0) ((Aj8 b c x)) (True/\(InR .i64 (IY (qi 0 c) x (Gi (qi 0 b) (qi 0 c) x))->Cn (bLt (IY (qi 0 c) x (Gi (qi 0 b) (qi 0 c) x)) 0) ((Aj8 b c x)) ((Aj9 b c x))))) ((Aj9 b c x))) (True/\(InR .i64 (qi 0 (F8 (ql 1 b) (qi 1 c)))->True/\(InR .i64 (qi 0 (F8 (ql 3 b) (qi 3 c)))->pLe (iLen (ql 2 b)) 9223372036854775807->(∃(x_1:Int),EP (ql 2 b) x_1/\0=x_1/\Sm (Gi (qi 0 b) (qi 0 c) x)/\Sm (qi 0 (F8 (ql 1 b) (qi 1 c)))/\ql 0 (Gy (ql 2 c) (ql 2 b) x_1)=[]/\Sm (qi 0 (F8 (ql 3 b) (qi 3 c))))/\∀(x_1:Int),EP (ql 2 b) x_1->InR .i64 x_1/\InR .i64 (Gi (qi 0 b) (qi 0 c) x)/\InR .i64 (qi 0 (F8 (ql 1 b) (qi 1 c)))/\WL hI (ql 0 (Gy (ql 2 c) (ql 2 b) x_1))/\InR .i64 (qi 0 (F8 (ql 3 b) (qi 3 c)))->Cn (bLt x_1 (iLen (ql 2 b))) (pIn 0 (iLen (ql 2 b)) x_1/\(WL hI (ql 0 (rGet (ql 2 b) x_1))->Cn (bEq x_1 0) ((Aka b c x x_1)) (pLe (iLen (ql 2 c)) 1000/\(InR .i64 (GH (ql 2 c) (ql 0 (rGet (ql 2 b) x_1)) (ql 0 (Gy (ql 2 c) (ql 2 b) x_1)))->Cn (bLt (GH (ql 2 c) (ql 0 (rGet (ql 2 b) x_1)) (ql 0 (Gy (ql 2 c) (ql 2 b) x_1))) 0) ((Aka b c x x_1)) (InR .i64 (iAdd x_1 1)/\Sm (sg 0 [0,3,3,3] b)/\Sm (sg 0 [0,0,3,0] c)/\Sm x/\Sm (ql 2 b)/\Sm (iLen (ql 2 b))/\Sm (sg 0 [0,3,3,3] b)/\Sm (sg 0 [0,0,3,0] c)/\∃(y:Int),EP (ql 2 b) y/\iAdd x_1 1=y/\Sm (Gi (qi 0 b) (qi 0 c) x)/\Sm (qi 0 (F8 (ql 1 b) (qi 1 c)))/\ql 0 (Gy (ql 2 c) (ql 2 b) x_1)=ql 0 (Gy (ql 2 c) (ql 2 b) y)/\Sm (qi 0 (F8 (ql 3 b) (qi 3 c)))/\nLt ((ql 2 b).length-y.toNat) ((ql 2 b).length-x_1.toNat)))))) (Gi (qi 0 b) (qi 0 c) x=qi 0 (IU b c)/\qi 0 (F8 (ql 1 b) (qi 1 c))=qi 1 (IU b c)/\ql 0 (Gy (ql 2 c) (ql 2 b) x_1)=ql 2 (IU b c)/\qi 0 (F8 (ql 3 b) (qi 3 c))=qi 3 (IU b c))))):=by
 intro hw hp;delta Aka Aj9 Aj8;simp only[D,E]at hp ⊢;refine⟨⟨1,⟨by omega,by omega⟩,rfl,rfl⟩,?_⟩;intro x ⟨x1,x2⟩ _;have st:∀ {v:Int},x<=7->v=Gi (qi 0 b) (qi 0 c) (x+1)->InR .i64 (x+1)/\∃y,QN (qi 0 b) (qi 0 c) y/\x+1=y/\v=Gi (qi 0 b) (qi 0 c) y/\(8-y).toNat<(8-x).toNat:=λhl e=>⟨by simp only[InR]; omega,x+1,⟨by omega,by omega⟩,rfl,e,by omega⟩
 have bs:=ZP (k:=qi 0 b) (w:=qi 0 c) x1;refine⟨λhl=>⟨λhk=>⟨λh0=>st hl ?_,λh0 _=>⟨λh1=>st hl ?_,λh1=>st hl ?_⟩⟩,λhk=>st hl ?_⟩,λhl _ _ _=> ?_⟩
 · rw[bs,if_pos ⟨hk,.inl h0⟩]
 · rw[bs,if_pos ⟨hk,.inr h1⟩]
 · rw[bs,if_neg (λa=>a.2.elim (by omega) (by omega))]
 · rw[bs,if_neg (λa=>by rw[hk]at a; cases a.1)]
 have x8:x=8:=by omega
 subst x8;refine⟨⟨0,⟨Int.le_refl _,by omega⟩,rfl,rfl⟩,?_⟩;intro z hz _;have z0:=hz.1;have wl:=hw.2.2.1;have st:∀ {v:List (List C)},z<((ql 2 b).length:Int)->v=ql 0 (Gy (ql 2 c) (ql 2 b) (z+1))->InR .i64 (z+1)/\∃y,EP (ql 2 b) y/\z+1=y/\v=ql 0 (Gy (ql 2 c) (ql 2 b) y)/\(ql 2 b).length-y.toNat<(ql 2 b).length-z.toNat:=λhl e=>⟨inS wl z0 hl,z+1,NW hz hl,rfl,e,by omega⟩
 refine⟨λhl=>⟨⟨z0,hl⟩,λ_=>⟨λh0=>st hl ?_,λh0=>⟨hp,λ_=>⟨λh1=>st hl ?_,λh1=>st hl ?_⟩⟩⟩⟩,λhl=> ?_⟩
 · have e:Gy (ql 2 c) (ql 2 b) (z+1)=_:=PM z0 hl;rw[e,O4,if_pos (.inl (by rw[h0]; rfl))]; rfl
 · have e:Gy (ql 2 c) (ql 2 b) (z+1)=_:=PM z0 hl;rw[e,O4,if_pos (.inr h1)]; rfl
 · have e:Gy (ql 2 c) (ql 2 b) (z+1)=_:=PM z0 hl;have f:=Zz (w:=ql 2 c) hz (by omega);rw[e,O4,if_neg]; rfl;rintro(a|a)
   · rw[show PE (O4 (ql 2 c)) Wq (ql 2 b) z=Gy (ql 2 c) (ql 2 b) z from rfl,f]at a; cases a
   · exact h1 a
 · have e:Gy (ql 2 c) (ql 2 b) z=XJ (ql 2 c) (ql 2 b):=Ve hl;rw[e]; exact⟨rfl,rfl,rfl,rfl⟩
def r39:Cr PR:=K [r81,r82,r83,r84] 39 8 {ps:=[(true,hX),(true,hC)],rs:=[(true,hC)],pre:=λa=>pLe (iLen (ql 2 (arg 1 a))) 1000,out:=λa=>[rb [0,0,3,0] (IU (arg 0 a) (arg 1 a))]} (λa=>A39 (arg 0 a) (arg 1 a)) λa=>Y (v39 (arg 0 a) (arg 1 a))
end Go.Sx
namespace Go.Sx
theorem v40 (w:List C) (a:List C) (b:List C):InR .i64 (qi 0 w)/\InR .i64 (qi 1 w)/\WL hI (ql 2 w)/\InR .i64 (qi 3 w)/\InR .i64 (qi 0 a)/\InR .i64 (qi 1 a)/\WL hI (ql 2 a)/\InR .i64 (qi 3 a)/\InR .i64 (qi 0 b)/\InR .i64 (qi 1 b)/\WL hI (ql 2 b)/\InR .i64 (qi 3 b)->pLe (iLen (ql 2 w)) 1000->True/\(InR .i64 (IY (qi 0 w) (qi 0 a) (qi 0 b))->Cn (bNe (IY (qi 0 w) (qi 0 a) (qi 0 b)) 0) (IY (qi 0 w) (qi 0 a) (qi 0 b)=Nl w a b) (True/\(InR .i64 (Jm (qi 1 w) (qi 1 a) (qi 1 b))->Cn (bNe (Jm (qi 1 w) (qi 1 a) (qi 1 b)) 0) (Jm (qi 1 w) (qi 1 a) (qi 1 b)=Nl w a b) (pLe (iLen (ql 2 w)) 1000/\(InR .i64 (GH (ql 2 w) (ql 2 a) (ql 2 b))->Cn (bNe (GH (ql 2 w) (ql 2 a) (ql 2 b)) 0) (GH (ql 2 w) (ql 2 a) (ql 2 b)=Nl w a b) (True/\(InR .i64 (Jm (qi 3 w) (qi 3 a) (qi 3 b))->Jm (qi 3 w) (qi 3 a) (qi 3 b)=Nl w a b))))))):=by
 intro hw hp;simp only[D,E]at hp ⊢;unfold Nl;refine λ_=>⟨λh=>(if_pos h).symm,λh _=> ?_⟩
 rw[if_neg (by omega)];refine⟨λh1=>(if_pos h1).symm,λh1=>⟨hp,λ_=> ?_⟩⟩;rw[if_neg (by omega)];exact⟨λh2=>(if_pos h2).symm,λh2 _=>(if_neg (by omega)).symm⟩
def r40:Cr PR:=K [r82,r85,r84] 40 8 {ps:=[(true,hC),(true,hC),(true,hC)],rs:=[(false,hI)],pre:=λa=>pLe (iLen (ql 2 (arg 0 a))) 1000,out:=λa=>[[.i (Nl (arg 0 a) (arg 1 a) (arg 2 a))]]} U λa=>Y (v40 (arg 0 a) (arg 1 a) (arg 2 a))
end Go.Sx
namespace Go.Sx
def A17 (l:List (List C)) (w:List C):FuncId->Nat->LoopAnn:=λ_ _=> .inv Int (λz=>EP (AL l) z) (λz=>[(14,.int .i64 z),(7,.bool (qb 4 (BG w l z)))]) (λz=>[(2,.box [.int .i64 (qi 0 (BG w l z)),.int .i64 (qi 1 (BG w l z)),.sl hI (ql 2 (BG w l z)),.int .i64 (qi 3 (BG w l z))] 38)]) [2] [0,1,3,4,5,6,7,9,10,12,13,14,15,29] (λz=>(AL l).length-z.toNat)
def Ad2 (l:List (List C)) (w:List C) (x:Int):List C:=(IU (rGet (AL l) x) w)
def Akj (l:List (List C)) (w:List C) (x:Int):Prop:=InR .i64 (iAdd x 1)/\Sm l/\Sm (sg 0 [0,0,3,0] w)/\Sm (AL l)/\Sm (iLen (AL l))/\Sm (sg 0 [0,0,3,0] w)/\∃(y:Int),EP (AL l) y/\iAdd x 1=y/\true=qb 4 (BG w l y)/\qi 0 (Ad2 l w x)=qi 0 (BG w l y)/\qi 1 (Ad2 l w x)=qi 1 (BG w l y)/\ql 2 (Ad2 l w x)=ql 2 (BG w l y)/\qi 3 (Ad2 l w x)=qi 3 (BG w l y)/\nLt ((AL l).length-y.toNat) ((AL l).length-x.toNat)
theorem v17 (l:List (List C)) (w:List C):WL hX l/\InR .i64 (qi 0 w)/\InR .i64 (qi 1 w)/\WL hI (ql 2 w)/\InR .i64 (qi 3 w)->pLe (iLen (ql 2 w)) 1000->True/\(WL hX (AL l)->pLe (iLen (AL l)) 9223372036854775807->(∃(x:Int),EP (AL l) x/\0=x/\false=qb 4 (BG w l x)/\0=qi 0 (BG w l x)/\0=qi 1 (BG w l x)/\ql 2 (BG w l x)=[]/\0=qi 3 (BG w l x))/\∀(x:Int),EP (AL l) x->InR .i64 x/\InR .i64 (qi 0 (BG w l x))/\InR .i64 (qi 1 (BG w l x))/\WL hI (ql 2 (BG w l x))/\InR .i64 (qi 3 (BG w l x))->Cn (bLt x (iLen (AL l))) (pIn 0 (iLen (AL l)) x/\(InR .i64 (qi 0 (rGet (AL l) x))/\WL hII (ql 1 (rGet (AL l) x))/\WL [Sh.sl hI] (ql 2 (rGet (AL l) x))/\WL hII (ql 3 (rGet (AL l) x))->pLe (iLen (ql 2 w)) 1000/\(InR .i64 (qi 0 (Ad2 l w x))/\InR .i64 (qi 1 (Ad2 l w x))/\WL hI (ql 2 (Ad2 l w x))/\InR .i64 (qi 3 (Ad2 l w x))->True/\Cn (bNot (qb 4 (BG w l x))) ((Akj l w x)) (pLe (iLen (ql 2 w)) 1000/\(InR .i64 (Nl w (Ad2 l w x) (BG w l x))->Cn (bLt (Nl w (Ad2 l w x) (BG w l x)) 0) ((Akj l w x)) (InR .i64 (iAdd x 1)/\Sm l/\Sm (sg 0 [0,0,3,0] w)/\Sm (AL l)/\Sm (iLen (AL l))/\Sm (sg 0 [0,0,3,0] w)/\∃(y:Int),EP (AL l) y/\iAdd x 1=y/\qb 4 (BG w l x)=qb 4 (BG w l y)/\qi 0 (BG w l x)=qi 0 (BG w l y)/\qi 1 (BG w l x)=qi 1 (BG w l y)/\ql 2 (BG w l x)=ql 2 (BG w l y)/\qi 3 (BG w l x)=qi 3 (BG w l y)/\nLt ((AL l).length-y.toNat) ((AL l).length-x.toNat))))))) (qi 0 (BG w l x)=qi 0 (IA w l)/\qi 1 (BG w l x)=qi 1 (IA w l)/\ql 2 (BG w l x)=ql 2 (IA w l)/\qi 3 (BG w l x)=qi 3 (IA w l)/\qb 4 (BG w l x)=qb 4 (IA w l))):=by
  intro hw hp;delta Ad2 Akj;simp only[D,E]at hp ⊢;refine λwl _=>⟨⟨0,⟨Int.le_refl _,by omega⟩,rfl,rfl,rfl,rfl,rfl,rfl⟩,?_⟩
  intro x hx _;have x0:=hx.1;refine⟨λhl=>⟨⟨x0,hl⟩,λ_=>⟨hp,λ_=> ?_⟩⟩,λhl=> ?_⟩
  · have e:BG w l (x+1)=Uj w (BG w l x) (rGet (AL l) x):=PM x0 hl;have ix:=inS wl x0 hl;have yes:qb 4 (BG w l x)=false∨Nl w (IU (rGet (AL l) x) w) (BG w l x)<0->BG w l (x+1)=[.i (qi 0 (IU (rGet (AL l) x) w)),.i (qi 1 (IU (rGet (AL l) x) w)),.l (ql 2 (IU (rGet (AL l) x) w)),.i (qi 3 (IU (rGet (AL l) x) w)),.b true]:=λh=>e.trans (if_pos h);refine⟨λh=>⟨ix,x+1,NW hx hl,rfl,?_⟩,λh=>⟨hp,λ_=>⟨λh1=>⟨ix,x+1,NW hx hl,rfl,?_⟩,λh1=>⟨ix,x+1,NW hx hl,rfl,?_⟩⟩⟩⟩
    · rw[yes (.inl h)]; exact⟨rfl,rfl,rfl,rfl,rfl,by omega⟩
    · rw[yes (.inr h1)]; exact⟨rfl,rfl,rfl,rfl,rfl,by omega⟩
    · have e2:BG w l (x+1)=BG w l x:=e.trans (if_neg (by
        rintro(a|a)
        · rw[h]at a; cases a
        · exact h1 a))
      rw[e2]; exact⟨rfl,rfl,rfl,rfl,rfl,by omega⟩
  · have e:BG w l x=IA w l:=Ve hl;rw[e]; exact⟨rfl,rfl,rfl,rfl,rfl⟩
def r17:Cr PR:=K [r38,r39,r40] 17 8 {ps:=[(false,[.sl hX]),(true,hC)],rs:=[(true,hC),(false,[.bool])],pre:=λa=>pLe (iLen (ql 2 (arg 1 a))) 1000,out:=λa=>[rb [0,0,3,0] (IA (arg 1 a) (L a 0 0)),[.b (qb 4 (IA (arg 1 a) (L a 0 0)))]]} (λa=>A17 (L a 0 0) (arg 1 a)) λa=>Y (v17 (L a 0 0) (arg 1 a))
end Go.Sx

