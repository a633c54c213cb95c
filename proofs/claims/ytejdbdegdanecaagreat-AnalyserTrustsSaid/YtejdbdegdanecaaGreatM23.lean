import Derived.Test.YtejdbdegdanecaaGreatSxUse
import Derived.Test.YtejdbdegdanecaaGreatM21
set_option linter.unusedVariables false
set_option linter.unusedSimpArgs false
set_option maxRecDepth 100000
set_option maxHeartbeats 4000000
namespace Go
open Go.Sx
def Qc (f:List C->List C->List C) (a:List C) (xs:List (List C)) (i:Int):List C:=(xs.take i.toNat).foldl f a
def Fe (xs:List (List C)) (i:Int):Prop:=0<=i/\i<=(xs.length:Int)
def Zl (a b:Int):Int:=Aa3 .u64 (Aa3 .u64 a-Aa3 .u64 b)
def ES (a b:Int):Int:=if b<a then Zl a b else Zl b a
def LG (a b:Int):Int:=if a<b then-1 else if b<a then 1 else 0
def JG (w a b:Int):Int:=if LG (ES a w) (ES b w)≠0 then LG (ES a w) (ES b w)else LG a b
def Je (w a b:Int):Int:=if a=b then 0 else if a=w∨(b≠w/\b<a)then-1 else 1
def U7 (n:Int) (s x:List C):List C:=if qb 1 s=false∨ES n (max (qi 0 x) (min (qi 1 x) n))<ES n (qi 0 s)then[.i (max (qi 0 x) (min (qi 1 x) n)),.b true]else s
def Ff (xs:List (List C)) (n i:Int):List C:=Qc (U7 n) [.i 0,.b false] (AA xs) i
def Gw (xs:List (List C)) (n:Int):List C:=(AA xs).foldl (U7 n) [.i 0,.b false]
def Qm (b:List (List C)) (x:List C):Bool:=decide (0<=Ce (Bj (qi 0 x)) 0 b)
def Eh (a b:List (List C)):List (List C):=(a.filter (Qm b)).map λx=>[.i (qi 0 x)]
def Ku (a b:List (List C)) (i:Int):List (List C):=Eh (a.take i.toNat) b
def Q8:List (List C)->List (List C)->Int
 |x::r,y::s=>if qi 0 x=qi 0 y then Q8 r s else if qi 0 x<qi 0 y then-1 else 1
 |_,_=>0
def UG (a b:List (List C)) (i:Int):Prop:=0<=i/\i<=(a.length:Int)/\a.length=b.length/\Q8 (a.drop i.toNat) (b.drop i.toNat)=Q8 a b
def Ha (w a b:List (List C)):Int:=if DD C9 a w≠DD C9 b w then(if DD C9 a w=true then-1 else 1)else if LG (Eh w b).length (Eh w a).length≠0 then LG (Eh w b).length (Eh w a).length else if LG (a.length:Int) b.length≠0 then LG (a.length:Int) b.length else Q8 a b
theorem Qg {f:List C->List C->List C} {a:List C} {xs:List (List C)} {i:Int} (h0:0<=i) (h:i<(xs.length:Int)):Qc f a xs (i+1)=f (Qc f a xs i) (rGet xs i):=by
 unfold Qc; rw[Ab7 h0 h,List.foldl_append]; rfl
theorem VM {f:List C->List C->List C} {a:List C} {xs:List (List C)} {i:Int} (h:¬i<(xs.length:Int)):Qc f a xs i=xs.foldl f a:=by
 unfold Qc; rw[AlZ (by omega)]
theorem OC {xs:List (List C)} {i:Int} (h:Fe xs i) (hl:i<(xs.length:Int)):Fe xs (i+1):=⟨by have:=h.1; omega,by omega⟩
theorem Z5 {a b:List (List C)} {i:Int} (h0:0<=i) (h:i<(a.length:Int)):Ku a b (i+1)=Ku a b i++(if 0<=Ce (Bj (qi 0 (rGet a i))) 0 b then[[.i (qi 0 (rGet a i))]]else[]):=by
 unfold Ku Eh;rw[Ab7 h0 h,List.filter_append,AmN];congr 1;generalize rGet a i=x;by_cases hc:0<=Ce (Bj (qi 0 x)) 0 b
 · rw[if_pos hc,show[x].filter (Qm b)=[x]from by simp[Qm,hc]]; rfl
 · rw[if_neg hc,show[x].filter (Qm b)=[]from by simp[Qm]; omega]; rfl
theorem RQ (a b:List (List C)):(Eh a b).length<=a.length:=by
 unfold Eh; rw[Al5]; exact List.length_filter_le ..
end Go
namespace Go.Sx
theorem v154 (a:Int) (b:Int):AnC a/\AnC b->True->Cn (bLt b a) (Aa3 .u64 (iSub (Aa3 .u64 a) (Aa3 .u64 b))=ES a b) (Aa3 .u64 (iSub (Aa3 .u64 b) (Aa3 .u64 a))=ES a b):=by
 intro hw hp;simp only[D];exact⟨λh=>(if_pos (by simpa[bLt]using h)).symm,λh=>(if_neg (by simpa[bLt]using h)).symm⟩
def r154:Cr PR:=Kw (λ_=>true) [] 154 6 {ps:=[(false,hI),(false,hI)],rs:=[(false,[.int .u64])],out:=λa=>[[.i (ES (AnF a) (AnG a))]]} U λa=>Y (v154 (AnF a) (AnG a))
theorem v85 (w:Int) (a:Int) (b:Int):AnC w/\AnC a/\AnC b->True->True/\(AnD (ES a w)->True/\(AnD (ES b w)->Cn (bLt (ES a w) (ES b w)) (-1=JG w a b) (Cn (bLt (ES b w) (ES a w)) (1=JG w a b) (Cn (bLt a b) (-1=JG w a b) (Cn (bLt b a) (1=JG w a b) (0=JG w a b)))))):=by
 intro hw hp;simp only[D,E];have o:∀x y:Int,LG x y=if x<y then-1 else if y<x then 1 else 0:=λ_ _=>rfl;unfold JG;rw[o,o];generalize ES a w=p;generalize ES b w=q
 repeat' (first|apply And.intro|intro _)
 all_goals ((repeat' split)<;>omega)
def r85:Cr PR:=Kw (λ_=>true) [r154] 85 6 {ps:=[(false,hI),(false,hI),(false,hI)],rs:=[(false,hI)],out:=λa=>[[.i (JG (AnF a) (AnG a) (AnI a))]]} U λa=>Y (v85 (AnF a) (AnG a) (AnI a))
theorem v82 (w:Int) (a:Int) (b:Int):AnC w/\AnC a/\AnC b->Cn (bEq a b) (0=Je w a b) (Cn (bEq a w) (-1=Je w a b) (Cn (bNe b w) (Cn (bLt b a) (-1=Je w a b) (1=Je w a b)) (1=Je w a b))):=by
 intro hw;simp only[D,E];unfold Je
 repeat' (first|apply And.intro|intro _)
 all_goals ((repeat' split)<;>omega)
def r82:Cr PR:=K0 [] 82 6 {ps:=[(false,hI),(false,hI),(false,hI)],rs:=[(false,hI)],out:=λa=>[[.i (Je (AnF a) (AnG a) (AnI a))]]} U λa=>Y (v82 (AnF a) (AnG a) (AnI a))
theorem v150 (a:Int) (b:Int):AnC a/\AnC b->True->Cn (bLt a b) (Aa3 .u64 (iSub (Aa3 .u64 b) (Aa3 .u64 a))=ES b a) (Aa3 .u64 (iSub (Aa3 .u64 a) (Aa3 .u64 b))=ES b a):=by
 intro hw hp;simp only[D];exact⟨λh=>(if_pos (by simpa[bLt]using h)).symm,λh=>(if_neg (by simpa[bLt]using h)).symm⟩
def r150:Cr PR:=Kw (λ_=>true) [] 150 6 {ps:=[(false,hI),(false,hI)],rs:=[(false,[.int .u64])],out:=λa=>[[.i (ES (AnG a) (AnF a))]]} U λa=>Y (v150 (AnF a) (AnG a))
def A83 (xs:List (List C)) (n:Int):FuncId->Nat->LoopAnn:=λ_ _=> .inv Int (λz=>Fe (AA xs) z) (λz=>[(14,.int .i64 z),(6,.int .i64 (qi 0 (Ff xs n z))),(7,.bool (qb 1 (Ff xs n z)))]) (λ_=>[]) [] [0,1,2,4,5,6,7,9,10,12,13,14,15,35] (λz=>(AA xs).length-z.toNat)
def AkC (xs:List (List C)) (n:Int) (x:Int):Prop:=AnC (iAdd x 1)/\Sm [C.l xs]/\Sm n/\Sm (AA xs)/\Sm (iLen (AA xs))/\Sm [C.l xs]/\∃(y:Int),Fe (AA xs) y/\iAdd x 1=y/\iMax (qi 0 (rGet (AA xs) x)) (iMin (qi 1 (rGet (AA xs) x)) n)=qi 0 (Ff xs n y)/\true=qb 1 (Ff xs n y)/\nLt ((AA xs).length-y.toNat) ((AA xs).length-x.toNat)
theorem v83 (xs:List (List C)) (n:Int):WL hII xs/\AnC n->True/\(WL hII (AA xs)->AnE (AA xs)->(∃(x:Int),Fe (AA xs) x/\0=x/\0=qi 0 (Ff xs n x)/\false=qb 1 (Ff xs n x))/\∀(x:Int),Fe (AA xs) x->AnC x/\AnC (qi 0 (Ff xs n x))->Cn (bLt x (iLen (AA xs))) (pIn 0 (iLen (AA xs)) x/\(AnC (qi 0 (rGet (AA xs) x))/\AnC (qi 1 (rGet (AA xs) x))->True/\Cn (bNot (qb 1 (Ff xs n x))) ((AkC xs n x)) (True/\(AnD (ES n (iMax (qi 0 (rGet (AA xs) x)) (iMin (qi 1 (rGet (AA xs) x)) n)))->True/\(AnD (ES n (qi 0 (Ff xs n x)))->Cn (bLt (ES n (iMax (qi 0 (rGet (AA xs) x)) (iMin (qi 1 (rGet (AA xs) x)) n))) (ES n (qi 0 (Ff xs n x)))) ((AkC xs n x)) (AnC (iAdd x 1)/\Sm [C.l xs]/\Sm n/\Sm (AA xs)/\Sm (iLen (AA xs))/\Sm [C.l xs]/\∃(y:Int),Fe (AA xs) y/\iAdd x 1=y/\qi 0 (Ff xs n x)=qi 0 (Ff xs n y)/\qb 1 (Ff xs n x)=qb 1 (Ff xs n y)/\nLt ((AA xs).length-y.toNat) ((AA xs).length-x.toNat))))))) (qi 0 (Ff xs n x)=qi 0 (Gw xs n)/\qb 1 (Ff xs n x)=qb 1 (Gw xs n))):=by
 intro hw;delta AkC;simp only[D,E];refine λhW _=>⟨⟨0,⟨AlO _,by omega⟩,rfl,rfl,rfl⟩,?_⟩
 intro x hx _;refine⟨λhl=>⟨⟨hx.1,hl⟩,λ_=> ?_⟩,λhl=> ?_⟩
 · have e : Ff xs n (x + 1) = U7 n (Ff xs n x) (rGet (AA xs) x) := Qg hx.1 hl;have ix := inS hW hx.1 hl;have yes : qb 1 (Ff xs n x) = false ∨ ES n (max (qi 0 (rGet (AA xs) x)) (min (qi 1 (rGet (AA xs) x)) n)) < ES n (qi 0 (Ff xs n x)) -> ∃ y, Fe (AA xs) y /\ x + 1 = y /\ max (qi 0 (rGet (AA xs) x)) (min (qi 1 (rGet (AA xs) x)) n) = qi 0 (Ff xs n y) /\ true = qb 1 (Ff xs n y) /\ (AA xs).length - y.toNat < (AA xs).length - x.toNat := λh => by
    have e2:=e.trans (if_pos h);exact⟨x+1,OC hx hl,rfl,by rw[e2]; rfl,by rw[e2]; rfl,by have:=hx.1; omega⟩
   refine⟨λh=>⟨ix,yes (.inl h)⟩,λh _ _=>⟨λh1=>⟨ix,yes (.inr h1)⟩,λh1=> ?_⟩⟩;have e2:Ff xs n (x+1)=Ff xs n x:=e.trans (if_neg (by rw[h]; rintro(a|a)<;>first|exact h1 a|cases a));exact⟨ix,x+1,OC hx hl,rfl,by rw[e2],by rw[e2],by have:=hx.1; omega⟩
 · have e:Ff xs n x=Gw xs n:=VM hl;rw[e]; exact⟨rfl,rfl⟩
def r83:Cr PR:=K0 [r149,r150] 83 6 {ps:=[(true,[.sl hII]),(false,hI)],rs:=[(false,hI),(false,[.bool])],out:=λa=>[[.i (qi 0 (Gw (L a 0 0) (AnG a)))],[.b (qb 1 (Gw (L a 0 0) (AnG a)))]]} (λa=>A83 (L a 0 0) (AnG a)) λa=>Y (v83 (L a 0 0) (AnG a))
def A153 (a:List (List C)) (b:List (List C)):FuncId->Nat->LoopAnn:=λ_ _=> .ghost 5 hI 3 (.on (λsv0=>match sv0.tmps.getD 5 .undef with| .own rr _=> .inv Int (λz=>Fe a z) (λz=>[(10,.int .i64 z),(5,.own rr 0)]) (λz=>[(rr,.row hI 3 0 (Ku a b z))]) [rr] [0,1,4,5,7,8,9,10,11,17] (λz=>a.length-z.toNat)|_=> .unroll 0))
theorem v153 (a:List (List C)) (b:List (List C)):WL hI a/\WL hI b->pLe (iLen a) 1000->AnE a->(∃(x:Int),Fe a x/\0=x/\[]=Ku a b x)/\∀(x:Int),Fe a x->AnC x/\WL hI (Ku a b x)->Cn (bLt x (iLen a)) (pIn 0 (iLen a) x/\(AnC (qi 0 (rGet a x))->True/\(AnC (Ce (Bj (qi 0 (rGet a x))) 0 b)->Cn (bLe 0 (Ce (Bj (qi 0 (rGet a x))) 0 b)) (Abb 8 (iLen (Ku a b x++[[C.i (qi 0 (rGet a x))]]))/\AnC (iAdd x 1)/\Sm a/\Sm b/\Sm a/\Sm (iLen a)/\∃(y:Int),Fe a y/\iAdd x 1=y/\Ku a b x++[[C.i (qi 0 (rGet a x))]]=Ku a b y/\nLt (a.length-y.toNat) (a.length-x.toNat)) (AnC (iAdd x 1)/\Sm a/\Sm b/\Sm a/\Sm (iLen a)/\∃(y:Int),Fe a y/\iAdd x 1=y/\Ku a b x=Ku a b y/\nLt (a.length-y.toNat) (a.length-x.toNat))))) (Ku a b x=Eh a b):=by
 intro hw hp;simp only[D,E]at hp ⊢;refine λ_=>⟨⟨0,⟨AlO _,by omega⟩,rfl,rfl⟩,?_⟩
 intro x hx _;have x0:=hx.1;refine⟨λhl=>⟨⟨x0,hl⟩,λ_ _=> ?_⟩,λhl=> ?_⟩
 · have e:=Z5 (b:=b) x0 hl;have l:=RQ (a.take x.toNat) b;have l':(Ku a b x).length<=(a.take x.toNat).length:=l;rw[AlN]at l';have ix:AnC (x+1):=by simp only[InR]; omega
   refine⟨λh=>⟨by rw[AlF,AlJ]; omega,ix,x+1,OC hx hl,rfl,?_,by omega⟩,λh=>⟨ix,x+1,OC hx hl,rfl,?_,by omega⟩⟩
   · rw[e,if_pos h]
   · rw[e,if_neg (by omega),Ame]
 · unfold Ku; rw[AlZ (by omega)]
def r153:Cr PR:=K [r102] 153 8 {ps:=[(false,hL),(false,hL)],rs:=[(false,hL)],pre:=λa=>pLe (iLen (L a 0 0)) 1000,out:=λa=>[[.l (Eh (L a 0 0) (L a 1 0))]]} (λa=>A153 (L a 0 0) (L a 1 0)) λa=>Y (v153 (L a 0 0) (L a 1 0))
def A84 (a:List (List C)) (b:List (List C)):FuncId->Nat->LoopAnn:=λ_ _=>lp 48 a.length (UG a b) [0,1,2,6,7,8,9,10,11,20,21,34,44,47,48,49,59,68]
theorem v84 (w:List (List C)) (a:List (List C)) (b:List (List C)):WL hI w/\WL hI a/\WL hI b->pLe (iLen w) 1000->True/\True/\Cn (Akb (DD C9 a w) (DD C9 b w)) (Cn (DD C9 a w) (-1=Ha w a b) (1=Ha w a b)) (pLe (iLen w) 1000/\(WL hI (Eh w b)->AnE (Eh w b)->pLe (iLen w) 1000/\(WL hI (Eh w a)->AnE (Eh w a)->Cn (bLt (Aa3 .u64 (iLen (Eh w b))) (Aa3 .u64 (iLen (Eh w a)))) (-1=Ha w a b) (Cn (bLt (Aa3 .u64 (iLen (Eh w a))) (Aa3 .u64 (iLen (Eh w b)))) (1=Ha w a b) (AnE a->AnE b->Cn (bLt (Aa3 .u64 (iLen a)) (Aa3 .u64 (iLen b))) (-1=Ha w a b) (Cn (bLt (Aa3 .u64 (iLen b)) (Aa3 .u64 (iLen a))) (1=Ha w a b) (AnE a->(∃(x:Int),UG a b x/\0=x)/\∀(x:Int),UG a b x->AnC x->Cn (bLt x (iLen a)) (pIn 0 (iLen a) x/\(AnC (qi 0 (rGet a x))->pIn 0 (iLen b) x/\(AnC (qi 0 (rGet b x))->Cn (bNe (qi 0 (rGet a x)) (qi 0 (rGet b x))) (pIn 0 (iLen a) x/\(AnC (qi 0 (rGet a x))->pIn 0 (iLen b) x/\(AnC (qi 0 (rGet b x))->Cn (bLt (qi 0 (rGet a x)) (qi 0 (rGet b x))) (-1=Ha w a b) (1=Ha w a b)))) (Sm w/\Sm a/\Sm b/\Sm (DD C9 a w)/\Sm (DD C9 b w)/\Sm (iLen a)/\∃(y:Int),UG a b y/\Aa3 .i64 (iAdd x 1)=y/\nLt (a.length-y.toNat) (a.length-x.toNat))))) (0=Ha w a b)))))))):=by
 intro hw hp;have la:=hw.2.1.1;have lb:=hw.2.2.1;have ml:maxLen=9223372036854775807:=rfl;have ca:=RQ w a;have cb:=RQ w b;simp only[D,E]at hp ⊢;have wr:∀n:Nat,n<=maxLen->Aa3 .u64 (n:Int)=n:=λn h=>BH (by omega) (by omega);rw[wr _ (show(Eh w b).length<=maxLen by omega),wr _ (show(Eh w a).length<=maxLen by omega),wr _ la,wr _ lb];have o:∀x y:Int,LG x y=if x<y then-1 else if y<x then 1 else 0:=λ_ _=>rfl;have M:Ha w a b=if DD C9 a w≠DD C9 b w then(if DD C9 a w=true then-1 else 1)else if LG (Eh w b).length (Eh w a).length≠0 then LG (Eh w b).length (Eh w a).length else if LG (a.length:Int) b.length≠0 then LG (a.length:Int) b.length else Q8 a b:=rfl;have m1:(DD C9 a w==DD C9 b w)=false->Ha w a b=if DD C9 a w=true then-1 else 1:=λh=>if_pos (by simpa using h);refine⟨λh=>⟨λh1=>by rw[m1 h,if_pos h1],λh1=>by rw[m1 h,if_neg (by simp[h1])]⟩,λh=>⟨hp,λ_ _=>⟨hp,λ_ _=> ?_⟩⟩⟩;rw[if_neg (by simpa using h)]at M;refine⟨λg=>by rw[M,o,if_pos g,if_pos (by decide)],λg=>⟨λg'=>by rw[M,o,if_neg g,if_pos g',if_pos (by decide)],λg' _ _=> ?_⟩⟩;rw[o,if_neg g,if_neg g',if_neg (by decide)]at M;refine⟨λk=>by rw[M,o,if_pos k,if_pos (by decide)],λk=>⟨λk'=>by rw[M,o,if_neg k,if_pos k',if_pos (by decide)],λk' _=> ?_⟩⟩;rw[o,if_neg k,if_neg k',if_neg (by decide)]at M;rw[M]
 refine⟨⟨0,⟨AlO _,by omega,by omega,rfl⟩,rfl⟩,?_⟩;intro x ⟨x0,x1,x2,x3⟩ _;refine⟨λhl=>⟨⟨x0,hl⟩,λ_=>⟨⟨x0,by omega⟩,λ_=> ?_⟩⟩,λhl=> ?_⟩
 · rw[Aba x0 hl,Aba x0 (by omega),Q8]at x3;refine⟨λn=>⟨⟨x0,hl⟩,λ_=>⟨⟨x0,by omega⟩,λ_=>⟨λu=> ?_,λu=> ?_⟩⟩⟩,λn=>⟨x+1,⟨by omega,by omega,x2,?_⟩,Gg (by omega) (by omega),by omega⟩⟩
   · rw[←x3,if_neg n,if_pos u]
   · rw[←x3,if_neg n,if_neg u]
   · rw[←x3,if_pos n]
 · rw[←x3,AlP (by omega)]; rfl
def r84:Cr PR:=Kw (λ_=>true) [r151,r153] 84 8 {ps:=[(false,hL),(false,hL),(false,hL)],rs:=[(false,hI)],pre:=λa=>pLe (iLen (L a 0 0)) 1000,out:=λa=>[[.i (Ha (L a 0 0) (L a 1 0) (L a 2 0))]]} (λa=>A84 (L a 1 0) (L a 2 0)) λa=>Y (v84 (L a 0 0) (L a 1 0) (L a 2 0))
end Go.Sx

namespace Go
open Go.Sx
def Q5 (k w:Int):Nat->Int
 |0=>0
 |n+1=>if Ig k (n+1)=true/\(Q5 k w n=0∨Je w (n+1) (Q5 k w n)<0)then n+1 else Q5 k w n
def Ro (k w z:Int):Prop:=1<=z/\z<=8
def GG (k w z:Int):Int:=Q5 k w (z-1).toNat
def PT (w:List (List C)) (s x:List C):List C:=if qb 1 s=false∨Ha w (ql 0 x) (ql 0 s)<0 then[.l (ql 0 x),.b true]else s
def WC:List C:=[.l [],.b false]
def G6 (w ms:List (List C)) (z:Int):List C:=Qc (PT w) WC ms z
def YB (w ms:List (List C)):List C:=ms.foldl (PT w) WC
def Jp (b c:List C):List C:=[.i (Q5 (qi 0 b) (qi 0 c) 7),.i (qi 0 (Gw (ql 1 b) (qi 1 c))),.l (ql 0 (YB (ql 2 c) (ql 2 b))),.i (qi 0 (Gw (ql 3 b) (qi 3 c)))]
def Oe (w a b:List C):Int:=if Je (qi 0 w) (qi 0 a) (qi 0 b)≠0 then Je (qi 0 w) (qi 0 a) (qi 0 b)else if JG (qi 1 w) (qi 1 a) (qi 1 b)≠0 then JG (qi 1 w) (qi 1 a) (qi 1 b)else if Ha (ql 2 w) (ql 2 a) (ql 2 b)≠0 then Ha (ql 2 w) (ql 2 a) (ql 2 b)else JG (qi 3 w) (qi 3 a) (qi 3 b)
def U6 (w:List C) (s x:List C):List C:=if qb 4 s=false∨Oe w (Jp x w) s<0 then[.i (qi 0 (Jp x w)),.i (qi 1 (Jp x w)),.l (ql 2 (Jp x w)),.i (qi 3 (Jp x w)),.b true]else s
def Zp:List C:=[.i 0,.i 0,.l [],.i 0,.b false]
def BU (w:List C) (l:List (List C)) (z:Int):List C:=Qc (U6 w) Zp (AP l) z
def II (w:List C) (l:List (List C)):List C:=(AP l).foldl (U6 w) Zp
theorem Aas {k w x:Int} (h:1<=x):GG k w (x+1)=if Ig k x=true/\(GG k w x=0∨Je w x (GG k w x)<0)then x else GG k w x:=by
 unfold GG;rw[show(x+1-1).toNat=(x-1).toNat+1 by omega,Q5,show((x-1).toNat:Int)+1=x by omega]
theorem AaD {w ms:List (List C)} {z:Int} (hz:Fe ms z) (h:0<z):qb 1 (G6 w ms z)=true:=by
 have e:G6 w ms (z-1+1)=PT w (G6 w ms (z-1)) (rGet ms (z-1)):=Qg (by omega) (by have:=hz.2; omega);rw[show z-1+1=z by omega]at e;rw[e];unfold PT;split
 · rfl
 · rename_i n
   cases hb:qb 1 (G6 w ms (z-1))
   · exact(n (.inl hb)).elim
   · rfl
end Go
namespace Go.Sx
def A39 (b:List C) (c:List C):FuncId->Nat->LoopAnn:=λ_ ii=>bif Nat.beq ii 3 then .on (λsv0=>match(sv0.heap[3]? :Option HB)with|some (.box [_,r,m,s] ty)=> .inv Int (λz=>Ro (qi 0 b) (qi 0 c) z) (λz=>[(6,.int .i64 z)]) (λz=>[(3,.box [.int .i64 (GG (qi 0 b) (qi 0 c) z),r,m,s] ty)]) [3] [0,1,2,3,4,5,6,7,8,10,33,58,59,60,61,77] (λz=>(8-z).toNat)|_=> .unroll 0)else .on (λsv0=>match(sv0.heap[3]? :Option HB)with|some (.box [k,r,_,s] ty)=> .inv Int (λz=>Fe (ql 2 b) z) (λz=>[(60,.int .i64 z)]) (λz=>[(3,.box [k,r,.sl hI (ql 0 (G6 (ql 2 c) (ql 2 b) z)),s] ty)]) [3] [0,1,2,3,4,5,6,7,8,10,33,58,59,60,61,77] (λz=>(ql 2 b).length-z.toNat)|_=> .unroll 0)
def AkV (b:List C) (c:List C) (x:Int) (x_1:Int):Prop:=AnC (iAdd x_1 1)/\Sm (sg 0 [0,3,3,3] b)/\Sm (sg 0 [0,0,3,0] c)/\Sm x/\Sm (ql 2 b)/\Sm (iLen (ql 2 b))/\Sm (sg 0 [0,3,3,3] b)/\Sm (sg 0 [0,0,3,0] c)/\∃(y:Int),Fe (ql 2 b) y/\iAdd x_1 1=y/\Sm (GG (qi 0 b) (qi 0 c) x)/\Sm (qi 0 (Gw (ql 1 b) (qi 1 c)))/\ql 0 (rGet (ql 2 b) x_1)=ql 0 (G6 (ql 2 c) (ql 2 b) y)/\Sm (qi 0 (Gw (ql 3 b) (qi 3 c)))/\nLt ((ql 2 b).length-y.toNat) ((ql 2 b).length-x_1.toNat)
def AkU (b:List C) (c:List C) (x:Int):Prop:=AnC (iAdd x 1)/\Sm (sg 0 [0,3,3,3] b)/\Sm (sg 0 [0,0,3,0] c)/\Sm (sg 0 [0,3,3,3] b)/\Sm (sg 0 [0,0,3,0] c)/\∃(y:Int),Ro (qi 0 b) (qi 0 c) y/\iAdd x 1=y/\GG (qi 0 b) (qi 0 c) x=GG (qi 0 b) (qi 0 c) y/\Sm (0:Int)/\Sm (0:Int)/\nLt (8-y).toNat (8-x).toNat
def AkT (b:List C) (c:List C) (x:Int):Prop:=AnC (iAdd x 1)/\Sm (sg 0 [0,3,3,3] b)/\Sm (sg 0 [0,0,3,0] c)/\Sm (sg 0 [0,3,3,3] b)/\Sm (sg 0 [0,0,3,0] c)/\∃(y:Int),Ro (qi 0 b) (qi 0 c) y/\iAdd x 1=y/\x=GG (qi 0 b) (qi 0 c) y/\Sm (0:Int)/\Sm (0:Int)/\nLt (8-y).toNat (8-x).toNat
theorem v39 (b:List C) (c:List C):AnC (qi 0 b)/\WL hII (ql 1 b)/\WL [Sh.sl hI] (ql 2 b)/\WL hII (ql 3 b)/\AnC (qi 0 c)/\AnC (qi 1 c)/\WL hI (ql 2 c)/\AnC (qi 3 c)->pLe (iLen (ql 2 c)) 1000->(∃(x:Int),Ro (qi 0 b) (qi 0 c) x/\1=x/\0=GG (qi 0 b) (qi 0 c) x/\Sm (0:Int)/\Sm (0:Int))/\∀(x:Int),Ro (qi 0 b) (qi 0 c) x->AnC x/\AnC (GG (qi 0 b) (qi 0 c) x)/\AnC 0/\AnC 0->Cn (bLe x 7) (True/\Cn (Ig (qi 0 b) x) (Cn (bEq (GG (qi 0 b) (qi 0 c) x) 0) ((AkT b c x)) (True/\(AnC (Je (qi 0 c) x (GG (qi 0 b) (qi 0 c) x))->Cn (bLt (Je (qi 0 c) x (GG (qi 0 b) (qi 0 c) x)) 0) ((AkT b c x)) ((AkU b c x))))) ((AkU b c x))) (True/\(AnC (qi 0 (Gw (ql 1 b) (qi 1 c)))->True/\(AnC (qi 0 (Gw (ql 3 b) (qi 3 c)))->AnE (ql 2 b)->(∃(x_1:Int),Fe (ql 2 b) x_1/\0=x_1/\Sm (GG (qi 0 b) (qi 0 c) x)/\Sm (qi 0 (Gw (ql 1 b) (qi 1 c)))/\ql 0 (G6 (ql 2 c) (ql 2 b) x_1)=[]/\Sm (qi 0 (Gw (ql 3 b) (qi 3 c))))/\∀(x_1:Int),Fe (ql 2 b) x_1->AnC x_1/\AnC (GG (qi 0 b) (qi 0 c) x)/\AnC (qi 0 (Gw (ql 1 b) (qi 1 c)))/\WL hI (ql 0 (G6 (ql 2 c) (ql 2 b) x_1))/\AnC (qi 0 (Gw (ql 3 b) (qi 3 c)))->Cn (bLt x_1 (iLen (ql 2 b))) (pIn 0 (iLen (ql 2 b)) x_1/\(WL hI (ql 0 (rGet (ql 2 b) x_1))->Cn (bEq x_1 0) ((AkV b c x x_1)) (pLe (iLen (ql 2 c)) 1000/\(AnC (Ha (ql 2 c) (ql 0 (rGet (ql 2 b) x_1)) (ql 0 (G6 (ql 2 c) (ql 2 b) x_1)))->Cn (bLt (Ha (ql 2 c) (ql 0 (rGet (ql 2 b) x_1)) (ql 0 (G6 (ql 2 c) (ql 2 b) x_1))) 0) ((AkV b c x x_1)) (AnC (iAdd x_1 1)/\Sm (sg 0 [0,3,3,3] b)/\Sm (sg 0 [0,0,3,0] c)/\Sm x/\Sm (ql 2 b)/\Sm (iLen (ql 2 b))/\Sm (sg 0 [0,3,3,3] b)/\Sm (sg 0 [0,0,3,0] c)/\∃(y:Int),Fe (ql 2 b) y/\iAdd x_1 1=y/\Sm (GG (qi 0 b) (qi 0 c) x)/\Sm (qi 0 (Gw (ql 1 b) (qi 1 c)))/\ql 0 (G6 (ql 2 c) (ql 2 b) x_1)=ql 0 (G6 (ql 2 c) (ql 2 b) y)/\Sm (qi 0 (Gw (ql 3 b) (qi 3 c)))/\nLt ((ql 2 b).length-y.toNat) ((ql 2 b).length-x_1.toNat)))))) (GG (qi 0 b) (qi 0 c) x=qi 0 (Jp b c)/\qi 0 (Gw (ql 1 b) (qi 1 c))=qi 1 (Jp b c)/\ql 0 (G6 (ql 2 c) (ql 2 b) x_1)=ql 2 (Jp b c)/\qi 0 (Gw (ql 3 b) (qi 3 c))=qi 3 (Jp b c))))):=by
 intro hw hp;delta AkV AkU AkT;simp only[D,E]at hp ⊢;refine⟨⟨1,⟨by omega,by omega⟩,rfl,rfl⟩,?_⟩;intro x ⟨x1,x2⟩ _;have st:∀ {v:Int},x<=7->v=GG (qi 0 b) (qi 0 c) (x+1)->AnC (x+1)/\∃y,Ro (qi 0 b) (qi 0 c) y/\x+1=y/\v=GG (qi 0 b) (qi 0 c) y/\(8-y).toNat<(8-x).toNat:=λhl e=>⟨by simp only[InR]; omega,x+1,⟨by omega,by omega⟩,rfl,e,by omega⟩
 have bs:=Aas (k:=qi 0 b) (w:=qi 0 c) x1;refine⟨λhl=>⟨λhk=>⟨λh0=>st hl ?_,λh0 _=>⟨λh1=>st hl ?_,λh1=>st hl ?_⟩⟩,λhk=>st hl ?_⟩,λhl _ _ _=> ?_⟩
 · rw[bs,if_pos ⟨hk,.inl h0⟩]
 · rw[bs,if_pos ⟨hk,.inr h1⟩]
 · rw[bs,if_neg (λa=>a.2.elim (by omega) (by omega))]
 · rw[bs,if_neg (λa=>by rw[hk]at a; cases a.1)]
 have x8:x=8:=by omega
 subst x8;refine⟨⟨0,⟨AlO _,by omega⟩,rfl,rfl⟩,?_⟩;intro z hz _;have z0:=hz.1;have wl:=hw.2.2.1;have st:∀ {v:List (List C)},z<((ql 2 b).length:Int)->v=ql 0 (G6 (ql 2 c) (ql 2 b) (z+1))->AnC (z+1)/\∃y,Fe (ql 2 b) y/\z+1=y/\v=ql 0 (G6 (ql 2 c) (ql 2 b) y)/\(ql 2 b).length-y.toNat<(ql 2 b).length-z.toNat:=λhl e=>⟨inS wl z0 hl,z+1,OC hz hl,rfl,e,by omega⟩
 refine⟨λhl=>⟨⟨z0,hl⟩,λ_=>⟨λh0=>st hl ?_,λh0=>⟨hp,λ_=>⟨λh1=>st hl ?_,λh1=>st hl ?_⟩⟩⟩⟩,λhl=> ?_⟩
 · have e:G6 (ql 2 c) (ql 2 b) (z+1)=_:=Qg z0 hl;rw[e,PT,if_pos (.inl (by rw[h0]; rfl))]; rfl
 · have e:G6 (ql 2 c) (ql 2 b) (z+1)=_:=Qg z0 hl;rw[e,PT,if_pos (.inr h1)]; rfl
 · have e:G6 (ql 2 c) (ql 2 b) (z+1)=_:=Qg z0 hl;have f:=AaD (w:=ql 2 c) hz (by omega);rw[e,PT,if_neg]; rfl;rintro(a|a)
   · rw[show Qc (PT (ql 2 c)) WC (ql 2 b) z=G6 (ql 2 c) (ql 2 b) z from rfl,f]at a; cases a
   · exact h1 a
 · have e:G6 (ql 2 c) (ql 2 b) z=YB (ql 2 c) (ql 2 b):=VM hl;rw[e]; exact⟨rfl,rfl,rfl,rfl⟩
def r39:Cr PR:=K [r81,r82,r83,r84] 39 8 {ps:=[(true,hX),(true,hC)],rs:=[(true,hC)],pre:=λa=>pLe (iLen (ql 2 (AnR a))) 1000,out:=λa=>[rb [0,0,3,0] (Jp (AnQ a) (AnR a))]} (λa=>A39 (AnQ a) (AnR a)) λa=>Y (v39 (AnQ a) (AnR a))
theorem v40 (w:List C) (a:List C) (b:List C):AnC (qi 0 w)/\AnC (qi 1 w)/\WL hI (ql 2 w)/\AnC (qi 3 w)/\AnC (qi 0 a)/\AnC (qi 1 a)/\WL hI (ql 2 a)/\AnC (qi 3 a)/\AnC (qi 0 b)/\AnC (qi 1 b)/\WL hI (ql 2 b)/\AnC (qi 3 b)->pLe (iLen (ql 2 w)) 1000->True/\(AnC (Je (qi 0 w) (qi 0 a) (qi 0 b))->Cn (bNe (Je (qi 0 w) (qi 0 a) (qi 0 b)) 0) (Je (qi 0 w) (qi 0 a) (qi 0 b)=Oe w a b) (True/\(AnC (JG (qi 1 w) (qi 1 a) (qi 1 b))->Cn (bNe (JG (qi 1 w) (qi 1 a) (qi 1 b)) 0) (JG (qi 1 w) (qi 1 a) (qi 1 b)=Oe w a b) (pLe (iLen (ql 2 w)) 1000/\(AnC (Ha (ql 2 w) (ql 2 a) (ql 2 b))->Cn (bNe (Ha (ql 2 w) (ql 2 a) (ql 2 b)) 0) (Ha (ql 2 w) (ql 2 a) (ql 2 b)=Oe w a b) (True/\(AnC (JG (qi 3 w) (qi 3 a) (qi 3 b))->JG (qi 3 w) (qi 3 a) (qi 3 b)=Oe w a b))))))):=by
 intro hw hp;simp only[D,E]at hp ⊢;unfold Oe;refine λ_=>⟨λh=>(if_pos h).symm,λh _=> ?_⟩
 rw[if_neg (by omega)];refine⟨λh1=>(if_pos h1).symm,λh1=>⟨hp,λ_=> ?_⟩⟩;rw[if_neg (by omega)];exact⟨λh2=>(if_pos h2).symm,λh2 _=>(if_neg (by omega)).symm⟩
def r40:Cr PR:=K [r82,r85,r84] 40 8 {ps:=[(true,hC),(true,hC),(true,hC)],rs:=[(false,hI)],pre:=λa=>pLe (iLen (ql 2 (AnQ a))) 1000,out:=λa=>[[.i (Oe (AnQ a) (AnR a) (arg 2 a))]]} U λa=>Y (v40 (AnQ a) (AnR a) (arg 2 a))
def A17 (l:List (List C)) (w:List C):FuncId->Nat->LoopAnn:=λ_ _=> .inv Int (λz=>Fe (AP l) z) (λz=>[(14,.int .i64 z),(7,.bool (qb 4 (BU w l z)))]) (λz=>[(2,.box [.int .i64 (qi 0 (BU w l z)),.int .i64 (qi 1 (BU w l z)),.sl hI (ql 2 (BU w l z)),.int .i64 (qi 3 (BU w l z))] 38)]) [2] [0,1,3,4,5,6,7,9,10,12,13,14,15,29] (λz=>(AP l).length-z.toNat)
def AeM (l:List (List C)) (w:List C) (x:Int):List C:=(Jp (rGet (AP l) x) w)
def Ak4 (l:List (List C)) (w:List C) (x:Int):Prop:=AnC (iAdd x 1)/\Sm l/\Sm (sg 0 [0,0,3,0] w)/\Sm (AP l)/\Sm (iLen (AP l))/\Sm (sg 0 [0,0,3,0] w)/\∃(y:Int),Fe (AP l) y/\iAdd x 1=y/\true=qb 4 (BU w l y)/\qi 0 (AeM l w x)=qi 0 (BU w l y)/\qi 1 (AeM l w x)=qi 1 (BU w l y)/\ql 2 (AeM l w x)=ql 2 (BU w l y)/\qi 3 (AeM l w x)=qi 3 (BU w l y)/\nLt ((AP l).length-y.toNat) ((AP l).length-x.toNat)
theorem v17 (l:List (List C)) (w:List C):WL hX l/\AnC (qi 0 w)/\AnC (qi 1 w)/\WL hI (ql 2 w)/\AnC (qi 3 w)->pLe (iLen (ql 2 w)) 1000->True/\(WL hX (AP l)->AnE (AP l)->(∃(x:Int),Fe (AP l) x/\0=x/\false=qb 4 (BU w l x)/\0=qi 0 (BU w l x)/\0=qi 1 (BU w l x)/\ql 2 (BU w l x)=[]/\0=qi 3 (BU w l x))/\∀(x:Int),Fe (AP l) x->AnC x/\AnC (qi 0 (BU w l x))/\AnC (qi 1 (BU w l x))/\WL hI (ql 2 (BU w l x))/\AnC (qi 3 (BU w l x))->Cn (bLt x (iLen (AP l))) (pIn 0 (iLen (AP l)) x/\(AnC (qi 0 (rGet (AP l) x))/\WL hII (ql 1 (rGet (AP l) x))/\WL [Sh.sl hI] (ql 2 (rGet (AP l) x))/\WL hII (ql 3 (rGet (AP l) x))->pLe (iLen (ql 2 w)) 1000/\(AnC (qi 0 (AeM l w x))/\AnC (qi 1 (AeM l w x))/\WL hI (ql 2 (AeM l w x))/\AnC (qi 3 (AeM l w x))->True/\Cn (bNot (qb 4 (BU w l x))) ((Ak4 l w x)) (pLe (iLen (ql 2 w)) 1000/\(AnC (Oe w (AeM l w x) (BU w l x))->Cn (bLt (Oe w (AeM l w x) (BU w l x)) 0) ((Ak4 l w x)) (AnC (iAdd x 1)/\Sm l/\Sm (sg 0 [0,0,3,0] w)/\Sm (AP l)/\Sm (iLen (AP l))/\Sm (sg 0 [0,0,3,0] w)/\∃(y:Int),Fe (AP l) y/\iAdd x 1=y/\qb 4 (BU w l x)=qb 4 (BU w l y)/\qi 0 (BU w l x)=qi 0 (BU w l y)/\qi 1 (BU w l x)=qi 1 (BU w l y)/\ql 2 (BU w l x)=ql 2 (BU w l y)/\qi 3 (BU w l x)=qi 3 (BU w l y)/\nLt ((AP l).length-y.toNat) ((AP l).length-x.toNat))))))) (qi 0 (BU w l x)=qi 0 (II w l)/\qi 1 (BU w l x)=qi 1 (II w l)/\ql 2 (BU w l x)=ql 2 (II w l)/\qi 3 (BU w l x)=qi 3 (II w l)/\qb 4 (BU w l x)=qb 4 (II w l))):=by
  intro hw hp;delta AeM Ak4;simp only[D,E]at hp ⊢;refine λwl _=>⟨⟨0,⟨AlO _,by omega⟩,rfl,rfl,rfl,rfl,rfl,rfl⟩,?_⟩
  intro x hx _;have x0:=hx.1;refine⟨λhl=>⟨⟨x0,hl⟩,λ_=>⟨hp,λ_=> ?_⟩⟩,λhl=> ?_⟩
  · have e:BU w l (x+1)=U6 w (BU w l x) (rGet (AP l) x):=Qg x0 hl;have ix:=inS wl x0 hl;have yes:qb 4 (BU w l x)=false∨Oe w (Jp (rGet (AP l) x) w) (BU w l x)<0->BU w l (x+1)=[.i (qi 0 (Jp (rGet (AP l) x) w)),.i (qi 1 (Jp (rGet (AP l) x) w)),.l (ql 2 (Jp (rGet (AP l) x) w)),.i (qi 3 (Jp (rGet (AP l) x) w)),.b true]:=λh=>e.trans (if_pos h);refine⟨λh=>⟨ix,x+1,OC hx hl,rfl,?_⟩,λh=>⟨hp,λ_=>⟨λh1=>⟨ix,x+1,OC hx hl,rfl,?_⟩,λh1=>⟨ix,x+1,OC hx hl,rfl,?_⟩⟩⟩⟩
    · rw[yes (.inl h)]; exact⟨rfl,rfl,rfl,rfl,rfl,by omega⟩
    · rw[yes (.inr h1)]; exact⟨rfl,rfl,rfl,rfl,rfl,by omega⟩
    · have e2:BU w l (x+1)=BU w l x:=e.trans (if_neg (by
        rintro(a|a)
        · rw[h]at a; cases a
        · exact h1 a))
      rw[e2]; exact⟨rfl,rfl,rfl,rfl,rfl,by omega⟩
  · have e:BU w l x=II w l:=VM hl;rw[e]; exact⟨rfl,rfl,rfl,rfl,rfl⟩
def r17:Cr PR:=K [r38,r39,r40] 17 8 {ps:=[(false,[.sl hX]),(true,hC)],rs:=[(true,hC),(false,[.bool])],pre:=λa=>pLe (iLen (ql 2 (AnR a))) 1000,out:=λa=>[rb [0,0,3,0] (II (AnR a) (L a 0 0)),[.b (qb 4 (II (AnR a) (L a 0 0)))]]} (λa=>A17 (L a 0 0) (AnR a)) λa=>Y (v17 (L a 0 0) (AnR a))
end Go.Sx

