import Derived.Test.YthflbgeplmecoaaGreatSxUse
import Derived.Test.YthflbgeplmecoaaGreatM20
set_option linter.unusedVariables false
set_option linter.unusedSimpArgs false
set_option maxRecDepth 100000
set_option maxHeartbeats 4000000
namespace Go
open Go.Sx
def Sp.fo (f:List C→List C→List C) (a:List C) (xs:List (List C)) (i:Int):List C:=(xs.take i.toNat).foldl f a
def Sp.foI (xs:List (List C)) (i:Int):Prop:=0≤i∧i≤(xs.length:Int)
def Sp.dif (a b:Int):Int:=iWrap .u64 (iWrap .u64 a-iWrap .u64 b)
def Sp.awy (a b:Int):Int:=if b<a then Sp.dif a b else Sp.dif b a
def Sp.odr (a b:Int):Int:=if a<b then-1 else if b<a then 1 else 0
def Sp.nrr (w a b:Int):Int:=if Sp.odr (Sp.awy a w) (Sp.awy b w)≠0 then Sp.odr (Sp.awy a w) (Sp.awy b w)else Sp.odr a b
def Sp.kds (w a b:Int):Int:=if a=b then 0 else if a=w∨(b≠w∧b<a)then-1 else 1
def Sp.nsS (n:Int) (s x:List C):List C:=if qb 1 s=false∨Sp.awy n (max (qi 0 x) (min (qi 1 x) n))<Sp.awy n (qi 0 s)then[.i (max (qi 0 x) (min (qi 1 x) n)),.b true]else s
def Sp.nst (xs:List (List C)) (n i:Int):List C:=Sp.fo (Sp.nsS n) [.i 0,.b false] (Sp.sps xs) i
def Sp.nsV (xs:List (List C)) (n:Int):List C:=(Sp.sps xs).foldl (Sp.nsS n) [.i 0,.b false]
def Sp.inX (b:List (List C)) (x:List C):Bool:=decide (0≤Sp.ix (Sp.eq1 (qi 0 x)) 0 b)
def Sp.cmn (a b:List (List C)):List (List C):=(a.filter (Sp.inX b)).map fun x=>[.i (qi 0 x)]
def Sp.cmR (a b:List (List C)) (i:Int):List (List C):=Sp.cmn (a.take i.toNat) b
def Sp.lex:List (List C)→List (List C)→Int
 |x::r,y::s=>if qi 0 x=qi 0 y then Sp.lex r s else if qi 0 x<qi 0 y then-1 else 1
 |_,_=>0
def Sp.lxI (a b:List (List C)) (i:Int):Prop:=0≤i∧i≤(a.length:Int)∧a.length=b.length∧Sp.lex (a.drop i.toNat) (b.drop i.toNat)=Sp.lex a b
def Sp.mps (w a b:List (List C)):Int:=if Sp.rl Sp.e0 a w≠Sp.rl Sp.e0 b w then(if Sp.rl Sp.e0 a w=true then-1 else 1)else if Sp.odr (Sp.cmn w b).length (Sp.cmn w a).length≠0 then Sp.odr (Sp.cmn w b).length (Sp.cmn w a).length else if Sp.odr (a.length:Int) b.length≠0 then Sp.odr (a.length:Int) b.length else Sp.lex a b
end Go
namespace Go
open Go.Sx
theorem Sp.fo_s {f:List C→List C→List C} {a:List C} {xs:List (List C)} {i:Int} (h0:0≤i) (h:i<(xs.length:Int)):Sp.fo f a xs (i+1)=f (Sp.fo f a xs i) (rGet xs i):=by
 unfold Sp.fo; rw[take_s h0 h,List.foldl_append]; rfl
theorem Sp.fo_e {f:List C→List C→List C} {a:List C} {xs:List (List C)} {i:Int} (h:¬i<(xs.length:Int)):Sp.fo f a xs i=xs.foldl f a:=by
 unfold Sp.fo; rw[List.take_of_length_le (by omega)]
theorem Sp.fo_n {xs:List (List C)} {i:Int} (h:Sp.foI xs i) (hl:i<(xs.length:Int)):Sp.foI xs (i+1):=⟨by have:=h.1; omega,by omega⟩
theorem Sp.cmR_s {a b:List (List C)} {i:Int} (h0:0≤i) (h:i<(a.length:Int)):Sp.cmR a b (i+1)=Sp.cmR a b i++(if 0≤Sp.ix (Sp.eq1 (qi 0 (rGet a i))) 0 b then[[.i (qi 0 (rGet a i))]]else[]):=by
 unfold Sp.cmR Sp.cmn
 rw[take_s h0 h,List.filter_append,List.map_append]
 congr 1
 generalize rGet a i=x
 by_cases hc:0≤Sp.ix (Sp.eq1 (qi 0 x)) 0 b
 · rw[if_pos hc,show[x].filter (Sp.inX b)=[x]from by simp[Sp.inX,hc]]; rfl
 · rw[if_neg hc,show[x].filter (Sp.inX b)=[]from by simp[Sp.inX]; omega]; rfl
theorem Sp.cmn_len (a b:List (List C)):(Sp.cmn a b).length≤a.length:=by
 unfold Sp.cmn; rw[List.length_map]; exact List.length_filter_le ..
end Go
namespace Go.Sx
theorem v242 (a:Int) (b:Int):InR .i64 a∧InR .i64 b→True→Cn (bLt b a) (iWrap .u64 (iSub (iWrap .u64 a) (iWrap .u64 b))=Sp.awy a b) (iWrap .u64 (iSub (iWrap .u64 b) (iWrap .u64 a))=Sp.awy a b):=by
 intro hw hp
 simp only[D]
 exact⟨fun h=>(if_pos (by simpa[bLt]using h)).symm,fun h=>(if_neg (by simpa[bLt]using h)).symm⟩
def r242:Cr PR:=Kw (fun _=>true) [] 242 6 {ps:=[(false,hI),(false,hI)],rs:=[(false,[.int .u64])],pre:=fun _=>True,out:=fun a=>[[.i (Sp.awy (I a 0 0) (I a 1 0))]]} U fun a=>Y (v242 (I a 0 0) (I a 1 0))
end Go.Sx
namespace Go.Sx
theorem v194 (w:Int) (a:Int) (b:Int):InR .i64 w∧InR .i64 a∧InR .i64 b→True→True∧(InR .u64 (Sp.awy a w)→True∧(InR .u64 (Sp.awy b w)→Cn (bLt (Sp.awy a w) (Sp.awy b w)) (-1=Sp.nrr w a b) (Cn (bLt (Sp.awy b w) (Sp.awy a w)) (1=Sp.nrr w a b) (Cn (bLt a b) (-1=Sp.nrr w a b) (Cn (bLt b a) (1=Sp.nrr w a b) (0=Sp.nrr w a b)))))):=by
 intro hw hp
 simp only[D,E]
 have o:∀x y:Int,Sp.odr x y=if x<y then-1 else if y<x then 1 else 0:=fun _ _=>rfl
 unfold Sp.nrr
 rw[o,o]
 generalize Sp.awy a w=p
 generalize Sp.awy b w=q
 repeat' (first|apply And.intro|intro _)
 all_goals ((repeat' split)<;>omega)
def r194:Cr PR:=Kw (fun _=>true) [r242] 194 6 {ps:=[(false,hI),(false,hI),(false,hI)],rs:=[(false,hI)],pre:=fun _=>True,out:=fun a=>[[.i (Sp.nrr (I a 0 0) (I a 1 0) (I a 2 0))]]} U fun a=>Y (v194 (I a 0 0) (I a 1 0) (I a 2 0))
end Go.Sx
namespace Go.Sx
theorem v191 (w:Int) (a:Int) (b:Int):InR .i64 w∧InR .i64 a∧InR .i64 b→Cn (bEq a b) (0=Sp.kds w a b) (Cn (bEq a w) (-1=Sp.kds w a b) (Cn (bNe b w) (Cn (bLt b a) (-1=Sp.kds w a b) (1=Sp.kds w a b)) (1=Sp.kds w a b))):=by
 intro hw
 simp only[D,E]
 unfold Sp.kds
 repeat' (first|apply And.intro|intro _)
 all_goals ((repeat' split)<;>omega)
def r191:Cr PR:=K0 [] 191 6 {ps:=[(false,hI),(false,hI),(false,hI)],rs:=[(false,hI)],pre:=fun _=>True,out:=fun a=>[[.i (Sp.kds (I a 0 0) (I a 1 0) (I a 2 0))]]} U fun a=>Y (v191 (I a 0 0) (I a 1 0) (I a 2 0))
end Go.Sx
namespace Go.Sx
theorem v239 (a:Int) (b:Int):InR .i64 a∧InR .i64 b→True→Cn (bLt a b) (iWrap .u64 (iSub (iWrap .u64 b) (iWrap .u64 a))=Sp.awy b a) (iWrap .u64 (iSub (iWrap .u64 a) (iWrap .u64 b))=Sp.awy b a):=by
 intro hw hp
 simp only[D]
 exact⟨fun h=>(if_pos (by simpa[bLt]using h)).symm,fun h=>(if_neg (by simpa[bLt]using h)).symm⟩
def r239:Cr PR:=Kw (fun _=>true) [] 239 6 {ps:=[(false,hI),(false,hI)],rs:=[(false,[.int .u64])],pre:=fun _=>True,out:=fun a=>[[.i (Sp.awy (I a 1 0) (I a 0 0))]]} U fun a=>Y (v239 (I a 0 0) (I a 1 0))
end Go.Sx
namespace Go.Sx
def A192 (xs:List (List C)) (n:Int):FuncId→Nat→LoopAnn:=fun _ _=> .inv Int (fun z=>Sp.foI (Sp.sps xs) z) (fun z=>[(14,.int .i64 z),(6,.int .i64 (qi 0 (Sp.nst xs n z))),(7,.bool (qb 1 (Sp.nst xs n z)))]) (fun _=>[]) [] [0,1,2,4,5,6,7,9,10,12,13,14,15,35] (fun z=>(Sp.sps xs).length-z.toNat)
def m192_0 (xs:List (List C)) (n:Int) (x:Int):Prop:=InR .i64 (iAdd x 1)∧Sm [C.l xs]∧Sm n∧Sm (Sp.sps xs)∧Sm (iLen (Sp.sps xs))∧Sm [C.l xs]∧∃(y:Int),Sp.foI (Sp.sps xs) y∧iAdd x 1=y∧iMax (qi 0 (rGet (Sp.sps xs) x)) (iMin (qi 1 (rGet (Sp.sps xs) x)) n)=qi 0 (Sp.nst xs n y)∧true=qb 1 (Sp.nst xs n y)∧nLt ((Sp.sps xs).length-y.toNat) ((Sp.sps xs).length-x.toNat)
theorem v192 (xs:List (List C)) (n:Int):WL hII xs∧InR .i64 n→True∧(WL hII (Sp.sps xs)→pLe (iLen (Sp.sps xs)) 9223372036854775807→(∃(x:Int),Sp.foI (Sp.sps xs) x∧0=x∧0=qi 0 (Sp.nst xs n x)∧false=qb 1 (Sp.nst xs n x))∧∀(x:Int),Sp.foI (Sp.sps xs) x→InR .i64 x∧InR .i64 (qi 0 (Sp.nst xs n x))→Cn (bLt x (iLen (Sp.sps xs))) (pIn 0 (iLen (Sp.sps xs)) x∧(InR .i64 (qi 0 (rGet (Sp.sps xs) x))∧InR .i64 (qi 1 (rGet (Sp.sps xs) x))→True∧Cn (bNot (qb 1 (Sp.nst xs n x))) ((m192_0 xs n x)) (True∧(InR .u64 (Sp.awy n (iMax (qi 0 (rGet (Sp.sps xs) x)) (iMin (qi 1 (rGet (Sp.sps xs) x)) n)))→True∧(InR .u64 (Sp.awy n (qi 0 (Sp.nst xs n x)))→Cn (bLt (Sp.awy n (iMax (qi 0 (rGet (Sp.sps xs) x)) (iMin (qi 1 (rGet (Sp.sps xs) x)) n))) (Sp.awy n (qi 0 (Sp.nst xs n x)))) ((m192_0 xs n x)) (InR .i64 (iAdd x 1)∧Sm [C.l xs]∧Sm n∧Sm (Sp.sps xs)∧Sm (iLen (Sp.sps xs))∧Sm [C.l xs]∧∃(y:Int),Sp.foI (Sp.sps xs) y∧iAdd x 1=y∧qi 0 (Sp.nst xs n x)=qi 0 (Sp.nst xs n y)∧qb 1 (Sp.nst xs n x)=qb 1 (Sp.nst xs n y)∧nLt ((Sp.sps xs).length-y.toNat) ((Sp.sps xs).length-x.toNat))))))) (qi 0 (Sp.nst xs n x)=qi 0 (Sp.nsV xs n)∧qb 1 (Sp.nst xs n x)=qb 1 (Sp.nsV xs n))):=by
 intro hw
 delta m192_0
 simp only[D,E]
 refine fun hW _=>⟨⟨0,⟨Int.le_refl _,by omega⟩,rfl,rfl,rfl⟩,?_⟩
 intro x hx _
 refine⟨fun hl=>⟨⟨hx.1,hl⟩,fun _=> ?_⟩,fun hl=> ?_⟩
 · have e:Sp.nst xs n (x+1)=Sp.nsS n (Sp.nst xs n x) (rGet (Sp.sps xs) x):=Sp.fo_s hx.1 hl
   have ix:=inS hW hx.1 hl
   have yes:qb 1 (Sp.nst xs n x)=false∨Sp.awy n (max (qi 0 (rGet (Sp.sps xs) x)) (min (qi 1 (rGet (Sp.sps xs) x)) n))<Sp.awy n (qi 0 (Sp.nst xs n x))→∃y,Sp.foI (Sp.sps xs) y∧x+1=y∧max (qi 0 (rGet (Sp.sps xs) x)) (min (qi 1 (rGet (Sp.sps xs) x)) n)=qi 0 (Sp.nst xs n y)∧true=qb 1 (Sp.nst xs n y)∧(Sp.sps xs).length-y.toNat<(Sp.sps xs).length-x.toNat:=fun h=>by
    have e2:=e.trans (if_pos h)
    exact⟨x+1,Sp.fo_n hx hl,rfl,by rw[e2]; rfl,by rw[e2]; rfl,by have:=hx.1; omega⟩
   refine⟨fun h=>⟨ix,yes (.inl h)⟩,fun h _ _=>⟨fun h1=>⟨ix,yes (.inr h1)⟩,fun h1=> ?_⟩⟩
   have e2:Sp.nst xs n (x+1)=Sp.nst xs n x:=e.trans (if_neg (by rw[h]; rintro(a|a)<;>first|exact h1 a|cases a))
   exact⟨ix,x+1,Sp.fo_n hx hl,rfl,by rw[e2],by rw[e2],by have:=hx.1; omega⟩
 · have e:Sp.nst xs n x=Sp.nsV xs n:=Sp.fo_e hl
   rw[e]; exact⟨rfl,rfl⟩
def r192:Cr PR:=K0 [r238,r239] 192 6 {ps:=[(true,[.sl hII]),(false,hI)],rs:=[(false,hI),(false,[.bool])],pre:=fun _=>True,out:=fun a=>[[.i (qi 0 (Sp.nsV (L a 0 0) (I a 1 0)))],[.b (qb 1 (Sp.nsV (L a 0 0) (I a 1 0)))]]} (fun a=>A192 (L a 0 0) (I a 1 0)) fun a=>Y (v192 (L a 0 0) (I a 1 0))
end Go.Sx
namespace Go.Sx
def A241 (a:List (List C)) (b:List (List C)):FuncId→Nat→LoopAnn:=fun _ _=> .ghost 5 hI 3 (.on (fun sv0=>match sv0.tmps.getD 5 .undef with| .own rr _=> .inv Int (fun z=>Sp.foI a z) (fun z=>[(10,.int .i64 z),(5,.own rr 0)]) (fun z=>[(rr,.row hI 3 0 (Sp.cmR a b z))]) [rr] [0,1,4,5,7,8,9,10,11,17] (fun z=>a.length-z.toNat)|_=> .unroll 0))
theorem v241 (a:List (List C)) (b:List (List C)):WL hI a∧WL hI b→pLe (iLen a) 1000→pLe (iLen a) 9223372036854775807→(∃(x:Int),Sp.foI a x∧0=x∧[]=Sp.cmR a b x)∧∀(x:Int),Sp.foI a x→InR .i64 x∧WL hI (Sp.cmR a b x)→Cn (bLt x (iLen a)) (pIn 0 (iLen a) x∧(InR .i64 (qi 0 (rGet a x))→True∧(InR .i64 (Sp.ix (Sp.eq1 (qi 0 (rGet a x))) 0 b)→Cn (bLe 0 (Sp.ix (Sp.eq1 (qi 0 (rGet a x))) 0 b)) (pRoom 8 (iLen (Sp.cmR a b x++[[C.i (qi 0 (rGet a x))]]))∧InR .i64 (iAdd x 1)∧Sm a∧Sm b∧Sm a∧Sm (iLen a)∧∃(y:Int),Sp.foI a y∧iAdd x 1=y∧Sp.cmR a b x++[[C.i (qi 0 (rGet a x))]]=Sp.cmR a b y∧nLt (a.length-y.toNat) (a.length-x.toNat)) (InR .i64 (iAdd x 1)∧Sm a∧Sm b∧Sm a∧Sm (iLen a)∧∃(y:Int),Sp.foI a y∧iAdd x 1=y∧Sp.cmR a b x=Sp.cmR a b y∧nLt (a.length-y.toNat) (a.length-x.toNat))))) (Sp.cmR a b x=Sp.cmn a b):=by
 intro hw hp
 simp only[D,E]at hp ⊢
 refine fun _=>⟨⟨0,⟨Int.le_refl _,by omega⟩,rfl,rfl⟩,?_⟩
 intro x hx _
 have x0:=hx.1
 refine⟨fun hl=>⟨⟨x0,hl⟩,fun _ _=> ?_⟩,fun hl=> ?_⟩
 · have e:=Sp.cmR_s (b:=b) x0 hl
   have l:=Sp.cmn_len (a.take x.toNat) b
   have l':(Sp.cmR a b x).length≤(a.take x.toNat).length:=l
   rw[List.length_take]at l'
   have ix:InR .i64 (x+1):=by simp only[InR]; omega
   refine⟨fun h=>⟨by rw[List.length_append,List.length_singleton]; omega,ix,x+1,Sp.fo_n hx hl,rfl,?_,by omega⟩,fun h=>⟨ix,x+1,Sp.fo_n hx hl,rfl,?_,by omega⟩⟩
   · rw[e,if_pos h]
   · rw[e,if_neg (by omega),List.append_nil]
 · unfold Sp.cmR; rw[List.take_of_length_le (by omega)]
def r241:Cr PR:=K [r268] 241 8 {ps:=[(false,hL),(false,hL)],rs:=[(false,hL)],pre:=fun a=>pLe (iLen (L a 0 0)) 1000,out:=fun a=>[[.l (Sp.cmn (L a 0 0) (L a 1 0))]]} (fun a=>A241 (L a 0 0) (L a 1 0)) fun a=>Y (v241 (L a 0 0) (L a 1 0))
end Go.Sx
namespace Go.Sx
def A193 (a:List (List C)) (b:List (List C)):FuncId→Nat→LoopAnn:=fun _ _=>lp 48 a.length (Sp.lxI a b) [0,1,2,6,7,8,9,10,11,20,21,34,44,47,48,49,59,68]
theorem v193 (w:List (List C)) (a:List (List C)) (b:List (List C)):WL hI w∧WL hI a∧WL hI b→pLe (iLen w) 1000→True∧True∧Cn (bDiff (Sp.rl Sp.e0 a w) (Sp.rl Sp.e0 b w)) (Cn (Sp.rl Sp.e0 a w) (-1=Sp.mps w a b) (1=Sp.mps w a b)) (pLe (iLen w) 1000∧(WL hI (Sp.cmn w b)→pLe (iLen (Sp.cmn w b)) 9223372036854775807→pLe (iLen w) 1000∧(WL hI (Sp.cmn w a)→pLe (iLen (Sp.cmn w a)) 9223372036854775807→Cn (bLt (iWrap .u64 (iLen (Sp.cmn w b))) (iWrap .u64 (iLen (Sp.cmn w a)))) (-1=Sp.mps w a b) (Cn (bLt (iWrap .u64 (iLen (Sp.cmn w a))) (iWrap .u64 (iLen (Sp.cmn w b)))) (1=Sp.mps w a b) (pLe (iLen a) 9223372036854775807→pLe (iLen b) 9223372036854775807→Cn (bLt (iWrap .u64 (iLen a)) (iWrap .u64 (iLen b))) (-1=Sp.mps w a b) (Cn (bLt (iWrap .u64 (iLen b)) (iWrap .u64 (iLen a))) (1=Sp.mps w a b) (pLe (iLen a) 9223372036854775807→(∃(x:Int),Sp.lxI a b x∧0=x)∧∀(x:Int),Sp.lxI a b x→InR .i64 x→Cn (bLt x (iLen a)) (pIn 0 (iLen a) x∧(InR .i64 (qi 0 (rGet a x))→pIn 0 (iLen b) x∧(InR .i64 (qi 0 (rGet b x))→Cn (bNe (qi 0 (rGet a x)) (qi 0 (rGet b x))) (pIn 0 (iLen a) x∧(InR .i64 (qi 0 (rGet a x))→pIn 0 (iLen b) x∧(InR .i64 (qi 0 (rGet b x))→Cn (bLt (qi 0 (rGet a x)) (qi 0 (rGet b x))) (-1=Sp.mps w a b) (1=Sp.mps w a b)))) (Sm w∧Sm a∧Sm b∧Sm (Sp.rl Sp.e0 a w)∧Sm (Sp.rl Sp.e0 b w)∧Sm (iLen a)∧∃(y:Int),Sp.lxI a b y∧iWrap .i64 (iAdd x 1)=y∧nLt (a.length-y.toNat) (a.length-x.toNat))))) (0=Sp.mps w a b)))))))):=by
 intro hw hp
 have la:=hw.2.1.1
 have lb:=hw.2.2.1
 have ml:maxLen=9223372036854775807:=rfl
 have ca:=Sp.cmn_len w a
 have cb:=Sp.cmn_len w b
 simp only[D,E]at hp ⊢
 have wr:∀n:Nat,n≤maxLen→iWrap .u64 (n:Int)=n:=fun n h=>Sp.wrap64 (by omega) (by omega)
 rw[wr _ (show(Sp.cmn w b).length≤maxLen by omega),wr _ (show(Sp.cmn w a).length≤maxLen by omega),wr _ la,wr _ lb]
 have o:∀x y:Int,Sp.odr x y=if x<y then-1 else if y<x then 1 else 0:=fun _ _=>rfl
 have M:Sp.mps w a b=if Sp.rl Sp.e0 a w≠Sp.rl Sp.e0 b w then(if Sp.rl Sp.e0 a w=true then-1 else 1)else if Sp.odr (Sp.cmn w b).length (Sp.cmn w a).length≠0 then Sp.odr (Sp.cmn w b).length (Sp.cmn w a).length else if Sp.odr (a.length:Int) b.length≠0 then Sp.odr (a.length:Int) b.length else Sp.lex a b:=rfl
 have m1:(Sp.rl Sp.e0 a w==Sp.rl Sp.e0 b w)=false→Sp.mps w a b=if Sp.rl Sp.e0 a w=true then-1 else 1:=fun h=>if_pos (by simpa using h)
 refine⟨fun h=>⟨fun h1=>by rw[m1 h,if_pos h1],fun h1=>by rw[m1 h,if_neg (by simp[h1])]⟩,fun h=>⟨hp,fun _ _=>⟨hp,fun _ _=> ?_⟩⟩⟩
 rw[if_neg (by simpa using h)]at M
 refine⟨fun g=>by rw[M,o,if_pos g,if_pos (by decide)],fun g=>⟨fun g'=>by rw[M,o,if_neg g,if_pos g',if_pos (by decide)],fun g' _ _=> ?_⟩⟩
 rw[o,if_neg g,if_neg g',if_neg (by decide)]at M
 refine⟨fun k=>by rw[M,o,if_pos k,if_pos (by decide)],fun k=>⟨fun k'=>by rw[M,o,if_neg k,if_pos k',if_pos (by decide)],fun k' _=> ?_⟩⟩
 rw[o,if_neg k,if_neg k',if_neg (by decide)]at M
 rw[M]
 refine⟨⟨0,⟨Int.le_refl _,by omega,by omega,rfl⟩,rfl⟩,?_⟩
 intro x ⟨x0,x1,x2,x3⟩ _
 refine⟨fun hl=>⟨⟨x0,hl⟩,fun _=>⟨⟨x0,by omega⟩,fun _=> ?_⟩⟩,fun hl=> ?_⟩
 · rw[drop_at x0 hl,drop_at x0 (by omega),Sp.lex]at x3
   refine⟨fun n=>⟨⟨x0,hl⟩,fun _=>⟨⟨x0,by omega⟩,fun _=>⟨fun u=> ?_,fun u=> ?_⟩⟩⟩,fun n=>⟨x+1,⟨by omega,by omega,x2,?_⟩,Sp.wrapi (by omega) (by omega),by omega⟩⟩
   · rw[←x3,if_neg n,if_pos u]
   · rw[←x3,if_neg n,if_neg u]
   · rw[←x3,if_pos n]
 · rw[←x3,List.drop_eq_nil_of_le (by omega)]; rfl
def r193:Cr PR:=Kw (fun _=>true) [r202,r241] 193 8 {ps:=[(false,hL),(false,hL),(false,hL)],rs:=[(false,hI)],pre:=fun a=>pLe (iLen (L a 0 0)) 1000,out:=fun a=>[[.i (Sp.mps (L a 0 0) (L a 1 0) (L a 2 0))]]} (fun a=>A193 (L a 1 0) (L a 2 0)) fun a=>Y (v193 (L a 0 0) (L a 1 0) (L a 2 0))
end Go.Sx

set_option linter.unusedVariables false
set_option linter.unusedSimpArgs false
set_option maxRecDepth 100000
set_option maxHeartbeats 4000000
namespace Go
open Go.Sx
def Sp.bkd (k w:Int):Nat→Int
 |0=>0
 |n+1=>if Sp.kd k (n+1)=true∧(Sp.bkd k w n=0∨Sp.kds w (n+1) (Sp.bkd k w n)<0)then n+1 else Sp.bkd k w n
def Sp.bqI (k w z:Int):Prop:=1≤z∧z≤8
def Sp.bkE (k w z:Int):Int:=Sp.bkd k w (z-1).toNat
def Sp.bmS (w:List (List C)) (s x:List C):List C:=if qb 1 s=false∨Sp.mps w (ql 0 x) (ql 0 s)<0 then[.l (ql 0 x),.b true]else s
def Sp.bmZ:List C:=[.l [],.b false]
def Sp.bmT (w ms:List (List C)) (z:Int):List C:=Sp.fo (Sp.bmS w) Sp.bmZ ms z
def Sp.bmV (w ms:List (List C)):List C:=ms.foldl (Sp.bmS w) Sp.bmZ
def Sp.bst (b c:List C):List C:=[.i (Sp.bkd (qi 0 b) (qi 0 c) 7),.i (qi 0 (Sp.nsV (ql 1 b) (qi 1 c))),.l (ql 0 (Sp.bmV (ql 2 c) (ql 2 b))),.i (qi 0 (Sp.nsV (ql 3 b) (qi 3 c)))]
def Sp.cpr (w a b:List C):Int:=if Sp.kds (qi 0 w) (qi 0 a) (qi 0 b)≠0 then Sp.kds (qi 0 w) (qi 0 a) (qi 0 b)else if Sp.nrr (qi 1 w) (qi 1 a) (qi 1 b)≠0 then Sp.nrr (qi 1 w) (qi 1 a) (qi 1 b)else if Sp.mps (ql 2 w) (ql 2 a) (ql 2 b)≠0 then Sp.mps (ql 2 w) (ql 2 a) (ql 2 b)else Sp.nrr (qi 3 w) (qi 3 a) (qi 3 b)
def Sp.beS (w:List C) (s x:List C):List C:=if qb 4 s=false∨Sp.cpr w (Sp.bst x w) s<0 then[.i (qi 0 (Sp.bst x w)),.i (qi 1 (Sp.bst x w)),.l (ql 2 (Sp.bst x w)),.i (qi 3 (Sp.bst x w)),.b true]else s
def Sp.beZ:List C:=[.i 0,.i 0,.l [],.i 0,.b false]
def Sp.beT (w:List C) (l:List (List C)) (z:Int):List C:=Sp.fo (Sp.beS w) Sp.beZ (Sp.bxs l) z
def Sp.beV (w:List C) (l:List (List C)):List C:=(Sp.bxs l).foldl (Sp.beS w) Sp.beZ
end Go
namespace Go
open Go.Sx
theorem Sp.bk_s {k w x:Int} (h:1≤x):Sp.bkE k w (x+1)=if Sp.kd k x=true∧(Sp.bkE k w x=0∨Sp.kds w x (Sp.bkE k w x)<0)then x else Sp.bkE k w x:=by
 unfold Sp.bkE
 rw[show(x+1-1).toNat=(x-1).toNat+1 by omega,Sp.bkd,show((x-1).toNat:Int)+1=x by omega]
theorem Sp.bm_f {w ms:List (List C)} {z:Int} (hz:Sp.foI ms z) (h:0<z):qb 1 (Sp.bmT w ms z)=true:=by
 have e:Sp.bmT w ms (z-1+1)=Sp.bmS w (Sp.bmT w ms (z-1)) (rGet ms (z-1)):=Sp.fo_s (by omega) (by have:=hz.2; omega)
 rw[show z-1+1=z by omega]at e
 rw[e]
 unfold Sp.bmS
 split
 · rfl
 · rename_i n
   cases hb:qb 1 (Sp.bmT w ms (z-1))
   · exact(n (.inl hb)).elim
   · rfl
end Go
namespace Go.Sx
def A125 (b:List C) (c:List C):FuncId→Nat→LoopAnn:=fun _ ii=>bif Nat.beq ii 3 then .on (fun sv0=>match(sv0.heap[3]? :Option HB)with|some (.box [_,r,m,s] ty)=> .inv Int (fun z=>Sp.bqI (qi 0 b) (qi 0 c) z) (fun z=>[(6,.int .i64 z)]) (fun z=>[(3,.box [.int .i64 (Sp.bkE (qi 0 b) (qi 0 c) z),r,m,s] ty)]) [3] [0,1,2,3,4,5,6,7,8,10,33,58,59,60,61,77] (fun z=>(8-z).toNat)|_=> .unroll 0)else .on (fun sv0=>match(sv0.heap[3]? :Option HB)with|some (.box [k,r,_,s] ty)=> .inv Int (fun z=>Sp.foI (ql 2 b) z) (fun z=>[(60,.int .i64 z)]) (fun z=>[(3,.box [k,r,.sl hI (ql 0 (Sp.bmT (ql 2 c) (ql 2 b) z)),s] ty)]) [3] [0,1,2,3,4,5,6,7,8,10,33,58,59,60,61,77] (fun z=>(ql 2 b).length-z.toNat)|_=> .unroll 0)
def m125_0 (b:List C) (c:List C) (x:Int) (x_1:Int):Prop:=InR .i64 (iAdd x_1 1)∧Sm (sg 0 [0,3,3,3] b)∧Sm (sg 0 [0,0,3,0] c)∧Sm x∧Sm (ql 2 b)∧Sm (iLen (ql 2 b))∧Sm (sg 0 [0,3,3,3] b)∧Sm (sg 0 [0,0,3,0] c)∧∃(y:Int),Sp.foI (ql 2 b) y∧iAdd x_1 1=y∧Sm (Sp.bkE (qi 0 b) (qi 0 c) x)∧Sm (qi 0 (Sp.nsV (ql 1 b) (qi 1 c)))∧ql 0 (rGet (ql 2 b) x_1)=ql 0 (Sp.bmT (ql 2 c) (ql 2 b) y)∧Sm (qi 0 (Sp.nsV (ql 3 b) (qi 3 c)))∧nLt ((ql 2 b).length-y.toNat) ((ql 2 b).length-x_1.toNat)
def m125_1 (b:List C) (c:List C) (x:Int):Prop:=InR .i64 (iAdd x 1)∧Sm (sg 0 [0,3,3,3] b)∧Sm (sg 0 [0,0,3,0] c)∧Sm (sg 0 [0,3,3,3] b)∧Sm (sg 0 [0,0,3,0] c)∧∃(y:Int),Sp.bqI (qi 0 b) (qi 0 c) y∧iAdd x 1=y∧Sp.bkE (qi 0 b) (qi 0 c) x=Sp.bkE (qi 0 b) (qi 0 c) y∧Sm (0:Int)∧Sm (0:Int)∧nLt (8-y).toNat (8-x).toNat
def m125_2 (b:List C) (c:List C) (x:Int):Prop:=InR .i64 (iAdd x 1)∧Sm (sg 0 [0,3,3,3] b)∧Sm (sg 0 [0,0,3,0] c)∧Sm (sg 0 [0,3,3,3] b)∧Sm (sg 0 [0,0,3,0] c)∧∃(y:Int),Sp.bqI (qi 0 b) (qi 0 c) y∧iAdd x 1=y∧x=Sp.bkE (qi 0 b) (qi 0 c) y∧Sm (0:Int)∧Sm (0:Int)∧nLt (8-y).toNat (8-x).toNat
theorem v125 (b:List C) (c:List C):InR .i64 (qi 0 b)∧WL hII (ql 1 b)∧WL [Sh.sl hI] (ql 2 b)∧WL hII (ql 3 b)∧InR .i64 (qi 0 c)∧InR .i64 (qi 1 c)∧WL hI (ql 2 c)∧InR .i64 (qi 3 c)→pLe (iLen (ql 2 c)) 1000→(∃(x:Int),Sp.bqI (qi 0 b) (qi 0 c) x∧1=x∧0=Sp.bkE (qi 0 b) (qi 0 c) x∧Sm (0:Int)∧Sm (0:Int))∧∀(x:Int),Sp.bqI (qi 0 b) (qi 0 c) x→InR .i64 x∧InR .i64 (Sp.bkE (qi 0 b) (qi 0 c) x)∧InR .i64 0∧InR .i64 0→Cn (bLe x 7) (True∧Cn (Sp.kd (qi 0 b) x) (Cn (bEq (Sp.bkE (qi 0 b) (qi 0 c) x) 0) ((m125_2 b c x)) (True∧(InR .i64 (Sp.kds (qi 0 c) x (Sp.bkE (qi 0 b) (qi 0 c) x))→Cn (bLt (Sp.kds (qi 0 c) x (Sp.bkE (qi 0 b) (qi 0 c) x)) 0) ((m125_2 b c x)) ((m125_1 b c x))))) ((m125_1 b c x))) (True∧(InR .i64 (qi 0 (Sp.nsV (ql 1 b) (qi 1 c)))→True∧(InR .i64 (qi 0 (Sp.nsV (ql 3 b) (qi 3 c)))→pLe (iLen (ql 2 b)) 9223372036854775807→(∃(x_1:Int),Sp.foI (ql 2 b) x_1∧0=x_1∧Sm (Sp.bkE (qi 0 b) (qi 0 c) x)∧Sm (qi 0 (Sp.nsV (ql 1 b) (qi 1 c)))∧ql 0 (Sp.bmT (ql 2 c) (ql 2 b) x_1)=[]∧Sm (qi 0 (Sp.nsV (ql 3 b) (qi 3 c))))∧∀(x_1:Int),Sp.foI (ql 2 b) x_1→InR .i64 x_1∧InR .i64 (Sp.bkE (qi 0 b) (qi 0 c) x)∧InR .i64 (qi 0 (Sp.nsV (ql 1 b) (qi 1 c)))∧WL hI (ql 0 (Sp.bmT (ql 2 c) (ql 2 b) x_1))∧InR .i64 (qi 0 (Sp.nsV (ql 3 b) (qi 3 c)))→Cn (bLt x_1 (iLen (ql 2 b))) (pIn 0 (iLen (ql 2 b)) x_1∧(WL hI (ql 0 (rGet (ql 2 b) x_1))→Cn (bEq x_1 0) ((m125_0 b c x x_1)) (pLe (iLen (ql 2 c)) 1000∧(InR .i64 (Sp.mps (ql 2 c) (ql 0 (rGet (ql 2 b) x_1)) (ql 0 (Sp.bmT (ql 2 c) (ql 2 b) x_1)))→Cn (bLt (Sp.mps (ql 2 c) (ql 0 (rGet (ql 2 b) x_1)) (ql 0 (Sp.bmT (ql 2 c) (ql 2 b) x_1))) 0) ((m125_0 b c x x_1)) (InR .i64 (iAdd x_1 1)∧Sm (sg 0 [0,3,3,3] b)∧Sm (sg 0 [0,0,3,0] c)∧Sm x∧Sm (ql 2 b)∧Sm (iLen (ql 2 b))∧Sm (sg 0 [0,3,3,3] b)∧Sm (sg 0 [0,0,3,0] c)∧∃(y:Int),Sp.foI (ql 2 b) y∧iAdd x_1 1=y∧Sm (Sp.bkE (qi 0 b) (qi 0 c) x)∧Sm (qi 0 (Sp.nsV (ql 1 b) (qi 1 c)))∧ql 0 (Sp.bmT (ql 2 c) (ql 2 b) x_1)=ql 0 (Sp.bmT (ql 2 c) (ql 2 b) y)∧Sm (qi 0 (Sp.nsV (ql 3 b) (qi 3 c)))∧nLt ((ql 2 b).length-y.toNat) ((ql 2 b).length-x_1.toNat)))))) (Sp.bkE (qi 0 b) (qi 0 c) x=qi 0 (Sp.bst b c)∧qi 0 (Sp.nsV (ql 1 b) (qi 1 c))=qi 1 (Sp.bst b c)∧ql 0 (Sp.bmT (ql 2 c) (ql 2 b) x_1)=ql 2 (Sp.bst b c)∧qi 0 (Sp.nsV (ql 3 b) (qi 3 c))=qi 3 (Sp.bst b c))))):=by
 intro hw hp
 delta m125_0 m125_1 m125_2
 simp only[D,E]at hp ⊢
 refine⟨⟨1,⟨by omega,by omega⟩,rfl,rfl⟩,?_⟩
 intro x ⟨x1,x2⟩ _
 have st:∀ {v:Int},x≤7→v=Sp.bkE (qi 0 b) (qi 0 c) (x+1)→InR .i64 (x+1)∧∃y,Sp.bqI (qi 0 b) (qi 0 c) y∧x+1=y∧v=Sp.bkE (qi 0 b) (qi 0 c) y∧(8-y).toNat<(8-x).toNat:=fun hl e=>⟨by simp only[InR]; omega,x+1,⟨by omega,by omega⟩,rfl,e,by omega⟩
 have bs:=Sp.bk_s (k:=qi 0 b) (w:=qi 0 c) x1
 refine⟨fun hl=>⟨fun hk=>⟨fun h0=>st hl ?_,fun h0 _=>⟨fun h1=>st hl ?_,fun h1=>st hl ?_⟩⟩,fun hk=>st hl ?_⟩,fun hl _ _ _=> ?_⟩
 · rw[bs,if_pos ⟨hk,.inl h0⟩]
 · rw[bs,if_pos ⟨hk,.inr h1⟩]
 · rw[bs,if_neg (fun a=>a.2.elim (by omega) (by omega))]
 · rw[bs,if_neg (fun a=>by rw[hk]at a; cases a.1)]
 have x8:x=8:=by omega
 subst x8
 refine⟨⟨0,⟨Int.le_refl _,by omega⟩,rfl,rfl⟩,?_⟩
 intro z hz _
 have z0:=hz.1
 have wl:=hw.2.2.1
 have st:∀ {v:List (List C)},z<((ql 2 b).length:Int)→v=ql 0 (Sp.bmT (ql 2 c) (ql 2 b) (z+1))→InR .i64 (z+1)∧∃y,Sp.foI (ql 2 b) y∧z+1=y∧v=ql 0 (Sp.bmT (ql 2 c) (ql 2 b) y)∧(ql 2 b).length-y.toNat<(ql 2 b).length-z.toNat:=fun hl e=>⟨inS wl z0 hl,z+1,Sp.fo_n hz hl,rfl,e,by omega⟩
 refine⟨fun hl=>⟨⟨z0,hl⟩,fun _=>⟨fun h0=>st hl ?_,fun h0=>⟨hp,fun _=>⟨fun h1=>st hl ?_,fun h1=>st hl ?_⟩⟩⟩⟩,fun hl=> ?_⟩
 · have e:Sp.bmT (ql 2 c) (ql 2 b) (z+1)=_:=Sp.fo_s z0 hl
   rw[e,Sp.bmS,if_pos (.inl (by rw[h0]; rfl))]; rfl
 · have e:Sp.bmT (ql 2 c) (ql 2 b) (z+1)=_:=Sp.fo_s z0 hl
   rw[e,Sp.bmS,if_pos (.inr h1)]; rfl
 · have e:Sp.bmT (ql 2 c) (ql 2 b) (z+1)=_:=Sp.fo_s z0 hl
   have f:=Sp.bm_f (w:=ql 2 c) hz (by omega)
   rw[e,Sp.bmS,if_neg]; rfl
   rintro(a|a)
   · rw[show Sp.fo (Sp.bmS (ql 2 c)) Sp.bmZ (ql 2 b) z=Sp.bmT (ql 2 c) (ql 2 b) z from rfl,f]at a; cases a
   · exact h1 a
 · have e:Sp.bmT (ql 2 c) (ql 2 b) z=Sp.bmV (ql 2 c) (ql 2 b):=Sp.fo_e hl
   rw[e]; exact⟨rfl,rfl,rfl,rfl⟩
def r125:Cr PR:=K [r190,r191,r192,r193] 125 8 {ps:=[(true,hX),(true,hC)],rs:=[(true,hC)],pre:=fun a=>pLe (iLen (ql 2 (arg 1 a))) 1000,out:=fun a=>[rb [0,0,3,0] (Sp.bst (arg 0 a) (arg 1 a))]} (fun a=>A125 (arg 0 a) (arg 1 a)) fun a=>Y (v125 (arg 0 a) (arg 1 a))
end Go.Sx
namespace Go.Sx
theorem v126 (w:List C) (a:List C) (b:List C):InR .i64 (qi 0 w)∧InR .i64 (qi 1 w)∧WL hI (ql 2 w)∧InR .i64 (qi 3 w)∧InR .i64 (qi 0 a)∧InR .i64 (qi 1 a)∧WL hI (ql 2 a)∧InR .i64 (qi 3 a)∧InR .i64 (qi 0 b)∧InR .i64 (qi 1 b)∧WL hI (ql 2 b)∧InR .i64 (qi 3 b)→pLe (iLen (ql 2 w)) 1000→True∧(InR .i64 (Sp.kds (qi 0 w) (qi 0 a) (qi 0 b))→Cn (bNe (Sp.kds (qi 0 w) (qi 0 a) (qi 0 b)) 0) (Sp.kds (qi 0 w) (qi 0 a) (qi 0 b)=Sp.cpr w a b) (True∧(InR .i64 (Sp.nrr (qi 1 w) (qi 1 a) (qi 1 b))→Cn (bNe (Sp.nrr (qi 1 w) (qi 1 a) (qi 1 b)) 0) (Sp.nrr (qi 1 w) (qi 1 a) (qi 1 b)=Sp.cpr w a b) (pLe (iLen (ql 2 w)) 1000∧(InR .i64 (Sp.mps (ql 2 w) (ql 2 a) (ql 2 b))→Cn (bNe (Sp.mps (ql 2 w) (ql 2 a) (ql 2 b)) 0) (Sp.mps (ql 2 w) (ql 2 a) (ql 2 b)=Sp.cpr w a b) (True∧(InR .i64 (Sp.nrr (qi 3 w) (qi 3 a) (qi 3 b))→Sp.nrr (qi 3 w) (qi 3 a) (qi 3 b)=Sp.cpr w a b))))))):=by
 intro hw hp
 simp only[D,E]at hp ⊢
 unfold Sp.cpr
 refine fun _=>⟨fun h=>(if_pos h).symm,fun h _=> ?_⟩
 rw[if_neg (by omega)]
 refine⟨fun h1=>(if_pos h1).symm,fun h1=>⟨hp,fun _=> ?_⟩⟩
 rw[if_neg (by omega)]
 exact⟨fun h2=>(if_pos h2).symm,fun h2 _=>(if_neg (by omega)).symm⟩
def r126:Cr PR:=K [r191,r194,r193] 126 8 {ps:=[(true,hC),(true,hC),(true,hC)],rs:=[(false,hI)],pre:=fun a=>pLe (iLen (ql 2 (arg 0 a))) 1000,out:=fun a=>[[.i (Sp.cpr (arg 0 a) (arg 1 a) (arg 2 a))]]} U fun a=>Y (v126 (arg 0 a) (arg 1 a) (arg 2 a))
end Go.Sx
namespace Go.Sx
def A61 (l:List (List C)) (w:List C):FuncId→Nat→LoopAnn:=fun _ _=> .inv Int (fun z=>Sp.foI (Sp.bxs l) z) (fun z=>[(14,.int .i64 z),(7,.bool (qb 4 (Sp.beT w l z)))]) (fun z=>[(2,.box [.int .i64 (qi 0 (Sp.beT w l z)),.int .i64 (qi 1 (Sp.beT w l z)),.sl hI (ql 2 (Sp.beT w l z)),.int .i64 (qi 3 (Sp.beT w l z))] 32)]) [2] [0,1,3,4,5,6,7,9,10,12,13,14,15,29] (fun z=>(Sp.bxs l).length-z.toNat)
def m61_1 (l:List (List C)) (w:List C) (x:Int):List C:=(Sp.bst (rGet (Sp.bxs l) x) w)
def m61_0 (l:List (List C)) (w:List C) (x:Int):Prop:=InR .i64 (iAdd x 1)∧Sm l∧Sm (sg 0 [0,0,3,0] w)∧Sm (Sp.bxs l)∧Sm (iLen (Sp.bxs l))∧Sm (sg 0 [0,0,3,0] w)∧∃(y:Int),Sp.foI (Sp.bxs l) y∧iAdd x 1=y∧true=qb 4 (Sp.beT w l y)∧qi 0 (m61_1 l w x)=qi 0 (Sp.beT w l y)∧qi 1 (m61_1 l w x)=qi 1 (Sp.beT w l y)∧ql 2 (m61_1 l w x)=ql 2 (Sp.beT w l y)∧qi 3 (m61_1 l w x)=qi 3 (Sp.beT w l y)∧nLt ((Sp.bxs l).length-y.toNat) ((Sp.bxs l).length-x.toNat)
theorem v61 (l:List (List C)) (w:List C):WL hX l∧InR .i64 (qi 0 w)∧InR .i64 (qi 1 w)∧WL hI (ql 2 w)∧InR .i64 (qi 3 w)→pLe (iLen (ql 2 w)) 1000→True∧(WL hX (Sp.bxs l)→pLe (iLen (Sp.bxs l)) 9223372036854775807→(∃(x:Int),Sp.foI (Sp.bxs l) x∧0=x∧false=qb 4 (Sp.beT w l x)∧0=qi 0 (Sp.beT w l x)∧0=qi 1 (Sp.beT w l x)∧ql 2 (Sp.beT w l x)=[]∧0=qi 3 (Sp.beT w l x))∧∀(x:Int),Sp.foI (Sp.bxs l) x→InR .i64 x∧InR .i64 (qi 0 (Sp.beT w l x))∧InR .i64 (qi 1 (Sp.beT w l x))∧WL hI (ql 2 (Sp.beT w l x))∧InR .i64 (qi 3 (Sp.beT w l x))→Cn (bLt x (iLen (Sp.bxs l))) (pIn 0 (iLen (Sp.bxs l)) x∧(InR .i64 (qi 0 (rGet (Sp.bxs l) x))∧WL hII (ql 1 (rGet (Sp.bxs l) x))∧WL [Sh.sl hI] (ql 2 (rGet (Sp.bxs l) x))∧WL hII (ql 3 (rGet (Sp.bxs l) x))→pLe (iLen (ql 2 w)) 1000∧(InR .i64 (qi 0 (m61_1 l w x))∧InR .i64 (qi 1 (m61_1 l w x))∧WL hI (ql 2 (m61_1 l w x))∧InR .i64 (qi 3 (m61_1 l w x))→True∧Cn (bNot (qb 4 (Sp.beT w l x))) ((m61_0 l w x)) (pLe (iLen (ql 2 w)) 1000∧(InR .i64 (Sp.cpr w (m61_1 l w x) (Sp.beT w l x))→Cn (bLt (Sp.cpr w (m61_1 l w x) (Sp.beT w l x)) 0) ((m61_0 l w x)) (InR .i64 (iAdd x 1)∧Sm l∧Sm (sg 0 [0,0,3,0] w)∧Sm (Sp.bxs l)∧Sm (iLen (Sp.bxs l))∧Sm (sg 0 [0,0,3,0] w)∧∃(y:Int),Sp.foI (Sp.bxs l) y∧iAdd x 1=y∧qb 4 (Sp.beT w l x)=qb 4 (Sp.beT w l y)∧qi 0 (Sp.beT w l x)=qi 0 (Sp.beT w l y)∧qi 1 (Sp.beT w l x)=qi 1 (Sp.beT w l y)∧ql 2 (Sp.beT w l x)=ql 2 (Sp.beT w l y)∧qi 3 (Sp.beT w l x)=qi 3 (Sp.beT w l y)∧nLt ((Sp.bxs l).length-y.toNat) ((Sp.bxs l).length-x.toNat))))))) (qi 0 (Sp.beT w l x)=qi 0 (Sp.beV w l)∧qi 1 (Sp.beT w l x)=qi 1 (Sp.beV w l)∧ql 2 (Sp.beT w l x)=ql 2 (Sp.beV w l)∧qi 3 (Sp.beT w l x)=qi 3 (Sp.beV w l)∧qb 4 (Sp.beT w l x)=qb 4 (Sp.beV w l))):=by
  intro hw hp
  delta m61_1 m61_0
  simp only[D,E]at hp ⊢
  refine fun wl _=>⟨⟨0,⟨Int.le_refl _,by omega⟩,rfl,rfl,rfl,rfl,rfl,rfl⟩,?_⟩
  intro x hx _
  have x0:=hx.1
  refine⟨fun hl=>⟨⟨x0,hl⟩,fun _=>⟨hp,fun _=> ?_⟩⟩,fun hl=> ?_⟩
  · have e:Sp.beT w l (x+1)=Sp.beS w (Sp.beT w l x) (rGet (Sp.bxs l) x):=Sp.fo_s x0 hl
    have ix:=inS wl x0 hl
    have yes:qb 4 (Sp.beT w l x)=false∨Sp.cpr w (Sp.bst (rGet (Sp.bxs l) x) w) (Sp.beT w l x)<0→Sp.beT w l (x+1)=[.i (qi 0 (Sp.bst (rGet (Sp.bxs l) x) w)),.i (qi 1 (Sp.bst (rGet (Sp.bxs l) x) w)),.l (ql 2 (Sp.bst (rGet (Sp.bxs l) x) w)),.i (qi 3 (Sp.bst (rGet (Sp.bxs l) x) w)),.b true]:=fun h=>e.trans (if_pos h)
    refine⟨fun h=>⟨ix,x+1,Sp.fo_n hx hl,rfl,?_⟩,fun h=>⟨hp,fun _=>⟨fun h1=>⟨ix,x+1,Sp.fo_n hx hl,rfl,?_⟩,fun h1=>⟨ix,x+1,Sp.fo_n hx hl,rfl,?_⟩⟩⟩⟩
    · rw[yes (.inl h)]; exact⟨rfl,rfl,rfl,rfl,rfl,by omega⟩
    · rw[yes (.inr h1)]; exact⟨rfl,rfl,rfl,rfl,rfl,by omega⟩
    · have e2:Sp.beT w l (x+1)=Sp.beT w l x:=e.trans (if_neg (by
        rintro(a|a)
        · rw[h]at a; cases a
        · exact h1 a))
      rw[e2]; exact⟨rfl,rfl,rfl,rfl,rfl,by omega⟩
  · have e:Sp.beT w l x=Sp.beV w l:=Sp.fo_e hl
    rw[e]; exact⟨rfl,rfl,rfl,rfl,rfl⟩
def r61:Cr PR:=K [r124,r125,r126] 61 8 {ps:=[(false,[.sl hX]),(true,hC)],rs:=[(true,hC),(false,[.bool])],pre:=fun a=>pLe (iLen (ql 2 (arg 1 a))) 1000,out:=fun a=>[rb [0,0,3,0] (Sp.beV (arg 1 a) (L a 0 0)),[.b (qb 4 (Sp.beV (arg 1 a) (L a 0 0)))]]} (fun a=>A61 (L a 0 0) (arg 1 a)) fun a=>Y (v61 (L a 0 0) (arg 1 a))
end Go.Sx

set_option linter.unusedVariables false
set_option linter.unusedSimpArgs false
set_option maxRecDepth 100000
set_option maxHeartbeats 4000000
namespace Go
open Go.Sx
def Sp.mdA:List (List C):=[[.i 48000],[.i 44100],[.i 8000]]
def Sp.mdB:List (List C):=[[.i 48000],[.i 44100]]
def Sp.mdP:List (List C):=[[.i 16],[.i 32],[.i 24]]
def Sp.mdF (d:Int):List (List C):=[[.i 0],[.i d],[.i (iSub 0 d)],[.i (iQuo d 2)]]
def Sp.md2 (l:List (List C)):List (List C):=Sp.dT (Sp.dsT l) 3
def Sp.md3 (l:List (List C)):List (List C):=Sp.dT (Sp.md2 l) 2
def Sp.md4 (l:List (List C)):List (List C):=Sp.dT (Sp.md3 l) 4
def Sp.mdC (l:List (List C)) (r:Int):List C:=Sp.beV [.i 2,.i (qi 0 (rGet Sp.mdA (Sp.dN (Sp.dsT l) 3))),.l [[.i 1],[.i 2]],.i 64] (ql 7 (Sp.dsM l r))
def Sp.mdR (l:List (List C)):Int:=qi 0 (rGet Sp.mdB (Sp.dN (Sp.md2 l) 2))
def Sp.mdX (l:List (List C)) (r:Int):Int:=iMul (qi 1 (Sp.mdC l r)) (iAdd 65536 (qi 0 (rGet (Sp.mdF (qi 5 (Sp.dsM l r))) (Sp.dN (Sp.md3 l) 4))))
def Sp.mdY (l:List (List C)):Int:=iMul (Sp.mdR l) 65536
def Sp.mdN (l:List (List C)) (r:Int):Int:=Sp.mkV (Sp.mdX l r) (Sp.mdY l) (Sp.mdX l r)
def Sp.mdD (l:List (List C)) (r:Int):Int:=Sp.mkV (Sp.mdX l r) (Sp.mdY l) (Sp.mdY l)
def Sp.mdK (l:List (List C)) (r:Int):List (List C):=if Sp.nwE (Sp.mdN l r) (Sp.mdD l r)≠0 then Sp.mkC (Sp.md4 l)else if Sp.dN (Sp.md4 l) 6=5 then Sp.mkC (Sp.dT (Sp.md4 l) 6)else Sp.nwV (Sp.mdN l r) (Sp.mdD l r)
def Sp.md5 (l:List (List C)) (r:Int):List (List C):=if Sp.nwE (Sp.mdN l r) (Sp.mdD l r)≠0 then Sp.mkD (Sp.md4 l)else if Sp.dN (Sp.md4 l) 6=5 then Sp.mkD (Sp.dT (Sp.md4 l) 6)else Sp.dT (Sp.md4 l) 6
def Sp.mdQ (l:List (List C)) (r:Int):Int:=qi 0 (rGet Sp.mdP (Sp.dN (Sp.md5 l r) 3))
def Sp.md6 (l:List (List C)) (r:Int):List (List C):=Sp.dT (Sp.md5 l r) 3
def Sp.md7 (l:List (List C)) (r:Int):List (List C):=Sp.dT (Sp.md6 l r) 4
def Sp.mdO (l:List (List C)) (r:Int):List C:=Sp.opR (Sp.dsM l r) (qi 0 (Sp.mdC l r)) (qi 1 (Sp.mdC l r)) (ql 2 (Sp.mdC l r)) (qi 3 (Sp.mdC l r)) (Sp.mdK l r) (Sp.mdR l) (Sp.mdQ l r)
def Sp.mdE (l:List (List C)) (r:Int):Int:=Sp.opE (Sp.dsM l r) (qi 0 (Sp.mdC l r)) (qi 1 (Sp.mdC l r)) (ql 2 (Sp.mdC l r)) (qi 3 (Sp.mdC l r)) (Sp.mdK l r) (Sp.mdR l) (Sp.mdQ l r)
def Sp.mdV (l:List (List C)) (r:Int):List C:=if Sp.mdE l r≠0 then[]else if Sp.dN (Sp.md6 l r) 4≤0 then Sp.mdO l r else Sp.stR (Sp.mdO l r) (iMul (qi 13 (Sp.mdO l r)) (Sp.dN (Sp.md7 l r) 3))
def Sp.mdT (l:List (List C)) (r:Int):List (List C):=if Sp.mdE l r≠0 then Sp.md6 l r else if Sp.dN (Sp.md6 l r) 4≤0 then Sp.md7 l r else Sp.dT (Sp.md7 l r) 3
end Go
namespace Go
open Go.Sx
theorem Sp.ck_f {f:List C→Bool} {g:List C→List C→Bool}:∀ {xs:List (List C)} {o:Option (List C)},Sp.ck f g o xs=true→∀x∈xs,f x=true
 |[],_,_,_,h=>by cases h
 |y::r,o,h,x,hx=>by
  simp only[Sp.ck,Bool.and_eq_true]at h
  rcases List.mem_cons.1 hx with rfl|hx
  · exact h.1.1
  · exact Sp.ck_f h.2 x hx
theorem fold_r {P:List C→Prop} {f:List C→List C→List C}:∀ {xs:List (List C)} {a:List C},P a→(∀a,∀x∈xs,P a→P (f a x))→P (xs.foldl f a)
 |[],_,ha,_=>ha
 |x::r,a,ha,h=>fold_r (xs:=r) (h a x List.mem_cons_self ha) fun b y hy hb=>h b y (List.mem_cons_of_mem _ hy) hb
theorem Sp.ns_b (xs:List (List C)) (n:Int):0≤qi 0 (Sp.nsV xs n)∧qi 0 (Sp.nsV xs n)≤2147483647:=by
 refine fold_r (P:=fun s=>0≤qi 0 s∧qi 0 s≤2147483647) ⟨by decide,by decide⟩ fun s x hx hs=> ?_
 have h:Sp.spF x=true:=by
  unfold Sp.sps at hx
  cases hv:Sp.isV xs
  · rw[hv]at hx; cases hx
  · rw[hv]at hx
    unfold Sp.isV at hv
    rw[Bool.and_eq_true]at hv
    exact Sp.ck_f hv.1 x hx
 have h:=of_decide_eq_true h
 unfold Sp.nsS
 split
 · show 0≤max (qi 0 x) (min (qi 1 x) n)∧max (qi 0 x) (min (qi 1 x) n)≤_
   omega
 · exact hs
theorem Sp.be_b (w:List C) (l:List (List C)):0≤qi 1 (Sp.beV w l)∧qi 1 (Sp.beV w l)≤2147483647:=by
 refine fold_r (P:=fun s=>0≤qi 1 s∧qi 1 s≤2147483647) ⟨by decide,by decide⟩ fun s x hx hs=> ?_
 unfold Sp.beS
 split
 · exact Sp.ns_b (ql 1 x) (qi 1 w)
 · exact hs
theorem Sp.ds_dr (l:List (List C)) (r:Int):0≤qi 5 (Sp.dsM l r)∧qi 5 (Sp.dsM l r)≤200:=by
 have b:=Sp.dN_bd (l:=Sp.d4 l) (n:=4) (by omega)
 show 0≤qi 0 (rGet Sp.drL (Sp.dN (Sp.d4 l) 4))∧qi 0 (rGet Sp.drL (Sp.dN (Sp.d4 l) 4))≤200
 rcases(show Sp.dN (Sp.d4 l) 4=0∨Sp.dN (Sp.d4 l) 4=1∨Sp.dN (Sp.d4 l) 4=2∨Sp.dN (Sp.d4 l) 4=3 by omega)with h|h|h|h<;>rw[h]<;>decide
theorem Sp.mdR_b (l:List (List C)):44100≤Sp.mdR l∧Sp.mdR l≤48000:=by
 have b:=Sp.dN_bd (l:=Sp.md2 l) (n:=2) (by omega)
 unfold Sp.mdR
 rcases(show Sp.dN (Sp.md2 l) 2=0∨Sp.dN (Sp.md2 l) 2=1 by omega)with h|h<;>rw[h]<;>decide
theorem Sp.mdQ_b (l:List (List C)) (r:Int):16≤Sp.mdQ l r∧Sp.mdQ l r≤32:=by
 have b:=Sp.dN_bd (l:=Sp.md5 l r) (n:=3) (by omega)
 unfold Sp.mdQ
 rcases(show Sp.dN (Sp.md5 l r) 3=0∨Sp.dN (Sp.md5 l r) 3=1∨Sp.dN (Sp.md5 l r) 3=2 by omega)with h|h|h<;>rw[h]<;>decide
theorem Sp.mdF_b {d x:Int} (h0:0≤d) (h1:d≤200) (x0:0≤x) (x1:x<4): -200≤qi 0 (rGet (Sp.mdF d) x)∧qi 0 (rGet (Sp.mdF d) x)≤200:=by
 rcases(show x=0∨x=1∨x=2∨x=3 by omega)with h|h|h|h<;>subst h
 · show(-200:Int)≤0∧(0:Int)≤200; omega
 · show(-200:Int)≤d∧d≤200; omega
 · show(-200:Int)≤0-d∧0-d≤200; omega
 · show(-200:Int)≤d.tdiv 2∧d.tdiv 2≤200; rw[Int.tdiv_eq_ediv_of_nonneg h0]; omega
theorem Sp.mdX_b (l:List (List C)) (r:Int):0≤Sp.mdX l r∧Sp.mdX l r≤141167000000000:=by
 have c:=Sp.dN_bd (l:=Sp.md3 l) (n:=4) (by omega)
 have f:=Sp.ds_dr l r
 have G:=Sp.mdF_b f.1 f.2 c.1 c.2
 have B:0≤qi 1 (Sp.mdC l r)∧qi 1 (Sp.mdC l r)≤2147483647:=Sp.be_b _ _
 have m:=mul_bd (x:=qi 1 (Sp.mdC l r)) (X:=2147483647) (y:=65536+qi 0 (rGet (Sp.mdF (qi 5 (Sp.dsM l r))) (Sp.dN (Sp.md3 l) 4))) (Y:=65736) B.1 B.2 (by omega) (by omega)
 show 0≤qi 1 (Sp.mdC l r)*(65536+qi 0 (rGet (Sp.mdF (qi 5 (Sp.dsM l r))) (Sp.dN (Sp.md3 l) 4)))∧qi 1 (Sp.mdC l r)*(65536+qi 0 (rGet (Sp.mdF (qi 5 (Sp.dsM l r))) (Sp.dN (Sp.md3 l) 4)))≤_
 omega
end Go
namespace Go.Sx
def A22 (l:List (List C)) (r:Int):FuncId→Nat→LoopAnn:=fun _ ii=>bif Nat.beq ii 1000008 then .on (fun sv0=>(match sv0.tmps.getD 11 .undef with| .ref kk _=> .cut Unit (fun _=>True) (fun _=>[]) (fun _=>[(0,.box [.sl hB (Sp.md5 l r)] 117),(kk,.box [.sl hS (Sp.mdK l r)] 35)]) [0,kk] [0,1,4,5,6,8,9,11,12,13,71,88,92]|_=> .unroll 0))else .unroll 0
theorem v22 (l:List (List C)) (r:Int):WL hB l∧InR .i64 r→r=1∨r=2→True∧(WD hD (Sp.dsM l r)→True∧(InR .i64 (Sp.dN (Sp.dsT l) 3)→pIn 0 (iLen Sp.mdA) (Sp.dN (Sp.dsT l) 3)∧(InR .i64 (qi 0 (rGet Sp.mdA (Sp.dN (Sp.dsT l) 3)))→pLe (iLen (ql 2 [C.i 2,C.i (qi 0 (rGet Sp.mdA (Sp.dN (Sp.dsT l) 3))),C.l [[C.i 1],[C.i 2]],C.i 64])) 1000∧(InR .i64 (qi 0 (Sp.mdC l r))∧InR .i64 (qi 1 (Sp.mdC l r))∧WL hI (ql 2 (Sp.mdC l r))∧InR .i64 (qi 3 (Sp.mdC l r))→True∧(InR .i64 (Sp.dN (Sp.md2 l) 2)→pIn 0 (iLen Sp.mdB) (Sp.dN (Sp.md2 l) 2)∧(InR .i64 (Sp.mdR l)→InR .i64 (iSub 0 (qi 5 (Sp.dsM l r)))∧(pNe 2 0∧InR .i64 (iQuo (qi 5 (Sp.dsM l r)) 2))∧True∧(InR .i64 (Sp.dN (Sp.md3 l) 4)→pIn 0 (iLen (Sp.mdF (qi 5 (Sp.dsM l r)))) (Sp.dN (Sp.md3 l) 4)∧(InR .i64 (qi 0 (rGet (Sp.mdF (qi 5 (Sp.dsM l r))) (Sp.dN (Sp.md3 l) 4)))→InR .i64 (iAdd 65536 (qi 0 (rGet (Sp.mdF (qi 5 (Sp.dsM l r))) (Sp.dN (Sp.md3 l) 4))))∧InR .i64 (Sp.mdX l r)∧InR .i64 (Sp.mdY l)∧True∧(InR .i64 (Sp.mdN l r)∧InR .i64 (Sp.mdD l r)∧InR .i64 (Sp.mkE (Sp.mdX l r) (Sp.mdY l))→True∧(WL hS (Sp.nwV (Sp.mdN l r) (Sp.mdD l r))∧InR .i64 (Sp.nwE (Sp.mdN l r) (Sp.mdD l r))→Cn (bNe (Sp.nwE (Sp.mdN l r) (Sp.mdD l r)) 0) (True∧(WL hS (Sp.mkC (Sp.md4 l))→Sm r∧Sm (Sp.mdR l)∧Sm (Sp.nwE (Sp.mdN l r) (Sp.mdD l r))∧Sm (ByteArray.mk (Array.mk []))∧Sm (sg 0 [0,2,0,0,0,0,0,3] (Sp.dsM l r))∧Sm Sp.mdA∧Sm [[C.i 1],[C.i 2]]∧Sm (sg 0 [0,0,3,0] (Sp.mdC l r))∧Sm Sp.mdB∧Sm (Sp.mdF (qi 5 (Sp.dsM l r)))∧Sm [C.i (Sp.mdN l r),C.i (Sp.mdD l r)]∧∃(y:Unit),True∧Sp.mkD (Sp.md4 l)=Sp.md5 l r∧Sp.mkC (Sp.md4 l)=Sp.mdK l r)) (True∧(InR .i64 (Sp.dN (Sp.md4 l) 6)→Cn (bEq (Sp.dN (Sp.md4 l) 6) 5) (True∧(WL hS (Sp.mkC (Sp.dT (Sp.md4 l) 6))→Sm r∧Sm (Sp.mdR l)∧Sm (Sp.nwE (Sp.mdN l r) (Sp.mdD l r))∧Sm (ByteArray.mk (Array.mk []))∧Sm (sg 0 [0,2,0,0,0,0,0,3] (Sp.dsM l r))∧Sm Sp.mdA∧Sm [[C.i 1],[C.i 2]]∧Sm (sg 0 [0,0,3,0] (Sp.mdC l r))∧Sm Sp.mdB∧Sm (Sp.mdF (qi 5 (Sp.dsM l r)))∧Sm [C.i (Sp.mdN l r),C.i (Sp.mdD l r)]∧∃(y:Unit),True∧Sp.mkD (Sp.dT (Sp.md4 l) 6)=Sp.md5 l r∧Sp.mkC (Sp.dT (Sp.md4 l) 6)=Sp.mdK l r)) (Sm r∧Sm (Sp.mdR l)∧Sm (Sp.nwE (Sp.mdN l r) (Sp.mdD l r))∧Sm (ByteArray.mk (Array.mk []))∧Sm (sg 0 [0,2,0,0,0,0,0,3] (Sp.dsM l r))∧Sm Sp.mdA∧Sm [[C.i 1],[C.i 2]]∧Sm (sg 0 [0,0,3,0] (Sp.mdC l r))∧Sm Sp.mdB∧Sm (Sp.mdF (qi 5 (Sp.dsM l r)))∧Sm [C.i (Sp.mdN l r),C.i (Sp.mdD l r)]∧∃(y:Unit),True∧Sp.dT (Sp.md4 l) 6=Sp.md5 l r∧Sp.nwV (Sp.mdN l r) (Sp.mdD l r)=Sp.mdK l r)))∧∀(x:Unit),True→WL hB (Sp.md5 l r)∧WL hS (Sp.mdK l r)→True∧(InR .i64 (Sp.dN (Sp.md5 l r) 3)→pIn 0 (iLen Sp.mdP) (Sp.dN (Sp.md5 l r) 3)∧(InR .i64 (Sp.mdQ l r)→True∧(WD hV (Sp.mdO l r)∧InR .i64 (Sp.mdE l r)→Cn (bNe (Sp.mdE l r) 0) (Sp.dT (Sp.md5 l r) 3=Sp.mdT l r∧Sp.z31 (Sp.mdV l r)) (True∧(InR .i64 (Sp.dN (Sp.md6 l r) 4)→Cn (bLt 0 (Sp.dN (Sp.md6 l r) 4)) (True∧(InR .i64 (Sp.dN (Sp.md7 l r) 3)→InR .i64 (iMul (qi 13 (Sp.mdO l r)) (Sp.dN (Sp.md7 l r) 3))∧True∧(WD hV (Sp.stR (Sp.mdO l r) (iMul (qi 13 (Sp.mdO l r)) (Sp.dN (Sp.md7 l r) 3)))∧InR .i64 (Sp.stE (Sp.mdO l r) (iMul (qi 13 (Sp.mdO l r)) (Sp.dN (Sp.md7 l r) 3)))→Sp.dT (Sp.md7 l r) 3=Sp.mdT l r∧sg 0 [0,2,0,0,0,0,0,3,0,0,3,0,0,0,3,1,0,0,0,0,0,0,0,0,0,0,0,0,3,0,0] (Sp.stR (Sp.mdO l r) (iMul (qi 13 (Sp.mdO l r)) (Sp.dN (Sp.md7 l r) 3)))=sg 0 [0,2,0,0,0,0,0,3,0,0,3,0,0,0,3,1,0,0,0,0,0,0,0,0,0,0,0,0,3,0,0] (Sp.mdV l r)))) (Sp.dT (Sp.md6 l r) 4=Sp.mdT l r∧sg 0 [0,2,0,0,0,0,0,3,0,0,3,0,0,0,3,1,0,0,0,0,0,0,0,0,0,0,0,0,3,0,0] (Sp.mdO l r)=sg 0 [0,2,0,0,0,0,0,3,0,0,3,0,0,0,3,1,0,0,0,0,0,0,0,0,0,0,0,0,3,0,0] (Sp.mdV l r))))))))))))))))):=by
 intro hw hp
 have a:=Sp.dN_bd (l:=Sp.dsT l) (n:=3) (by omega)
 have b:=Sp.dN_bd (l:=Sp.md2 l) (n:=2) (by omega)
 have c:=Sp.dN_bd (l:=Sp.md3 l) (n:=4) (by omega)
 have d:=Sp.dN_bd (l:=Sp.md5 l r) (n:=3) (by omega)
 have e:=Sp.dN_bd (l:=Sp.md7 l r) (n:=3) (by omega)
 have f:=Sp.ds_dr l r
 have R:=Sp.mdR_b l
 have G:=Sp.mdF_b f.1 f.2 c.1 c.2
 have X:=Sp.mdX_b l r
 have Q:=Sp.mdQ_b l r
 have lF:((Sp.mdF (qi 5 (Sp.dsM l r))).length:Int)=4:=rfl
 have rng:∀ {k:Int},-1000000000000000≤k→k≤1000000000000000→InR .i64 k:=fun a b=>by simp only[InR]; omega
 have tv:0≤(qi 5 (Sp.dsM l r)).tdiv 2∧(qi 5 (Sp.dsM l r)).tdiv 2≤200:=by rw[Int.tdiv_eq_ediv_of_nonneg f.1]; omega
 have Y:0≤Sp.mdY l∧Sp.mdY l≤4000000000:=by show 0≤Sp.mdR l*65536∧Sp.mdR l*65536≤_; omega
 have q13:Sp.mdE l r=0→qi 13 (Sp.mdO l r)=Sp.mdQ l r:=fun h=>by
  have o:Sp.mdO l r=_:=if_pos h
  rw[o]; rfl
 simp only[D,E]
 refine fun _ _=>⟨a,fun _=>⟨show((2:Nat):Int)≤1000 by decide,fun _ _=>⟨b,fun _=>⟨rng (by omega) (by omega),⟨by decide,rng (by omega) (by omega)⟩,fun _=>⟨by omega,fun _=>⟨rng (by omega) (by omega),rng (by omega) (by omega),rng (by omega) (by omega),fun _ _=>⟨⟨fun h _=>⟨(),(if_pos h).symm,(if_pos h).symm⟩,fun h _=>⟨fun h1 _=>⟨(),?_,?_⟩,fun h1=>⟨(),?_,?_⟩⟩⟩,fun _ _ _=>⟨d,fun _ _=>⟨fun h=> ?_,fun h _=>⟨fun h1 _=>⟨?_,fun _=> ?_⟩,fun h1=> ?_⟩⟩⟩⟩⟩⟩⟩⟩⟩⟩
 · unfold Sp.md5; rw[if_neg (by omega),if_pos h1]
 · unfold Sp.mdK; rw[if_neg (by omega),if_pos h1]
 · unfold Sp.md5; rw[if_neg (by omega),if_neg h1]
 · unfold Sp.mdK; rw[if_neg (by omega),if_neg h1]
 · unfold Sp.mdT Sp.mdV; rw[if_pos h,if_pos h]; exact⟨rfl,rfl⟩
 · rw[q13 h]
   have m:=mul_bd (x:=Sp.mdQ l r) (X:=32) (y:=Sp.dN (Sp.md7 l r) 3) (Y:=2) (by omega) (by omega) (by omega) (by omega)
   exact rng (by omega) (by omega)
 · unfold Sp.mdT Sp.mdV
   rw[if_neg (by omega),if_neg (by omega),if_neg (by omega),if_neg (by omega)]
   exact⟨rfl,rfl⟩
 · unfold Sp.mdT Sp.mdV
   rw[if_neg (by omega),if_pos (by omega),if_neg (by omega),if_pos (by omega)]
   exact⟨rfl,rfl⟩
def r22:Cr PR:=KB [r39,r40,(mark 1000028),r61,r34,r62,r49,r50,r42] 22 8 {ps:=[(false,hI)],rs:=[(true,hV)],pre:=fun a=>(I a 1 0)=1∨(I a 1 0)=2,out:=fun a=>[[.l (Sp.mdT (L a 0 0) (I a 1 0))],rb [0,2,0,0,0,0,0,3,0,0,3,0,0,0,3,1,0,0,0,0,0,0,0,0,0,0,0,0,3,0,0] (Sp.mdV (L a 0 0) (I a 1 0))],bx:=some (117,[.sl hB])} (fun a=>A22 (L a 0 0) (I a 1 0)) fun a=>Y (v22 (L a 0 0) (I a 1 0))
end Go.Sx

set_option linter.unusedVariables false
set_option linter.unusedSimpArgs false
set_option maxRecDepth 100000
set_option maxHeartbeats 4000000
namespace Go
open Go.Sx
end Go
namespace Go.Sx
end Go.Sx
namespace Go.Sx
end Go.Sx
namespace Go.Sx
end Go.Sx
namespace Go.Sx
end Go.Sx
namespace Go.Sx
end Go.Sx
namespace Go.Sx
end Go.Sx

set_option linter.unusedVariables false
set_option linter.unusedSimpArgs false
set_option maxRecDepth 100000
set_option maxHeartbeats 4000000
namespace Go
open Go.Sx
def Sp.kpM (x:List C):Bool:=decide (((ql 0 x).length:Int)≤12)
def Sp.kpX (x:List C):Bool:=decide (((ql 1 x).length:Int)≤70)&&(decide (((ql 3 x).length:Int)≤70)&&(decide (((ql 2 x).length:Int)≤20)&&(ql 2 x).all Sp.kpM))
def Sp.kpB (xs:List (List C)) (n:Int):Bool:=decide ((xs.length:Int)≤n)&&xs.all Sp.kpX
def Sp.kpD (d:List C):Bool:=Sp.kpB (ql 7 d) 9&&(decide (((ql 14 d).length:Int)≤66)&&(decide (((ql 28 d).length:Int)≤4000)&&decide (((ql 10 d).length:Int)≤12)))
end Go
namespace Go.Sx
def A37 (xs:List (List C)):FuncId→Nat→LoopAnn:=fun _ ii=>bif Nat.beq ii 4 then lp 15 xs.length (Sp.alI Sp.kpX xs) [0,1,4,6,8,12,13,14,15,16,34,36,37,38,39,44]else .on (fun sv0=>match sv0.tmps.getD 36 .undef with| .sl _ ms=>lp 38 ms.length (Sp.alI Sp.kpM ms) [0,1,4,6,8,12,13,14,15,16,34,36,37,38,39,44]|_=> .unroll 0)
theorem v37 (xs:List (List C)) (n:Int):WL hX xs∧InR .i64 n→pLe (iLen xs) 9223372036854775807→Cn (bLt n (iLen xs)) (false=Sp.kpB xs n) (pLe (iLen xs) 9223372036854775807→(∃(x:Int),Sp.alI Sp.kpX xs x∧0=x)∧∀(x:Int),Sp.alI Sp.kpX xs x→InR .i64 x→Cn (bLt x (iLen xs)) (pIn 0 (iLen xs) x∧(InR .i64 (qi 0 (rGet xs x))∧WL hII (ql 1 (rGet xs x))∧WL [Sh.sl hI] (ql 2 (rGet xs x))∧WL hII (ql 3 (rGet xs x))→pLe (iLen (ql 1 (rGet xs x))) 9223372036854775807→True∧Cn (bNot (bLe (iLen (ql 1 (rGet xs x))) 70)) (false=Sp.kpB xs n) (pLe (iLen (ql 3 (rGet xs x))) 9223372036854775807→True∧Cn (bNot (bLe (iLen (ql 3 (rGet xs x))) 70)) (false=Sp.kpB xs n) (pLe (iLen (ql 2 (rGet xs x))) 9223372036854775807→Cn (bLt 20 (iLen (ql 2 (rGet xs x)))) (false=Sp.kpB xs n) (pLe (iLen (ql 2 (rGet xs x))) 9223372036854775807→(∃(x_1:Int),Sp.alI Sp.kpM (ql 2 (rGet xs x)) x_1∧0=x_1)∧∀(x_1:Int),Sp.alI Sp.kpM (ql 2 (rGet xs x)) x_1→InR .i64 x_1→Cn (bLt x_1 (iLen (ql 2 (rGet xs x)))) (pIn 0 (iLen (ql 2 (rGet xs x))) x_1∧(WL hI (ql 0 (rGet (ql 2 (rGet xs x)) x_1))→pLe (iLen (ql 0 (rGet (ql 2 (rGet xs x)) x_1))) 9223372036854775807→Cn (bLt 12 (iLen (ql 0 (rGet (ql 2 (rGet xs x)) x_1)))) (false=Sp.kpB xs n) (InR .i64 (iAdd x_1 1)∧Sm xs∧Sm n∧Sm xs∧Sm (iLen xs)∧Sm x∧Sm (ql 2 (rGet xs x))∧Sm (iLen (ql 2 (rGet xs x)))∧Sm (sg 0 [0,3,3,3] (rGet xs x))∧Sm [C.l (ql 1 (rGet xs x))]∧Sm [C.l (ql 3 (rGet xs x))]∧∃(y:Int),Sp.alI Sp.kpM (ql 2 (rGet xs x)) y∧iAdd x_1 1=y∧nLt ((ql 2 (rGet xs x)).length-y.toNat) ((ql 2 (rGet xs x)).length-x_1.toNat)))) (InR .i64 (iAdd x 1)∧Sm xs∧Sm n∧Sm xs∧Sm (iLen xs)∧∃(y:Int),Sp.alI Sp.kpX xs y∧iAdd x 1=y∧nLt (xs.length-y.toNat) (xs.length-x.toNat))))))) (true=Sp.kpB xs n)):=by
 intro hw
 simp only[D,E]
 refine fun _=>⟨fun h=>by unfold Sp.kpB; rw[decide_eq_false (by omega)]; rfl,fun h _=>lpA al0 (fun x h=>h.1) (fun x hx h0 hl _ _=> ?_) (fun x hx hl=> ?_)⟩
 · have no:Sp.kpX (rGet xs x)=false→false=Sp.kpB xs n:=fun hf=>by unfold Sp.kpB; rw[←alB hx hl hf,Bool.and_false]
   have e:Sp.kpX (rGet xs x)=(decide (((ql 1 (rGet xs x)).length:Int)≤70)&&(decide (((ql 3 (rGet xs x)).length:Int)≤70)&&(decide (((ql 2 (rGet xs x)).length:Int)≤20)&&(ql 2 (rGet xs x)).all Sp.kpM))):=rfl
   refine⟨fun h1=>no (by rw[e,decide_eq_false h1]; rfl),fun h1 _=>⟨fun h2=>no (by rw[e,decide_eq_false h2]; simp),fun h2 _=>⟨fun h3=>no (by rw[e,decide_eq_false (show¬((ql 2 (rGet xs x)).length:Int)≤20 by omega)]; simp),fun h3 _=>lpA al0 (fun x h=>h.1) (fun z hz z0 zl _ _=>⟨fun h4=>no ?_,fun h4=>⟨?_,z+1,alN hz zl (decide_eq_true (by omega)),rfl,by omega⟩⟩) (fun z hz zl=>⟨inS hw.1 h0 hl,x+1,alN hx hl ?_,rfl,by omega⟩)⟩⟩⟩
   · rw[e,←alB hz zl (decide_eq_false (by omega))]; simp
   · simp only[InR]; omega
   · rw[e,←alE hz zl,decide_eq_true h1,decide_eq_true h2,decide_eq_true (show((ql 2 (rGet xs x)).length:Int)≤20 by omega)]; rfl
 · unfold Sp.kpB
   rw[←alE hx hl,decide_eq_true (by omega)]; rfl
def r37:Cr PR:=K0 [] 37 8 {ps:=[(false,[.sl hX]),(false,hI)],rs:=[(false,[.bool])],pre:=fun _=>True,out:=fun a=>[[.b (Sp.kpB (L a 0 0) (I a 1 0))]]} (fun a=>A37 (L a 0 0)) fun a=>Y (v37 (L a 0 0) (I a 1 0))
end Go.Sx
namespace Go.Sx
theorem v26 (d:List C):WD hV d→True∧Cn (Sp.kpB (ql 7 d) 9) (pLe (iLen (ql 14 d)) 9223372036854775807→Cn (bLe (iLen (ql 14 d)) 66) (pLe (iLen (ql 28 d)) 9223372036854775807→Cn (bLe (iLen (ql 28 d)) 4000) (pLe (iLen (ql 10 d)) 9223372036854775807→bLe (iLen (ql 10 d)) 12=Sp.kpD d) (false=Sp.kpD d)) (false=Sp.kpD d)) (false=Sp.kpD d):=by
 intro hw
 have e:Sp.kpD d=bAnd (Sp.kpB (ql 7 d) 9) (bAnd (bLe (iLen (ql 14 d)) 66) (bAnd (bLe (iLen (ql 28 d)) 4000) (bLe (iLen (ql 10 d)) 12))):=rfl
 rw[e]
 generalize Sp.kpB (ql 7 d) 9=p
 generalize bLe (iLen (ql 14 d)) 66=q
 generalize bLe (iLen (ql 28 d)) 4000=r
 refine⟨trivial,?_⟩
 cases p
 · exact rfl
 refine fun _=> ?_
 cases q
 · exact rfl
 refine fun _=> ?_
 cases r
 · exact rfl
 exact fun _=>rfl
def r26:Cr PR:=K0 [r37] 26 8 {ps:=[(true,hV)],rs:=[(false,[.bool])],pre:=fun _=>True,out:=fun a=>[[.b (Sp.kpD (arg 0 a))]]} U fun a=>Y (v26 (arg 0 a))
end Go.Sx

