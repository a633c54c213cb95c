import Derived.Test.YtejdbdegdanecaaGreatSxUse
import Derived.Test.YtejdbdegdanecaaGreatM15
import Derived.Test.YtejdbdegdanecaaGreatM23
set_option linter.unusedVariables false
set_option linter.unusedSimpArgs false
set_option maxRecDepth 100000
set_option maxHeartbeats 4000000
namespace Go
open Go.Sx
def KR (n:Int):Int:=max (-8388608) (min 8388607 n)
def JR (s g:Int):Int:=if(-8388608<=s/\s<=8388607)/\0<=g/\g<=262144 then KR ((s*g+32768)/65536)else 0
def FK (f t n a:Int):Bool:=decide ((0<=f/\f<=262144)/\(0<=t/\t<=262144)/\(0<=n/\n<=4194304)/\0<=a/\a<=n)
def MP (f t n a i:Int):Int:=if FK f t n a=false∨i<0 then 0 else if n-a<=i then t else f+(t-f)*(a+i)/n
def YN (f t n a ch:Int) (da:List (List C)) (i:Int):List C:=[.i (JR (qi 0 (rGet da i)) (MP f t n a (i/ch)))]
def IZ (f t n a ch:Int) (da:List (List C)) (m:Int):List (List C):=(List.range m.toNat).map fun(i:Nat)=>YN f t n a ch da i
def MR (f t n a ch:Int) (da:List (List C)):Int:=if FK f t n a=true/\AQ ch da=true then 0 else 1
def Js (f t n a ch:Int) (da:List (List C)):List C:=if MR f t n a ch da=0 then[.i ch,.l (IZ f t n a ch da da.length)]else[]
def Iu (f t n a ch:Int) (da:List (List C)):List C:=if MR f t n a ch da=0 then[.i f,.i t,.i n,.i (min n (a+AO ch da))]else[]
def Bh (n i:Int):Prop:=0<=i/\i<=n
end Go
namespace Go
open Go.Sx
theorem Lc {xs:List (List C)} {i:Int} (h0:0<=i) (h1:i<(xs.length:Int)):rGet xs i∈xs:=by
 unfold rGet;rw[List.getD_eq_getElem?_getD,List.getElem?_eq_getElem (show i.toNat<xs.length by omega)];exact List.getElem_mem _
theorem VE (n:Int): -8388608<=KR n/\KR n<=8388607:=by unfold KR; omega
theorem Yb (s g:Int): -8388608<=JR s g/\JR s g<=8388607:=by
 unfold JR;split
 · exact VE _
 · omega
theorem RJ {f t n a:Int} (h:FK f t n a=true):(0<=f/\f<=262144)/\(0<=t/\t<=262144)/\(0<=n/\n<=4194304)/\0<=a/\a<=n:=of_decide_eq_true h
theorem ZA (f t n a ch:Int) (da:List (List C)) {i:Int} (h:0<=i):IZ f t n a ch da i++[YN f t n a ch da i]=IZ f t n a ch da (i+1):=by
 unfold IZ;rw[show(i+1).toNat=i.toNat+1 by omega,List.range_succ,List.map_append,List.map_singleton,Int.toNat_of_nonneg h]
theorem VG (f t n a ch:Int) (da:List (List C)) (m:Int):(IZ f t n a ch da m).length=m.toNat:=by simp[IZ]
theorem Zb (f t n a ch:Int) (da:List (List C)) (m:Int):(IZ f t n a ch da m).all FT=true:=by
 unfold IZ;rw[List.all_eq_true];intro x hx;obtain⟨i,_,rfl⟩:=List.mem_map.1 hx;exact decide_eq_true (Yb _ _)
end Go
namespace Go.Sx
theorem v179 (n:Int):InR .i64 n->Aaj .i32 (iMax (-8388608) (iMin 8388607 n))=KR n:=by
 intro hw;exact InR.wrap (show InR .i32 (KR n) by have:=VE n; simp only[InR]; omega)
def r179:Cr PR:=K0 [] 179 6 {ps:=[(false,hI)],rs:=[(false,hW)],pre:=λ_=>True,out:=λa=>[[.i (KR (I a 0 0))]]} U λa=>Y (v179 (I a 0 0))
end Go.Sx
namespace Go.Sx
theorem v123 (f:Int) (t:Int) (n:Int) (a:Int):InR .i64 f/\InR .i64 t/\InR .i64 n/\InR .i64 a->Cn (bLe 0 f) (Cn (bLe f 262144) (Cn (bLe 0 t) (Cn (bLe t 262144) (Cn (bLe 0 n) (Cn (bLe n 4194304) (Cn (bLe 0 a) (bLe a n=FK f t n a) (false=FK f t n a)) (false=FK f t n a)) (false=FK f t n a)) (false=FK f t n a)) (false=FK f t n a)) (false=FK f t n a)) (false=FK f t n a):=by
 intro hw;simp only[D,E];unfold FK
 repeat' (first|apply And.intro|intro _)
 all_goals (first|(simp only[decide_eq_decide]; omega)|(symm; simp only[decide_eq_false_iff_not]; omega))
def r123:Cr PR:=K0 [] 123 6 {ps:=[(true,hA)],rs:=[(false,[.bool])],pre:=λ_=>True,out:=λa=>[[.b (FK (I a 0 0) (I a 0 1) (I a 0 2) (I a 0 3))]]} U λa=>Y (v123 (I a 0 0) (I a 0 1) (I a 0 2) (I a 0 3))
end Go.Sx
namespace Go.Sx
theorem v180 (s:Int) (g:Int):InR .i32 s/\InR .i64 g->Cn (bLt s (-8388608)) (0=JR s g) (Cn (bLt 8388607 s) (0=JR s g) (Cn (bLe 0 g) (True/\Cn (bNot (bLe g 262144)) (0=JR s g) (InR .i64 (iMul s g)/\InR .i64 (iAdd (iMul s g) 32768)/\pSh 64 16/\True/\(InR .i32 (KR (iShr (iAdd (iMul s g) 32768) 16))->KR (iShr (iAdd (iMul s g) 32768) 16)=JR s g))) (True/\0=JR s g))):=by
 intro hw;have e:iShr (s*g+32768) 16=(s*g+32768)/65536:=Int.fdiv_eq_ediv_of_nonneg _ (by decide);have no:¬((-8388608<=s/\s<=8388607)/\0<=g/\g<=262144)->0=JR s g:=λh=>(if_neg h).symm;simp only[D,E];refine⟨λh=>no (by omega),λh1=>⟨λh=>no (by omega),λh2=>⟨λh3=>⟨λh=>no (by omega),λh4=> ?_⟩,λh=>no (by omega)⟩⟩⟩;have m:=Ql (a:=s) (y:=g) (Y:=262144) (by omega) (by omega) h3 (by omega);rw[e];exact⟨by simp only[InR]; omega,by simp only[InR]; omega,by decide,λ_=>(if_pos ⟨⟨by omega,by omega⟩,h3,by omega⟩).symm⟩
def r180:Cr PR:=K0 [r179] 180 6 {ps:=[(false,hW),(false,hI)],rs:=[(false,hW)],pre:=λ_=>True,out:=λa=>[[.i (JR (I a 0 0) (I a 1 0))]]} U λa=>Y (v180 (I a 0 0) (I a 1 0))
end Go.Sx
namespace Go.Sx
theorem v225 (a:Int) (b:Int):InR .i64 a/\InR .i64 b->pLe 1 b/\pLe (-4611686018427387904) a/\pLe a 4611686018427387904->(pNe b 0/\InR .i64 (iQuo a b))/\pNe b 0/\Cn (bLt (iRem a b) 0) (InR .i64 (iSub (iQuo a b) 1)/\iSub (iQuo a b) 1=a/b) (iQuo a b=a/b):=by
 intro hw hp;simp only[D,E]at hp ⊢;have f:=UU (t:=a) (q:=b) (by omega);have n:=Int.natAbs_tdiv_le_natAbs a b;have r:∀ {k:Int},-4611686018427387905<=k->k<=4611686018427387905->InR .i64 k:=λa b=>by simp only[InR]; omega
 exact⟨⟨by omega,r (by omega) (by omega)⟩,by omega,λh=>⟨r (by omega) (by omega),f.1 h⟩,λh=>f.2 (by omega)⟩
def r225:Cr PR:=K [] 225 6 {ps:=[(false,hI),(false,hI)],rs:=[(false,hI)],pre:=λa=>pLe 1 (I a 1 0)/\(pLe (-4611686018427387904) (I a 0 0)/\pLe (I a 0 0) 4611686018427387904),out:=λa=>[[.i ((I a 0 0)/(I a 1 0))]]} U λa=>Y (v225 (I a 0 0) (I a 1 0))
end Go.Sx
namespace Go.Sx
theorem v181 (f:Int) (t:Int) (n:Int) (a:Int) (i:Int):InR .i64 f/\InR .i64 t/\InR .i64 n/\InR .i64 a/\InR .i64 i->True/\True/\Cn (bNot (FK f t n a)) (0=MP f t n a i) (Cn (bLt i 0) (0=MP f t n a i) (InR .i64 (iSub n a)/\Cn (bLe (iSub n a) i) (t=MP f t n a i) (InR .i64 (iSub t f)/\InR .i64 (iAdd a i)/\InR .i64 (iMul (iSub t f) (iAdd a i))/\(pLe 1 n/\pLe (-4611686018427387904) (iMul (iSub t f) (iAdd a i))/\pLe (iMul (iSub t f) (iAdd a i)) 4611686018427387904)/\(InR .i64 (iMul (iSub t f) (iAdd a i)/n)->InR .i64 (iAdd f (iMul (iSub t f) (iAdd a i)/n))/\iAdd f (iMul (iSub t f) (iAdd a i)/n)=MP f t n a i)))):=by
 intro hw;simp only[D,E];refine⟨λh=>(if_pos (.inl h)).symm,λh=>⟨λh1=>(if_pos (.inr h1)).symm,λh1=> ?_⟩⟩;have v:=RJ h;have e:MP f t n a i=if n-a<=i then t else f+(t-f)*(a+i)/n:=if_neg (by simp[h]; omega);have r:∀ {k:Int},-100000000000000<=k->k<=100000000000000->InR .i64 k:=λa b=>by simp only[InR]; omega
 refine⟨r (by omega) (by omega),λh2=>by rw[e,if_pos h2],λh2=> ?_⟩;have m:=Ql (a:=t-f) (y:=a+i) (Y:=4194304) (by omega) (by omega) (by omega) (by omega);have q:=Int.natAbs_ediv_le_natAbs ((t-f)*(a+i)) n;generalize (t-f)*(a+i)=x at*;exact⟨r (by omega) (by omega),r (by omega) (by omega),r (by omega) (by omega),⟨by omega,by omega,by omega⟩,λ_=>⟨r (by omega) (by omega),by rw[e,if_neg h2]⟩⟩
def r181:Cr PR:=K0 [r123,r225] 181 6 {ps:=[(true,hA),(false,hI)],rs:=[(false,hI)],pre:=λ_=>True,out:=λa=>[[.i (MP (I a 0 0) (I a 0 1) (I a 0 2) (I a 0 3) (I a 1 0))]]} U λa=>Y (v181 (I a 0 0) (I a 0 1) (I a 0 2) (I a 0 3) (I a 1 0))
end Go.Sx
namespace Go.Sx
def A121 (f:Int) (t:Int) (n:Int) (a:Int) (ch:Int) (da:List (List C)):FuncId->Nat->LoopAnn:=λ_ _=> .ghostB 7 1 hW 21 (.inv Int (λz=>Bh (iLen da) z) (λz=>[(26,.int .i64 z)]) (λz=>[(4,.box [.int .i64 ch,.own 5 0] 95),(5,.row hW 21 0 (IZ f t n a ch da z))]) [4,5] [0,1,2,3,4,5,6,7,8,9,17,24,25,26,27] (λz=>da.length-z.toNat))
def Aio (f:Int) (t:Int) (n:Int) (a:Int) (ch:Int) (da:List (List C)):Prop:=0=qi 0 (Js f t n a ch da)/\[]=ql 1 (Js f t n a ch da)/\0=qi 0 (Iu f t n a ch da)/\0=qi 1 (Iu f t n a ch da)/\0=qi 2 (Iu f t n a ch da)/\0=qi 3 (Iu f t n a ch da)/\1=MR f t n a ch da
theorem v121 (f:Int) (t:Int) (n:Int) (a:Int) (ch:Int) (da:List (List C)):InR .i64 f/\InR .i64 t/\InR .i64 n/\InR .i64 a/\InR .i64 ch/\WL hW da->True/\True/\Cn (bNot (FK f t n a)) ((Aio f t n a ch da)) (True/\True/\Cn (bNot (AQ ch da)) ((Aio f t n a ch da)) (pLe (iLen da) 9223372036854775807->(∃(x:Int),Bh (iLen da) x/\0=x/\Sm ch/\[]=IZ f t n a ch da x)/\∀(x:Int),Bh (iLen da) x->InR .i64 x/\InR .i64 ch/\WL hW (IZ f t n a ch da x)->Cn (bLt x (iLen da)) (pIn 0 (iLen da) x/\(InR .i32 (qi 0 (rGet da x))->(pNe ch 0/\InR .i64 (iQuo x ch))/\True/\(InR .i64 (MP f t n a (iQuo x ch))->True/\(InR .i32 (JR (qi 0 (rGet da x)) (MP f t n a (iQuo x ch)))->Aar 4 (iLen (IZ f t n a ch da x++[[C.i (JR (qi 0 (rGet da x)) (MP f t n a (iQuo x ch)))]]))/\InR .i64 (iAdd x 1)/\Sm [C.i f,C.i t,C.i n,C.i a]/\Sm [C.i ch,C.l da]/\Sm da/\Sm (iLen da)/\Sm [C.i f,C.i t,C.i n,C.i a]/\Sm [C.i ch,C.l da]/\∃(y:Int),Bh (iLen da) y/\iAdd x 1=y/\Sm ch/\IZ f t n a ch da x++[[C.i (JR (qi 0 (rGet da x)) (MP f t n a (iQuo x ch)))]]=IZ f t n a ch da y/\nLt (da.length-y.toNat) (da.length-x.toNat))))) (True/\(InR .i64 (AO ch da)->InR .i64 (iAdd a (AO ch da))/\ch=qi 0 (Js f t n a ch da)/\IZ f t n a ch da x=ql 1 (Js f t n a ch da)/\f=qi 0 (Iu f t n a ch da)/\t=qi 1 (Iu f t n a ch da)/\n=qi 2 (Iu f t n a ch da)/\iMin n (iAdd a (AO ch da))=qi 3 (Iu f t n a ch da)/\0=MR f t n a ch da)))):=by
 intro hw;delta Aio;have no:MR f t n a ch da=1->0=qi 0 (Js f t n a ch da)/\[]=ql 1 (Js f t n a ch da)/\0=qi 0 (Iu f t n a ch da)/\0=qi 1 (Iu f t n a ch da)/\0=qi 2 (Iu f t n a ch da)/\0=qi 3 (Iu f t n a ch da)/\1=MR f t n a ch da:=λh=>by
  unfold Js Iu;rw[if_neg (by omega),if_neg (by omega),h];exact⟨rfl,rfl,rfl,rfl,rfl,rfl,rfl⟩
 simp only[D,E];refine⟨λh=>no (if_neg (by simp[h])),λh=>⟨λh1=>no (if_neg (by simp[h1])),λh1 _=>⟨⟨0,⟨Int.le_refl _,by omega⟩,rfl,rfl⟩,?_⟩⟩⟩;intro x ⟨x0,x1⟩ _;have c:=Du h1;have v:=RJ h;have l:=Fb h1;have e:MR f t n a ch da=0:=if_pos ⟨h,h1⟩;have fe:AO ch da=(da.length:Int)/ch:=by unfold AO; rw[h1]; rfl
 have q0:=Int.ediv_nonneg (b:=ch) x0 (by omega);have q1:=Int.ediv_le_self ch x0;rw[Int.tdiv_eq_ediv_of_nonneg x0];refine⟨λhl=>⟨⟨x0,hl⟩,λ_=>⟨⟨by omega,by simp only[InR]; omega⟩,λ_ _=>⟨?_,by simp only[InR]; omega,x+1,⟨by omega,by omega⟩,rfl,ZA _ _ _ _ _ _ x0,by omega⟩⟩⟩,λhl _=>⟨by simp only[InR]; omega,?_⟩⟩
 · rw[List.length_append,VG,List.length_singleton]; omega
 · unfold Js Iu;rw[if_pos e,if_pos e,show x=(da.length:Int) by omega];exact⟨rfl,rfl,rfl,rfl,rfl,rfl,e.symm⟩
def r121:Cr PR:=K0 [r123,r108,r181,r180,r109] 121 8 {ps:=[(true,hA),(true,hK)],rs:=[(true,hK),(true,hA),(false,hI)],pre:=λ_=>True,out:=λa=>[rb [0,3] (Js (I a 0 0) (I a 0 1) (I a 0 2) (I a 0 3) (I a 1 0) (L a 1 1)),rb [0,0,0,0] (Iu (I a 0 0) (I a 0 1) (I a 0 2) (I a 0 3) (I a 1 0) (L a 1 1)),[.i (MR (I a 0 0) (I a 0 1) (I a 0 2) (I a 0 3) (I a 1 0) (L a 1 1))]]} (λa=>A121 (I a 0 0) (I a 0 1) (I a 0 2) (I a 0 3) (I a 1 0) (L a 1 1)) λa=>Y (v121 (I a 0 0) (I a 0 1) (I a 0 2) (I a 0 3) (I a 1 0) (L a 1 1))
end Go.Sx

set_option linter.unusedVariables false
set_option linter.unusedSimpArgs false
set_option maxRecDepth 100000
set_option maxHeartbeats 4000000
namespace Go
open Go.Sx
def Ii (h e g:Int):Bool:=decide (1<=h/\h<=8388607/\1<=e/\e<=65536/\0<=g/\g<=65536)
def Jy (h p:Int):Int:=if h<1∨8388607<h∨p<0∨1099511627776<p then 0 else if p<=h then 65536 else h*65536/p
def F9 (n:Int):Int:=if n<0 then-n else n
def OZ (x:List C):Bool:=decide (-1099511627776<=qi 0 x/\qi 0 x<=1099511627776)
def IW (h e g ch:Int) (su:List (List C)):Int:=if Ii h e g=false then 1 else if 1<=ch/\ch<=8/\(su.length:Int) % ch=0/\(su.length:Int)/ch<=65536/\su.all OZ=true then 0 else 2
def Kr (su:List (List C)) (at_:Int):Nat->Int
 |0=>0
 |c+1=>max (Kr su at_ c) (F9 (qi 0 (rGet su (at_+c))))
def Ea (h e g ch:Int) (su:List (List C)):Nat->Int
 |0=>g
 |k+1=>min (Jy h (Kr su ((k:Int)*ch) ch.toNat)) (Ea h e g ch su k+e)
def RU (s g:Int):Int:=Aaj .i32 (if s<0 then 0-F9 s*g/65536 else F9 s*g/65536)
def Gt (h e g ch:Int) (su:List (List C)) (k:Nat) (m:Int):List (List C):=(List.range m.toNat).map fun(c:Nat)=>[.i (RU (qi 0 (rGet su ((k:Int)*ch+c))) (Ea h e g ch su (k+1)))]
def EC (h e g ch:Int) (su:List (List C)) (k:Int):List (List C):=(List.range k.toNat).flatMap fun(i:Nat)=>Gt h e g ch su i ch
def Dy (ch:Int) (su:List (List C)) (k:Int):List (List C):=cutRows su (some (k*ch)) (some (iAdd (k*ch) ch))
def IM (h e g ch:Int) (su:List (List C)):List C:=if IW h e g ch su=0 then[.i ch,.l (EC h e g ch su ((su.length:Int)/ch))]else[]
def Fg (h e g ch:Int) (su:List (List C)):List C:=if IW h e g ch su=0 then[.i h,.i e,.i (Ea h e g ch su ((su.length:Int)/ch).toNat)]else[]
end Go
namespace Go
open Go.Sx
theorem Xt {xs:List (List C)} {a b:Int} (h0:0<=a) (h1:a<=b) (h2:b<=(xs.length:Int)):((cutRows xs (some a) (some b)).length:Int)=b-a:=by
 simp only[cutRows,List.length_drop,List.length_take]; omega
theorem XP {xs:List (List C)} {a b x:Int} (h0:0<=a) (h1:0<=x) (h2:x<b-a):rGet (cutRows xs (some a) (some b)) x=rGet xs (a+x):=by
 simp only[cutRows,rGet,List.getD_eq_getElem?_getD,List.getElem?_drop,List.getElem?_take];rw[if_pos (by omega),show a.toNat+x.toNat=(a+x).toNat by omega]
theorem Ro {n ch k:Int} (hc:1<=ch) (h1:k<n/ch):k*ch+ch<=n:=by
 have a:=Int.mul_le_mul_of_nonneg_right (show k+1<=n/ch by omega) (show 0<=ch by omega);have b:=Int.ediv_mul_le n (show ch≠0 by omega);rw[Int.add_mul,Int.one_mul]at a; omega
theorem Yx {n b:Int} (h0: -b<=n) (h1:n<=b):0<=F9 n/\F9 n<=b:=by unfold F9; split<;>omega
theorem Yc (h p:Int):0<=Jy h p/\Jy h p<=65536:=by
 unfold Jy;split
 · omega
 split
 · omega
 · rename_i a b;have q0 := Int.ediv_nonneg (a := h * 65536) (b := p) (by omega) (by omega);have q1 : h * 65536 / p <= 65536 := by
    have:=Int.ediv_le_ediv (a:=h*65536) (b:=p*65536) (show 0<p by omega) (by omega);rw[Int.mul_ediv_cancel_left _ (show p≠0 by omega)]at this; exact this
   exact⟨q0,q1⟩
theorem Wy {su:List (List C)} {i:Int} (h:su.all OZ=true) (h0:0<=i) (h1:i<(su.length:Int)): -1099511627776<=qi 0 (rGet su i)/\qi 0 (rGet su i)<=1099511627776:=of_decide_eq_true (List.all_eq_true.1 h _ (Lc h0 h1))
theorem TI {h e g ch:Int} {su:List (List C)} (v:Ii h e g=true):∀n:Nat,0<=Ea h e g ch su n/\Ea h e g ch su n<=65536
 |0=>by have:=of_decide_eq_true v; exact⟨this.2.2.2.2.1,this.2.2.2.2.2⟩
 |n+1=>by
  have:=of_decide_eq_true v;have i:=TI (ch:=ch) (su:=su) v n;have a:=Yc h (Kr su ((n:Int)*ch) ch.toNat);unfold Ea; omega
theorem Za (h e g ch:Int) (su:List (List C)) (k:Nat) {c:Int} (h0:0<=c):Gt h e g ch su k (c+1)=Gt h e g ch su k c++[[.i (RU (qi 0 (rGet su ((k:Int)*ch+c))) (Ea h e g ch su (k+1)))]]:=by
 unfold Gt;rw[show(c+1).toNat=c.toNat+1 by omega,List.range_succ,List.map_append,List.map_singleton,Int.toNat_of_nonneg h0]
theorem Zd (h e g ch:Int) (su:List (List C)) {i:Int} (h0:0<=i):EC h e g ch su (i+1)=EC h e g ch su i++Gt h e g ch su i.toNat ch:=by
 unfold EC;rw[show(i+1).toNat=i.toNat+1 by omega,List.range_succ,List.flatMap_append,List.flatMap_singleton]
theorem Uc (h e g ch:Int) (su:List (List C)) (k:Nat) (c:Int):(Gt h e g ch su k c).length=c.toNat:=by simp[Gt]
theorem XA (h e g ch:Int) (su:List (List C)) (n:Int) (hc:0<=ch):((EC h e g ch su n).length:Int)=n.toNat*ch:=by
 unfold EC;generalize n.toNat=m
 induction m with
 |zero=>simp
 |succ m ih=>rw[List.range_succ,List.flatMap_append,List.flatMap_singleton,List.length_append,Int.natCast_add,ih,Uc,Int.natCast_succ,Int.add_mul]; omega
end Go
namespace Go.Sx
theorem v52 (h:Int) (e:Int) (g:Int):InR .i64 h/\InR .i64 e/\InR .i64 g->Cn (bLe 1 h) (Cn (bLe h 8388607) (Cn (bLe 1 e) (Cn (bLe e 65536) (Cn (bLe 0 g) (bLe g 65536=Ii h e g) (false=Ii h e g)) (false=Ii h e g)) (false=Ii h e g)) (false=Ii h e g)) (false=Ii h e g):=by
 intro hw;simp only[D,E];unfold Ii
 repeat' (first|apply And.intro|intro _)
 all_goals (first|(simp only[decide_eq_decide]; omega)|(symm; simp only[decide_eq_false_iff_not]; omega))
def r52:Cr PR:=K0 [] 52 6 {ps:=[(true,hS)],rs:=[(false,[.bool])],pre:=λ_=>True,out:=λa=>[[.b (Ii (I a 0 0) (I a 0 1) (I a 0 2))]]} U λa=>Y (v52 (I a 0 0) (I a 0 1) (I a 0 2))
end Go.Sx
namespace Go.Sx
theorem v220 (h:Int) (p:Int):InR .i64 h/\InR .i64 p->Cn (bLt h 1) (0=Jy h p) (Cn (bLt 8388607 h) (0=Jy h p) (Cn (bLt p 0) (0=Jy h p) (Cn (bLt 1099511627776 p) (0=Jy h p) (Cn (bLe p h) (65536=Jy h p) (InR .i64 (iMul h 65536)/\(pNe p 0/\InR .i64 (iQuo (iMul h 65536) p))/\iQuo (iMul h 65536) p=Jy h p))))):=by
 intro hw;have no:(h<1∨8388607<h∨p<0∨1099511627776<p)->0=Jy h p:=λa=>(if_pos a).symm;simp only[D,E];refine⟨λa=>no (by omega),λa=>⟨λa1=>no (by omega),λa1=>⟨λa2=>no (by omega),λa2=>⟨λa3=>no (by omega),λa3=> ?_⟩⟩⟩⟩;have e:Jy h p=if p<=h then 65536 else h*65536/p:=if_neg (by omega);rw[e];refine⟨λa4=>by rw[if_pos a4],λa4=> ?_⟩;have q0:=Int.ediv_nonneg (a:=h*65536) (b:=p) (by omega) (by omega);have q1:=Int.ediv_le_self p (show 0<=h*65536 by omega);rw[if_neg a4,Int.tdiv_eq_ediv_of_nonneg (by omega)];exact⟨by simp only[InR]; omega,⟨by omega,by simp only[InR]; omega⟩,rfl⟩
def r220:Cr PR:=K0 [] 220 6 {ps:=[(false,hI),(false,hI)],rs:=[(false,hI)],pre:=λ_=>True,out:=λa=>[[.i (Jy (I a 0 0) (I a 1 0))]]} U λa=>Y (v220 (I a 0 0) (I a 1 0))
end Go.Sx
namespace Go.Sx
theorem v219 (n:Int):InR .i64 n->pLe (-4611686018427387904) n/\True->Cn (bLt n 0) (InR .i64 (iSub 0 n)/\iSub 0 n=F9 n) (n=F9 n):=by
 intro hw hp;simp only[D,E]at hp ⊢;unfold F9;exact⟨λh=>⟨by simp only[InR]at*; omega,by rw[if_pos h]; omega⟩,λh=>by rw[if_neg h]⟩
def r219:Cr PR:=K [] 219 6 {ps:=[(false,hI)],rs:=[(false,hI)],pre:=λa=>pLe (-4611686018427387904) (I a 0 0)/\True,out:=λa=>[[.i (F9 (I a 0 0))]]} U λa=>Y (v219 (I a 0 0))
end Go.Sx
namespace Go.Sx
def A175 (h:Int) (e:Int) (g:Int) (ch:Int) (su:List (List C)):FuncId->Nat->LoopAnn:=λ_ ii=>bif Nat.beq ii 6 then lp 48 su.length (ES OZ su) [0,1,2,3,6,7,8,10,11,12,13,15,17,18,21,43,46,47,48,49,57,66,75,76,77,78,102,103,104,105,115]else bif Nat.beq ii 13 then .ghostB 11 1 hW 21 (.inv Int (λz=>Bh ((su.length:Int)/ch) z) (λz=>[(12,.int .i64 (z*ch))]) (λz=>[(0,.box [.int .i64 h,.int .i64 e,.int .i64 (Ea h e g ch su z.toNat)] 56),(3,.box [.int .i64 ch,.own 4 0] 95),(4,.row hW 21 0 (EC h e g ch su z))]) [0,3,4] [0,1,2,3,6,7,8,10,11,12,13,15,17,18,21,43,46,47,48,49,57,66,75,76,77,78,102,103,104,105,115] (λz=>((su.length:Int)/ch-z).toNat))else(.on (λsv0=>bif Nat.beq ii 17 then(match sv0.tmps.getD 12 .undef with| .int _ ci=> .inv Int (λz=>Bh ch z) (λz=>[(77,.int .i64 z),(13,.int .i64 (Kr su ci z.toNat))]) (λ_=>[]) [] [0,1,2,3,6,7,8,10,11,12,13,15,17,18,21,43,46,47,48,49,57,66,75,76,77,78,102,103,104,105,115] (λz=>(ch-z).toNat)|_=> .unroll 0)else(match sv0.tmps.getD 12 .undef with| .int _ ci=> .inv Int (λz=>Bh ch z) (λz=>[(104,.int .i64 z)]) (λz=>[(3,.box [.int .i64 ch,.own 4 0] 95),(4,.row hW 21 0 (EC h e g ch su (ci/ch)++Gt h e g ch su (ci/ch).toNat z))]) [3,4] [0,1,2,3,6,7,8,10,11,12,13,15,17,18,21,43,46,47,48,49,57,66,75,76,77,78,102,103,104,105,115] (λz=>(ch-z).toNat)|_=> .unroll 0)))
def Ad3 (h:Int) (e:Int) (g:Int) (ch:Int) (su:List (List C)):Prop:=0=qi 0 (IM h e g ch su)/\[]=ql 1 (IM h e g ch su)/\0=qi 0 (Fg h e g ch su)/\0=qi 1 (Fg h e g ch su)/\0=qi 2 (Fg h e g ch su)/\2=IW h e g ch su
def Ab8 (h:Int) (ch:Int) (su:List (List C)) (x_1:Int) (x_2:Int):Int:=(Jy h (Kr su (x_1*ch) x_2.toNat))
theorem v175 (h:Int) (e:Int) (g:Int) (ch:Int) (su:List (List C)):InR .i64 h/\InR .i64 e/\InR .i64 g/\InR .i64 ch/\WL hI su->True/\True/\Cn (bNot (Ii h e g)) (0=qi 0 (IM h e g ch su)/\[]=ql 1 (IM h e g ch su)/\0=qi 0 (Fg h e g ch su)/\0=qi 1 (Fg h e g ch su)/\0=qi 2 (Fg h e g ch su)/\1=IW h e g ch su) (Cn (bLt ch 1) ((Ad3 h e g ch su)) (Cn (bLt 8 ch) ((Ad3 h e g ch su)) (pLe (iLen su) 9223372036854775807->pNe ch 0/\Cn (bNe (iRem (iLen su) ch) 0) ((Ad3 h e g ch su)) (pLe (iLen su) 9223372036854775807->(pNe ch 0/\InR .i64 (iQuo (iLen su) ch))/\Cn (bLt 65536 (iQuo (iLen su) ch)) ((Ad3 h e g ch su)) (pLe (iLen su) 9223372036854775807->(∃(x:Int),ES OZ su x/\0=x)/\∀(x:Int),ES OZ su x->InR .i64 x->Cn (bLt x (iLen su)) (pIn 0 (iLen su) x/\(InR .i64 (qi 0 (rGet su x))->Cn (bLt 1099511627776 (qi 0 (rGet su x))) ((Ad3 h e g ch su)) (Cn (bLt (qi 0 (rGet su x)) (-1099511627776)) ((Ad3 h e g ch su)) (InR .i64 (iAdd x 1)/\Sm [C.i h,C.i e,C.i g]/\Sm ch/\Sm su/\Sm su/\Sm (iLen su)/\Sm [C.i h,C.i e,C.i g]/\∃(y:Int),ES OZ su y/\iAdd x 1=y/\nLt (su.length-y.toNat) (su.length-x.toNat))))) ((∃(x:Int),Bh (↑su.length/ch) x/\0=x*ch/\Sm h/\Sm e/\g=Ea h e g ch su x.toNat/\Sm ch/\[]=EC h e g ch su x)/\∀(x_1:Int),Bh (↑su.length/ch) x_1->InR .i64 (x_1*ch)/\InR .i64 h/\InR .i64 e/\InR .i64 (Ea h e g ch su x_1.toNat)/\InR .i64 ch/\WL hW (EC h e g ch su x_1)->pLe (iLen su) 9223372036854775807->Cn (bLt (x_1*ch) (iLen su)) (InR .i64 (iAdd (x_1*ch) ch)/\geB (some (x_1*ch)) (some (iAdd (x_1*ch) ch)) (iLen su)/\(pLe (iLen (Dy ch su x_1)) 9223372036854775807->(∃(x:Int),Bh ch x/\0=x/\0=Kr su (x_1*ch) x.toNat)/\∀(x_2:Int),Bh ch x_2->InR .i64 x_2/\InR .i64 (Kr su (x_1*ch) x_2.toNat)->Cn (bLt x_2 (iLen (Dy ch su x_1))) (pIn 0 (iLen (Dy ch su x_1)) x_2/\(InR .i64 (qi 0 (rGet (Dy ch su x_1) x_2))->(pLe (-4611686018427387904) (qi 0 (rGet (Dy ch su x_1) x_2))/\True)/\(InR .i64 (F9 (qi 0 (rGet (Dy ch su x_1) x_2)))->InR .i64 (iAdd x_2 1)/\Sm [C.i h,C.i e,C.i g]/\Sm ch/\Sm su/\Sm (x_1*ch)/\Sm su/\Sm (iLen su)/\Sm x/\Sm (Dy ch su x_1)/\Sm (iLen (Dy ch su x_1))/\Sm [C.i h,C.i e,C.i (Ea h e g ch su x_1.toNat)]/\Sm ch/\Sm (EC h e g ch su x_1)/\∃(y:Int),Bh ch y/\iAdd x_2 1=y/\iMax (Kr su (x_1*ch) x_2.toNat) (F9 (qi 0 (rGet (Dy ch su x_1) x_2)))=Kr su (x_1*ch) y.toNat/\nLt (ch-y).toNat (ch-x_2).toNat))) (True/\(InR .i64 (Ab8 h ch su x_1 x_2)->InR .i64 (iAdd (Ea h e g ch su x_1.toNat) e)/\InR .i64 (iAdd (x_1*ch) ch)/\geB (some (x_1*ch)) (some (iAdd (x_1*ch) ch)) (iLen su)/\(pLe (iLen (Dy ch su x_1)) 9223372036854775807->(∃(x:Int),Bh ch x/\0=x/\Sm ch/\EC h e g ch su x_1=EC h e g ch su (x_1*ch/ch)++Gt h e g ch su (x_1*ch/ch).toNat x)/\∀(x_3:Int),Bh ch x_3->InR .i64 x_3/\InR .i64 ch/\WL hW (EC h e g ch su (x_1*ch/ch)++Gt h e g ch su (x_1*ch/ch).toNat x_3)->Cn (bLt x_3 (iLen (Dy ch su x_1))) (pIn 0 (iLen (Dy ch su x_1)) x_3/\(InR .i64 (qi 0 (rGet (Dy ch su x_1) x_3))->(pLe (-4611686018427387904) (qi 0 (rGet (Dy ch su x_1) x_3))/\True)/\(InR .i64 (F9 (qi 0 (rGet (Dy ch su x_1) x_3)))->InR .i64 (iMul (F9 (qi 0 (rGet (Dy ch su x_1) x_3))) (iMin (Ab8 h ch su x_1 x_2) (iAdd (Ea h e g ch su x_1.toNat) e)))/\(pNe 65536 0/\InR .i64 (iQuo (iMul (F9 (qi 0 (rGet (Dy ch su x_1) x_3))) (iMin (Ab8 h ch su x_1 x_2) (iAdd (Ea h e g ch su x_1.toNat) e))) 65536))/\Cn (bLt (qi 0 (rGet (Dy ch su x_1) x_3)) 0) (InR .i64 (iSub 0 (iQuo (iMul (F9 (qi 0 (rGet (Dy ch su x_1) x_3))) (iMin (Ab8 h ch su x_1 x_2) (iAdd (Ea h e g ch su x_1.toNat) e))) 65536))/\Aar 4 (iLen (EC h e g ch su (x_1*ch/ch)++Gt h e g ch su (x_1*ch/ch).toNat x_3++[[C.i (Aaj .i32 (iSub 0 (iQuo (iMul (F9 (qi 0 (rGet (Dy ch su x_1) x_3))) (iMin (Ab8 h ch su x_1 x_2) (iAdd (Ea h e g ch su x_1.toNat) e))) 65536)))]]))/\InR .i64 (iAdd x_3 1)/\Sm [C.i h,C.i e,C.i g]/\Sm ch/\Sm su/\Sm (x_1*ch)/\Sm (Kr su (x_1*ch) x_2.toNat)/\Sm su/\Sm (iLen su)/\Sm x/\Sm (Dy ch su x_1)/\Sm (iLen (Dy ch su x_1))/\Sm x_2/\Sm (Dy ch su x_1)/\Sm (iLen (Dy ch su x_1))/\Sm [C.i h,C.i e,C.i (iMin (Ab8 h ch su x_1 x_2) (iAdd (Ea h e g ch su x_1.toNat) e))]/\∃(y:Int),Bh ch y/\iAdd x_3 1=y/\Sm ch/\EC h e g ch su (x_1*ch/ch)++Gt h e g ch su (x_1*ch/ch).toNat x_3++[[C.i (Aaj .i32 (iSub 0 (iQuo (iMul (F9 (qi 0 (rGet (Dy ch su x_1) x_3))) (iMin (Ab8 h ch su x_1 x_2) (iAdd (Ea h e g ch su x_1.toNat) e))) 65536)))]]=EC h e g ch su (x_1*ch/ch)++Gt h e g ch su (x_1*ch/ch).toNat y/\nLt (ch-y).toNat (ch-x_3).toNat) (Aar 4 (iLen (EC h e g ch su (x_1*ch/ch)++Gt h e g ch su (x_1*ch/ch).toNat x_3++[[C.i (Aaj .i32 (iQuo (iMul (F9 (qi 0 (rGet (Dy ch su x_1) x_3))) (iMin (Ab8 h ch su x_1 x_2) (iAdd (Ea h e g ch su x_1.toNat) e))) 65536))]]))/\InR .i64 (iAdd x_3 1)/\Sm [C.i h,C.i e,C.i g]/\Sm ch/\Sm su/\Sm (x_1*ch)/\Sm (Kr su (x_1*ch) x_2.toNat)/\Sm su/\Sm (iLen su)/\Sm x/\Sm (Dy ch su x_1)/\Sm (iLen (Dy ch su x_1))/\Sm x_2/\Sm (Dy ch su x_1)/\Sm (iLen (Dy ch su x_1))/\Sm [C.i h,C.i e,C.i (iMin (Ab8 h ch su x_1 x_2) (iAdd (Ea h e g ch su x_1.toNat) e))]/\∃(y:Int),Bh ch y/\iAdd x_3 1=y/\Sm ch/\EC h e g ch su (x_1*ch/ch)++Gt h e g ch su (x_1*ch/ch).toNat x_3++[[C.i (Aaj .i32 (iQuo (iMul (F9 (qi 0 (rGet (Dy ch su x_1) x_3))) (iMin (Ab8 h ch su x_1 x_2) (iAdd (Ea h e g ch su x_1.toNat) e))) 65536))]]=EC h e g ch su (x_1*ch/ch)++Gt h e g ch su (x_1*ch/ch).toNat y/\nLt (ch-y).toNat (ch-x_3).toNat)))) (InR .i64 (iAdd (x_1*ch) ch)/\Sm [C.i h,C.i e,C.i g]/\Sm ch/\Sm su/\Sm su/\Sm (iLen su)/\Sm x/\∃(y:Int),Bh (↑su.length/ch) y/\iAdd (x_1*ch) ch=y*ch/\Sm h/\Sm e/\iMin (Ab8 h ch su x_1 x_2) (iAdd (Ea h e g ch su x_1.toNat) e)=Ea h e g ch su y.toNat/\Sm ch/\EC h e g ch su (x_1*ch/ch)++Gt h e g ch su (x_1*ch/ch).toNat x_3=EC h e g ch su y/\nLt (↑su.length/ch-y).toNat (↑su.length/ch-x_1).toNat)))))) (ch=qi 0 (IM h e g ch su)/\EC h e g ch su x_1=ql 1 (IM h e g ch su)/\h=qi 0 (Fg h e g ch su)/\e=qi 1 (Fg h e g ch su)/\Ea h e g ch su x_1.toNat=qi 2 (Fg h e g ch su)/\0=IW h e g ch su))))))):=by
  intro hw;delta Ad3 Ab8;have no:∀ {x:Int},x≠0->IW h e g ch su=x->0=qi 0 (IM h e g ch su)/\[]=ql 1 (IM h e g ch su)/\0=qi 0 (Fg h e g ch su)/\0=qi 1 (Fg h e g ch su)/\0=qi 2 (Fg h e g ch su)/\x=IW h e g ch su:=λh0 h1=>by
    unfold IM Fg;rw[if_neg (by omega),if_neg (by omega),h1];exact⟨rfl,rfl,rfl,rfl,rfl,rfl⟩
  have n0:=Int.natCast_nonneg su.length;simp only[D,E,Int.tdiv_eq_ediv_of_nonneg n0,Int.tmod_eq_emod_of_nonneg n0];refine⟨λa=>no (by omega) (if_pos a),λv=> ?_⟩;have bad:¬(1<=ch/\ch<=8/\(su.length:Int) % ch=0/\(su.length:Int)/ch<=65536/\su.all OZ=true)->IW h e g ch su=2:=λa=>by unfold IW; rw[if_neg (by simp[v]),if_neg a]
  have rng:∀ {k:Int},-1000000000000000000<=k->k<=1000000000000000000->InR .i64 k:=λa b=>by simp only[InR]; omega
  refine⟨λa=>no (by omega) (bad λb=>by omega),λa1=>⟨λa=>no (by omega) (bad λb=>by omega),λa2 _=>⟨by omega,λa=>no (by omega) (bad λb=>by omega),λa3 _=>⟨⟨by omega,Ld hw.2.2.2.2.1⟩,λa=>no (by omega) (bad λb=>by omega),λa4 _=> ?_⟩⟩⟩⟩;refine lpA al0 (λx h=>h.1) (λx hx h0 hl _=> ?_) (λx hx hl=> ?_)
  · have bd:¬(-1099511627776<=qi 0 (rGet su x)/\qi 0 (rGet su x)<=1099511627776)->IW h e g ch su=2:=λa=>bad λb=>by
      have c:=alB hx hl (f:=OZ) (decide_eq_false a);rw[b.2.2.2.2]at c; cases c
    exact⟨λa=>no (by omega) (bd (by omega)),λb1=>⟨λa=>no (by omega) (bd (by omega)),λb2=>⟨inS hw.2.2.2.2 h0 hl,x+1,alN hx hl (decide_eq_true (by omega)),rfl,by omega⟩⟩⟩
  have sa:=(alE hx hl).symm;have dm:(su.length:Int)/ch*ch=su.length:=by have:=Int.ediv_mul_add_emod (su.length:Int) ch; omega
  have q0:=Int.ediv_nonneg (b:=ch) n0 (by omega);have L:=Aap (x:=(su.length:Int)/ch) (X:=65536) (y:=ch) (Y:=8) q0 (by omega) (by omega) (by omega);rw[dm]at L;have e0:IW h e g ch su=0:=by unfold IW; rw[if_neg (by simp[v]),if_pos ⟨by omega,by omega,by omega,by omega,sa⟩]
  refine⟨⟨0,⟨Int.le_refl _,q0⟩,(Int.zero_mul _).symm,rfl,rfl⟩,?_⟩;intro k ⟨k0,k1⟩ _ _;rw[Int.mul_ediv_cancel k (show ch≠0 by omega)];have kp:=Int.mul_nonneg k0 (show 0<=ch by omega);refine⟨λhl=> ?_,λhl=> ?_⟩
  · have kl:k<(su.length:Int)/ch:=by
      rcases Int.lt_or_eq_of_le k1 with c|c
      · exact c
      · rw[c,dm]at hl; omega
    have kc:=Ro (n:=su.length) (show 1<=ch by omega) kl;have cl:((Dy ch su k).length:Int)=ch:=(Xt kp (show k*ch<=k*ch+ch by omega) kc).trans (by omega);have ca:∀ {x},0<=x->x<ch->rGet (Dy ch su k) x=rGet su (k*ch+x):=λh0 h1=>XP kp h0 (show _<k*ch+ch-k*ch by omega);have kn:((k.toNat:Nat):Int)=k:=Int.toNat_of_nonneg k0;rw[cl];refine⟨rng (by omega) (by omega),⟨kp,by omega,kc⟩,λ_=>⟨⟨0,⟨Int.le_refl _,by omega⟩,rfl,rfl⟩,?_⟩⟩;intro x ⟨x0,x1⟩ _;refine⟨λhx=> ?_,λhx=> ?_⟩
    · have sx:=Wy (i:=k*ch+x) sa (by omega) (by omega);rw[ca x0 hx];refine⟨⟨x0,hx⟩,λ_=>⟨by omega,λ_=>⟨rng (by omega) (by omega),x+1,⟨by omega,by omega⟩,rfl,?_,by omega⟩⟩⟩;rw[show(x+1).toNat=x.toNat+1 by omega,Kr,Int.toNat_of_nonneg x0]
    · have xe:x=ch:=by omega
      subst xe;have G:min (Jy h (Kr su (k*x) x.toNat)) (Ea h e g x su k.toNat+e)=Ea h e g x su (k.toNat+1):=by rw[Ea,kn]
      have gb:=TI (ch:=x) (su:=su) v k.toNat;have gc:=TI (ch:=x) (su:=su) v (k.toNat+1);have vv:=of_decide_eq_true v;rw[G];refine λ_=>⟨rng (by omega) (by omega),rng (by omega) (by omega),⟨kp,by omega,kc⟩,λ_=>⟨⟨0,⟨Int.le_refl _,by omega⟩,rfl,(List.append_nil _).symm⟩,?_⟩⟩
      intro c ⟨c0,c1⟩ _;have ll:=XA h e g x su k (by omega);rw[kn]at ll;refine⟨λhc=> ?_,λhc=>⟨rng (by omega) (by omega),k+1,⟨by omega,by omega⟩,by rw[Int.add_mul,Int.one_mul],?_,?_,by omega⟩⟩
      · have sx:=Wy (i:=k*x+c) sa (by omega) (by omega);have mb:=Yx sx.1 sx.2;have st:∀ {w:Int},Aaj .i32 w=RU (qi 0 (rGet su (k*x+c))) (Ea h e g x su (k.toNat+1))->∃y,Bh x y/\c+1=y/\EC h e g x su k++Gt h e g x su k.toNat c++[[C.i (Aaj .i32 w)]]=EC h e g x su k++Gt h e g x su k.toNat y/\(x-y).toNat<(x-c).toNat:=λhw=>⟨c+1,⟨by omega,by omega⟩,rfl,by rw[Za _ _ _ _ _ _ c0,kn,List.append_assoc,hw],by omega⟩
        have rm:∀ {w:List C},((EC h e g x su k++Gt h e g x su k.toNat c++[w]).length:Int)*4<=140737488355328:=by
          intro w;rw[List.length_append,List.length_append,Uc,List.length_singleton]; omega
        rw[ca c0 hc];have m:=Aap (x:=F9 (qi 0 (rGet su (k*x+c)))) (X:=1099511627776) (y:=Ea h e g x su (k.toNat+1)) (Y:=65536) mb.1 mb.2 gc.1 gc.2;refine⟨⟨c0,hc⟩,λ_=>⟨by omega,λ_=>⟨rng (by omega) (by omega),?_⟩⟩⟩;rw[Int.tdiv_eq_ediv_of_nonneg m.1];refine⟨⟨by decide,rng (by omega) (by omega)⟩,λhs=>⟨rng (by omega) (by omega),rm,rng (by omega) (by omega),st ?_⟩,λhs=>⟨rm,rng (by omega) (by omega),st ?_⟩⟩
        · unfold RU; rw[if_pos hs]
        · unfold RU; rw[if_neg hs]
      · rw[show(k+1).toNat=k.toNat+1 by omega]
      · rw[Zd _ _ _ _ _ k0,show c=x by omega]
  · have ke:k=(su.length:Int)/ch:=by
      rcases Int.lt_or_eq_of_le k1 with c|c
      · have:=Ro (n:=su.length) (show 1<=ch by omega) c; omega
      · exact c
    unfold IM Fg;rw[if_pos e0,if_pos e0,ke];exact⟨rfl,rfl,rfl,rfl,rfl,e0.symm⟩
def r175:Cr PR:=K0 [r52,r220,r219] 175 8 {ps:=[(true,hS),(false,hI),(false,hL)],rs:=[(true,hK),(true,hLm),(false,hI)],pre:=λ_=>True,out:=λa=>[rb [0,3] (IM (I a 0 0) (I a 0 1) (I a 0 2) (I a 1 0) (L a 2 0)),rb [0,0,0] (Fg (I a 0 0) (I a 0 1) (I a 0 2) (I a 1 0) (L a 2 0)),[.i (IW (I a 0 0) (I a 0 1) (I a 0 2) (I a 1 0) (L a 2 0))]]} (λa=>A175 (I a 0 0) (I a 0 1) (I a 0 2) (I a 1 0) (L a 2 0)) λa=>Y (v175 (I a 0 0) (I a 0 1) (I a 0 2) (I a 1 0) (L a 2 0))
end Go.Sx

set_option linter.unusedVariables false
set_option linter.unusedSimpArgs false
set_option maxRecDepth 100000
set_option maxHeartbeats 4000000
namespace Go
open Go.Sx
def N7 (x:List C):Bool:=decide (-131072<=qi 0 x/\qi 0 x<=131072)
def Uy (p q k:Int):Bool:=decide (1<=p/\p<=8/\1<=q/\q<=8/\k=p*q)
def GN (p q:Int) (co:List (List C)):Bool:=Uy p q (co.length:Int)&&co.all N7
def Ph (p q:Int) (co:List (List C)) (u v:Int) (cp:List (List C)):Bool:=bAnd (bEq p u) (bAnd (bEq q v) (Dk Cm co cp))
def QF (f:Nat->List (List C)->List (List C)) (a:List (List C)):Nat->List (List C)
 |0=>a
 |n+1=>f n (QF f a n)
def XZ (n:Int) (i:Nat) (ys:List (List C)):List (List C):=rSet ys ((i:Int)*n+i) [.i 32768]
def ND (n k:Int):List (List C):=QF (XZ n) (IR (n*n)) k.toNat
def Oc (n:Int):Int:=if 1<=n/\n<=8 then 0 else 2
def Fp (n:Int):List C:=if Oc n=0 then[.i n,.i n,.l (ND n n)]else[]
def GZ (p:Int) (co da:List (List C)) (r at_:Int):Nat->Int
 |0=>16384
 |c+1=>GZ p co da r at_ c+qi 0 (rGet co (r*p+c))*qi 0 (rGet da (at_+c))
def Ym (p:Int) (co da:List (List C)) (at_ r:Int):List C:=[.i (KR (GZ p co da r at_ p.toNat/32768))]
def Jt (p:Int) (co da:List (List C)) (at_ m:Int):List (List C):=(List.range m.toNat).map fun(r:Nat)=>Ym p co da at_ r
def E9 (p q:Int) (co da:List (List C)) (k:Int):List (List C):=(List.range k.toNat).flatMap fun(i:Nat)=>Jt p co da ((i:Int)*p) q
def IP (p q:Int) (co:List (List C)) (ch:Int) (da:List (List C)):Int:=if GN p q co=false∨AQ ch da=false then 1 else if ch≠p then 11 else 0
def IQ (p q:Int) (co:List (List C)) (ch:Int) (da:List (List C)):List C:=if IP p q co ch da=0 then[.i q,.l (E9 p q co da ((da.length:Int)/p))]else[]
def CS (p:Int):List (List C):=if p=3 then[[.l [[.i 1],[.i 2]]]]else if p=1∨p=2 then[[.l [[.i 3]]]]else if p=5 then[[.l [[.i 7]]],[.l [[.i 1]]],[.l [[.i 3]]]]else if p=6 then[[.l [[.i 8]]],[.l [[.i 2]]],[.l [[.i 3]]]]else if p=7 then[[.l [[.i 5]]],[.l [[.i 1]]],[.l [[.i 3]]]]else if p=8 then[[.l [[.i 6]]],[.l [[.i 2]]],[.l [[.i 3]]]]else[]
def OY (b:List (List C)) (w:List C):Bool:=decide (¬(D7 (ql 0 w) b).length<(ql 0 w).length)
def VY (b:List (List C)) (n c:Int) (ys:List (List C)) (x:List C):List (List C):=rSet ys (BK (Bc (qi 0 x)) 0 b*n+c) [.i 23170]
def ZW (b:List (List C)) (n c:Int) (w:List C) (ys:List (List C)):List (List C):=(ql 0 w).foldl (VY b n c) ys
def P5 (b:List (List C)) (n c p:Int) (ys:List (List C)):List (List C):=if 0<=BK (Bc p) 0 b then rSet ys (BK (Bc p) 0 b*n+c) [.i 32768]else match(CS p).find? (OY b)with
 |none=>ys
 |some w=>ZW b n c w ys
def X3 (a b:List (List C)) (c:Nat) (ys:List (List C)):List (List C):=P5 b a.length c (qi 0 (rGet a c)) ys
def Et (a b:List (List C)) (k:Int):List (List C):=QF (X3 a b) (IR ((a.length:Int)*b.length)) k.toNat
def NE (a b:List (List C)):Int:=if BO a=true/\BO b=true then 0 else 1
def Ec (a b:List (List C)):List C:=if NE a b=0 then[.i a.length,.i b.length,.l (Et a b a.length)]else[]
def Ui (b:List (List C)) (p z:Int):Prop:=0<=z/\z<=((CS p).length:Int)/\(CS p).find? (OY b)=((CS p).drop z.toNat).find? (OY b)
def NK (b:List (List C)) (n c:Int) (ws ys:List (List C)) (z:Int):List (List C):=(ws.take z.toNat).foldl (VY b n c) ys
end Go
namespace Go
open Go.Sx
theorem Xe {f:Nat->List (List C)->List (List C)} {a:List (List C)} {z:Int} (h:0<=z):QF f a (z+1).toNat=f z.toNat (QF f a z.toNat):=by
 rw[show(z+1).toNat=z.toNat+1 by omega]; rfl
theorem Rw {f:Nat->List (List C)->List (List C)} (h:∀k ys,(f k ys).length=ys.length) (a:List (List C)):∀n,(QF f a n).length=a.length
 |0=>rfl
 |n+1=>(h n _).trans (Rw h a n)
theorem Qq (xs:List (List C)) (i:Int) (y:List C):(rSet xs i y).length=xs.length:=List.length_set ..
theorem RZ (n:Int):(IR n).length=n.toNat:=List.length_replicate
theorem Vp {p q:Int} {co:List (List C)} (h:GN p q co=true):(1<=p/\p<=8/\1<=q/\q<=8/\(co.length:Int)=p*q)/\co.all N7=true:=by
 simpa only[GN,Uy,Bool.and_eq_true,decide_eq_true_eq]using h
theorem VF {x y:Int} (a: -131072<=x/\x<=131072) (b: -8388608<=y/\y<=8388608): -1099511627776<=x*y/\x*y<=1099511627776:=by
 have h:=Int.natAbs_mul x y;have g:=Nat.mul_le_mul (show x.natAbs<=131072 by omega) (show y.natAbs<=8388608 by omega);omega
theorem Ws {co:List (List C)} {i:Int} (h:co.all N7=true) (h0:0<=i) (h1:i<(co.length:Int)): -131072<=qi 0 (rGet co i)/\qi 0 (rGet co i)<=131072:=of_decide_eq_true (List.all_eq_true.1 h _ (Lc h0 h1))
theorem TG {da:List (List C)} {i:Int} (h:da.all FT=true) (h0:0<=i) (h1:i<(da.length:Int)): -8388608<=qi 0 (rGet da i)/\qi 0 (rGet da i)<=8388607:=of_decide_eq_true (List.all_eq_true.1 h _ (Lc h0 h1))
theorem VV {p:Int} {co da:List (List C)} {r at_:Int} (hc:co.all N7=true) (hd:da.all FT=true) (h0:0<=r*p) (h1:0<=at_):∀ {n:Nat},r*p+n<=(co.length:Int)->at_+n<=(da.length:Int)->16384-1099511627776*(n:Int)<=GZ p co da r at_ n/\GZ p co da r at_ n<=16384+1099511627776*(n:Int)
 |0,_,_=>⟨by simp[GZ],by simp[GZ]⟩
 |n+1,a,b=>by
  have i:=VV hc hd h0 h1 (n:=n) (by omega) (by omega);have x:=Ws (i:=r*p+n) hc (by omega) (by omega);have y:=TG (i:=at_+n) hd (by omega) (by omega);have m:=VF x ⟨y.1,by omega⟩;unfold GZ; omega
theorem Zm (p:Int) (co da:List (List C)) (at_:Int) {m:Int} (h:0<=m):Jt p co da at_ (m+1)=Jt p co da at_ m++[Ym p co da at_ m]:=by
 unfold Jt;rw[show(m+1).toNat=m.toNat+1 by omega,List.range_succ,List.map_append,List.map_singleton,Int.toNat_of_nonneg h]
theorem YR (p q:Int) (co da:List (List C)) {k:Int} (h:0<=k):E9 p q co da (k+1)=E9 p q co da k++Jt p co da (k*p) q:=by
 unfold E9;rw[show(k+1).toNat=k.toNat+1 by omega,List.range_succ,List.flatMap_append,List.flatMap_singleton,Int.toNat_of_nonneg h]
theorem TQ (p:Int) (co da:List (List C)) (at_ m:Int):(Jt p co da at_ m).length=m.toNat:=by simp[Jt]
theorem Ud (p q:Int) (co da:List (List C)) (k:Int) (h:0<=q):((E9 p q co da k).length:Int)=k.toNat*q:=by
 unfold E9;generalize k.toNat=m
 induction m with
 |zero=>simp
 |succ m ih=>rw[List.range_succ,List.flatMap_append,List.flatMap_singleton,List.length_append,Int.natCast_add,ih,TQ,Int.natCast_succ,Int.add_mul]; omega
theorem Qc {f:List C->Bool}:∀(xs:List (List C)) (k:Int),0<=k->BK f k xs<k+(xs.length:Int)
 |[],k,h=>by simp only[BK,List.length_nil]; omega
 |x::r,k,h=>by
  have:=Qc (f:=f) r (k+1) (by omega);simp only[BK,List.length_cons]
  cases f x<;>simp only[cond_true,cond_false]<;>omega
theorem S9 {m:List (List C)} (h:BO m=true):1<=m.length/\m.length<=8:=by
 unfold BO at h; simp only[Bool.and_eq_true,decide_eq_true_eq]at h; exact h.1
theorem Xf {w b:List (List C)} (h:¬(D7 w b).length<w.length) {x:List C} (hx:x∈w):0<=BK (Bc (qi 0 x)) 0 b:=by
 have l:=List.length_filter_le (Qi b) w;have e:(w.filter (Qi b)).length=w.length:=by
  unfold D7 at h; rw[List.length_map]at h; omega
 exact of_decide_eq_true (List.length_filter_eq_length_iff.1 e x hx)
theorem YL (p:Int) {w:List C}:w∈CS p->(ql 0 w).length<=2:=by
 unfold CS;(repeat' split)<;>simp only[List.mem_cons,List.not_mem_nil,or_false,false_imp_iff]<;>(try (rintro(rfl|rfl|rfl)<;>decide))<;>(try (rintro rfl; decide))
theorem YY (p:Int):(CS p).length<=3:=by
 unfold CS;(repeat' split)<;>decide
theorem Qy (b:List (List C)) (n c:Int):∀(ws ys:List (List C)),(ws.foldl (VY b n c) ys).length=ys.length
 |[],_=>rfl
 |x::r,ys=>(Qy b n c r _).trans (Qq ..)
theorem Xu (b:List (List C)) (n c p:Int) (ys:List (List C)):(P5 b n c p ys).length=ys.length:=by
 unfold P5;split
 · exact Qq ..
 split
 · rfl
 · exact Qy ..
theorem Xj (a b:List (List C)) (k:Int):(Et a b k).length=((a.length:Int)*b.length).toNat:=(Rw (λ_ _=>Xu ..) _ _).trans (RZ _)
end Go
namespace Go.Sx
def A178 (co:List (List C)):FuncId->Nat->LoopAnn:=λ_ _=>lp 37 co.length (ES N7 co) [0,1,2,4,33,35,36,37,38,46]
theorem v178 (p:Int) (q:Int) (co:List (List C)):InR .i64 p/\InR .i64 q/\WL hI co->Cn (bLt p 1) (false=GN p q co) (Cn (bLt 8 p) (false=GN p q co) (Cn (bLt q 1) (false=GN p q co) (Cn (bLt 8 q) (false=GN p q co) (pLe (iLen co) 9223372036854775807->InR .i64 (iMul p q)/\Cn (bNe (iLen co) (iMul p q)) (false=GN p q co) (pLe (iLen co) 9223372036854775807->(∃(x:Int),ES N7 co x/\0=x)/\∀(x:Int),ES N7 co x->InR .i64 x->Cn (bLt x (iLen co)) (pIn 0 (iLen co) x/\(InR .i64 (qi 0 (rGet co x))->Cn (bLt (qi 0 (rGet co x)) (-131072)) (false=GN p q co) (Cn (bLt 131072 (qi 0 (rGet co x))) (false=GN p q co) (InR .i64 (iAdd x 1)/\Sm [C.i p,C.i q,C.l co]/\Sm co/\Sm (iLen co)/\Sm [C.i p,C.i q,C.l co]/\∃(y:Int),ES N7 co y/\iAdd x 1=y/\nLt (co.length-y.toNat) (co.length-x.toNat))))) (true=GN p q co)))))):=by
 intro hw;have no:¬(1<=p/\p<=8/\1<=q/\q<=8/\(co.length:Int)=p*q)->false=GN p q co:=λh=>by unfold GN Uy; rw[decide_eq_false h]; rfl
 simp only[D,E];refine⟨λa=>no (by omega),λa1=>⟨λa=>no (by omega),λa2=>⟨λa=>no (by omega),λa3=>⟨λa=>no (by omega),λa4 _=> ?_⟩⟩⟩⟩;have m:=Aap (x:=p) (X:=8) (y:=q) (Y:=8) (by omega) (by omega) (by omega) (by omega);refine⟨by simp only[InR]; omega,λa=>no (by omega),λa5 _=> ?_⟩;have e:GN p q co=co.all N7:=by unfold GN Uy; rw[decide_eq_true (by omega),Bool.true_and]
 rw[e];exact lpA al0 (λx h=>h.1) (λx hx h0 hl _=>⟨λc=>alB hx hl (decide_eq_false (by omega)),λc1=>⟨λc=>alB hx hl (decide_eq_false (by omega)),λc2=>⟨inS hw.2.2 h0 hl,x+1,alN hx hl (decide_eq_true (by omega)),rfl,by omega⟩⟩⟩) (λx hx hl=>alE hx hl)
def r178:Cr PR:=K0 [] 178 6 {ps:=[(true,hMx)],rs:=[(false,[.bool])],pre:=λ_=>True,out:=λa=>[[.b (GN (I a 0 0) (I a 0 1) (L a 0 2))]]} (λa=>A178 (L a 0 2)) λa=>Y (v178 (I a 0 0) (I a 0 1) (L a 0 2))
end Go.Sx
namespace Go.Sx
def A105 (n:Int):FuncId->Nat->LoopAnn:=λ_ _=> .inv Int (λz=>Bh n z) (λz=>[(5,.int .i64 z)]) (λz=>[(1,.row hI 3 0 (ND n z))]) [1] ([0,2,3,4,5,11,22]++[1000001]) (λz=>(n-z).toNat)
theorem v105 (n:Int):InR .i64 n->Cn (bLt n 1) (0=qi 0 (Fp n)/\0=qi 1 (Fp n)/\[]=ql 2 (Fp n)/\2=Oc n) (Cn (bLt 8 n) (0=qi 0 (Fp n)/\0=qi 1 (Fp n)/\[]=ql 2 (Fp n)/\2=Oc n) (InR .i64 (iMul n n)/\(pLe 0 (iMul n n)/\pLe (iMul n n) (iMul n n)/\Aar 8 (iMul n n))/\(∃(x:Int),Bh n x/\0=x/\List.replicate (iMul n n).toNat [C.i 0]=ND n x)/\∀(x:Int),Bh n x->InR .i64 x/\WL hI (ND n x)->Cn (bLt x n) (InR .i64 (iMul x n)/\InR .i64 (iAdd (iMul x n) x)/\pIn 0 (iLen (ND n x)) (iAdd (iMul x n) x)/\InR .i64 (iAdd x 1)/\Sm n/\Sm n/\Sm n/\∃(y:Int),Bh n y/\iAdd x 1=y/\rSet (ND n x) (iAdd (iMul x n) x) [C.i 32768]=ND n y/\nLt (n-y).toNat (n-x).toNat) (n=qi 0 (Fp n)/\n=qi 1 (Fp n)/\ND n x=ql 2 (Fp n)/\0=Oc n))):=by
 intro hw;have no:¬(1<=n/\n<=8)->0=qi 0 (Fp n)/\0=qi 1 (Fp n)/\[]=ql 2 (Fp n)/\2=Oc n:=λh=>by
  have e:Oc n=2:=if_neg h;unfold Fp; rw[if_neg (by omega),e]; exact⟨rfl,rfl,rfl,rfl⟩
 simp only[D,E];refine⟨λa=>no (by omega),λa1=>⟨λa=>no (by omega),λa2=> ?_⟩⟩;have m:=Aap (x:=n) (X:=8) (y:=n) (Y:=8) (by omega) (by omega) (by omega) (by omega);have e:Oc n=0:=if_pos (by omega);refine⟨by simp only[InR]; omega,⟨m.1,Int.le_refl _,by omega⟩,⟨0,⟨Int.le_refl _,by omega⟩,rfl,rfl⟩,?_⟩;intro x ⟨x0,x1⟩ _;refine⟨λhl=> ?_,λhl=> ?_⟩
 · have b:=Aap (x:=x) (X:=7) (y:=n) (Y:=8) (by omega) (by omega) (by omega) (by omega);have c:=Int.mul_le_mul_of_nonneg_right (show x+1<=n by omega) (show 0<=n by omega);have l:(ND n x).length=(n*n).toNat:=(Rw (λ_ _=>Qq ..) _ _).trans (RZ _);rw[Int.add_mul,Int.one_mul]at c;refine⟨by simp only[InR]; omega,by simp only[InR]; omega,⟨by omega,by omega⟩,by simp only[InR]; omega,x+1,⟨by omega,by omega⟩,rfl,?_,by omega⟩;unfold ND;rw[Xe x0]; unfold XZ;rw[Int.toNat_of_nonneg x0]
 · unfold Fp;rw[if_pos e,e,show x=n by omega]; exact⟨rfl,rfl,rfl,rfl⟩
def r105:Cr PR:=K0 [] 105 6 {ps:=[(false,hI)],rs:=[(true,hMx),(false,hI)],pre:=λ_=>True,out:=λa=>[rb [0,0,3] (Fp (I a 0 0)),[.i (Oc (I a 0 0))]]} (λa=>A105 (I a 0 0)) λa=>Y (v105 (I a 0 0))
end Go.Sx
namespace Go.Sx
def A120 (p:Int) (q:Int) (co:List (List C)) (da:List (List C)):FuncId->Nat->LoopAnn:=λ_ ii=>bif Nat.beq ii 7 then .ghostB 6 1 hW 21 (.inv Int (λz=>Bh ((da.length:Int)/p) z) (λz=>[(7,.int .i64 (z*p))]) (λz=>[(3,.box [.int .i64 q,.own 4 0] 95),(4,.row hW 21 0 (E9 p q co da z))]) [3,4] [0,1,2,3,4,5,6,7,8,9,10,18,24,33,41,47] (λz=>((da.length:Int)/p-z).toNat))else bif Nat.beq ii 10 then .on (λsv0=>match sv0.tmps.getD 7 .undef with| .int _ ci=> .inv Int (λz=>Bh q z) (λz=>[(8,.int .i64 z)]) (λz=>[(3,.box [.int .i64 q,.own 4 0] 95),(4,.row hW 21 0 (E9 p q co da (ci/p)++Jt p co da ci z))]) [3,4] [0,1,2,3,4,5,6,7,8,9,10,18,24,33,41,47] (λz=>(q-z).toNat)|_=> .unroll 0)else .on (λsv0=>match sv0.tmps.getD 7 .undef with| .int _ ci=>(match sv0.tmps.getD 8 .undef with| .int _ ri=> .inv Int (λz=>Bh p z) (λz=>[(10,.int .i64 z),(9,.int .i64 (GZ p co da ri ci z.toNat))]) (λ_=>[]) [] [0,1,2,3,4,5,6,7,8,9,10,18,24,33,41,47] (λz=>(p-z).toNat)|_=> .unroll 0)|_=> .unroll 0)
theorem v120 (p:Int) (q:Int) (co:List (List C)) (ch:Int) (da:List (List C)):InR .i64 p/\InR .i64 q/\WL hI co/\InR .i64 ch/\WL hW da->True/\True/\Cn (bNot (GN p q co)) (0=qi 0 (IQ p q co ch da)/\[]=ql 1 (IQ p q co ch da)/\1=IP p q co ch da) (True/\True/\Cn (bNot (AQ ch da)) (0=qi 0 (IQ p q co ch da)/\[]=ql 1 (IQ p q co ch da)/\1=IP p q co ch da) (Cn (bNe ch p) (0=qi 0 (IQ p q co ch da)/\[]=ql 1 (IQ p q co ch da)/\11=IP p q co ch da) ((∃(x:Int),Bh (↑da.length/p) x/\0=x*p/\Sm q/\[]=E9 p q co da x)/\∀(x:Int),Bh (↑da.length/p) x->InR .i64 (x*p)/\InR .i64 q/\WL hW (E9 p q co da x)->pLe (iLen da) 9223372036854775807->Cn (bLt (x*p) (iLen da)) ((∃(x_1:Int),Bh q x_1/\0=x_1/\Sm q/\E9 p q co da x=E9 p q co da (x*p/p)++Jt p co da (x*p) x_1)/\∀(x_1:Int),Bh q x_1->InR .i64 x_1/\InR .i64 q/\WL hW (E9 p q co da (x*p/p)++Jt p co da (x*p) x_1)->Cn (bLt x_1 q) ((∃(x_2:Int),Bh p x_2/\0=x_2/\16384=GZ p co da x_1 (x*p) x_2.toNat)/\∀(x_2:Int),Bh p x_2->InR .i64 x_2/\InR .i64 (GZ p co da x_1 (x*p) x_2.toNat)->Cn (bLt x_2 p) (InR .i64 (iMul x_1 p)/\InR .i64 (iAdd (iMul x_1 p) x_2)/\pIn 0 (iLen co) (iAdd (iMul x_1 p) x_2)/\(InR .i64 (qi 0 (rGet co (iAdd (iMul x_1 p) x_2)))->InR .i64 (iAdd (x*p) x_2)/\pIn 0 (iLen da) (iAdd (x*p) x_2)/\(InR .i32 (qi 0 (rGet da (iAdd (x*p) x_2)))->InR .i64 (iMul (qi 0 (rGet co (iAdd (iMul x_1 p) x_2))) (qi 0 (rGet da (iAdd (x*p) x_2))))/\InR .i64 (iAdd (GZ p co da x_1 (x*p) x_2.toNat) (iMul (qi 0 (rGet co (iAdd (iMul x_1 p) x_2))) (qi 0 (rGet da (iAdd (x*p) x_2)))))/\InR .i64 (iAdd x_2 1)/\Sm [C.i p,C.i q,C.l co]/\Sm [C.i ch,C.l da]/\Sm (x*p)/\Sm x_1/\Sm [C.i p,C.i q,C.l co]/\Sm [C.i ch,C.l da]/\Sm q/\Sm (E9 p q co da (x*p/p)++Jt p co da (x*p) x_1)/\∃(y:Int),Bh p y/\iAdd x_2 1=y/\iAdd (GZ p co da x_1 (x*p) x_2.toNat) (iMul (qi 0 (rGet co (iAdd (iMul x_1 p) x_2))) (qi 0 (rGet da (iAdd (x*p) x_2))))=GZ p co da x_1 (x*p) y.toNat/\nLt (p-y).toNat (p-x_2).toNat))) (pSh 64 15/\True/\(InR .i32 (KR (iShr (GZ p co da x_1 (x*p) x_2.toNat) 15))->Aar 4 (iLen (E9 p q co da (x*p/p)++Jt p co da (x*p) x_1++[[C.i (KR (iShr (GZ p co da x_1 (x*p) x_2.toNat) 15))]]))/\InR .i64 (iAdd x_1 1)/\Sm [C.i p,C.i q,C.l co]/\Sm [C.i ch,C.l da]/\Sm (x*p)/\Sm [C.i p,C.i q,C.l co]/\Sm [C.i ch,C.l da]/\∃(y:Int),Bh q y/\iAdd x_1 1=y/\Sm q/\E9 p q co da (x*p/p)++Jt p co da (x*p) x_1++[[C.i (KR (iShr (GZ p co da x_1 (x*p) x_2.toNat) 15))]]=E9 p q co da (x*p/p)++Jt p co da (x*p) y/\nLt (q-y).toNat (q-x_1).toNat))) (InR .i64 (iAdd (x*p) p)/\Sm [C.i p,C.i q,C.l co]/\Sm [C.i ch,C.l da]/\Sm [C.i p,C.i q,C.l co]/\Sm [C.i ch,C.l da]/\∃(y:Int),Bh (↑da.length/p) y/\iAdd (x*p) p=y*p/\Sm q/\E9 p q co da (x*p/p)++Jt p co da (x*p) x_1=E9 p q co da y/\nLt (↑da.length/p-y).toNat (↑da.length/p-x).toNat)) (q=qi 0 (IQ p q co ch da)/\E9 p q co da x=ql 1 (IQ p q co ch da)/\0=IP p q co ch da)))):=by
  intro hw;have no:∀ {x:Int},x≠0->IP p q co ch da=x->0=qi 0 (IQ p q co ch da)/\[]=ql 1 (IQ p q co ch da)/\x=IP p q co ch da:=λh0 h1=>by
    unfold IQ; rw[if_neg (by omega),h1]; exact⟨rfl,rfl,rfl⟩
  simp only[D,E];refine⟨λa=>no (by omega) (if_pos (.inl a)),λv=>⟨λa=>no (by omega) (if_pos (.inr a)),λb=>⟨λa=>no (by omega) (by unfold IP; rw[if_neg (by simp[v,b]),if_pos a]),λc0=> ?_⟩⟩⟩;have e0:IP p q co ch da=0:=by unfold IP; rw[if_neg (by simp[v,b]),if_neg (by omega)]
  obtain rfl:p=ch:=by omega
  obtain⟨mv,ca⟩:=Vp v;have l:=Fb b;have sd:=Q3 b;have fr:=Du b;have pq:=Aap (x:=p) (X:=8) (y:=q) (Y:=8) (by omega) (by omega) (by omega) (by omega);have rng:∀ {k:Int},-1000000000000000000<=k->k<=1000000000000000000->InR .i64 k:=λa b=>by simp only[InR]; omega
  refine⟨⟨0,⟨Int.le_refl _,l.2.1⟩,(Int.zero_mul _).symm,rfl⟩,?_⟩;intro k ⟨k0,k1⟩ _ _;rw[Int.mul_ediv_cancel k (show p≠0 by omega)];have kp:=Int.mul_nonneg k0 (show 0<=p by omega);refine⟨λhl=> ?_,λhl=> ?_⟩
  · have kl:k<(da.length:Int)/p:=by
      rcases Int.lt_or_eq_of_le k1 with c|c
      · exact c
      · rw[c,Int.mul_comm,←l.1]at hl; omega
    have kc:=Ro (n:=da.length) (show 1<=p by omega) kl;refine⟨⟨0,⟨Int.le_refl _,by omega⟩,rfl,(List.append_nil _).symm⟩,?_⟩;intro r ⟨r0,r1⟩ _;have rp:=Int.mul_nonneg r0 (show 0<=p by omega);refine⟨λhr=> ?_,λhr=>⟨rng (by omega) (by omega),k+1,⟨by omega,by omega⟩,by rw[Int.add_mul,Int.one_mul],?_,by omega⟩⟩
    · have rc:=Int.mul_le_mul_of_nonneg_right (show r+1<=q by omega) (show 0<=p by omega);rw[Int.add_mul,Int.one_mul,Int.mul_comm q]at rc;refine⟨⟨0,⟨Int.le_refl _,by omega⟩,rfl,rfl⟩,?_⟩;intro c ⟨c0,c1⟩ _;have mb:=VV (r:=r) ca sd rp kp (n:=c.toNat) (by omega) (by omega);refine⟨λhc=> ?_,λhc=>⟨by decide,λ_=>⟨?_,rng (by omega) (by omega),r+1,⟨by omega,by omega⟩,rfl,?_,by omega⟩⟩⟩
      · have x:=Ws (i:=r*p+c) ca (by omega) (by omega);have y:=TG (i:=k*p+c) sd (by omega) (by omega);have m:=VF x ⟨y.1,by omega⟩;refine⟨rng (by omega) (by omega),rng (by omega) (by omega),⟨by omega,by omega⟩,λ_=>⟨rng (by omega) (by omega),⟨by omega,by omega⟩,λ_=>⟨rng (by omega) (by omega),rng (by omega) (by omega),rng (by omega) (by omega),c+1,⟨by omega,by omega⟩,rfl,?_,by omega⟩⟩⟩;rw[show(c+1).toNat=c.toNat+1 by omega,GZ,Int.toNat_of_nonneg c0]
      · have kq:=Aap (x:=k) (X:=65536) (y:=q) (Y:=8) k0 (by omega) (by omega) (by omega);have al:=Ud p q co da k (by omega);rw[Int.toNat_of_nonneg k0]at al;rw[List.length_append,List.length_append,TQ,List.length_singleton]; omega
      · rw[Zm _ _ _ _ r0,List.append_assoc,show c=p by omega,show iShr (GZ p co da r (k*p) p.toNat) 15=GZ p co da r (k*p) p.toNat/32768 from Int.fdiv_eq_ediv_of_nonneg _ (by decide)]; rfl
    · rw[YR _ _ _ _ k0,show r=q by omega]
  · have ke:k=(da.length:Int)/p:=by
      rcases Int.lt_or_eq_of_le k1 with c|c
      · have:=Ro (n:=da.length) (show 1<=p by omega) c; omega
      · exact c
    unfold IQ;rw[if_pos e0,e0,ke]; exact⟨rfl,rfl,rfl⟩
def r120:Cr PR:=K0 [r178,r108,r179] 120 8 {ps:=[(true,hMx),(true,hK)],rs:=[(true,hK),(false,hI)],pre:=λ_=>True,out:=λa=>[rb [0,3] (IQ (I a 0 0) (I a 0 1) (L a 0 2) (I a 1 0) (L a 1 1)),[.i (IP (I a 0 0) (I a 0 1) (L a 0 2) (I a 1 0) (L a 1 1))]]} (λa=>A120 (I a 0 0) (I a 0 1) (L a 0 2) (L a 1 1)) λa=>Y (v120 (I a 0 0) (I a 0 1) (L a 0 2) (I a 1 0) (L a 1 1))
end Go.Sx
namespace Go.Sx
theorem v165 (p:Int):InR .i64 p->Cn (bEq p 3) ([[C.l [[C.i 1],[C.i 2]]]]=CS p) (Cn (bEq p 1) ([[C.l [[C.i 3]]]]=CS p) (Cn (bEq p 2) ([[C.l [[C.i 3]]]]=CS p) (Cn (bEq p 5) ([[C.l [[C.i 7]]],[C.l [[C.i 1]]],[C.l [[C.i 3]]]]=CS p) (Cn (bEq p 6) ([[C.l [[C.i 8]]],[C.l [[C.i 2]]],[C.l [[C.i 3]]]]=CS p) (Cn (bEq p 7) ([[C.l [[C.i 5]]],[C.l [[C.i 1]]],[C.l [[C.i 3]]]]=CS p) (Cn (bEq p 8) ([[C.l [[C.i 6]]],[C.l [[C.i 2]]],[C.l [[C.i 3]]]]=CS p) ([]=CS p))))))):=by
 intro hw;simp only[D,E];unfold CS
 repeat' (first|apply And.intro|intro _)
 all_goals (subst_vars; simp[*])
def r165:Cr PR:=K0 [] 165 6 {ps:=[(false,hI)],rs:=[(false,hM)],pre:=λ_=>True,out:=λa=>[[.l (CS (I a 0 0))]]} U λa=>Y (v165 (I a 0 0))
end Go.Sx
namespace Go.Sx
def A106 (a:List (List C)) (b:List (List C)):FuncId->Nat->LoopAnn:=λ_ ii=>bif Nat.beq ii 5 then .inv Int (λz=>Bh (a.length:Int) z) (λz=>[(36,.int .i64 z)]) (λz=>[(1,.row hI 3 0 (Et a b z))]) [1] ([0,1,4,5,6,7,8,9,11,13,21,34,35,36,37,45,56,57,58,59,68,69,70,71,72]++[1000001]) (λz=>a.length-z.toNat)else bif Nat.beq ii 11 then .on (λsv0=>match sv0.tmps.getD 8 .undef with| .int _ pi=> .inv Int (λz=>Ui b pi z) (λz=>[(58,.int .i64 z)]) (λ_=>[]) [] ([0,1,4,5,6,7,8,9,11,13,21,34,35,36,37,45,56,57,58,59,68,69,70,71,72]++[1000001]) (λz=>(CS pi).length-z.toNat)|_=> .unroll 0)else .on (λsv0=>match sv0.tmps.getD 11 .undef with| .sl _ ws=>(match sv0.tmps.getD 7 .undef with| .int _ ci=>(match(sv0.heap[1]? :Option HB)with|some (.row ee ty vv ys)=> .inv Int (λz=>Bh (ws.length:Int) z) (λz=>[(71,.int .i64 z)]) (λz=>[(1,.row ee ty vv (NK b a.length ci ws ys z))]) [1] ([0,1,4,5,6,7,8,9,11,13,21,34,35,36,37,45,56,57,58,59,68,69,70,71,72]++[1000001]) (λz=>ws.length-z.toNat)|_=> .unroll 0)|_=> .unroll 0)|_=> .unroll 0)
def Aay (a:List (List C)) (x:Int) (x_1:Int):List C:=(rGet (CS (qi 0 (rGet a x))) x_1)
theorem v106 (a:List (List C)) (b:List (List C)):WL hI a/\WL hI b->True/\True/\Cn (bNot (BO a)) (0=qi 0 (Ec a b)/\0=qi 1 (Ec a b)/\[]=ql 2 (Ec a b)/\1=NE a b) (True/\True/\Cn (bNot (BO b)) (0=qi 0 (Ec a b)/\0=qi 1 (Ec a b)/\[]=ql 2 (Ec a b)/\1=NE a b) (pLe (iLen a) 9223372036854775807->pLe (iLen b) 9223372036854775807->pLe (iLen a) 9223372036854775807->pLe (iLen b) 9223372036854775807->InR .i64 (iMul (iLen a) (iLen b))/\(pLe 0 (iMul (iLen a) (iLen b))/\pLe (iMul (iLen a) (iLen b)) (iMul (iLen a) (iLen b))/\Aar 8 (iMul (iLen a) (iLen b)))/\(pLe (iLen a) 9223372036854775807->(∃(x:Int),Bh (↑a.length) x/\0=x/\List.replicate (iMul (iLen a) (iLen b)).toNat [C.i 0]=Et a b x)/\∀(x:Int),Bh (↑a.length) x->InR .i64 x/\WL hI (Et a b x)->Cn (bLt x (iLen a)) (pIn 0 (iLen a) x/\(InR .i64 (qi 0 (rGet a x))->True/\(InR .i64 (BK (Bc (qi 0 (rGet a x))) 0 b)->Cn (bLe 0 (BK (Bc (qi 0 (rGet a x))) 0 b)) (InR .i64 (iMul (BK (Bc (qi 0 (rGet a x))) 0 b) (iLen a))/\InR .i64 (iAdd (iMul (BK (Bc (qi 0 (rGet a x))) 0 b) (iLen a)) x)/\pIn 0 (iLen (Et a b x)) (iAdd (iMul (BK (Bc (qi 0 (rGet a x))) 0 b) (iLen a)) x)/\InR .i64 (iAdd x 1)/\Sm a/\Sm b/\Sm a/\Sm (iLen a)/\Sm (iLen a)/\Sm (iLen b)/\∃(y:Int),Bh (↑a.length) y/\iAdd x 1=y/\rSet (Et a b x) (iAdd (iMul (BK (Bc (qi 0 (rGet a x))) 0 b) (iLen a)) x) [C.i 32768]=Et a b y/\nLt (a.length-y.toNat) (a.length-x.toNat)) (True/\(WL [Sh.sl hI] (CS (qi 0 (rGet a x)))->pLe (iLen (CS (qi 0 (rGet a x)))) 9223372036854775807->(∃(x_1:Int),Ui b (qi 0 (rGet a x)) x_1/\0=x_1)/\∀(x_1:Int),Ui b (qi 0 (rGet a x)) x_1->InR .i64 x_1->Cn (bLt x_1 (iLen (CS (qi 0 (rGet a x))))) (pIn 0 (iLen (CS (qi 0 (rGet a x)))) x_1/\(WL hI (ql 0 (Aay a x x_1))->pLe (iLen (ql 0 (Aay a x x_1))) 1000/\(WL hI (D7 (ql 0 (Aay a x x_1)) b)->pLe (iLen (D7 (ql 0 (Aay a x x_1)) b)) 9223372036854775807->pLe (iLen (ql 0 (Aay a x x_1))) 9223372036854775807->Cn (bLt (iLen (D7 (ql 0 (Aay a x x_1)) b)) (iLen (ql 0 (Aay a x x_1)))) (InR .i64 (iAdd x_1 1)/\Sm a/\Sm b/\Sm x/\Sm (qi 0 (rGet a x))/\Sm (BK (Bc (qi 0 (rGet a x))) 0 b)/\Sm a/\Sm (iLen a)/\Sm x/\Sm (CS (qi 0 (rGet a x)))/\Sm (iLen (CS (qi 0 (rGet a x))))/\Sm (Et a b x)/\Sm (iLen a)/\Sm (iLen b)/\∃(y:Int),Ui b (qi 0 (rGet a x)) y/\iAdd x_1 1=y/\nLt ((CS (qi 0 (rGet a x))).length-y.toNat) ((CS (qi 0 (rGet a x))).length-x_1.toNat)) (pLe (iLen (ql 0 (Aay a x x_1))) 9223372036854775807->(∃(x_2:Int),Bh (↑(ql 0 (Aay a x x_1)).length) x_2/\0=x_2/\Et a b x=NK b (↑a.length) x (ql 0 (Aay a x x_1)) (Et a b x) x_2)/\∀(x_2:Int),Bh (↑(ql 0 (Aay a x x_1)).length) x_2->InR .i64 x_2/\WL hI (NK b (↑a.length) x (ql 0 (Aay a x x_1)) (Et a b x) x_2)->Cn (bLt x_2 (iLen (ql 0 (Aay a x x_1)))) (pIn 0 (iLen (ql 0 (Aay a x x_1))) x_2/\(InR .i64 (qi 0 (rGet (ql 0 (Aay a x x_1)) x_2))->True/\(InR .i64 (BK (Bc (qi 0 (rGet (ql 0 (Aay a x x_1)) x_2))) 0 b)->InR .i64 (iMul (BK (Bc (qi 0 (rGet (ql 0 (Aay a x x_1)) x_2))) 0 b) (iLen a))/\InR .i64 (iAdd (iMul (BK (Bc (qi 0 (rGet (ql 0 (Aay a x x_1)) x_2))) 0 b) (iLen a)) x)/\pIn 0 (iLen (NK b (↑a.length) x (ql 0 (Aay a x x_1)) (Et a b x) x_2)) (iAdd (iMul (BK (Bc (qi 0 (rGet (ql 0 (Aay a x x_1)) x_2))) 0 b) (iLen a)) x)/\InR .i64 (iAdd x_2 1)/\Sm a/\Sm b/\Sm x/\Sm (qi 0 (rGet a x))/\Sm (BK (Bc (qi 0 (rGet a x))) 0 b)/\Sm (ql 0 (Aay a x x_1))/\Sm a/\Sm (iLen a)/\Sm x/\Sm (CS (qi 0 (rGet a x)))/\Sm (iLen (CS (qi 0 (rGet a x))))/\Sm x_1/\Sm (ql 0 (Aay a x x_1))/\Sm (iLen (ql 0 (Aay a x x_1)))/\Sm (iLen a)/\Sm (iLen b)/\∃(y:Int),Bh (↑(ql 0 (Aay a x x_1)).length) y/\iAdd x_2 1=y/\rSet (NK b (↑a.length) x (ql 0 (Aay a x x_1)) (Et a b x) x_2) (iAdd (iMul (BK (Bc (qi 0 (rGet (ql 0 (Aay a x x_1)) x_2))) 0 b) (iLen a)) x) [C.i 23170]=NK b (↑a.length) x (ql 0 (Aay a x x_1)) (Et a b x) y/\nLt ((ql 0 (Aay a x x_1)).length-y.toNat) ((ql 0 (Aay a x x_1)).length-x_2.toNat)))) (InR .i64 (iAdd x 1)/\Sm a/\Sm b/\Sm a/\Sm (iLen a)/\Sm (iLen a)/\Sm (iLen b)/\∃(y:Int),Bh (↑a.length) y/\iAdd x 1=y/\NK b (↑a.length) x (ql 0 (Aay a x x_1)) (Et a b x) x_2=Et a b y/\nLt (a.length-y.toNat) (a.length-x.toNat)))))) (InR .i64 (iAdd x 1)/\Sm a/\Sm b/\Sm a/\Sm (iLen a)/\Sm (iLen a)/\Sm (iLen b)/\∃(y:Int),Bh (↑a.length) y/\iAdd x 1=y/\Et a b x=Et a b y/\nLt (a.length-y.toNat) (a.length-x.toNat))))))) (iLen a=qi 0 (Ec a b)/\iLen b=qi 1 (Ec a b)/\Et a b x=ql 2 (Ec a b)/\0=NE a b)))):=by
  intro hw;delta Aay;have no:¬(BO a=true/\BO b=true)->0=qi 0 (Ec a b)/\0=qi 1 (Ec a b)/\[]=ql 2 (Ec a b)/\1=NE a b:=λh=>by
    have e:NE a b=1:=if_neg h;unfold Ec; rw[if_neg (by omega),e]; exact⟨rfl,rfl,rfl,rfl⟩
  simp only[D,E];refine⟨λh=>no (by simp[h]),λva=>⟨λh=>no (by simp[h]),λvb _ _ _ _=> ?_⟩⟩;have la:=S9 va;have lb:=S9 vb;have m:=Aap (x:=(a.length:Int)) (X:=8) (y:=(b.length:Int)) (Y:=8) (by omega) (by omega) (by omega) (by omega);have rng:∀ {k:Int},-1000000000000000000<=k->k<=1000000000000000000->InR .i64 k:=λa b=>by simp only[InR]; omega
  refine⟨rng (by omega) (by omega),⟨m.1,Int.le_refl _,by omega⟩,λ_=>⟨⟨0,⟨Int.le_refl _,by omega⟩,rfl,rfl⟩,?_⟩⟩;intro x ⟨x0,x1⟩ _;have dl:=Xj a b x;refine⟨λhl=> ?_,λhl=> ?_⟩
  · have key:∀ {i:Int},0<=i->i<(b.length:Int)->0<=i*(a.length:Int)/\i*(a.length:Int)+a.length<=(a.length:Int)*b.length:=λ{i} h0 h1=>by
      have c:=Int.mul_le_mul_of_nonneg_right (show i+1<=(b.length:Int) by omega) (show 0<=(a.length:Int) by omega);rw[Int.add_mul,Int.one_mul,Int.mul_comm (b.length:Int)]at c;exact⟨Int.mul_nonneg h0 (by omega),c⟩
    have st:Et a b (x+1)=P5 b a.length x (qi 0 (rGet a x)) (Et a b x):=by
      unfold Et; rw[Xe x0]; unfold X3; rw[Int.toNat_of_nonneg x0]
    have fin:∀ {ys:List (List C)},P5 b a.length x (qi 0 (rGet a x)) (Et a b x)=ys->InR .i64 (x+1)/\∃y,Bh a.length y/\x+1=y/\ys=Et a b y/\a.length-y.toNat<a.length-x.toNat:=λh=>⟨rng (by omega) (by omega),x+1,⟨by omega,by omega⟩,rfl,by rw[st,h],by omega⟩
    refine⟨⟨x0,hl⟩,λ_ _=>⟨λhi=> ?_,λhi=> ?_⟩⟩
    · have ub:=Qc (f:=Bc (qi 0 (rGet a x))) b 0 (Int.le_refl _);have k:=key hi (by omega);exact⟨rng (by omega) (by omega),rng (by omega) (by omega),⟨by omega,by omega⟩,fin (if_pos hi)⟩
    intro _ _;refine⟨⟨0,⟨Int.le_refl _,by omega,rfl⟩,rfl⟩,?_⟩;intro w ⟨w0,w1,wf⟩ _;refine⟨λwl=> ?_,λwl=>fin ?_⟩
    · have wy:=YL _ (Lc w0 wl);have wd:=Aaq w0 wl;have et:OY b (rGet (CS (qi 0 (rGet a x))) w)=true->(CS (qi 0 (rGet a x))).find? (OY b)=some (rGet (CS (qi 0 (rGet a x))) w):=λh=>by rw[wf,wd,List.find?_cons,h]
      have ef:OY b (rGet (CS (qi 0 (rGet a x))) w)=false->(CS (qi 0 (rGet a x))).find? (OY b)=((CS (qi 0 (rGet a x))).drop (w+1).toNat).find? (OY b):=λh=>by rw[wf,wd,List.find?_cons,h]
      have w3:=YY (qi 0 (rGet a x));refine⟨⟨w0,wl⟩,λ_=>⟨by omega,λ_ _ _=>⟨λbad=>⟨rng (by omega) (by omega),w+1,⟨by omega,by omega,ef (decide_eq_false (by omega))⟩,rfl,by omega⟩,λgood _=>⟨⟨0,⟨Int.le_refl _,by omega⟩,rfl,rfl⟩,?_⟩⟩⟩⟩;have eg:=et (decide_eq_true (by omega));generalize rGet (CS (qi 0 (rGet a x))) w=ww at*;intro j ⟨j0,j1⟩ _;refine⟨λjl=> ?_,λjl=>fin ?_⟩
      · have g:=Xf (b:=b) (by omega) (Lc j0 jl);have ub:=Qc (f:=Bc (qi 0 (rGet (ql 0 ww) j))) b 0 (Int.le_refl _);have k:=key g (by omega);have kl:(NK b a.length x (ql 0 ww) (Et a b x) j).length=(Et a b x).length:=Qy ..;refine⟨⟨j0,jl⟩,λ_ _=>⟨rng (by omega) (by omega),rng (by omega) (by omega),⟨by omega,by omega⟩,rng (by omega) (by omega),j+1,⟨by omega,by omega⟩,rfl,?_,by omega⟩⟩;unfold NK;rw[Abm j0 jl,List.foldl_append]; rfl
      · unfold P5;rw[if_neg (by omega),eg];unfold NK;rw[List.take_of_length_le (by omega)]; rfl
    · unfold P5;rw[if_neg (by omega),wf,List.drop_eq_nil_of_le (by omega)]; rfl
  · unfold Ec;have e:NE a b=0:=if_pos ⟨va,vb⟩;rw[if_pos e,e,show x=(a.length:Int) by omega]; exact⟨rfl,rfl,rfl,rfl⟩
def r106:Cr PR:=K0 [r55,r102,r153,r165] 106 8 {ps:=[(false,hL),(false,hL)],rs:=[(true,hMx),(false,hI)],pre:=λ_=>True,out:=λa=>[rb [0,0,3] (Ec (L a 0 0) (L a 1 0)),[.i (NE (L a 0 0) (L a 1 0))]]} (λa=>A106 (L a 0 0) (L a 1 0)) λa=>Y (v106 (L a 0 0) (L a 1 0))
end Go.Sx
namespace Go.Sx
theorem v162 (p:Int) (q:Int) (co:List (List C)) (u:Int) (v:Int) (cp:List (List C)):InR .i64 p/\InR .i64 q/\WL hI co/\InR .i64 u/\InR .i64 v/\WL hI cp->Cn (bEq p u) (Cn (bEq q v) (True/\Dk Cm co cp=Ph p q co u v cp) (false=Ph p q co u v cp)) (false=Ph p q co u v cp):=by
 intro hw;simp only[D,E];unfold Ph;exact⟨λh=>⟨λg=>by rw[show bEq p u=true from decide_eq_true h,show bEq q v=true from decide_eq_true g]; rfl,λg=>by rw[show bEq q v=false from decide_eq_false g,show bEq p u=true from decide_eq_true h]; rfl⟩,λh=>by rw[show bEq p u=false from decide_eq_false h]; rfl⟩
def r162:Cr PR:=K0 [r151] 162 6 {ps:=[(true,hMx),(true,hMx)],rs:=[(false,[.bool])],pre:=λ_=>True,out:=λa=>[[.b (Ph (I a 0 0) (I a 0 1) (L a 0 2) (I a 1 0) (I a 1 1) (L a 1 2))]]} U λa=>Y (v162 (I a 0 0) (I a 0 1) (L a 0 2) (I a 1 0) (I a 1 1) (L a 1 2))
end Go.Sx

