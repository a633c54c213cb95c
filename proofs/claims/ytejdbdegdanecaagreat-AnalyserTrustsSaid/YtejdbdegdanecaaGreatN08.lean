import Derived.Test.YtejdbdegdanecaaGreatSxUse
import Derived.Test.YtejdbdegdanecaaGreatM15
import Derived.Test.YtejdbdegdanecaaGreatM23
set_option linter.unusedVariables false
set_option linter.unusedSimpArgs false
set_option maxRecDepth 100000
set_option maxHeartbeats 4000000
namespace Go
open Go.Sx
def La (n:Int):Int:=max (-8388608) (min 8388607 n)
def J7 (s g:Int):Int:=if(-8388608<=s/\s<=8388607)/\0<=g/\g<=262144 then La ((s*g+32768)/65536)else 0
def F6 (f t n a:Int):Bool:=decide ((0<=f/\f<=262144)/\(0<=t/\t<=262144)/\(0<=n/\n<=4194304)/\0<=a/\a<=n)
def NG (f t n a i:Int):Int:=if F6 f t n a=false∨i<0 then 0 else if n-a<=i then t else f+(t-f)*(a+i)/n
def Zc (f t n a ch:Int) (da:List (List C)) (i:Int):List C:=[.i (J7 (qi 0 (rGet da i)) (NG f t n a (i/ch)))]
def Jo (f t n a ch:Int) (da:List (List C)) (m:Int):List (List C):=(List.range m.toNat).map fun(i:Nat)=>Zc f t n a ch da i
def Nh (f t n a ch:Int) (da:List (List C)):Int:=if F6 f t n a=true/\AO ch da=true then 0 else 1
def JV (f t n a ch:Int) (da:List (List C)):List C:=if Nh f t n a ch da=0 then[.i ch,.l (Jo f t n a ch da da.length)]else[]
def IL (f t n a ch:Int) (da:List (List C)):List C:=if Nh f t n a ch da=0 then[.i f,.i t,.i n,.i (min n (a+AQ ch da))]else[]
def BA (n i:Int):Prop:=0<=i/\i<=n
theorem LX {xs:List (List C)} {i:Int} (h0:0<=i) (h1:i<(xs.length:Int)):rGet xs i∈xs:=by
 unfold rGet;rw[List.getD_eq_getElem?_getD,List.getElem?_eq_getElem (show i.toNat<xs.length by omega)];exact Anf _
theorem Wv (n:Int): -8388608<=La n/\La n<=8388607:=by unfold La; omega
theorem YX (s g:Int): -8388608<=J7 s g/\J7 s g<=8388607:=by
 unfold J7;split
 · exact Wv _
 · omega
theorem TT {f t n a:Int} (h:F6 f t n a=true):(0<=f/\f<=262144)/\(0<=t/\t<=262144)/\(0<=n/\n<=4194304)/\0<=a/\a<=n:=Amb h
theorem AaJ (f t n a ch:Int) (da:List (List C)) {i:Int} (h:0<=i):Jo f t n a ch da i++[Zc f t n a ch da i]=Jo f t n a ch da (i+1):=by
 unfold Jo;rw[show(i+1).toNat=i.toNat+1 by omega,AmI,AmN,Ane,Amc h]
theorem V3 (f t n a ch:Int) (da:List (List C)) (m:Int):(Jo f t n a ch da m).length=m.toNat:=by simp[Jo]
theorem Z8 (f t n a ch:Int) (da:List (List C)) (m:Int):(Jo f t n a ch da m).all Gp=true:=by
 unfold Jo;rw[Al6];intro x hx;obtain⟨i,_,rfl⟩:=AmU.1 hx;exact AlL (YX _ _)
end Go
namespace Go.Sx
theorem v179 (n:Int):AnC n->Aa3 .i32 (iMax (-8388608) (iMin 8388607 n))=La n:=by
 intro hw;exact InR.wrap (show InR .i32 (La n) by have:=Wv n; simp only[InR]; omega)
def r179:Cr PR:=K0 [] 179 6 {ps:=[(false,hI)],rs:=[(false,hW)],out:=λa=>[[.i (La (AnF a))]]} U λa=>Y (v179 (AnF a))
theorem v123 (f:Int) (t:Int) (n:Int) (a:Int):AnC f/\AnC t/\AnC n/\AnC a->Cn (bLe 0 f) (Cn (bLe f 262144) (Cn (bLe 0 t) (Cn (bLe t 262144) (Cn (bLe 0 n) (Cn (bLe n 4194304) (Cn (bLe 0 a) (bLe a n=F6 f t n a) (false=F6 f t n a)) (false=F6 f t n a)) (false=F6 f t n a)) (false=F6 f t n a)) (false=F6 f t n a)) (false=F6 f t n a)) (false=F6 f t n a):=by
 intro hw;simp only[D,E];unfold F6
 repeat' (first|apply And.intro|intro _)
 all_goals (first|(simp only[decide_eq_decide]; omega)|(symm; simp only[AlD]; omega))
def r123:Cr PR:=K0 [] 123 6 {ps:=[(true,hA)],rs:=[(false,[.bool])],out:=λa=>[[.b (F6 (AnF a) (AnH a) (AnK a) (AnL a))]]} U λa=>Y (v123 (AnF a) (AnH a) (AnK a) (AnL a))
theorem v180 (s:Int) (g:Int):InR .i32 s/\AnC g->Cn (bLt s (-8388608)) (0=J7 s g) (Cn (bLt 8388607 s) (0=J7 s g) (Cn (bLe 0 g) (True/\Cn (bNot (bLe g 262144)) (0=J7 s g) (AnC (iMul s g)/\AnC (iAdd (iMul s g) 32768)/\pSh 64 16/\True/\(InR .i32 (La (iShr (iAdd (iMul s g) 32768) 16))->La (iShr (iAdd (iMul s g) 32768) 16)=J7 s g))) (True/\0=J7 s g))):=by
 intro hw;have e:iShr (s*g+32768) 16=(s*g+32768)/65536:=AmF _ (by decide);have no:¬((-8388608<=s/\s<=8388607)/\0<=g/\g<=262144)->0=J7 s g:=λh=>(if_neg h).symm;simp only[D,E];refine⟨λh=>no (by omega),λh1=>⟨λh=>no (by omega),λh2=>⟨λh3=>⟨λh=>no (by omega),λh4=> ?_⟩,λh=>no (by omega)⟩⟩⟩;have m:=QN (a:=s) (y:=g) (Y:=262144) (by omega) (by omega) h3 (by omega);rw[e];exact⟨by simp only[InR]; omega,by simp only[InR]; omega,by decide,λ_=>(if_pos ⟨⟨by omega,by omega⟩,h3,by omega⟩).symm⟩
def r180:Cr PR:=K0 [r179] 180 6 {ps:=[(false,hW),(false,hI)],rs:=[(false,hW)],out:=λa=>[[.i (J7 (AnF a) (AnG a))]]} U λa=>Y (v180 (AnF a) (AnG a))
theorem v225 (a:Int) (b:Int):AnC a/\AnC b->pLe 1 b/\pLe (-4611686018427387904) a/\pLe a 4611686018427387904->(pNe b 0/\AnC (iQuo a b))/\pNe b 0/\Cn (bLt (iRem a b) 0) (AnC (iSub (iQuo a b) 1)/\iSub (iQuo a b) 1=a/b) (iQuo a b=a/b):=by
 intro hw hp;simp only[D,E]at hp ⊢;have f:=VJ (t:=a) (q:=b) (by omega);have n:=Int.natAbs_tdiv_le_natAbs a b;have r:∀ {k:Int},-4611686018427387905<=k->k<=4611686018427387905->AnC k:=λa b=>by simp only[InR]; omega
 exact⟨⟨by omega,r (by omega) (by omega)⟩,by omega,λh=>⟨r (by omega) (by omega),f.1 h⟩,λh=>f.2 (by omega)⟩
def r225:Cr PR:=K [] 225 6 {ps:=[(false,hI),(false,hI)],rs:=[(false,hI)],pre:=λa=>pLe 1 (AnG a)/\(pLe (-4611686018427387904) (AnF a)/\pLe (AnF a) 4611686018427387904),out:=λa=>[[.i ((AnF a)/(AnG a))]]} U λa=>Y (v225 (AnF a) (AnG a))
theorem v181 (f:Int) (t:Int) (n:Int) (a:Int) (i:Int):AnC f/\AnC t/\AnC n/\AnC a/\AnC i->True/\True/\Cn (bNot (F6 f t n a)) (0=NG f t n a i) (Cn (bLt i 0) (0=NG f t n a i) (AnC (iSub n a)/\Cn (bLe (iSub n a) i) (t=NG f t n a i) (AnC (iSub t f)/\AnC (iAdd a i)/\AnC (iMul (iSub t f) (iAdd a i))/\(pLe 1 n/\pLe (-4611686018427387904) (iMul (iSub t f) (iAdd a i))/\pLe (iMul (iSub t f) (iAdd a i)) 4611686018427387904)/\(AnC (iMul (iSub t f) (iAdd a i)/n)->AnC (iAdd f (iMul (iSub t f) (iAdd a i)/n))/\iAdd f (iMul (iSub t f) (iAdd a i)/n)=NG f t n a i)))):=by
 intro hw;simp only[D,E];refine⟨λh=>(if_pos (.inl h)).symm,λh=>⟨λh1=>(if_pos (.inr h1)).symm,λh1=> ?_⟩⟩;have v:=TT h;have e:NG f t n a i=if n-a<=i then t else f+(t-f)*(a+i)/n:=if_neg (by simp[h]; omega);have r:∀ {k:Int},-100000000000000<=k->k<=100000000000000->AnC k:=λa b=>by simp only[InR]; omega
 refine⟨r (by omega) (by omega),λh2=>by rw[e,if_pos h2],λh2=> ?_⟩;have m:=QN (a:=t-f) (y:=a+i) (Y:=4194304) (by omega) (by omega) (by omega) (by omega);have q:=Int.natAbs_ediv_le_natAbs ((t-f)*(a+i)) n;generalize (t-f)*(a+i)=x at*;exact⟨r (by omega) (by omega),r (by omega) (by omega),r (by omega) (by omega),⟨by omega,by omega,by omega⟩,λ_=>⟨r (by omega) (by omega),by rw[e,if_neg h2]⟩⟩
def r181:Cr PR:=K0 [r123,r225] 181 6 {ps:=[(true,hA),(false,hI)],rs:=[(false,hI)],out:=λa=>[[.i (NG (AnF a) (AnH a) (AnK a) (AnL a) (AnG a))]]} U λa=>Y (v181 (AnF a) (AnH a) (AnK a) (AnL a) (AnG a))
def A121 (f:Int) (t:Int) (n:Int) (a:Int) (ch:Int) (da:List (List C)):FuncId->Nat->LoopAnn:=λ_ _=> .ghostB 7 1 hW 21 (.inv Int (λz=>BA (iLen da) z) (λz=>[(26,.int .i64 z)]) (λz=>[(4,.box [.int .i64 ch,.own 5 0] 95),(5,.row hW 21 0 (Jo f t n a ch da z))]) [4,5] [0,1,2,3,4,5,6,7,8,9,17,24,25,26,27] (λz=>da.length-z.toNat))
def Ai9 (f:Int) (t:Int) (n:Int) (a:Int) (ch:Int) (da:List (List C)):Prop:=0=qi 0 (JV f t n a ch da)/\[]=ql 1 (JV f t n a ch da)/\0=qi 0 (IL f t n a ch da)/\0=qi 1 (IL f t n a ch da)/\0=qi 2 (IL f t n a ch da)/\0=qi 3 (IL f t n a ch da)/\1=Nh f t n a ch da
theorem v121 (f:Int) (t:Int) (n:Int) (a:Int) (ch:Int) (da:List (List C)):AnC f/\AnC t/\AnC n/\AnC a/\AnC ch/\WL hW da->True/\True/\Cn (bNot (F6 f t n a)) ((Ai9 f t n a ch da)) (True/\True/\Cn (bNot (AO ch da)) ((Ai9 f t n a ch da)) (AnE da->(∃(x:Int),BA (iLen da) x/\0=x/\Sm ch/\[]=Jo f t n a ch da x)/\∀(x:Int),BA (iLen da) x->AnC x/\AnC ch/\WL hW (Jo f t n a ch da x)->Cn (bLt x (iLen da)) (pIn 0 (iLen da) x/\(InR .i32 (qi 0 (rGet da x))->(pNe ch 0/\AnC (iQuo x ch))/\True/\(AnC (NG f t n a (iQuo x ch))->True/\(InR .i32 (J7 (qi 0 (rGet da x)) (NG f t n a (iQuo x ch)))->Abb 4 (iLen (Jo f t n a ch da x++[[C.i (J7 (qi 0 (rGet da x)) (NG f t n a (iQuo x ch)))]]))/\AnC (iAdd x 1)/\Sm [C.i f,C.i t,C.i n,C.i a]/\Sm [C.i ch,C.l da]/\Sm da/\Sm (iLen da)/\Sm [C.i f,C.i t,C.i n,C.i a]/\Sm [C.i ch,C.l da]/\∃(y:Int),BA (iLen da) y/\iAdd x 1=y/\Sm ch/\Jo f t n a ch da x++[[C.i (J7 (qi 0 (rGet da x)) (NG f t n a (iQuo x ch)))]]=Jo f t n a ch da y/\nLt (da.length-y.toNat) (da.length-x.toNat))))) (True/\(AnC (AQ ch da)->AnC (iAdd a (AQ ch da))/\ch=qi 0 (JV f t n a ch da)/\Jo f t n a ch da x=ql 1 (JV f t n a ch da)/\f=qi 0 (IL f t n a ch da)/\t=qi 1 (IL f t n a ch da)/\n=qi 2 (IL f t n a ch da)/\iMin n (iAdd a (AQ ch da))=qi 3 (IL f t n a ch da)/\0=Nh f t n a ch da)))):=by
 intro hw;delta Ai9;have no:Nh f t n a ch da=1->0=qi 0 (JV f t n a ch da)/\[]=ql 1 (JV f t n a ch da)/\0=qi 0 (IL f t n a ch da)/\0=qi 1 (IL f t n a ch da)/\0=qi 2 (IL f t n a ch da)/\0=qi 3 (IL f t n a ch da)/\1=Nh f t n a ch da:=λh=>by
  unfold JV IL;rw[if_neg (by omega),if_neg (by omega),h];exact⟨rfl,rfl,rfl,rfl,rfl,rfl,rfl⟩
 simp only[D,E];refine⟨λh=>no (if_neg (by simp[h])),λh=>⟨λh1=>no (if_neg (by simp[h1])),λh1 _=>⟨⟨0,⟨AlO _,by omega⟩,rfl,rfl⟩,?_⟩⟩⟩;intro x ⟨x0,x1⟩ _;have c:=Df h1;have v:=TT h;have l:=Eo h1;have e:Nh f t n a ch da=0:=if_pos ⟨h,h1⟩;have fe:AQ ch da=(da.length:Int)/ch:=by unfold AQ; rw[h1]; rfl
 have q0:=Al8 (b:=ch) x0 (by omega);have q1:=Amy ch x0;rw[AlI x0];refine⟨λhl=>⟨⟨x0,hl⟩,λ_=>⟨⟨by omega,by simp only[InR]; omega⟩,λ_ _=>⟨?_,by simp only[InR]; omega,x+1,⟨by omega,by omega⟩,rfl,AaJ _ _ _ _ _ _ x0,by omega⟩⟩⟩,λhl _=>⟨by simp only[InR]; omega,?_⟩⟩
 · rw[AlF,V3,AlJ]; omega
 · unfold JV IL;rw[if_pos e,if_pos e,show x=(da.length:Int) by omega];exact⟨rfl,rfl,rfl,rfl,rfl,rfl,e.symm⟩
def r121:Cr PR:=K0 [r123,r108,r181,r180,r109] 121 8 {ps:=[(true,hA),(true,hK)],rs:=[(true,hK),(true,hA),(false,hI)],out:=λa=>[rb [0,3] (JV (AnF a) (AnH a) (AnK a) (AnL a) (AnG a) (L a 1 1)),rb [0,0,0,0] (IL (AnF a) (AnH a) (AnK a) (AnL a) (AnG a) (L a 1 1)),[.i (Nh (AnF a) (AnH a) (AnK a) (AnL a) (AnG a) (L a 1 1))]]} (λa=>A121 (AnF a) (AnH a) (AnK a) (AnL a) (AnG a) (L a 1 1)) λa=>Y (v121 (AnF a) (AnH a) (AnK a) (AnL a) (AnG a) (L a 1 1))
end Go.Sx

namespace Go
open Go.Sx
def IG (h e g:Int):Bool:=decide (1<=h/\h<=8388607/\1<=e/\e<=65536/\0<=g/\g<=65536)
def JA (h p:Int):Int:=if h<1∨8388607<h∨p<0∨1099511627776<p then 0 else if p<=h then 65536 else h*65536/p
def Gs (n:Int):Int:=if n<0 then-n else n
def PL (x:List C):Bool:=decide (-1099511627776<=qi 0 x/\qi 0 x<=1099511627776)
def Jf (h e g ch:Int) (su:List (List C)):Int:=if IG h e g=false then 1 else if 1<=ch/\ch<=8/\(su.length:Int) % ch=0/\(su.length:Int)/ch<=65536/\su.all PL=true then 0 else 2
def Le (su:List (List C)) (at_:Int):Nat->Int
 |0=>0
 |c+1=>max (Le su at_ c) (Gs (qi 0 (rGet su (at_+c))))
def Em (h e g ch:Int) (su:List (List C)):Nat->Int
 |0=>g
 |k+1=>min (JA h (Le su ((k:Int)*ch) ch.toNat)) (Em h e g ch su k+e)
def SI (s g:Int):Int:=Aa3 .i32 (if s<0 then 0-Gs s*g/65536 else Gs s*g/65536)
def GU (h e g ch:Int) (su:List (List C)) (k:Nat) (m:Int):List (List C):=(List.range m.toNat).map fun(c:Nat)=>[.i (SI (qi 0 (rGet su ((k:Int)*ch+c))) (Em h e g ch su (k+1)))]
def EP (h e g ch:Int) (su:List (List C)) (k:Int):List (List C):=(List.range k.toNat).flatMap fun(i:Nat)=>GU h e g ch su i ch
def DT (ch:Int) (su:List (List C)) (k:Int):List (List C):=cutRows su (some (k*ch)) (some (iAdd (k*ch) ch))
def Jd (h e g ch:Int) (su:List (List C)):List C:=if Jf h e g ch su=0 then[.i ch,.l (EP h e g ch su ((su.length:Int)/ch))]else[]
def FW (h e g ch:Int) (su:List (List C)):List C:=if Jf h e g ch su=0 then[.i h,.i e,.i (Em h e g ch su ((su.length:Int)/ch).toNat)]else[]
theorem Ym {xs:List (List C)} {a b:Int} (h0:0<=a) (h1:a<=b) (h2:b<=(xs.length:Int)):((cutRows xs (some a) (some b)).length:Int)=b-a:=by
 simp only[cutRows,Amk,AlN]; omega
theorem Zj {xs:List (List C)} {a b x:Int} (h0:0<=a) (h1:0<=x) (h2:x<b-a):rGet (cutRows xs (some a) (some b)) x=rGet xs (a+x):=by
 simp only[cutRows,rGet,List.getD_eq_getElem?_getD,List.getElem?_drop,List.getElem?_take];rw[if_pos (by omega),show a.toNat+x.toNat=(a+x).toNat by omega]
theorem RN {n ch k:Int} (hc:1<=ch) (h1:k<n/ch):k*ch+ch<=n:=by
 have a:=AlS (show k+1<=n/ch by omega) (show 0<=ch by omega);have b:=Int.ediv_mul_le n (show ch≠0 by omega);rw[Amt,AmR]at a; omega
theorem Yn {n b:Int} (h0: -b<=n) (h1:n<=b):0<=Gs n/\Gs n<=b:=by unfold Gs; split<;>omega
theorem Za (h p:Int):0<=JA h p/\JA h p<=65536:=by
 unfold JA;split
 · omega
 split
 · omega
 · rename_i a b;have q0 := Al8 (a := h * 65536) (b := p) (by omega) (by omega);have q1 : h * 65536 / p <= 65536 := by
    have:=Int.ediv_le_ediv (a:=h*65536) (b:=p*65536) (show 0<p by omega) (by omega);rw[Ant _ (show p≠0 by omega)]at this; exact this
   exact⟨q0,q1⟩
theorem WR {su:List (List C)} {i:Int} (h:su.all PL=true) (h0:0<=i) (h1:i<(su.length:Int)): -1099511627776<=qi 0 (rGet su i)/\qi 0 (rGet su i)<=1099511627776:=Amb (Al6.1 h _ (LX h0 h1))
theorem Ul {h e g ch:Int} {su:List (List C)} (v:IG h e g=true):∀n:Nat,0<=Em h e g ch su n/\Em h e g ch su n<=65536
 |0=>by have:=Amb v; exact⟨this.2.2.2.2.1,this.2.2.2.2.2⟩
 |n+1=>by
  have:=Amb v;have i:=Ul (ch:=ch) (su:=su) v n;have a:=Za h (Le su ((n:Int)*ch) ch.toNat);unfold Em; omega
theorem ZM (h e g ch:Int) (su:List (List C)) (k:Nat) {c:Int} (h0:0<=c):GU h e g ch su k (c+1)=GU h e g ch su k c++[[.i (SI (qi 0 (rGet su ((k:Int)*ch+c))) (Em h e g ch su (k+1)))]]:=by
 unfold GU;rw[show(c+1).toNat=c.toNat+1 by omega,AmI,AmN,Ane,Amc h0]
theorem ZL (h e g ch:Int) (su:List (List C)) {i:Int} (h0:0<=i):EP h e g ch su (i+1)=EP h e g ch su i++GU h e g ch su i.toNat ch:=by
 unfold EP;rw[show(i+1).toNat=i.toNat+1 by omega,AmI,AmW,AmL]
theorem UR (h e g ch:Int) (su:List (List C)) (k:Nat) (c:Int):(GU h e g ch su k c).length=c.toNat:=by simp[GU]
theorem X3 (h e g ch:Int) (su:List (List C)) (n:Int) (hc:0<=ch):((EP h e g ch su n).length:Int)=n.toNat*ch:=by
 unfold EP;generalize n.toNat=m
 induction m with
 |zero=>simp
 |succ m ih=>rw[AmI,AmW,AmL,AlF,Amr,ih,UR,Int.natCast_succ,Amt]; omega
end Go
namespace Go.Sx
theorem v52 (h:Int) (e:Int) (g:Int):AnC h/\AnC e/\AnC g->Cn (bLe 1 h) (Cn (bLe h 8388607) (Cn (bLe 1 e) (Cn (bLe e 65536) (Cn (bLe 0 g) (bLe g 65536=IG h e g) (false=IG h e g)) (false=IG h e g)) (false=IG h e g)) (false=IG h e g)) (false=IG h e g):=by
 intro hw;simp only[D,E];unfold IG
 repeat' (first|apply And.intro|intro _)
 all_goals (first|(simp only[decide_eq_decide]; omega)|(symm; simp only[AlD]; omega))
def r52:Cr PR:=K0 [] 52 6 {ps:=[(true,hS)],rs:=[(false,[.bool])],out:=λa=>[[.b (IG (AnF a) (AnH a) (AnK a))]]} U λa=>Y (v52 (AnF a) (AnH a) (AnK a))
theorem v220 (h:Int) (p:Int):AnC h/\AnC p->Cn (bLt h 1) (0=JA h p) (Cn (bLt 8388607 h) (0=JA h p) (Cn (bLt p 0) (0=JA h p) (Cn (bLt 1099511627776 p) (0=JA h p) (Cn (bLe p h) (65536=JA h p) (AnC (iMul h 65536)/\(pNe p 0/\AnC (iQuo (iMul h 65536) p))/\iQuo (iMul h 65536) p=JA h p))))):=by
 intro hw;have no:(h<1∨8388607<h∨p<0∨1099511627776<p)->0=JA h p:=λa=>(if_pos a).symm;simp only[D,E];refine⟨λa=>no (by omega),λa=>⟨λa1=>no (by omega),λa1=>⟨λa2=>no (by omega),λa2=>⟨λa3=>no (by omega),λa3=> ?_⟩⟩⟩⟩;have e:JA h p=if p<=h then 65536 else h*65536/p:=if_neg (by omega);rw[e];refine⟨λa4=>by rw[if_pos a4],λa4=> ?_⟩;have q0:=Al8 (a:=h*65536) (b:=p) (by omega) (by omega);have q1:=Amy p (show 0<=h*65536 by omega);rw[if_neg a4,AlI (by omega)];exact⟨by simp only[InR]; omega,⟨by omega,by simp only[InR]; omega⟩,rfl⟩
def r220:Cr PR:=K0 [] 220 6 {ps:=[(false,hI),(false,hI)],rs:=[(false,hI)],out:=λa=>[[.i (JA (AnF a) (AnG a))]]} U λa=>Y (v220 (AnF a) (AnG a))
theorem v219 (n:Int):AnC n->pLe (-4611686018427387904) n/\True->Cn (bLt n 0) (AnC (iSub 0 n)/\iSub 0 n=Gs n) (n=Gs n):=by
 intro hw hp;simp only[D,E]at hp ⊢;unfold Gs;exact⟨λh=>⟨by simp only[InR]at*; omega,by rw[if_pos h]; omega⟩,λh=>by rw[if_neg h]⟩
def r219:Cr PR:=K [] 219 6 {ps:=[(false,hI)],rs:=[(false,hI)],pre:=λa=>pLe (-4611686018427387904) (AnF a)/\True,out:=λa=>[[.i (Gs (AnF a))]]} U λa=>Y (v219 (AnF a))
def A175 (h:Int) (e:Int) (g:Int) (ch:Int) (su:List (List C)):FuncId->Nat->LoopAnn:=λ_ ii=>bif Nat.beq ii 6 then lp 48 su.length (E5 PL su) [0,1,2,3,6,7,8,10,11,12,13,15,17,18,21,43,46,47,48,49,57,66,75,76,77,78,102,103,104,105,115]else bif Nat.beq ii 13 then .ghostB 11 1 hW 21 (.inv Int (λz=>BA ((su.length:Int)/ch) z) (λz=>[(12,.int .i64 (z*ch))]) (λz=>[(0,.box [.int .i64 h,.int .i64 e,.int .i64 (Em h e g ch su z.toNat)] 56),(3,.box [.int .i64 ch,.own 4 0] 95),(4,.row hW 21 0 (EP h e g ch su z))]) [0,3,4] [0,1,2,3,6,7,8,10,11,12,13,15,17,18,21,43,46,47,48,49,57,66,75,76,77,78,102,103,104,105,115] (λz=>((su.length:Int)/ch-z).toNat))else(.on (λsv0=>bif Nat.beq ii 17 then(match sv0.tmps.getD 12 .undef with| .int _ ci=> .inv Int (λz=>BA ch z) (λz=>[(77,.int .i64 z),(13,.int .i64 (Le su ci z.toNat))]) (λ_=>[]) [] [0,1,2,3,6,7,8,10,11,12,13,15,17,18,21,43,46,47,48,49,57,66,75,76,77,78,102,103,104,105,115] (λz=>(ch-z).toNat)|_=> .unroll 0)else(match sv0.tmps.getD 12 .undef with| .int _ ci=> .inv Int (λz=>BA ch z) (λz=>[(104,.int .i64 z)]) (λz=>[(3,.box [.int .i64 ch,.own 4 0] 95),(4,.row hW 21 0 (EP h e g ch su (ci/ch)++GU h e g ch su (ci/ch).toNat z))]) [3,4] [0,1,2,3,6,7,8,10,11,12,13,15,17,18,21,43,46,47,48,49,57,66,75,76,77,78,102,103,104,105,115] (λz=>(ch-z).toNat)|_=> .unroll 0)))
def AeN (h:Int) (e:Int) (g:Int) (ch:Int) (su:List (List C)):Prop:=0=qi 0 (Jd h e g ch su)/\[]=ql 1 (Jd h e g ch su)/\0=qi 0 (FW h e g ch su)/\0=qi 1 (FW h e g ch su)/\0=qi 2 (FW h e g ch su)/\2=Jf h e g ch su
def AcV (h:Int) (ch:Int) (su:List (List C)) (x_1:Int) (x_2:Int):Int:=(JA h (Le su (x_1*ch) x_2.toNat))
theorem v175 (h:Int) (e:Int) (g:Int) (ch:Int) (su:List (List C)):AnC h/\AnC e/\AnC g/\AnC ch/\WL hI su->True/\True/\Cn (bNot (IG h e g)) (0=qi 0 (Jd h e g ch su)/\[]=ql 1 (Jd h e g ch su)/\0=qi 0 (FW h e g ch su)/\0=qi 1 (FW h e g ch su)/\0=qi 2 (FW h e g ch su)/\1=Jf h e g ch su) (Cn (bLt ch 1) ((AeN h e g ch su)) (Cn (bLt 8 ch) ((AeN h e g ch su)) (AnE su->pNe ch 0/\Cn (bNe (iRem (iLen su) ch) 0) ((AeN h e g ch su)) (AnE su->(pNe ch 0/\AnC (iQuo (iLen su) ch))/\Cn (bLt 65536 (iQuo (iLen su) ch)) ((AeN h e g ch su)) (AnE su->(∃(x:Int),E5 PL su x/\0=x)/\∀(x:Int),E5 PL su x->AnC x->Cn (bLt x (iLen su)) (pIn 0 (iLen su) x/\(AnC (qi 0 (rGet su x))->Cn (bLt 1099511627776 (qi 0 (rGet su x))) ((AeN h e g ch su)) (Cn (bLt (qi 0 (rGet su x)) (-1099511627776)) ((AeN h e g ch su)) (AnC (iAdd x 1)/\Sm [C.i h,C.i e,C.i g]/\Sm ch/\Sm su/\Sm su/\Sm (iLen su)/\Sm [C.i h,C.i e,C.i g]/\∃(y:Int),E5 PL su y/\iAdd x 1=y/\nLt (su.length-y.toNat) (su.length-x.toNat))))) ((∃(x:Int),BA (↑su.length/ch) x/\0=x*ch/\Sm h/\Sm e/\g=Em h e g ch su x.toNat/\Sm ch/\[]=EP h e g ch su x)/\∀(x_1:Int),BA (↑su.length/ch) x_1->AnC (x_1*ch)/\AnC h/\AnC e/\AnC (Em h e g ch su x_1.toNat)/\AnC ch/\WL hW (EP h e g ch su x_1)->AnE su->Cn (bLt (x_1*ch) (iLen su)) (AnC (iAdd (x_1*ch) ch)/\geB (some (x_1*ch)) (some (iAdd (x_1*ch) ch)) (iLen su)/\(AnE (DT ch su x_1)->(∃(x:Int),BA ch x/\0=x/\0=Le su (x_1*ch) x.toNat)/\∀(x_2:Int),BA ch x_2->AnC x_2/\AnC (Le su (x_1*ch) x_2.toNat)->Cn (bLt x_2 (iLen (DT ch su x_1))) (pIn 0 (iLen (DT ch su x_1)) x_2/\(AnC (qi 0 (rGet (DT ch su x_1) x_2))->(pLe (-4611686018427387904) (qi 0 (rGet (DT ch su x_1) x_2))/\True)/\(AnC (Gs (qi 0 (rGet (DT ch su x_1) x_2)))->AnC (iAdd x_2 1)/\Sm [C.i h,C.i e,C.i g]/\Sm ch/\Sm su/\Sm (x_1*ch)/\Sm su/\Sm (iLen su)/\Sm x/\Sm (DT ch su x_1)/\Sm (iLen (DT ch su x_1))/\Sm [C.i h,C.i e,C.i (Em h e g ch su x_1.toNat)]/\Sm ch/\Sm (EP h e g ch su x_1)/\∃(y:Int),BA ch y/\iAdd x_2 1=y/\iMax (Le su (x_1*ch) x_2.toNat) (Gs (qi 0 (rGet (DT ch su x_1) x_2)))=Le su (x_1*ch) y.toNat/\nLt (ch-y).toNat (ch-x_2).toNat))) (True/\(AnC (AcV h ch su x_1 x_2)->AnC (iAdd (Em h e g ch su x_1.toNat) e)/\AnC (iAdd (x_1*ch) ch)/\geB (some (x_1*ch)) (some (iAdd (x_1*ch) ch)) (iLen su)/\(AnE (DT ch su x_1)->(∃(x:Int),BA ch x/\0=x/\Sm ch/\EP h e g ch su x_1=EP h e g ch su (x_1*ch/ch)++GU h e g ch su (x_1*ch/ch).toNat x)/\∀(x_3:Int),BA ch x_3->AnC x_3/\AnC ch/\WL hW (EP h e g ch su (x_1*ch/ch)++GU h e g ch su (x_1*ch/ch).toNat x_3)->Cn (bLt x_3 (iLen (DT ch su x_1))) (pIn 0 (iLen (DT ch su x_1)) x_3/\(AnC (qi 0 (rGet (DT ch su x_1) x_3))->(pLe (-4611686018427387904) (qi 0 (rGet (DT ch su x_1) x_3))/\True)/\(AnC (Gs (qi 0 (rGet (DT ch su x_1) x_3)))->AnC (iMul (Gs (qi 0 (rGet (DT ch su x_1) x_3))) (iMin (AcV h ch su x_1 x_2) (iAdd (Em h e g ch su x_1.toNat) e)))/\(pNe 65536 0/\AnC (iQuo (iMul (Gs (qi 0 (rGet (DT ch su x_1) x_3))) (iMin (AcV h ch su x_1 x_2) (iAdd (Em h e g ch su x_1.toNat) e))) 65536))/\Cn (bLt (qi 0 (rGet (DT ch su x_1) x_3)) 0) (AnC (iSub 0 (iQuo (iMul (Gs (qi 0 (rGet (DT ch su x_1) x_3))) (iMin (AcV h ch su x_1 x_2) (iAdd (Em h e g ch su x_1.toNat) e))) 65536))/\Abb 4 (iLen (EP h e g ch su (x_1*ch/ch)++GU h e g ch su (x_1*ch/ch).toNat x_3++[[C.i (Aa3 .i32 (iSub 0 (iQuo (iMul (Gs (qi 0 (rGet (DT ch su x_1) x_3))) (iMin (AcV h ch su x_1 x_2) (iAdd (Em h e g ch su x_1.toNat) e))) 65536)))]]))/\AnC (iAdd x_3 1)/\Sm [C.i h,C.i e,C.i g]/\Sm ch/\Sm su/\Sm (x_1*ch)/\Sm (Le su (x_1*ch) x_2.toNat)/\Sm su/\Sm (iLen su)/\Sm x/\Sm (DT ch su x_1)/\Sm (iLen (DT ch su x_1))/\Sm x_2/\Sm (DT ch su x_1)/\Sm (iLen (DT ch su x_1))/\Sm [C.i h,C.i e,C.i (iMin (AcV h ch su x_1 x_2) (iAdd (Em h e g ch su x_1.toNat) e))]/\∃(y:Int),BA ch y/\iAdd x_3 1=y/\Sm ch/\EP h e g ch su (x_1*ch/ch)++GU h e g ch su (x_1*ch/ch).toNat x_3++[[C.i (Aa3 .i32 (iSub 0 (iQuo (iMul (Gs (qi 0 (rGet (DT ch su x_1) x_3))) (iMin (AcV h ch su x_1 x_2) (iAdd (Em h e g ch su x_1.toNat) e))) 65536)))]]=EP h e g ch su (x_1*ch/ch)++GU h e g ch su (x_1*ch/ch).toNat y/\nLt (ch-y).toNat (ch-x_3).toNat) (Abb 4 (iLen (EP h e g ch su (x_1*ch/ch)++GU h e g ch su (x_1*ch/ch).toNat x_3++[[C.i (Aa3 .i32 (iQuo (iMul (Gs (qi 0 (rGet (DT ch su x_1) x_3))) (iMin (AcV h ch su x_1 x_2) (iAdd (Em h e g ch su x_1.toNat) e))) 65536))]]))/\AnC (iAdd x_3 1)/\Sm [C.i h,C.i e,C.i g]/\Sm ch/\Sm su/\Sm (x_1*ch)/\Sm (Le su (x_1*ch) x_2.toNat)/\Sm su/\Sm (iLen su)/\Sm x/\Sm (DT ch su x_1)/\Sm (iLen (DT ch su x_1))/\Sm x_2/\Sm (DT ch su x_1)/\Sm (iLen (DT ch su x_1))/\Sm [C.i h,C.i e,C.i (iMin (AcV h ch su x_1 x_2) (iAdd (Em h e g ch su x_1.toNat) e))]/\∃(y:Int),BA ch y/\iAdd x_3 1=y/\Sm ch/\EP h e g ch su (x_1*ch/ch)++GU h e g ch su (x_1*ch/ch).toNat x_3++[[C.i (Aa3 .i32 (iQuo (iMul (Gs (qi 0 (rGet (DT ch su x_1) x_3))) (iMin (AcV h ch su x_1 x_2) (iAdd (Em h e g ch su x_1.toNat) e))) 65536))]]=EP h e g ch su (x_1*ch/ch)++GU h e g ch su (x_1*ch/ch).toNat y/\nLt (ch-y).toNat (ch-x_3).toNat)))) (AnC (iAdd (x_1*ch) ch)/\Sm [C.i h,C.i e,C.i g]/\Sm ch/\Sm su/\Sm su/\Sm (iLen su)/\Sm x/\∃(y:Int),BA (↑su.length/ch) y/\iAdd (x_1*ch) ch=y*ch/\Sm h/\Sm e/\iMin (AcV h ch su x_1 x_2) (iAdd (Em h e g ch su x_1.toNat) e)=Em h e g ch su y.toNat/\Sm ch/\EP h e g ch su (x_1*ch/ch)++GU h e g ch su (x_1*ch/ch).toNat x_3=EP h e g ch su y/\nLt (↑su.length/ch-y).toNat (↑su.length/ch-x_1).toNat)))))) (ch=qi 0 (Jd h e g ch su)/\EP h e g ch su x_1=ql 1 (Jd h e g ch su)/\h=qi 0 (FW h e g ch su)/\e=qi 1 (FW h e g ch su)/\Em h e g ch su x_1.toNat=qi 2 (FW h e g ch su)/\0=Jf h e g ch su))))))):=by
  intro hw;delta AeN AcV;have no:∀ {x:Int},x≠0->Jf h e g ch su=x->0=qi 0 (Jd h e g ch su)/\[]=ql 1 (Jd h e g ch su)/\0=qi 0 (FW h e g ch su)/\0=qi 1 (FW h e g ch su)/\0=qi 2 (FW h e g ch su)/\x=Jf h e g ch su:=λh0 h1=>by
    unfold Jd FW;rw[if_neg (by omega),if_neg (by omega),h1];exact⟨rfl,rfl,rfl,rfl,rfl,rfl⟩
  have n0:=Am6 su.length;simp only[D,E,AlI n0,AmP n0];refine⟨λa=>no (by omega) (if_pos a),λv=> ?_⟩;have bad:¬(1<=ch/\ch<=8/\(su.length:Int) % ch=0/\(su.length:Int)/ch<=65536/\su.all PL=true)->Jf h e g ch su=2:=λa=>by unfold Jf; rw[if_neg (by simp[v]),if_neg a]
  have rng:∀ {k:Int},-1000000000000000000<=k->k<=1000000000000000000->AnC k:=λa b=>by simp only[InR]; omega
  refine⟨λa=>no (by omega) (bad λb=>by omega),λa1=>⟨λa=>no (by omega) (bad λb=>by omega),λa2 _=>⟨by omega,λa=>no (by omega) (bad λb=>by omega),λa3 _=>⟨⟨by omega,LW hw.2.2.2.2.1⟩,λa=>no (by omega) (bad λb=>by omega),λa4 _=> ?_⟩⟩⟩⟩;refine lpA al0 (λx h=>h.1) (λx hx h0 hl _=> ?_) (λx hx hl=> ?_)
  · have bd:¬(-1099511627776<=qi 0 (rGet su x)/\qi 0 (rGet su x)<=1099511627776)->Jf h e g ch su=2:=λa=>bad λb=>by
      have c:=alB hx hl (f:=PL) (AlK a);rw[b.2.2.2.2]at c; cases c
    exact⟨λa=>no (by omega) (bd (by omega)),λb1=>⟨λa=>no (by omega) (bd (by omega)),λb2=>⟨inS hw.2.2.2.2 h0 hl,x+1,alN hx hl (AlL (by omega)),rfl,by omega⟩⟩⟩
  have sa:=(alE hx hl).symm;have dm:(su.length:Int)/ch*ch=su.length:=by have:=Int.ediv_mul_add_emod (su.length:Int) ch; omega
  have q0:=Al8 (b:=ch) n0 (by omega);have L:=Aa8 (x:=(su.length:Int)/ch) (X:=65536) (y:=ch) (Y:=8) q0 (by omega) (by omega) (by omega);rw[dm]at L;have e0:Jf h e g ch su=0:=by unfold Jf; rw[if_neg (by simp[v]),if_pos ⟨by omega,by omega,by omega,by omega,sa⟩]
  refine⟨⟨0,⟨AlO _,q0⟩,(Int.zero_mul _).symm,rfl,rfl⟩,?_⟩;intro k ⟨k0,k1⟩ _ _;rw[Ani k (show ch≠0 by omega)];have kp:=Al1 k0 (show 0<=ch by omega);refine⟨λhl=> ?_,λhl=> ?_⟩
  · have kl:k<(su.length:Int)/ch:=by
      rcases Anw k1 with c|c
      · exact c
      · rw[c,dm]at hl; omega
    have kc:=RN (n:=su.length) (show 1<=ch by omega) kl;have cl:((DT ch su k).length:Int)=ch:=(Ym kp (show k*ch<=k*ch+ch by omega) kc).trans (by omega);have ca:∀ {x},0<=x->x<ch->rGet (DT ch su k) x=rGet su (k*ch+x):=λh0 h1=>Zj kp h0 (show _<k*ch+ch-k*ch by omega);have kn:((k.toNat:Nat):Int)=k:=Amc k0;rw[cl];refine⟨rng (by omega) (by omega),⟨kp,by omega,kc⟩,λ_=>⟨⟨0,⟨AlO _,by omega⟩,rfl,rfl⟩,?_⟩⟩;intro x ⟨x0,x1⟩ _;refine⟨λhx=> ?_,λhx=> ?_⟩
    · have sx:=WR (i:=k*ch+x) sa (by omega) (by omega);rw[ca x0 hx];refine⟨⟨x0,hx⟩,λ_=>⟨by omega,λ_=>⟨rng (by omega) (by omega),x+1,⟨by omega,by omega⟩,rfl,?_,by omega⟩⟩⟩;rw[show(x+1).toNat=x.toNat+1 by omega,Le,Amc x0]
    · have xe:x=ch:=by omega
      subst xe;have G:min (JA h (Le su (k*x) x.toNat)) (Em h e g x su k.toNat+e)=Em h e g x su (k.toNat+1):=by rw[Em,kn]
      have gb:=Ul (ch:=x) (su:=su) v k.toNat;have gc:=Ul (ch:=x) (su:=su) v (k.toNat+1);have vv:=Amb v;rw[G];refine λ_=>⟨rng (by omega) (by omega),rng (by omega) (by omega),⟨kp,by omega,kc⟩,λ_=>⟨⟨0,⟨AlO _,by omega⟩,rfl,(Ame _).symm⟩,?_⟩⟩
      intro c ⟨c0,c1⟩ _;have ll:=X3 h e g x su k (by omega);rw[kn]at ll;refine⟨λhc=> ?_,λhc=>⟨rng (by omega) (by omega),k+1,⟨by omega,by omega⟩,by rw[Amt,AmR],?_,?_,by omega⟩⟩
      · have sx:=WR (i:=k*x+c) sa (by omega) (by omega);have mb:=Yn sx.1 sx.2;have st:∀ {w:Int},Aa3 .i32 w=SI (qi 0 (rGet su (k*x+c))) (Em h e g x su (k.toNat+1))->∃y,BA x y/\c+1=y/\EP h e g x su k++GU h e g x su k.toNat c++[[C.i (Aa3 .i32 w)]]=EP h e g x su k++GU h e g x su k.toNat y/\(x-y).toNat<(x-c).toNat:=λhw=>⟨c+1,⟨by omega,by omega⟩,rfl,by rw[ZM _ _ _ _ _ _ c0,kn,Amn,hw],by omega⟩
        have rm:∀ {w:List C},((EP h e g x su k++GU h e g x su k.toNat c++[w]).length:Int)*4<=140737488355328:=by
          intro w;rw[AlF,AlF,UR,AlJ]; omega
        rw[ca c0 hc];have m:=Aa8 (x:=Gs (qi 0 (rGet su (k*x+c)))) (X:=1099511627776) (y:=Em h e g x su (k.toNat+1)) (Y:=65536) mb.1 mb.2 gc.1 gc.2;refine⟨⟨c0,hc⟩,λ_=>⟨by omega,λ_=>⟨rng (by omega) (by omega),?_⟩⟩⟩;rw[AlI m.1];refine⟨⟨by decide,rng (by omega) (by omega)⟩,λhs=>⟨rng (by omega) (by omega),rm,rng (by omega) (by omega),st ?_⟩,λhs=>⟨rm,rng (by omega) (by omega),st ?_⟩⟩
        · unfold SI; rw[if_pos hs]
        · unfold SI; rw[if_neg hs]
      · rw[show(k+1).toNat=k.toNat+1 by omega]
      · rw[ZL _ _ _ _ _ k0,show c=x by omega]
  · have ke:k=(su.length:Int)/ch:=by
      rcases Anw k1 with c|c
      · have:=RN (n:=su.length) (show 1<=ch by omega) c; omega
      · exact c
    unfold Jd FW;rw[if_pos e0,if_pos e0,ke];exact⟨rfl,rfl,rfl,rfl,rfl,e0.symm⟩
def r175:Cr PR:=K0 [r52,r220,r219] 175 8 {ps:=[(true,hS),(false,hI),(false,hL)],rs:=[(true,hK),(true,hLm),(false,hI)],out:=λa=>[rb [0,3] (Jd (AnF a) (AnH a) (AnK a) (AnG a) (L a 2 0)),rb [0,0,0] (FW (AnF a) (AnH a) (AnK a) (AnG a) (L a 2 0)),[.i (Jf (AnF a) (AnH a) (AnK a) (AnG a) (L a 2 0))]]} (λa=>A175 (AnF a) (AnH a) (AnK a) (AnG a) (L a 2 0)) λa=>Y (v175 (AnF a) (AnH a) (AnK a) (AnG a) (L a 2 0))
end Go.Sx

namespace Go
open Go.Sx
def OL (x:List C):Bool:=decide (-131072<=qi 0 x/\qi 0 x<=131072)
def UJ (p q k:Int):Bool:=decide (1<=p/\p<=8/\1<=q/\q<=8/\k=p*q)
def He (p q:Int) (co:List (List C)):Bool:=UJ p q (co.length:Int)&&co.all OL
def PK (p q:Int) (co:List (List C)) (u v:Int) (cp:List (List C)):Bool:=bAnd (bEq p u) (bAnd (bEq q v) (DD C9 co cp))
def Q7 (f:Nat->List (List C)->List (List C)) (a:List (List C)):Nat->List (List C)
 |0=>a
 |n+1=>f n (Q7 f a n)
def YW (n:Int) (i:Nat) (ys:List (List C)):List (List C):=rSet ys ((i:Int)*n+i) [.i 32768]
def NR (n k:Int):List (List C):=Q7 (YW n) (Jr (n*n)) k.toNat
def O8 (n:Int):Int:=if 1<=n/\n<=8 then 0 else 2
def FY (n:Int):List C:=if O8 n=0 then[.i n,.i n,.l (NR n n)]else[]
def Hy (p:Int) (co da:List (List C)) (r at_:Int):Nat->Int
 |0=>16384
 |c+1=>Hy p co da r at_ c+qi 0 (rGet co (r*p+c))*qi 0 (rGet da (at_+c))
def Yz (p:Int) (co da:List (List C)) (at_ r:Int):List C:=[.i (La (Hy p co da r at_ p.toNat/32768))]
def Jy (p:Int) (co da:List (List C)) (at_ m:Int):List (List C):=(List.range m.toNat).map fun(r:Nat)=>Yz p co da at_ r
def FK (p q:Int) (co da:List (List C)) (k:Int):List (List C):=(List.range k.toNat).flatMap fun(i:Nat)=>Jy p co da ((i:Int)*p) q
def Jq (p q:Int) (co:List (List C)) (ch:Int) (da:List (List C)):Int:=if He p q co=false∨AO ch da=false then 1 else if ch≠p then 11 else 0
def Ji (p q:Int) (co:List (List C)) (ch:Int) (da:List (List C)):List C:=if Jq p q co ch da=0 then[.i q,.l (FK p q co da ((da.length:Int)/p))]else[]
def Dl (p:Int):List (List C):=if p=3 then[[.l [[.i 1],[.i 2]]]]else if p=1∨p=2 then[[.l [[.i 3]]]]else if p=5 then[[.l [[.i 7]]],[.l [[.i 1]]],[.l [[.i 3]]]]else if p=6 then[[.l [[.i 8]]],[.l [[.i 2]]],[.l [[.i 3]]]]else if p=7 then[[.l [[.i 5]]],[.l [[.i 1]]],[.l [[.i 3]]]]else if p=8 then[[.l [[.i 6]]],[.l [[.i 2]]],[.l [[.i 3]]]]else[]
def PZ (b:List (List C)) (w:List C):Bool:=decide (¬(Eh (ql 0 w) b).length<(ql 0 w).length)
def Xm (b:List (List C)) (n c:Int) (ys:List (List C)) (x:List C):List (List C):=rSet ys (Ce (Bj (qi 0 x)) 0 b*n+c) [.i 23170]
def AaV (b:List (List C)) (n c:Int) (w:List C) (ys:List (List C)):List (List C):=(ql 0 w).foldl (Xm b n c) ys
def Qs (b:List (List C)) (n c p:Int) (ys:List (List C)):List (List C):=if 0<=Ce (Bj p) 0 b then rSet ys (Ce (Bj p) 0 b*n+c) [.i 32768]else match(Dl p).find? (PZ b)with
 |none=>ys
 |some w=>AaV b n c w ys
def YO (a b:List (List C)) (c:Nat) (ys:List (List C)):List (List C):=Qs b a.length c (qi 0 (rGet a c)) ys
def EI (a b:List (List C)) (k:Int):List (List C):=Q7 (YO a b) (Jr ((a.length:Int)*b.length)) k.toNat
def NW (a b:List (List C)):Int:=if Ci a=true/\Ci b=true then 0 else 1
def En (a b:List (List C)):List C:=if NW a b=0 then[.i a.length,.i b.length,.l (EI a b a.length)]else[]
def U3 (b:List (List C)) (p z:Int):Prop:=0<=z/\z<=((Dl p).length:Int)/\(Dl p).find? (PZ b)=((Dl p).drop z.toNat).find? (PZ b)
def N7 (b:List (List C)) (n c:Int) (ws ys:List (List C)) (z:Int):List (List C):=(ws.take z.toNat).foldl (Xm b n c) ys
theorem XT {f:Nat->List (List C)->List (List C)} {a:List (List C)} {z:Int} (h:0<=z):Q7 f a (z+1).toNat=f z.toNat (Q7 f a z.toNat):=by
 rw[show(z+1).toNat=z.toNat+1 by omega]; rfl
theorem SB {f:Nat->List (List C)->List (List C)} (h:∀k ys,(f k ys).length=ys.length) (a:List (List C)):∀n,(Q7 f a n).length=a.length
 |0=>rfl
 |n+1=>(h n _).trans (SB h a n)
theorem QL (xs:List (List C)) (i:Int) (y:List C):(rSet xs i y).length=xs.length:=Am0 ..
theorem SH (n:Int):(Jr n).length=n.toNat:=Amx
theorem Wq {p q:Int} {co:List (List C)} (h:He p q co=true):(1<=p/\p<=8/\1<=q/\q<=8/\(co.length:Int)=p*q)/\co.all OL=true:=by
 simpa only[He,UJ,AlG,AlE]using h
theorem V4 {x y:Int} (a: -131072<=x/\x<=131072) (b: -8388608<=y/\y<=8388608): -1099511627776<=x*y/\x*y<=1099511627776:=by
 have h:=Int.natAbs_mul x y;have g:=Nat.mul_le_mul (show x.natAbs<=131072 by omega) (show y.natAbs<=8388608 by omega);omega
theorem WE {co:List (List C)} {i:Int} (h:co.all OL=true) (h0:0<=i) (h1:i<(co.length:Int)): -131072<=qi 0 (rGet co i)/\qi 0 (rGet co i)<=131072:=Amb (Al6.1 h _ (LX h0 h1))
theorem Un {da:List (List C)} {i:Int} (h:da.all Gp=true) (h0:0<=i) (h1:i<(da.length:Int)): -8388608<=qi 0 (rGet da i)/\qi 0 (rGet da i)<=8388607:=Amb (Al6.1 h _ (LX h0 h1))
theorem WU {p:Int} {co da:List (List C)} {r at_:Int} (hc:co.all OL=true) (hd:da.all Gp=true) (h0:0<=r*p) (h1:0<=at_):∀ {n:Nat},r*p+n<=(co.length:Int)->at_+n<=(da.length:Int)->16384-1099511627776*(n:Int)<=Hy p co da r at_ n/\Hy p co da r at_ n<=16384+1099511627776*(n:Int)
 |0,_,_=>⟨by simp[Hy],by simp[Hy]⟩
 |n+1,a,b=>by
  have i:=WU hc hd h0 h1 (n:=n) (by omega) (by omega);have x:=WE (i:=r*p+n) hc (by omega) (by omega);have y:=Un (i:=at_+n) hd (by omega) (by omega);have m:=V4 x ⟨y.1,by omega⟩;unfold Hy; omega
theorem Aam (p:Int) (co da:List (List C)) (at_:Int) {m:Int} (h:0<=m):Jy p co da at_ (m+1)=Jy p co da at_ m++[Yz p co da at_ m]:=by
 unfold Jy;rw[show(m+1).toNat=m.toNat+1 by omega,AmI,AmN,Ane,Amc h]
theorem Zy (p q:Int) (co da:List (List C)) {k:Int} (h:0<=k):FK p q co da (k+1)=FK p q co da k++Jy p co da (k*p) q:=by
 unfold FK;rw[show(k+1).toNat=k.toNat+1 by omega,AmI,AmW,AmL,Amc h]
theorem Vm (p:Int) (co da:List (List C)) (at_ m:Int):(Jy p co da at_ m).length=m.toNat:=by simp[Jy]
theorem Vh (p q:Int) (co da:List (List C)) (k:Int) (h:0<=q):((FK p q co da k).length:Int)=k.toNat*q:=by
 unfold FK;generalize k.toNat=m
 induction m with
 |zero=>simp
 |succ m ih=>rw[AmI,AmW,AmL,AlF,Amr,ih,Vm,Int.natCast_succ,Amt]; omega
theorem Qz {f:List C->Bool}:∀(xs:List (List C)) (k:Int),0<=k->Ce f k xs<k+(xs.length:Int)
 |[],k,h=>by simp only[Ce,AmX]; omega
 |x::r,k,h=>by
  have:=Qz (f:=f) r (k+1) (by omega);simp only[Ce,Al9]
  cases f x<;>simp only[cond_true,cond_false]<;>omega
theorem TJ {m:List (List C)} (h:Ci m=true):1<=m.length/\m.length<=8:=by
 unfold Ci at h; simp only[AlG,AlE]at h; exact h.1
theorem XU {w b:List (List C)} (h:¬(Eh w b).length<w.length) {x:List C} (hx:x∈w):0<=Ce (Bj (qi 0 x)) 0 b:=by
 have l:=List.length_filter_le (Qm b) w;have e:(w.filter (Qm b)).length=w.length:=by
  unfold Eh at h; rw[Al5]at h; omega
 exact Amb (List.length_filter_eq_length_iff.1 e x hx)
theorem Zk (p:Int) {w:List C}:w∈Dl p->(ql 0 w).length<=2:=by
 unfold Dl;(repeat' split)<;>simp only[Amd,List.not_mem_nil,or_false,false_imp_iff]<;>(try (rintro(rfl|rfl|rfl)<;>decide))<;>(try (rintro rfl; decide))
theorem ZW (p:Int):(Dl p).length<=3:=by
 unfold Dl;(repeat' split)<;>decide
theorem QX (b:List (List C)) (n c:Int):∀(ws ys:List (List C)),(ws.foldl (Xm b n c) ys).length=ys.length
 |[],_=>rfl
 |x::r,ys=>(QX b n c r _).trans (QL ..)
theorem X0 (b:List (List C)) (n c p:Int) (ys:List (List C)):(Qs b n c p ys).length=ys.length:=by
 unfold Qs;split
 · exact QL ..
 split
 · rfl
 · exact QX ..
theorem Yh (a b:List (List C)) (k:Int):(EI a b k).length=((a.length:Int)*b.length).toNat:=(SB (λ_ _=>X0 ..) _ _).trans (SH _)
end Go
namespace Go.Sx
def A178 (co:List (List C)):FuncId->Nat->LoopAnn:=λ_ _=>lp 37 co.length (E5 OL co) [0,1,2,4,33,35,36,37,38,46]
theorem v178 (p:Int) (q:Int) (co:List (List C)):AnC p/\AnC q/\WL hI co->Cn (bLt p 1) (false=He p q co) (Cn (bLt 8 p) (false=He p q co) (Cn (bLt q 1) (false=He p q co) (Cn (bLt 8 q) (false=He p q co) (AnE co->AnC (iMul p q)/\Cn (bNe (iLen co) (iMul p q)) (false=He p q co) (AnE co->(∃(x:Int),E5 OL co x/\0=x)/\∀(x:Int),E5 OL co x->AnC x->Cn (bLt x (iLen co)) (pIn 0 (iLen co) x/\(AnC (qi 0 (rGet co x))->Cn (bLt (qi 0 (rGet co x)) (-131072)) (false=He p q co) (Cn (bLt 131072 (qi 0 (rGet co x))) (false=He p q co) (AnC (iAdd x 1)/\Sm [C.i p,C.i q,C.l co]/\Sm co/\Sm (iLen co)/\Sm [C.i p,C.i q,C.l co]/\∃(y:Int),E5 OL co y/\iAdd x 1=y/\nLt (co.length-y.toNat) (co.length-x.toNat))))) (true=He p q co)))))):=by
 intro hw;have no:¬(1<=p/\p<=8/\1<=q/\q<=8/\(co.length:Int)=p*q)->false=He p q co:=λh=>by unfold He UJ; rw[AlK h]; rfl
 simp only[D,E];refine⟨λa=>no (by omega),λa1=>⟨λa=>no (by omega),λa2=>⟨λa=>no (by omega),λa3=>⟨λa=>no (by omega),λa4 _=> ?_⟩⟩⟩⟩;have m:=Aa8 (x:=p) (X:=8) (y:=q) (Y:=8) (by omega) (by omega) (by omega) (by omega);refine⟨by simp only[InR]; omega,λa=>no (by omega),λa5 _=> ?_⟩;have e:He p q co=co.all OL:=by unfold He UJ; rw[AlL (by omega),AlR]
 rw[e];exact lpA al0 (λx h=>h.1) (λx hx h0 hl _=>⟨λc=>alB hx hl (AlK (by omega)),λc1=>⟨λc=>alB hx hl (AlK (by omega)),λc2=>⟨inS hw.2.2 h0 hl,x+1,alN hx hl (AlL (by omega)),rfl,by omega⟩⟩⟩) (λx hx hl=>alE hx hl)
def r178:Cr PR:=K0 [] 178 6 {ps:=[(true,hMx)],rs:=[(false,[.bool])],out:=λa=>[[.b (He (AnF a) (AnH a) (L a 0 2))]]} (λa=>A178 (L a 0 2)) λa=>Y (v178 (AnF a) (AnH a) (L a 0 2))
def A105 (n:Int):FuncId->Nat->LoopAnn:=λ_ _=> .inv Int (λz=>BA n z) (λz=>[(5,.int .i64 z)]) (λz=>[(1,.row hI 3 0 (NR n z))]) [1] ([0,2,3,4,5,11,22]++[1000001]) (λz=>(n-z).toNat)
theorem v105 (n:Int):AnC n->Cn (bLt n 1) (0=qi 0 (FY n)/\0=qi 1 (FY n)/\[]=ql 2 (FY n)/\2=O8 n) (Cn (bLt 8 n) (0=qi 0 (FY n)/\0=qi 1 (FY n)/\[]=ql 2 (FY n)/\2=O8 n) (AnC (iMul n n)/\(pLe 0 (iMul n n)/\pLe (iMul n n) (iMul n n)/\Abb 8 (iMul n n))/\(∃(x:Int),BA n x/\0=x/\List.replicate (iMul n n).toNat [C.i 0]=NR n x)/\∀(x:Int),BA n x->AnC x/\WL hI (NR n x)->Cn (bLt x n) (AnC (iMul x n)/\AnC (iAdd (iMul x n) x)/\pIn 0 (iLen (NR n x)) (iAdd (iMul x n) x)/\AnC (iAdd x 1)/\Sm n/\Sm n/\Sm n/\∃(y:Int),BA n y/\iAdd x 1=y/\rSet (NR n x) (iAdd (iMul x n) x) [C.i 32768]=NR n y/\nLt (n-y).toNat (n-x).toNat) (n=qi 0 (FY n)/\n=qi 1 (FY n)/\NR n x=ql 2 (FY n)/\0=O8 n))):=by
 intro hw;have no:¬(1<=n/\n<=8)->0=qi 0 (FY n)/\0=qi 1 (FY n)/\[]=ql 2 (FY n)/\2=O8 n:=λh=>by
  have e:O8 n=2:=if_neg h;unfold FY; rw[if_neg (by omega),e]; exact⟨rfl,rfl,rfl,rfl⟩
 simp only[D,E];refine⟨λa=>no (by omega),λa1=>⟨λa=>no (by omega),λa2=> ?_⟩⟩;have m:=Aa8 (x:=n) (X:=8) (y:=n) (Y:=8) (by omega) (by omega) (by omega) (by omega);have e:O8 n=0:=if_pos (by omega);refine⟨by simp only[InR]; omega,⟨m.1,AlO _,by omega⟩,⟨0,⟨AlO _,by omega⟩,rfl,rfl⟩,?_⟩;intro x ⟨x0,x1⟩ _;refine⟨λhl=> ?_,λhl=> ?_⟩
 · have b:=Aa8 (x:=x) (X:=7) (y:=n) (Y:=8) (by omega) (by omega) (by omega) (by omega);have c:=AlS (show x+1<=n by omega) (show 0<=n by omega);have l:(NR n x).length=(n*n).toNat:=(SB (λ_ _=>QL ..) _ _).trans (SH _);rw[Amt,AmR]at c;refine⟨by simp only[InR]; omega,by simp only[InR]; omega,⟨by omega,by omega⟩,by simp only[InR]; omega,x+1,⟨by omega,by omega⟩,rfl,?_,by omega⟩;unfold NR;rw[XT x0]; unfold YW;rw[Amc x0]
 · unfold FY;rw[if_pos e,e,show x=n by omega]; exact⟨rfl,rfl,rfl,rfl⟩
def r105:Cr PR:=K0 [] 105 6 {ps:=[(false,hI)],rs:=[(true,hMx),(false,hI)],out:=λa=>[rb [0,0,3] (FY (AnF a)),[.i (O8 (AnF a))]]} (λa=>A105 (AnF a)) λa=>Y (v105 (AnF a))
def A120 (p:Int) (q:Int) (co:List (List C)) (da:List (List C)):FuncId->Nat->LoopAnn:=λ_ ii=>bif Nat.beq ii 7 then .ghostB 6 1 hW 21 (.inv Int (λz=>BA ((da.length:Int)/p) z) (λz=>[(7,.int .i64 (z*p))]) (λz=>[(3,.box [.int .i64 q,.own 4 0] 95),(4,.row hW 21 0 (FK p q co da z))]) [3,4] [0,1,2,3,4,5,6,7,8,9,10,18,24,33,41,47] (λz=>((da.length:Int)/p-z).toNat))else bif Nat.beq ii 10 then .on (λsv0=>match sv0.tmps.getD 7 .undef with| .int _ ci=> .inv Int (λz=>BA q z) (λz=>[(8,.int .i64 z)]) (λz=>[(3,.box [.int .i64 q,.own 4 0] 95),(4,.row hW 21 0 (FK p q co da (ci/p)++Jy p co da ci z))]) [3,4] [0,1,2,3,4,5,6,7,8,9,10,18,24,33,41,47] (λz=>(q-z).toNat)|_=> .unroll 0)else .on (λsv0=>match sv0.tmps.getD 7 .undef with| .int _ ci=>(match sv0.tmps.getD 8 .undef with| .int _ ri=> .inv Int (λz=>BA p z) (λz=>[(10,.int .i64 z),(9,.int .i64 (Hy p co da ri ci z.toNat))]) (λ_=>[]) [] [0,1,2,3,4,5,6,7,8,9,10,18,24,33,41,47] (λz=>(p-z).toNat)|_=> .unroll 0)|_=> .unroll 0)
theorem v120 (p:Int) (q:Int) (co:List (List C)) (ch:Int) (da:List (List C)):AnC p/\AnC q/\WL hI co/\AnC ch/\WL hW da->True/\True/\Cn (bNot (He p q co)) (0=qi 0 (Ji p q co ch da)/\[]=ql 1 (Ji p q co ch da)/\1=Jq p q co ch da) (True/\True/\Cn (bNot (AO ch da)) (0=qi 0 (Ji p q co ch da)/\[]=ql 1 (Ji p q co ch da)/\1=Jq p q co ch da) (Cn (bNe ch p) (0=qi 0 (Ji p q co ch da)/\[]=ql 1 (Ji p q co ch da)/\11=Jq p q co ch da) ((∃(x:Int),BA (↑da.length/p) x/\0=x*p/\Sm q/\[]=FK p q co da x)/\∀(x:Int),BA (↑da.length/p) x->AnC (x*p)/\AnC q/\WL hW (FK p q co da x)->AnE da->Cn (bLt (x*p) (iLen da)) ((∃(x_1:Int),BA q x_1/\0=x_1/\Sm q/\FK p q co da x=FK p q co da (x*p/p)++Jy p co da (x*p) x_1)/\∀(x_1:Int),BA q x_1->AnC x_1/\AnC q/\WL hW (FK p q co da (x*p/p)++Jy p co da (x*p) x_1)->Cn (bLt x_1 q) ((∃(x_2:Int),BA p x_2/\0=x_2/\16384=Hy p co da x_1 (x*p) x_2.toNat)/\∀(x_2:Int),BA p x_2->AnC x_2/\AnC (Hy p co da x_1 (x*p) x_2.toNat)->Cn (bLt x_2 p) (AnC (iMul x_1 p)/\AnC (iAdd (iMul x_1 p) x_2)/\pIn 0 (iLen co) (iAdd (iMul x_1 p) x_2)/\(AnC (qi 0 (rGet co (iAdd (iMul x_1 p) x_2)))->AnC (iAdd (x*p) x_2)/\pIn 0 (iLen da) (iAdd (x*p) x_2)/\(InR .i32 (qi 0 (rGet da (iAdd (x*p) x_2)))->AnC (iMul (qi 0 (rGet co (iAdd (iMul x_1 p) x_2))) (qi 0 (rGet da (iAdd (x*p) x_2))))/\AnC (iAdd (Hy p co da x_1 (x*p) x_2.toNat) (iMul (qi 0 (rGet co (iAdd (iMul x_1 p) x_2))) (qi 0 (rGet da (iAdd (x*p) x_2)))))/\AnC (iAdd x_2 1)/\Sm [C.i p,C.i q,C.l co]/\Sm [C.i ch,C.l da]/\Sm (x*p)/\Sm x_1/\Sm [C.i p,C.i q,C.l co]/\Sm [C.i ch,C.l da]/\Sm q/\Sm (FK p q co da (x*p/p)++Jy p co da (x*p) x_1)/\∃(y:Int),BA p y/\iAdd x_2 1=y/\iAdd (Hy p co da x_1 (x*p) x_2.toNat) (iMul (qi 0 (rGet co (iAdd (iMul x_1 p) x_2))) (qi 0 (rGet da (iAdd (x*p) x_2))))=Hy p co da x_1 (x*p) y.toNat/\nLt (p-y).toNat (p-x_2).toNat))) (pSh 64 15/\True/\(InR .i32 (La (iShr (Hy p co da x_1 (x*p) x_2.toNat) 15))->Abb 4 (iLen (FK p q co da (x*p/p)++Jy p co da (x*p) x_1++[[C.i (La (iShr (Hy p co da x_1 (x*p) x_2.toNat) 15))]]))/\AnC (iAdd x_1 1)/\Sm [C.i p,C.i q,C.l co]/\Sm [C.i ch,C.l da]/\Sm (x*p)/\Sm [C.i p,C.i q,C.l co]/\Sm [C.i ch,C.l da]/\∃(y:Int),BA q y/\iAdd x_1 1=y/\Sm q/\FK p q co da (x*p/p)++Jy p co da (x*p) x_1++[[C.i (La (iShr (Hy p co da x_1 (x*p) x_2.toNat) 15))]]=FK p q co da (x*p/p)++Jy p co da (x*p) y/\nLt (q-y).toNat (q-x_1).toNat))) (AnC (iAdd (x*p) p)/\Sm [C.i p,C.i q,C.l co]/\Sm [C.i ch,C.l da]/\Sm [C.i p,C.i q,C.l co]/\Sm [C.i ch,C.l da]/\∃(y:Int),BA (↑da.length/p) y/\iAdd (x*p) p=y*p/\Sm q/\FK p q co da (x*p/p)++Jy p co da (x*p) x_1=FK p q co da y/\nLt (↑da.length/p-y).toNat (↑da.length/p-x).toNat)) (q=qi 0 (Ji p q co ch da)/\FK p q co da x=ql 1 (Ji p q co ch da)/\0=Jq p q co ch da)))):=by
  intro hw;have no:∀ {x:Int},x≠0->Jq p q co ch da=x->0=qi 0 (Ji p q co ch da)/\[]=ql 1 (Ji p q co ch da)/\x=Jq p q co ch da:=λh0 h1=>by
    unfold Ji; rw[if_neg (by omega),h1]; exact⟨rfl,rfl,rfl⟩
  simp only[D,E];refine⟨λa=>no (by omega) (if_pos (.inl a)),λv=>⟨λa=>no (by omega) (if_pos (.inr a)),λb=>⟨λa=>no (by omega) (by unfold Jq; rw[if_neg (by simp[v,b]),if_pos a]),λc0=> ?_⟩⟩⟩;have e0:Jq p q co ch da=0:=by unfold Jq; rw[if_neg (by simp[v,b]),if_neg (by omega)]
  obtain rfl:p=ch:=by omega
  obtain⟨mv,ca⟩:=Wq v;have l:=Eo b;have sd:=NM b;have fr:=Df b;have pq:=Aa8 (x:=p) (X:=8) (y:=q) (Y:=8) (by omega) (by omega) (by omega) (by omega);have rng:∀ {k:Int},-1000000000000000000<=k->k<=1000000000000000000->AnC k:=λa b=>by simp only[InR]; omega
  refine⟨⟨0,⟨AlO _,l.2.1⟩,(Int.zero_mul _).symm,rfl⟩,?_⟩;intro k ⟨k0,k1⟩ _ _;rw[Ani k (show p≠0 by omega)];have kp:=Al1 k0 (show 0<=p by omega);refine⟨λhl=> ?_,λhl=> ?_⟩
  · have kl:k<(da.length:Int)/p:=by
      rcases Anw k1 with c|c
      · exact c
      · rw[c,Amo,←l.1]at hl; omega
    have kc:=RN (n:=da.length) (show 1<=p by omega) kl;refine⟨⟨0,⟨AlO _,by omega⟩,rfl,(Ame _).symm⟩,?_⟩;intro r ⟨r0,r1⟩ _;have rp:=Al1 r0 (show 0<=p by omega);refine⟨λhr=> ?_,λhr=>⟨rng (by omega) (by omega),k+1,⟨by omega,by omega⟩,by rw[Amt,AmR],?_,by omega⟩⟩
    · have rc:=AlS (show r+1<=q by omega) (show 0<=p by omega);rw[Amt,AmR,Amo q]at rc;refine⟨⟨0,⟨AlO _,by omega⟩,rfl,rfl⟩,?_⟩;intro c ⟨c0,c1⟩ _;have mb:=WU (r:=r) ca sd rp kp (n:=c.toNat) (by omega) (by omega);refine⟨λhc=> ?_,λhc=>⟨by decide,λ_=>⟨?_,rng (by omega) (by omega),r+1,⟨by omega,by omega⟩,rfl,?_,by omega⟩⟩⟩
      · have x:=WE (i:=r*p+c) ca (by omega) (by omega);have y:=Un (i:=k*p+c) sd (by omega) (by omega);have m:=V4 x ⟨y.1,by omega⟩;refine⟨rng (by omega) (by omega),rng (by omega) (by omega),⟨by omega,by omega⟩,λ_=>⟨rng (by omega) (by omega),⟨by omega,by omega⟩,λ_=>⟨rng (by omega) (by omega),rng (by omega) (by omega),rng (by omega) (by omega),c+1,⟨by omega,by omega⟩,rfl,?_,by omega⟩⟩⟩;rw[show(c+1).toNat=c.toNat+1 by omega,Hy,Amc c0]
      · have kq:=Aa8 (x:=k) (X:=65536) (y:=q) (Y:=8) k0 (by omega) (by omega) (by omega);have al:=Vh p q co da k (by omega);rw[Amc k0]at al;rw[AlF,AlF,Vm,AlJ]; omega
      · rw[Aam _ _ _ _ r0,Amn,show c=p by omega,show iShr (Hy p co da r (k*p) p.toNat) 15=Hy p co da r (k*p) p.toNat/32768 from AmF _ (by decide)]; rfl
    · rw[Zy _ _ _ _ k0,show r=q by omega]
  · have ke:k=(da.length:Int)/p:=by
      rcases Anw k1 with c|c
      · have:=RN (n:=da.length) (show 1<=p by omega) c; omega
      · exact c
    unfold Ji;rw[if_pos e0,e0,ke]; exact⟨rfl,rfl,rfl⟩
def r120:Cr PR:=K0 [r178,r108,r179] 120 8 {ps:=[(true,hMx),(true,hK)],rs:=[(true,hK),(false,hI)],out:=λa=>[rb [0,3] (Ji (AnF a) (AnH a) (L a 0 2) (AnG a) (L a 1 1)),[.i (Jq (AnF a) (AnH a) (L a 0 2) (AnG a) (L a 1 1))]]} (λa=>A120 (AnF a) (AnH a) (L a 0 2) (L a 1 1)) λa=>Y (v120 (AnF a) (AnH a) (L a 0 2) (AnG a) (L a 1 1))
theorem v165 (p:Int):AnC p->Cn (bEq p 3) ([[C.l [[C.i 1],[C.i 2]]]]=Dl p) (Cn (bEq p 1) ([[C.l [[C.i 3]]]]=Dl p) (Cn (bEq p 2) ([[C.l [[C.i 3]]]]=Dl p) (Cn (bEq p 5) ([[C.l [[C.i 7]]],[C.l [[C.i 1]]],[C.l [[C.i 3]]]]=Dl p) (Cn (bEq p 6) ([[C.l [[C.i 8]]],[C.l [[C.i 2]]],[C.l [[C.i 3]]]]=Dl p) (Cn (bEq p 7) ([[C.l [[C.i 5]]],[C.l [[C.i 1]]],[C.l [[C.i 3]]]]=Dl p) (Cn (bEq p 8) ([[C.l [[C.i 6]]],[C.l [[C.i 2]]],[C.l [[C.i 3]]]]=Dl p) ([]=Dl p))))))):=by
 intro hw;simp only[D,E];unfold Dl
 repeat' (first|apply And.intro|intro _)
 all_goals (subst_vars; simp[*])
def r165:Cr PR:=K0 [] 165 6 {ps:=[(false,hI)],rs:=[(false,hM)],out:=λa=>[[.l (Dl (AnF a))]]} U λa=>Y (v165 (AnF a))
def A106 (a:List (List C)) (b:List (List C)):FuncId->Nat->LoopAnn:=λ_ ii=>bif Nat.beq ii 5 then .inv Int (λz=>BA (a.length:Int) z) (λz=>[(36,.int .i64 z)]) (λz=>[(1,.row hI 3 0 (EI a b z))]) [1] ([0,1,4,5,6,7,8,9,11,13,21,34,35,36,37,45,56,57,58,59,68,69,70,71,72]++[1000001]) (λz=>a.length-z.toNat)else bif Nat.beq ii 11 then .on (λsv0=>match sv0.tmps.getD 8 .undef with| .int _ pi=> .inv Int (λz=>U3 b pi z) (λz=>[(58,.int .i64 z)]) (λ_=>[]) [] ([0,1,4,5,6,7,8,9,11,13,21,34,35,36,37,45,56,57,58,59,68,69,70,71,72]++[1000001]) (λz=>(Dl pi).length-z.toNat)|_=> .unroll 0)else .on (λsv0=>match sv0.tmps.getD 11 .undef with| .sl _ ws=>(match sv0.tmps.getD 7 .undef with| .int _ ci=>(match(sv0.heap[1]? :Option HB)with|some (.row ee ty vv ys)=> .inv Int (λz=>BA (ws.length:Int) z) (λz=>[(71,.int .i64 z)]) (λz=>[(1,.row ee ty vv (N7 b a.length ci ws ys z))]) [1] ([0,1,4,5,6,7,8,9,11,13,21,34,35,36,37,45,56,57,58,59,68,69,70,71,72]++[1000001]) (λz=>ws.length-z.toNat)|_=> .unroll 0)|_=> .unroll 0)|_=> .unroll 0)
def Abi (a:List (List C)) (x:Int) (x_1:Int):List C:=(rGet (Dl (qi 0 (rGet a x))) x_1)
theorem v106 (a:List (List C)) (b:List (List C)):WL hI a/\WL hI b->True/\True/\Cn (bNot (Ci a)) (0=qi 0 (En a b)/\0=qi 1 (En a b)/\[]=ql 2 (En a b)/\1=NW a b) (True/\True/\Cn (bNot (Ci b)) (0=qi 0 (En a b)/\0=qi 1 (En a b)/\[]=ql 2 (En a b)/\1=NW a b) (AnE a->AnE b->AnE a->AnE b->AnC (iMul (iLen a) (iLen b))/\(pLe 0 (iMul (iLen a) (iLen b))/\pLe (iMul (iLen a) (iLen b)) (iMul (iLen a) (iLen b))/\Abb 8 (iMul (iLen a) (iLen b)))/\(AnE a->(∃(x:Int),BA (↑a.length) x/\0=x/\List.replicate (iMul (iLen a) (iLen b)).toNat [C.i 0]=EI a b x)/\∀(x:Int),BA (↑a.length) x->AnC x/\WL hI (EI a b x)->Cn (bLt x (iLen a)) (pIn 0 (iLen a) x/\(AnC (qi 0 (rGet a x))->True/\(AnC (Ce (Bj (qi 0 (rGet a x))) 0 b)->Cn (bLe 0 (Ce (Bj (qi 0 (rGet a x))) 0 b)) (AnC (iMul (Ce (Bj (qi 0 (rGet a x))) 0 b) (iLen a))/\AnC (iAdd (iMul (Ce (Bj (qi 0 (rGet a x))) 0 b) (iLen a)) x)/\pIn 0 (iLen (EI a b x)) (iAdd (iMul (Ce (Bj (qi 0 (rGet a x))) 0 b) (iLen a)) x)/\AnC (iAdd x 1)/\Sm a/\Sm b/\Sm a/\Sm (iLen a)/\Sm (iLen a)/\Sm (iLen b)/\∃(y:Int),BA (↑a.length) y/\iAdd x 1=y/\rSet (EI a b x) (iAdd (iMul (Ce (Bj (qi 0 (rGet a x))) 0 b) (iLen a)) x) [C.i 32768]=EI a b y/\nLt (a.length-y.toNat) (a.length-x.toNat)) (True/\(WL [Sh.sl hI] (Dl (qi 0 (rGet a x)))->AnE (Dl (qi 0 (rGet a x)))->(∃(x_1:Int),U3 b (qi 0 (rGet a x)) x_1/\0=x_1)/\∀(x_1:Int),U3 b (qi 0 (rGet a x)) x_1->AnC x_1->Cn (bLt x_1 (iLen (Dl (qi 0 (rGet a x))))) (pIn 0 (iLen (Dl (qi 0 (rGet a x)))) x_1/\(WL hI (ql 0 (Abi a x x_1))->pLe (iLen (ql 0 (Abi a x x_1))) 1000/\(WL hI (Eh (ql 0 (Abi a x x_1)) b)->AnE (Eh (ql 0 (Abi a x x_1)) b)->AnE (ql 0 (Abi a x x_1))->Cn (bLt (iLen (Eh (ql 0 (Abi a x x_1)) b)) (iLen (ql 0 (Abi a x x_1)))) (AnC (iAdd x_1 1)/\Sm a/\Sm b/\Sm x/\Sm (qi 0 (rGet a x))/\Sm (Ce (Bj (qi 0 (rGet a x))) 0 b)/\Sm a/\Sm (iLen a)/\Sm x/\Sm (Dl (qi 0 (rGet a x)))/\Sm (iLen (Dl (qi 0 (rGet a x))))/\Sm (EI a b x)/\Sm (iLen a)/\Sm (iLen b)/\∃(y:Int),U3 b (qi 0 (rGet a x)) y/\iAdd x_1 1=y/\nLt ((Dl (qi 0 (rGet a x))).length-y.toNat) ((Dl (qi 0 (rGet a x))).length-x_1.toNat)) (AnE (ql 0 (Abi a x x_1))->(∃(x_2:Int),BA (↑(ql 0 (Abi a x x_1)).length) x_2/\0=x_2/\EI a b x=N7 b (↑a.length) x (ql 0 (Abi a x x_1)) (EI a b x) x_2)/\∀(x_2:Int),BA (↑(ql 0 (Abi a x x_1)).length) x_2->AnC x_2/\WL hI (N7 b (↑a.length) x (ql 0 (Abi a x x_1)) (EI a b x) x_2)->Cn (bLt x_2 (iLen (ql 0 (Abi a x x_1)))) (pIn 0 (iLen (ql 0 (Abi a x x_1))) x_2/\(AnC (qi 0 (rGet (ql 0 (Abi a x x_1)) x_2))->True/\(AnC (Ce (Bj (qi 0 (rGet (ql 0 (Abi a x x_1)) x_2))) 0 b)->AnC (iMul (Ce (Bj (qi 0 (rGet (ql 0 (Abi a x x_1)) x_2))) 0 b) (iLen a))/\AnC (iAdd (iMul (Ce (Bj (qi 0 (rGet (ql 0 (Abi a x x_1)) x_2))) 0 b) (iLen a)) x)/\pIn 0 (iLen (N7 b (↑a.length) x (ql 0 (Abi a x x_1)) (EI a b x) x_2)) (iAdd (iMul (Ce (Bj (qi 0 (rGet (ql 0 (Abi a x x_1)) x_2))) 0 b) (iLen a)) x)/\AnC (iAdd x_2 1)/\Sm a/\Sm b/\Sm x/\Sm (qi 0 (rGet a x))/\Sm (Ce (Bj (qi 0 (rGet a x))) 0 b)/\Sm (ql 0 (Abi a x x_1))/\Sm a/\Sm (iLen a)/\Sm x/\Sm (Dl (qi 0 (rGet a x)))/\Sm (iLen (Dl (qi 0 (rGet a x))))/\Sm x_1/\Sm (ql 0 (Abi a x x_1))/\Sm (iLen (ql 0 (Abi a x x_1)))/\Sm (iLen a)/\Sm (iLen b)/\∃(y:Int),BA (↑(ql 0 (Abi a x x_1)).length) y/\iAdd x_2 1=y/\rSet (N7 b (↑a.length) x (ql 0 (Abi a x x_1)) (EI a b x) x_2) (iAdd (iMul (Ce (Bj (qi 0 (rGet (ql 0 (Abi a x x_1)) x_2))) 0 b) (iLen a)) x) [C.i 23170]=N7 b (↑a.length) x (ql 0 (Abi a x x_1)) (EI a b x) y/\nLt ((ql 0 (Abi a x x_1)).length-y.toNat) ((ql 0 (Abi a x x_1)).length-x_2.toNat)))) (AnC (iAdd x 1)/\Sm a/\Sm b/\Sm a/\Sm (iLen a)/\Sm (iLen a)/\Sm (iLen b)/\∃(y:Int),BA (↑a.length) y/\iAdd x 1=y/\N7 b (↑a.length) x (ql 0 (Abi a x x_1)) (EI a b x) x_2=EI a b y/\nLt (a.length-y.toNat) (a.length-x.toNat)))))) (AnC (iAdd x 1)/\Sm a/\Sm b/\Sm a/\Sm (iLen a)/\Sm (iLen a)/\Sm (iLen b)/\∃(y:Int),BA (↑a.length) y/\iAdd x 1=y/\EI a b x=EI a b y/\nLt (a.length-y.toNat) (a.length-x.toNat))))))) (iLen a=qi 0 (En a b)/\iLen b=qi 1 (En a b)/\EI a b x=ql 2 (En a b)/\0=NW a b)))):=by
  intro hw;delta Abi;have no:¬(Ci a=true/\Ci b=true)->0=qi 0 (En a b)/\0=qi 1 (En a b)/\[]=ql 2 (En a b)/\1=NW a b:=λh=>by
    have e:NW a b=1:=if_neg h;unfold En; rw[if_neg (by omega),e]; exact⟨rfl,rfl,rfl,rfl⟩
  simp only[D,E];refine⟨λh=>no (by simp[h]),λva=>⟨λh=>no (by simp[h]),λvb _ _ _ _=> ?_⟩⟩;have la:=TJ va;have lb:=TJ vb;have m:=Aa8 (x:=(a.length:Int)) (X:=8) (y:=(b.length:Int)) (Y:=8) (by omega) (by omega) (by omega) (by omega);have rng:∀ {k:Int},-1000000000000000000<=k->k<=1000000000000000000->AnC k:=λa b=>by simp only[InR]; omega
  refine⟨rng (by omega) (by omega),⟨m.1,AlO _,by omega⟩,λ_=>⟨⟨0,⟨AlO _,by omega⟩,rfl,rfl⟩,?_⟩⟩;intro x ⟨x0,x1⟩ _;have dl:=Yh a b x;refine⟨λhl=> ?_,λhl=> ?_⟩
  · have key:∀ {i:Int},0<=i->i<(b.length:Int)->0<=i*(a.length:Int)/\i*(a.length:Int)+a.length<=(a.length:Int)*b.length:=λ{i} h0 h1=>by
      have c:=AlS (show i+1<=(b.length:Int) by omega) (show 0<=(a.length:Int) by omega);rw[Amt,AmR,Amo (b.length:Int)]at c;exact⟨Al1 h0 (by omega),c⟩
    have st:EI a b (x+1)=Qs b a.length x (qi 0 (rGet a x)) (EI a b x):=by
      unfold EI; rw[XT x0]; unfold YO; rw[Amc x0]
    have fin:∀ {ys:List (List C)},Qs b a.length x (qi 0 (rGet a x)) (EI a b x)=ys->AnC (x+1)/\∃y,BA a.length y/\x+1=y/\ys=EI a b y/\a.length-y.toNat<a.length-x.toNat:=λh=>⟨rng (by omega) (by omega),x+1,⟨by omega,by omega⟩,rfl,by rw[st,h],by omega⟩
    refine⟨⟨x0,hl⟩,λ_ _=>⟨λhi=> ?_,λhi=> ?_⟩⟩
    · have ub:=Qz (f:=Bj (qi 0 (rGet a x))) b 0 (AlO _);have k:=key hi (by omega);exact⟨rng (by omega) (by omega),rng (by omega) (by omega),⟨by omega,by omega⟩,fin (if_pos hi)⟩
    intro _ _;refine⟨⟨0,⟨AlO _,by omega,rfl⟩,rfl⟩,?_⟩;intro w ⟨w0,w1,wf⟩ _;refine⟨λwl=> ?_,λwl=>fin ?_⟩
    · have wy:=Zk _ (LX w0 wl);have wd:=Aba w0 wl;have et:PZ b (rGet (Dl (qi 0 (rGet a x))) w)=true->(Dl (qi 0 (rGet a x))).find? (PZ b)=some (rGet (Dl (qi 0 (rGet a x))) w):=λh=>by rw[wf,wd,List.find?_cons,h]
      have ef:PZ b (rGet (Dl (qi 0 (rGet a x))) w)=false->(Dl (qi 0 (rGet a x))).find? (PZ b)=((Dl (qi 0 (rGet a x))).drop (w+1).toNat).find? (PZ b):=λh=>by rw[wf,wd,List.find?_cons,h]
      have w3:=ZW (qi 0 (rGet a x));refine⟨⟨w0,wl⟩,λ_=>⟨by omega,λ_ _ _=>⟨λbad=>⟨rng (by omega) (by omega),w+1,⟨by omega,by omega,ef (AlK (by omega))⟩,rfl,by omega⟩,λgood _=>⟨⟨0,⟨AlO _,by omega⟩,rfl,rfl⟩,?_⟩⟩⟩⟩;have eg:=et (AlL (by omega));generalize rGet (Dl (qi 0 (rGet a x))) w=ww at*;intro j ⟨j0,j1⟩ _;refine⟨λjl=> ?_,λjl=>fin ?_⟩
      · have g:=XU (b:=b) (by omega) (LX j0 jl);have ub:=Qz (f:=Bj (qi 0 (rGet (ql 0 ww) j))) b 0 (AlO _);have k:=key g (by omega);have kl:(N7 b a.length x (ql 0 ww) (EI a b x) j).length=(EI a b x).length:=QX ..;refine⟨⟨j0,jl⟩,λ_ _=>⟨rng (by omega) (by omega),rng (by omega) (by omega),⟨by omega,by omega⟩,rng (by omega) (by omega),j+1,⟨by omega,by omega⟩,rfl,?_,by omega⟩⟩;unfold N7;rw[Ab7 j0 jl,List.foldl_append]; rfl
      · unfold Qs;rw[if_neg (by omega),eg];unfold N7;rw[AlZ (by omega)]; rfl
    · unfold Qs;rw[if_neg (by omega),wf,AlP (by omega)]; rfl
  · unfold En;have e:NW a b=0:=if_pos ⟨va,vb⟩;rw[if_pos e,e,show x=(a.length:Int) by omega]; exact⟨rfl,rfl,rfl,rfl⟩
def r106:Cr PR:=K0 [r55,r102,r153,r165] 106 8 {ps:=[(false,hL),(false,hL)],rs:=[(true,hMx),(false,hI)],out:=λa=>[rb [0,0,3] (En (L a 0 0) (L a 1 0)),[.i (NW (L a 0 0) (L a 1 0))]]} (λa=>A106 (L a 0 0) (L a 1 0)) λa=>Y (v106 (L a 0 0) (L a 1 0))
theorem v162 (p:Int) (q:Int) (co:List (List C)) (u:Int) (v:Int) (cp:List (List C)):AnC p/\AnC q/\WL hI co/\AnC u/\AnC v/\WL hI cp->Cn (bEq p u) (Cn (bEq q v) (True/\DD C9 co cp=PK p q co u v cp) (false=PK p q co u v cp)) (false=PK p q co u v cp):=by
 intro hw;simp only[D,E];unfold PK;exact⟨λh=>⟨λg=>by rw[show bEq p u=true from AlL h,show bEq q v=true from AlL g]; rfl,λg=>by rw[show bEq q v=false from AlK g,show bEq p u=true from AlL h]; rfl⟩,λh=>by rw[show bEq p u=false from AlK h]; rfl⟩
def r162:Cr PR:=K0 [r151] 162 6 {ps:=[(true,hMx),(true,hMx)],rs:=[(false,[.bool])],out:=λa=>[[.b (PK (AnF a) (AnH a) (L a 0 2) (AnG a) (AnJ a) (L a 1 2))]]} U λa=>Y (v162 (AnF a) (AnH a) (L a 0 2) (AnG a) (AnJ a) (L a 1 2))
end Go.Sx

