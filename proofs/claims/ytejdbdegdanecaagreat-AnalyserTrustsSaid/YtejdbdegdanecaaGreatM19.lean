import Derived.Test.YtejdbdegdanecaaGreatSxUse
import Derived.Test.YtejdbdegdanecaaGreatM15
set_option linter.unusedVariables false
set_option linter.unusedSimpArgs false
set_option maxRecDepth 100000
set_option maxHeartbeats 4000000
namespace Go
open Go.Sx
def Bz (b:List C):List C:=sg 5 [0,0,0,0,0,0,3] b
def Wx (b:List C):List C:=sg 6 [0,0,0,0,0] b
def BI (b:List C):Bool:=AX (Bz b)&&(Bd (qi 1 b) (qi 2 b) (qi 3 b) (qi 4 b)&&decide (1<=qi 0 b/\qi 0 b<=65536/\Ak (Bz b)<=qi 0 b/\0<=qi 12 b/\0<=qi 13 b))
abbrev KO (x:List C):Prop:=([C.i 0,C.i 0,C.i 0,C.i 0,C.i 0,C.i 0,C.i 0,C.i 0,C.i 0,C.i 0,C.i 0,C.l [],C.i 0,C.i 0]:List C)=sg 0 [0,0,0,0,0,0,0,0,0,0,0,3,0,0] x
def IQ (b:List C):Int:=if BI b=true then Ak (Bz b)else 0
def Aan (ch n d t e g m cap fill:Int):List C:=[.i cap,.i t,.i e,.i g,.i m,.i ch,.i n,.i d,.i 0,.i 0,.i 0,.l (Jr (ch*fill)),.i 0,.i 0]
def G5 (ch n d t e g m cap fill:Int):Int:=if cap<1∨65536<cap∨fill<0∨cap<fill then 2 else if AX (KT ch n d)=false∨Bd t e g m=false then 1 else 0
def JD (ch n d t e g m cap fill:Int):List C:=if G5 ch n d t e g m cap fill=0 then Aan ch n d t e g m cap fill else[]
def ET (b:List C) (ch:Int) (da:List (List C)):Int:=if BI b=false∨AO ch da=false then 1 else if ch≠qi 5 b then 11 else 0
def CY (b:List C) (ch:Int) (da:List (List C)):Int:=min ((da.length:Int)/ch) (qi 0 b-Ak (Bz b))
def F7 (b:List C) (ch:Int) (da:List (List C)):Int:=if ET b ch da=0 then(da.length:Int)/ch-CY b ch da else 0
def CQ (b:List C) (ch:Int) (da:List (List C)):List C:=if ET b ch da=0 then sga 0 [0,0,0,0,0,0,0,0,0,0,0] b [.l (ql 11 b++cutRows da none (some (CY b ch da*ch))),.i (Aa3 .i64 (qi 12 b+F7 b ch da)),.i (qi 13 b)]else[]
theorem LV {b:List C} (h:BI b=true):AX (Bz b)=true/\Bd (qi 1 b) (qi 2 b) (qi 3 b) (qi 4 b)=true/\1<=qi 0 b/\qi 0 b<=65536/\Ak (Bz b)<=qi 0 b/\0<=qi 12 b/\0<=qi 13 b:=by
 simpa only[BI,AlG,AlE]using h
theorem QT {r:List C} (h:AX r=true):0<=Ak r/\Ak r<=65536:=by
 have v:=(Eb h).2;have c:=Df v;rw[IJ h];exact⟨(Eo v).2.1,c.2.2.2⟩
theorem UI (n:Int):(Jr n).length=n.toNat:=Amx
theorem Ue {ch n:Int} {da:List (List C)} (h:AO ch da=true) (h0:0<=n) (h1:n<=(da.length:Int)/ch):AO ch (da.take (n*ch).toNat)=true/\((da.take (n*ch).toNat).length:Int)=n*ch:=by
 have c:=Df h;have l:=Eo h;have m:=AlS h1 (show 0<=ch by omega);have m0:=Al1 h0 (show 0<=ch by omega);rw[Amo ((da.length:Int)/ch)]at m;have e:((da.take (n*ch).toNat).length:Int)=n*ch:=by rw[AlN]; omega
 have q:n*ch/ch=n:=Ani n (by omega);refine⟨?_,e⟩;rw[Pm (by rw[e,q,Int.mul_emod_left]; omega)];exact Al6.2 λx hx=>Al6.1 (NM h) x (Al7 hx)
theorem Zn {ch n d:Int} (h:AX (KT ch n d)=true):Lc ch n d=0/\F8 ch n d=KT ch n d:=⟨if_neg (by simp[h]),if_neg (by simp[h])⟩
theorem AaW {r:List C} {ch:Int} {da:List (List C)} (h:AX r=true) (h1:AO ch da=true) (h2:ch=qi 0 r) (h3:Ak r+(da.length:Int)/ch<=65536):DZ r ch da=0/\DW r ch da=sga 0 [0,0,0,0,0,0] r [.l (ql 6 r++da)]:=by
 have e:DZ r ch da=0:=by
  rw[YE h h1 h2,if_neg];have l1:=Eo (Eb h).2;have l2:=Eo h1;have c:=Df h1;rw[IJ h]at h3;rw[h2]at l2 h3 c;rw[show((ql 6 r).length:Int)+(da.length:Int)=qi 0 r*((ql 6 r).length/qi 0 r+(da.length:Int)/qi 0 r) by rw[Int.mul_add]; omega,Ant _ (by omega)];omega
 exact⟨e,if_pos e⟩
end Go
namespace Go.Sx
theorem v131 (b:List C):WD hG b->True/\Cn (AX (Bz b)) (True/\Cn (Bd (qi 1 b) (qi 2 b) (qi 3 b) (qi 4 b)) (Cn (bLe 1 (qi 0 b)) (Cn (bLe (qi 0 b) 65536) (True/\(AnC (Ak (Bz b))->Cn (bLe (Ak (Bz b)) (qi 0 b)) (Cn (bLe 0 (qi 12 b)) (bLe 0 (qi 13 b)=BI b) (false=BI b)) (false=BI b))) (false=BI b)) (false=BI b)) (false=BI b)) (false=BI b):=by
 intro hw;simp only[D,E,BI]
 cases AX (Bz b)
 · simp
 cases Bd (qi 1 b) (qi 2 b) (qi 3 b) (qi 4 b)
 · simp
 simp only[AlR,E]
 repeat' (first|apply And.intro|intro _)
 all_goals (first|contradiction|(simp only[decide_eq_decide]; omega)|(symm; simp only[AlD]; omega))
def r131:Cr PR:=K0 [r197,r198,r199] 131 6 {ps:=[(true,hG)],rs:=[(false,[.bool])],out:=λa=>[[.b (BI (AnQ a))]]} U λa=>Y (v131 (AnQ a))
theorem v72 (b:List C):WD hG b->True/\Cn (AX (Bz b)) (True/\Cn (Bd (qi 1 b) (qi 2 b) (qi 3 b) (qi 4 b)) (Cn (bLe 1 (qi 0 b)) (Cn (bLe (qi 0 b) 65536) (True/\(AnC (Ak (Bz b))->Cn (bLe (Ak (Bz b)) (qi 0 b)) (Cn (bLe 0 (qi 12 b)) (bLe 0 (qi 13 b)=BI b) (false=BI b)) (false=BI b))) (false=BI b)) (false=BI b)) (false=BI b)) (false=BI b):=by
 intro hw;simp only[D,E,BI]
 cases AX (Bz b)
 · simp
 cases Bd (qi 1 b) (qi 2 b) (qi 3 b) (qi 4 b)
 · simp
 simp only[AlR,E]
 repeat' (first|apply And.intro|intro _)
 all_goals (first|contradiction|(simp only[decide_eq_decide]; omega)|(symm; simp only[AlD]; omega))
def r72:Cr PR:=K0 [r124,r98,r125] 72 6 {ps:=[(true,hG)],rs:=[(false,[.bool])],out:=λa=>[[.b (BI (AnQ a))]]} U λa=>Y (v72 (AnQ a))
theorem v221 (b:List C):WD hG b->True/\True/\Cn (bNot (BI b)) (0=IQ b) (True/\(AnC (Ak (Bz b))->Ak (Bz b)=IQ b)):=by
 intro hw;simp only[D,E,IQ];exact⟨λh=>(if_neg (by simp[h])).symm,λh _=>(if_pos h).symm⟩
def r221:Cr PR:=K0 [r72,r125] 221 6 {ps:=[(true,hG)],rs:=[(false,hI)],out:=λa=>[[.i (IQ (AnQ a))]]} U λa=>Y (v221 (AnQ a))
theorem v47 (ch:Int) (n:Int) (d:Int) (t:Int) (e:Int) (g:Int) (m:Int) (cap:Int) (fill:Int):AnC ch/\AnC n/\AnC d/\AnC t/\AnC e/\AnC g/\AnC m/\AnC cap/\AnC fill->Cn (bLt cap 1) (KO (JD ch n d t e g m cap fill)/\2=G5 ch n d t e g m cap fill) (Cn (bLt 65536 cap) (KO (JD ch n d t e g m cap fill)/\2=G5 ch n d t e g m cap fill) (Cn (bLt fill 0) (KO (JD ch n d t e g m cap fill)/\2=G5 ch n d t e g m cap fill) (Cn (bLt cap fill) (KO (JD ch n d t e g m cap fill)/\2=G5 ch n d t e g m cap fill) (True/\(WD hR (F8 ch n d)/\AnC (Lc ch n d)->True/\True/\Cn (bNot (Bd t e g m)) (KO (JD ch n d t e g m cap fill)/\1=G5 ch n d t e g m cap fill) (Cn (bNe (Lc ch n d) 0) (KO (JD ch n d t e g m cap fill)/\1=G5 ch n d t e g m cap fill) (AnC (iMul ch fill)/\(pLe 0 (iMul ch fill)/\pLe (iMul ch fill) (iMul ch fill)/\Abb 4 (iMul ch fill))/\C.i cap::C.i t::C.i e::C.i g::C.i m::sga 0 [0,0,0,0,0,0] (F8 ch n d) [C.l (List.replicate (iMul ch fill).toNat [C.i 0]),C.i 0,C.i 0]=sg 0 [0,0,0,0,0,0,0,0,0,0,0,3,0,0] (JD ch n d t e g m cap fill)/\0=G5 ch n d t e g m cap fill))))))):=by
 intro hw;have no:∀ {x:Int},x≠0->G5 ch n d t e g m cap fill=x->([C.i 0,C.i 0,C.i 0,C.i 0,C.i 0,C.i 0,C.i 0,C.i 0,C.i 0,C.i 0,C.i 0,C.l [],C.i 0,C.i 0]:List C)=sg 0 [0,0,0,0,0,0,0,0,0,0,0,3,0,0] (JD ch n d t e g m cap fill)/\x=G5 ch n d t e g m cap fill:=λh h1=>⟨by unfold JD; rw[if_neg (by omega)]; rfl,h1.symm⟩
 have n2:cap<1∨65536<cap∨fill<0∨cap<fill->G5 ch n d t e g m cap fill=2:=λh=>if_pos h;have n1:¬(cap<1∨65536<cap∨fill<0∨cap<fill)->AX (KT ch n d)=false∨Bd t e g m=false->G5 ch n d t e g m cap fill=1:=λh h1=>by unfold G5; rw[if_neg h,if_pos h1]
 have y0:¬(cap<1∨65536<cap∨fill<0∨cap<fill)->AX (KT ch n d)=true->Bd t e g m=true->Aan ch n d t e g m cap fill=sg 0 [0,0,0,0,0,0,0,0,0,0,0,3,0,0] (JD ch n d t e g m cap fill)/\0=G5 ch n d t e g m cap fill:=λh h1 h2=>by
  have e:G5 ch n d t e g m cap fill=0:=by unfold G5; rw[if_neg h,if_neg (by simp[h1,h2])]
  exact⟨by unfold JD; rw[if_pos e]; rfl,e.symm⟩
 have r1:Lc ch n d≠0->AX (KT ch n d)=false:=λh=>by
  cases hv:AX (KT ch n d)
  · rfl
  · exact(h (Zn hv).1).elim
 have r2:Lc ch n d=0->AX (KT ch n d)=true:=λh=>by
  cases hv:AX (KT ch n d)
  · unfold Lc at h; rw[if_pos hv]at h; cases h
  · rfl
 simp only[D,E];refine⟨λh=>no (by omega) (n2 (by omega)),λh0=>⟨λh=>no (by omega) (n2 (by omega)),λh1=>⟨λh=>no (by omega) (n2 (by omega)),λh2=>⟨λh=>no (by omega) (n2 (by omega)),λh3 _=> ?_⟩⟩⟩⟩;refine⟨λh5=>no (by omega) (n1 (by omega) (.inr h5)),λh5=>⟨λh4=>no (by omega) (n1 (by omega) (.inl (r1 h4))),λh4=> ?_⟩⟩;have hv:=r2 (by omega);have c:=Df (Eb hv).2;have c0:1<=ch/\ch<=8:=⟨c.1,c.2.1⟩
 have b:=Aa8 (x:=ch) (X:=8) (y:=fill) (Y:=65536) (by omega) (by omega) (by omega) (by omega);rw[(Zn hv).2];exact⟨by simp only[InR]; omega,⟨b.1,AlO _,by omega⟩,y0 (by omega) hv h5⟩
def r47:Cr PR:=K0 [r97,r98] 47 6 {ps:=[(false,hI),(true,hII),(true,hA),(false,hI),(false,hI)],rs:=[(true,hG),(false,hI)],out:=λa=>[rb [0,0,0,0,0,0,0,0,0,0,0,3,0,0] (JD (AnF a) (AnG a) (AnJ a) (AnI a) (AnO a) (I a 2 2) (I a 2 3) (AnM a) (AnN a)),[.i (G5 (AnF a) (AnG a) (AnJ a) (AnI a) (AnO a) (I a 2 2) (I a 2 3) (AnM a) (AnN a))]]} U λa=>Y (v47 (AnF a) (AnG a) (AnJ a) (AnI a) (AnO a) (I a 2 2) (I a 2 3) (AnM a) (AnN a))
theorem v176 (b:List C) (ch:Int) (da:List (List C)):WD hG b/\AnC ch/\WL hW da->True->True/\True/\Cn (bNot (BI b)) (KO (CQ b ch da)/\0=F7 b ch da/\1=ET b ch da) (True/\True/\Cn (bNot (AO ch da)) (KO (CQ b ch da)/\0=F7 b ch da/\1=ET b ch da) (Cn (bNe ch (qi 5 b)) (KO (CQ b ch da)/\0=F7 b ch da/\11=ET b ch da) (True/\(AnC (AQ ch da)->True/\(AnC (IQ b)->(pLe 0 0/\pLe 0 (iMin (AQ ch da) (Aa3 .i64 (iSub (qi 0 b) (IQ b))))/\pLe 1 ch/\pLe (iMul (iMin (AQ ch da) (Aa3 .i64 (iSub (qi 0 b) (IQ b)))) ch) (iLen da)/\pLe (iLen da) 1000000000)/\(AnC ch/\WL hW (cutRows da (some (iMul 0 ch)) (some (iMul (iMin (AQ ch da) (Aa3 .i64 (iSub (qi 0 b) (IQ b)))) ch)))->True/\(WD hR (DW (Bz b) ch (cutRows da (some (iMul 0 ch)) (some (iMul (iMin (AQ ch da) (Aa3 .i64 (iSub (qi 0 b) (IQ b)))) ch))))/\AnC (DZ (Bz b) ch (cutRows da (some (iMul 0 ch)) (some (iMul (iMin (AQ ch da) (Aa3 .i64 (iSub (qi 0 b) (IQ b)))) ch))))->sga 0 [0,0,0,0,0] b (sga 0 [0,0,0,0,0,0,3] (DW (Bz b) ch (cutRows da (some (iMul 0 ch)) (some (iMul (iMin (AQ ch da) (Aa3 .i64 (iSub (qi 0 b) (IQ b)))) ch)))) [C.i (Aa3 .i64 (iAdd (qi 12 b) (Aa3 .i64 (iSub (AQ ch da) (iMin (AQ ch da) (Aa3 .i64 (iSub (qi 0 b) (IQ b)))))))),C.i (qi 13 b)])=sg 0 [0,0,0,0,0,0,0,0,0,0,0,3,0,0] (CQ b ch da)/\Aa3 .i64 (iSub (AQ ch da) (iMin (AQ ch da) (Aa3 .i64 (iSub (qi 0 b) (IQ b)))))=F7 b ch da/\0=ET b ch da))))))):=by
 intro hw hp;have no:∀ {x:Int},x≠0->ET b ch da=x->([C.i 0,C.i 0,C.i 0,C.i 0,C.i 0,C.i 0,C.i 0,C.i 0,C.i 0,C.i 0,C.i 0,C.l [],C.i 0,C.i 0]:List C)=sg 0 [0,0,0,0,0,0,0,0,0,0,0,3,0,0] (CQ b ch da)/\0=F7 b ch da/\x=ET b ch da:=λh h1=>⟨by unfold CQ; rw[if_neg (by omega)]; rfl,(if_neg (by omega)).symm,h1.symm⟩
 simp only[D,E];refine⟨λh=>no (by omega) (if_pos (.inl h)),λh=>⟨λh1=>no (by omega) (if_pos (.inr h1)),λh1=>⟨λh2=>no (by omega) (by unfold ET; rw[if_neg (by simp[h,h1]),if_pos h2]),λh2=> ?_⟩⟩⟩;have e:ET b ch da=0:=by unfold ET; rw[if_neg (by simp[h,h1]),if_neg (by omega)]
 have v:=LV h;have w:=QT v.1;have c:=Df h1;have l:=Eo h1;have n0:0<=CY b ch da/\CY b ch da<=65536/\CY b ch da<=(da.length:Int)/ch/\CY b ch da<=qi 0 b-Ak (Bz b):=by unfold CY; omega
 have t:=Ue h1 n0.1 n0.2.2.1;have tl:Ak (Bz b)+((da.take (CY b ch da*ch).toNat).length:Int)/ch<=65536:=by rw[t.2,Ani _ (by omega)]; omega
 have f:=AaW v.1 t.1 (by show ch=qi 5 b; omega) tl;have m:=Aa8 (x:=CY b ch da) (X:=65536) (y:=ch) (Y:=8) (by omega) (by omega) (by omega) (by omega);have m1:CY b ch da*ch<=(da.length:Int):=by rw[←t.2,AlN]; omega
 have eL:F7 b ch da=(da.length:Int)/ch-CY b ch da:=if_pos e;intro _ _;rw[show AQ ch da=(da.length:Int)/ch by unfold AQ; rw[h1]; rfl,show IQ b=Ak (Bz b)from if_pos h,Gg (e:=qi 0 b-Ak (Bz b)) (by omega) (by omega)];rw[show min ((da.length:Int)/ch) (qi 0 b-Ak (Bz b))=CY b ch da from rfl,←eL,Gg (e:=F7 b ch da) (by omega) (by omega),Int.zero_mul];rw[show cutRows da (some 0) (some (CY b ch da*ch))=da.take (CY b ch da*ch).toNat from rfl];refine⟨by omega,λ_ _=>⟨?_,rfl,e.symm⟩⟩;rw[f.2]; unfold CQ; rw[if_pos e]; rfl
def r176:Cr PR:=Kw (λ_=>true) [r72,r108,r109,r221,r222,r111] 176 6 {ps:=[(true,hG),(true,hK)],rs:=[(true,hG),(false,hI),(false,hI)],out:=λa=>[rb [0,0,0,0,0,0,0,0,0,0,0,3,0,0] (CQ (AnQ a) (AnG a) (L a 1 1)),[.i (F7 (AnQ a) (AnG a) (L a 1 1))],[.i (ET (AnQ a) (AnG a) (L a 1 1))]]} U λa=>Y (v176 (AnQ a) (AnG a) (L a 1 1))
end Go.Sx

namespace Go
open Go.Sx
def OO (b:List C):Int:=IX (qi 1 b) (qi 2 b) (qi 3 b) (qi 4 b) (Ak (Bz b))
def Ho (b:List C):List C:=Nu (Wx b) (OO b)
def BQ (b:List C):List C:= .i (qi 5 b)::sga 0 [0,0,0,0,0] (Ho b) [.l (ql 11 b)]
def AC (b:List C) (n:Int):Int:=iMin (Gq (Ho b) (Ak (Bz b))) n
def Vt (b:List C):Int:=IX (qi 1 b) (qi 2 b) (qi 3 b) (qi 4 b) (IQ b)
def RX (b:List C):List C:=Nu (Wx b) (Vt b)
def J8 (b:List C):List C:= .i (qi 5 b)::sga 0 [0,0,0,0,0] (RX b) [.l (ql 11 b)]
def GI (b:List C) (n:Int):Int:=iMin (Gq (RX b) (Ak (J8 b))) n
def D8 (b:List C) (n:Int):Int:=if BI b=false then 1 else if n<0∨65536<n then 2 else FB (BQ b) (AC b n)
def Jg (b:List C) (n:Int):Int:=if D8 b n=0 then qi 5 b else 0
def I9 (b:List C) (n:Int):List (List C):=if D8 b n=0 then FQ (BQ b) (AC b n)++Jr (qi 5 b*(n-AC b n))else[]
def Jm (b:List C) (n:Int):Int:=if D8 b n=0 then n-AC b n else 0
def Ez (b:List C) (n:Int):List C:=if D8 b n=0 then sga 0 [0,0,0,0,0] b (sga 0 [0,0,0,0,0,0,3] (H8 (BQ b) (AC b n)) [.i (qi 12 b),.i (Aa3 .i64 (qi 13 b+(n-AC b n)))])else[]
theorem WS {b:List C} (h:BI b=true): -4096<=OO b/\OO b<=4096:=by
 have v:=(LV h).2.1;simp only[Bd,AlE]at v;have m1:=Al1 (show 0<=max 0 (qi 1 b-Ak (Bz b)-qi 2 b) by omega) (show 0<=qi 3 b by omega);have m2:=Al1 (show 0<=max 0 (Ak (Bz b)-qi 1 b-qi 2 b) by omega) (show 0<=qi 3 b by omega);unfold OO IX;split
 · omega
 · split<;>omega
theorem Xb {b:List C} (h:BI b=true):Ho b=[.i (qi 6 b),.i (qi 7 b),.i (OO b),.i (qi 9 b),.i (qi 10 b)]/\Bh (Ho b)=true:=by
 have v:Bh (Wx b)=true:=(Eb (LV h).1).1;have a:=WS h;have e:Ho b=[.i (qi 6 b),.i (qi 7 b),.i (OO b),.i (qi 9 b),.i (qi 10 b)]:=if_pos (by unfold Ko; rw[if_neg (by simp[v]),if_neg (by omega)]);refine⟨e,?_⟩;rw[e];unfold Bh AZ at v ⊢;rw[AlG,AlE]at v ⊢;exact⟨v.1,v.2.1,v.2.2.1,a.1,a.2,v.2.2.2.2.2⟩
theorem XO {b:List C} {n:Int} (h:BI b=true) (h0:0<=n) (h1:n<=65536):AX (BQ b)=true/\Ak (BQ b)=Ak (Bz b)/\Bg (BQ b)=Ho b/\0<=AC b n/\AC b n<=n/\JQ (Ho b) (AC b n)<=Ak (Bz b)/\D8 b n=FB (BQ b) (AC b n):=by
 have p:=Xb h;have v:=(LV h).1;have er:Bg (BQ b)=Ho b:=by unfold BQ; rw[p.1]; rfl
 have ev:AX (BQ b)=true:=by unfold AX; rw[er,p.2]; exact(Eb v).2
 have w:=QT v;have em:Gq (Ho b) (Ak (Bz b))=MK (Ho b) (Ak (Bz b)):=if_pos (Ur p.2 w.1 (by omega));have mb:=SX (Ho b) (Ak (Bz b));have M:AC b n=min (MK (Ho b) (Ak (Bz b))) n:=by unfold AC; rw[em]
 refine⟨ev,by rw[IJ ev,IJ v]; rfl,er,by omega,by omega,(Sr p.2 w.1 (by omega) (by omega)).2 (by omega),?_⟩;unfold D8; rw[if_neg (by simp[h]),if_neg (by omega)]
theorem Si {b:List C} {n x:Int} (h:x≠0) (h1:D8 b n=x):0=Jg b n/\[]=I9 b n/\0=Jm b n/\KO (Ez b n)/\x=D8 b n:=by
 have e:¬D8 b n=0:=by omega
 unfold Jg I9 Jm Ez;rw[if_neg e,if_neg e,if_neg e,if_neg e];exact⟨rfl,rfl,rfl,rfl,h1.symm⟩
theorem V7 {b:List C} {n:Int} (h:D8 b n=0):Jg b n=qi 5 b/\I9 b n=FQ (BQ b) (AC b n)++Jr (qi 5 b*(n-AC b n))/\Jm b n=n-AC b n/\Ez b n=sga 0 [0,0,0,0,0] b (sga 0 [0,0,0,0,0,0,3] (H8 (BQ b) (AC b n)) [.i (qi 12 b),.i (Aa3 .i64 (qi 13 b+(n-AC b n)))]):=⟨if_pos h,if_pos h,if_pos h,if_pos h⟩
theorem YS {b:List C} {n:Int} (h:BI b=true) (h1:n<0∨65536<n):D8 b n=2:=by unfold D8; rw[if_neg (by simp[h]),if_pos h1]
end Go
namespace Go.Sx
def AdK (b:List C) (n:Int):List C:=(Jz (J8 b) (GI b n))
theorem v177 (b:List C) (n:Int):WD hG b/\AnC n->True->True/\True/\Cn (bNot (BI b)) (0=Jg b n/\[]=I9 b n/\0=Jm b n/\KO (Ez b n)/\1=D8 b n) (Cn (bLt n 0) (0=Jg b n/\[]=I9 b n/\0=Jm b n/\KO (Ez b n)/\2=D8 b n) (Cn (bLt 65536 n) (0=Jg b n/\[]=I9 b n/\0=Jm b n/\KO (Ez b n)/\2=D8 b n) (True/\(AnC (IQ b)->True/\(AnC (Vt b)->True/\(WD hP (RX b)/\AnC (Ko (Wx b) (Vt b))->True/\(AnC (Ak (J8 b))->True/\(AnC (Gq (RX b) (Ak (J8 b)))/\AnC (Iw (RX b) (Ak (J8 b)))->True/\(AnC (Hw (J8 b) (GI b n))/\WL hW (GK (J8 b) (GI b n))/\WD hR (AdK b n)/\AnC (ER (J8 b) (GI b n))->Cn (bNe (ER (J8 b) (GI b n)) 0) (0=Jg b n/\[]=I9 b n/\0=Jm b n/\KO (Ez b n)/\ER (J8 b) (GI b n)=D8 b n) (True/\(AnC (JZ (qi 0 (AdK b n)) (Aa3 .i64 (iSub n (GI b n))))/\WL hW (EX (qi 0 (AdK b n)) (Aa3 .i64 (iSub n (GI b n))))/\AnC (Jv (qi 0 (AdK b n)) (Aa3 .i64 (iSub n (GI b n))))->(pLe (iLen (GK (J8 b) (GI b n))) 1000000000/\pLe (iLen (EX (qi 0 (AdK b n)) (Aa3 .i64 (iSub n (GI b n))))) 1000000000)/\(AnC (Hw (J8 b) (GI b n))/\WL hW (GK (J8 b) (GI b n)++EX (qi 0 (AdK b n)) (Aa3 .i64 (iSub n (GI b n))))->Hw (J8 b) (GI b n)=Jg b n/\GK (J8 b) (GI b n)++EX (qi 0 (AdK b n)) (Aa3 .i64 (iSub n (GI b n)))=I9 b n/\Aa3 .i64 (iSub n (GI b n))=Jm b n/\sga 0 [0,0,0,0,0] b (sga 0 [0,0,0,0,0,0,3] (AdK b n) [C.i (qi 12 b),C.i (Aa3 .i64 (iAdd (qi 13 b) (Aa3 .i64 (iSub n (GI b n)))))])=sg 0 [0,0,0,0,0,0,0,0,0,0,0,3,0,0] (Ez b n)/\0=D8 b n)))))))))))):=by
 intro hw hp;delta AdK;simp only[D,E];refine⟨λh=>Si (by omega) (if_pos h),λh=>⟨λh1=>Si (by omega) (YS h (.inl h1)),λh1=>⟨λh2=>Si (by omega) (YS h (.inr h2)),λh2 _ _ _ _ _ _=> ?_⟩⟩⟩;have q:=XO (n:=n) h (by omega) (by omega);have c:=Df (Eb q.1).2;have c0:1<=qi 5 b/\qi 5 b<=8:=⟨c.1,c.2.1⟩
 have ew:=Gg (e:=n-AC b n) (by omega) (by omega);have z:=Aa8 (x:=qi 5 b) (X:=8) (y:=n-AC b n) (Y:=65536) (by omega) (by omega) (by omega) (by omega);have t:=Zd (n:=AC b n) q.1 (by omega) (by omega);rw[q.2.1,q.2.2.1,if_neg (by omega),←q.2.2.2.2.2.2]at t;have eB:Vt b=OO b:=by unfold Vt OO; rw[show IQ b=Ak (Bz b)from if_pos h]
 have eS:RX b=Ho b:=by unfold RX Ho; rw[eB]
 have eT:J8 b=BQ b:=by unfold J8 BQ; rw[eS]
 have eO:GI b n=AC b n:=by unfold GI AC; rw[eS,eT,q.2.1]
 rw[eT,eO,ew];refine⟨λh3=>Si h3 t.symm,λh3 _=> ?_⟩;have e0:D8 b n=0:=by omega
 have y:=V7 e0;have ev:Jz (BQ b) (AC b n)=H8 (BQ b) (AC b n):=if_pos h3;have e5:qi 0 (H8 (BQ b) (AC b n))=qi 5 b:=by unfold H8; rw[if_pos (by omega)]; rfl
 have es:Jv (qi 5 b) (n-AC b n)=0:=if_pos (by omega);have ln:=P9 (BQ b) (AC b n) (by omega);have lb:=Aa8 (x:=((AC b n).toNat:Int)) (X:=65536) (y:=qi 0 (BQ b)) (Y:=8) (by omega) (by omega) (by omega) (by omega);rw[ev,e5,show EX (qi 5 b) (n-AC b n)=Jr (qi 5 b*(n-AC b n))from if_pos es,show GK (BQ b) (AC b n)=FQ (BQ b) (AC b n)from if_pos h3,show Hw (BQ b) (AC b n)=qi 5 b from if_pos h3,y.1,y.2.1,y.2.2.1,y.2.2.2];exact⟨⟨by omega,by rw[UI]; omega⟩,λ_=>⟨rfl,rfl,rfl,rfl,e0.symm⟩⟩
def r177:Cr PR:=Kw (λff=>true) [r72,r221,r125,r224,r223,r169,r170,r172,r173] 177 6 {ps:=[(true,hG),(false,hI)],rs:=[(true,hK),(false,hI),(true,hG),(false,hI)],out:=λa=>[[.i (Jg (AnQ a) (AnG a)),.l (I9 (AnQ a) (AnG a))],[.i (Jm (AnQ a) (AnG a))],rb [0,0,0,0,0,0,0,0,0,0,0,3,0,0] (Ez (AnQ a) (AnG a)),[.i (D8 (AnQ a) (AnG a))]]} U λa=>Y (v177 (AnQ a) (AnG a))
end Go.Sx

