import Derived.Test.YtejdbdegdanecaaGreatSxUse
import Derived.Test.YtejdbdegdanecaaGreatN42
import Derived.Test.YtejdbdegdanecaaGreatSxFmap
set_option linter.unusedVariables false
set_option linter.unusedSimpArgs false
set_option maxRecDepth 100000
set_option maxHeartbeats 4000000
namespace Go.Sx
abbrev hWt:List Sh:=[.int .u64,.sl hII,.bool]
end Go.Sx
namespace Go.Sx
def KF (u:List (Cr PR)) (f n:Nat) (ct:Ct) {t:TypeId} {e:List Sh} (A:List (List C)->FuncId->Nat->LoopAnn)
 (h:∀args,AdE (hyp (wfP.go (ofRess ct.ps args)) (ct.pre args->vcF PR (look (tbR u)) (λ_=>false) (A args) n f (ofRess ct.ps args) [] λsv heap=>Ahh t e ((((ct.out args).headD []).headD default).list) sv heap)))
 (hbx:ct.bx=none:=by rfl) (how:ct.ow=none:=by rfl) (hfr:ct.fr=some (t,e):=by rfl) (hfm:ct.fm=none:=by rfl) (hfl:e.all noSl1=true:=by rfl):Cr PR:=
 ⟨f,ct,AiI Aa8 (Abr (AdQ u)) (λ_=>false) A n f ct hbx how hfr hfm hfl (λa=>⟨λhw hp=>hyp_of (h a).out ((wfPs_iff _).2 hw) hp⟩)⟩
end Go.Sx
namespace Go
open Go.Sx
def DC (w d:List C) (a b:Int):List C:=[.i (qi 0 w),.l (ql 1 w++[[.i a,.i b]]),.b (qb 2 w|| !(LX d (ql 1 w++[[.i a,.i b]])))]
def UK (n z:Int):Prop:=0<=z/\z<=n
end Go
namespace Go.Sx
theorem v32 (xs:List (List C)):WL hII xs->pLe (iLen xs) 1000000->(xs=[]->xs=[])/\Aar 16 (iLen xs)/\Sm xs:=by
 intro hw hp;simp only[D,E]at hp ⊢;exact⟨λh=>h,by omega⟩
def r32:Cr PR:=KF [] 32 6 {ps:=[(false,[.sl hII])],rs:=[],pre:=λa=>pLe (iLen (L a 0 0)) 1000000,out:=λa=>[[.l (L a 0 0)]],fr:=some (67,[.int .i64,.int .i64])} U λa=>Y (v32 (L a 0 0))
end Go.Sx
namespace Go.Sx
theorem v12 (w:List C) (d:List C) (a:Int) (b:Int):InR .u64 (qi 0 w)/\WL hII (ql 1 w)/\WD hV d/\InR .i64 a/\InR .i64 b->pLe (iLen (ql 1 w)) 200->Aar 16 (iLen (ql 1 w))/\Aar 16 (iLen (ql 1 w++[[C.i a,C.i b]]))/\(pLe (iLen (ql 1 w++[[C.i a,C.i b]])) 9223372036854775807->InR .i64 (iSub (iLen (ql 1 w++[[C.i a,C.i b]])) 256)/\geB (some (iMax 0 (iSub (iLen (ql 1 w++[[C.i a,C.i b]])) 256))) none (iLen (ql 1 w++[[C.i a,C.i b]]))/\Cn (qb 2 w) (qi 0 w=qi 0 (DC w d a b)/\cutRows (ql 1 w++[[C.i a,C.i b]]) (some (iMax 0 (iSub (iLen (ql 1 w++[[C.i a,C.i b]])) 256))) none=ql 1 (DC w d a b)/\true=qb 2 (DC w d a b)) (True/\True/\qi 0 w=qi 0 (DC w d a b)/\cutRows (ql 1 w++[[C.i a,C.i b]]) (some (iMax 0 (iSub (iLen (ql 1 w++[[C.i a,C.i b]])) 256))) none=ql 1 (DC w d a b)/\bNot (LX d (cutRows (ql 1 w++[[C.i a,C.i b]]) (some (iMax 0 (iSub (iLen (ql 1 w++[[C.i a,C.i b]])) 256))) none))=qb 2 (DC w d a b))):=by
 intro hw hp;obtain⟨w0,w1,_⟩:=hw;have l:(ql 1 w++[[C.i a,C.i b]]).length=(ql 1 w).length+1:=by simp
 simp only[D,E]at hp ⊢;rw[l];have z:max 0 ((((ql 1 w).length+1:Nat):Int)-256)=0:=by omega
 have c:cutRows (ql 1 w++[[C.i a,C.i b]]) (some 0) none=ql 1 w++[[C.i a,C.i b]]:=rfl;rw[z,c];refine⟨by omega,by omega,λ_=>⟨by simp only[InR]; omega,⟨by decide,by omega⟩,λh=>⟨rfl,rfl,?_⟩,λh=>⟨rfl,rfl,?_⟩⟩⟩
 all_goals (show _=(qb 2 w||_); rw[h]; rfl)
def r12:Cr PR:=K [r35] 12 8 {ps:=[(true,hWt),(true,hV),(true,hII)],rs:=[(true,hWt)],pre:=λa=>pLe (iLen (ql 1 (arg 0 a))) 200,out:=λa=>[rb [0,3,1] (DC (arg 0 a) (arg 1 a) (I a 2 0) (I a 2 1))]} U λa=>Y (v12 (arg 0 a) (arg 1 a) (I a 2 0) (I a 2 1))
end Go.Sx
namespace Go.Sx
theorem v10 (w:List C) (d:List C) (a:Int) (b:Int):InR .u64 (qi 0 w)/\WL hII (ql 1 w)/\WD hV d/\InR .i64 a/\InR .i64 b->pLe (iLen (ql 1 w)) 200->pLe (iLen (ql 1 w)) 1000000/\Aar 16 (iLen (ql 1 w++[[C.i a,C.i b]]))/\(pLe (iLen (ql 1 w++[[C.i a,C.i b]])) 9223372036854775807->Cn (bLt 256 (iLen (ql 1 w++[[C.i a,C.i b]]))) (geB (some 1) none (iLen (ql 1 w++[[C.i a,C.i b]]))/\Cn (qb 2 w) (qi 0 w=qi 0 (DC w d a b)/\cutRows (ql 1 w++[[C.i a,C.i b]]) (some 1) none=ql 1 (DC w d a b)/\true=qb 2 (DC w d a b)) (True/\True/\qi 0 w=qi 0 (DC w d a b)/\cutRows (ql 1 w++[[C.i a,C.i b]]) (some 1) none=ql 1 (DC w d a b)/\bNot (LX d (cutRows (ql 1 w++[[C.i a,C.i b]]) (some 1) none))=qb 2 (DC w d a b))) (Cn (qb 2 w) (qi 0 w=qi 0 (DC w d a b)/\ql 1 w++[[C.i a,C.i b]]=ql 1 (DC w d a b)/\true=qb 2 (DC w d a b)) (True/\True/\qi 0 w=qi 0 (DC w d a b)/\ql 1 w++[[C.i a,C.i b]]=ql 1 (DC w d a b)/\bNot (LX d (ql 1 w++[[C.i a,C.i b]]))=qb 2 (DC w d a b)))):=by
 intro hw hp;obtain⟨w0,w1,_⟩:=hw;have l:(ql 1 w++[[C.i a,C.i b]]).length=(ql 1 w).length+1:=by simp
 simp only[D,E]at hp ⊢;rw[l];refine⟨by omega,by omega,λ_=>⟨λh=>by omega,λ_=>⟨λh=>⟨rfl,rfl,?_⟩,λh=>⟨rfl,rfl,?_⟩⟩⟩⟩
 all_goals (show _=(qb 2 w||_); rw[h]; rfl)
def r10:Cr PR:=K [r32,r33] 10 8 {ps:=[(true,hWt),(true,hV),(true,hII)],rs:=[(true,hWt)],pre:=λa=>pLe (iLen (ql 1 (arg 0 a))) 200,out:=λa=>[rb [0,3,1] (DC (arg 0 a) (arg 1 a) (I a 2 0) (I a 2 1))]} U λa=>Y (v10 (arg 0 a) (arg 1 a) (I a 2 0) (I a 2 1))
end Go.Sx
namespace Go.Sx
def A13 (w:List C):FuncId->Nat->LoopAnn:=λ_ _=>lp 5 (ql 1 w).length (UK (ql 1 w).length) [0,1,2,3,4,5,26,31,44]
theorem v13 (w:List C) (v:List C):InR .u64 (qi 0 w)/\WL hII (ql 1 w)/\InR .u64 (qi 0 v)/\WL hII (ql 1 v)->w=v/\True->Cn (bNe (qi 0 w) (qi 0 v)) (false=true) (Cn (Ajq (qb 2 w) (qb 2 v)) (false=true) (pLe (iLen (ql 1 w)) 9223372036854775807->pLe (iLen (ql 1 v)) 9223372036854775807->Cn (bNe (iLen (ql 1 w)) (iLen (ql 1 v))) (false=true) ((∃(x:Int),UK (↑(ql 1 w).length) x/\0=x)/\∀(x:Int),UK (↑(ql 1 w).length) x->InR .i64 x->pLe (iLen (ql 1 w)) 9223372036854775807->Cn (bLt x (iLen (ql 1 w))) (pIn 0 (iLen (ql 1 w)) x/\(InR .i64 (qi 0 (rGet (ql 1 w) x))/\InR .i64 (qi 1 (rGet (ql 1 w) x))->pIn 0 (iLen (ql 1 v)) x/\(InR .i64 (qi 0 (rGet (ql 1 v) x))/\InR .i64 (qi 1 (rGet (ql 1 v) x))->Cn (bNot (bAnd (bEq (qi 0 (rGet (ql 1 w) x)) (qi 0 (rGet (ql 1 v) x))) (bEq (qi 1 (rGet (ql 1 w) x)) (qi 1 (rGet (ql 1 v) x))))) (false=true) (InR .i64 (iAdd x 1)/\Sm (sg 0 [0,3,1] w)/\Sm (sg 0 [0,3,1] v)/\Sm (sg 0 [0,3,1] w)/\Sm (sg 0 [0,3,1] v)/\∃(y:Int),UK (↑(ql 1 w).length) y/\iAdd x 1=y/\nLt ((ql 1 w).length-y.toNat) ((ql 1 w).length-x.toNat))))) (Sm true)))):=by
 intro hw hp;obtain⟨rfl,_⟩:=hp;simp only[D,E];refine⟨λh=>(h trivial).elim,λh=>by simp at h,λ_ _ hn=>⟨λh=>(h trivial).elim,⟨0,⟨Int.le_refl _,by omega⟩,rfl⟩,λx ⟨x0,x1⟩ _ _=>⟨λhl=>⟨⟨x0,hl⟩,λ_=>⟨⟨x0,hl⟩,λ_=>⟨λh=>by simp at h,λ_=>⟨by simp only[InR]; omega,x+1,⟨by omega,by omega⟩,rfl,by omega⟩⟩⟩⟩,λ_=>trivial⟩⟩⟩
def r13:Cr PR:=K [] 13 8 {ps:=[(true,hWt),(true,hWt)],rs:=[(false,[.bool])],pre:=λa=>(arg 0 a)=(arg 1 a)/\True,out:=λ_=>[[.b true]]} (λa=>A13 (arg 0 a)) λa=>Y (v13 (arg 0 a) (arg 1 a))
end Go.Sx
namespace Go.Sx
theorem v5:True/\(InR .i64 1/\InR .i64 3/\InR .i64 1/\InR .u64 0->InR .i64 1/\InR .i64 5/\InR .i64 1/\InR .u64 0->True/\True/\Cn (bAnd (bEq (0+1) 1) (AgB false false)) (True/\(InR .i64 1/\InR .i64 3/\InR .i64 1/\InR .u64 0->True/\True/\(InR .i64 1/\InR .i64 5/\InR .i64 1/\InR .u64 0->True/\True/\(InR .i64 3->Cn (bAnd (bEq 0 0) (AgB false false)) (True/\bAnd (bEq (-1) (-1)) (AgB true true)=true) (false=true))))) (false=true)):=by
 simp[D,E,InR,AgB]
def r5:Cr PR:=K0 [] 5 8 {ps:=[],rs:=[(false,[.bool])],pre:=λ_=>True,out:=λ_=>[[.b true]]} U λa=>Y (v5)
end Go.Sx

set_option linter.unusedVariables false
set_option linter.unusedSimpArgs false
set_option maxRecDepth 100000
set_option maxHeartbeats 4000000
namespace Go
open Go.Sx
def SC (e x:List C):Prop:=x=[]∨(qi 0 x=qi 0 e/\qi 1 x=qi 1 e/\qi 2 x=qi 2 e/\ql 3 x=ql 3 e)
theorem Zg (e:List C) (id dir:Int) (m:List (List C)) (r c s:Int):SC e (JJ e id dir m r c s):=by
 unfold JJ; split
 · exact .inr ⟨rfl,rfl,rfl,rfl⟩
 · exact .inl rfl
theorem Zl (e:List C) (id d:Int):SC e (J4 e id d):=by
 unfold J4; split
 · exact .inr ⟨rfl,rfl,rfl,rfl⟩
 · exact .inl rfl
theorem YU (e:List C) (id c:Int) (d:List (List C)):SC e (KO e id c d):=by
 unfold KO; split
 · exact .inr ⟨rfl,rfl,rfl,rfl⟩
 · exact .inl rfl
theorem Y0 (e:List C) (id c:Int):SC e (GI e id c):=by
 unfold GI; split
 · exact .inr ⟨rfl,rfl,rfl,rfl⟩
 · exact .inl rfl
theorem X0 {P:Nat->List C->Prop} {l:List (List C)} {k:Int} (h0:P 0 (UY l k)) (hH:∀k id e,P 0 e->UJ l k id e=0->P 0 (NG l k id e))
 (hv:∀e x,P 0 e->SC e x->P 0 x) (hq:∀n e,P n e->Gv e (Gs e)=0->P (n+1) (Iy e (Gs e))) (hm:∀n e,P n e->P (n+1) e):P (NZ l k).toNat (EO l k):=by
 have o:∀n,P 0 (Gu l k n).2:=λn=>by
  induction n with
  |zero=>exact h0
  |succ n ih=>
   show P 0 (FB l (Gu l k n).1 (n+1) (Gu l k n).2).2
   unfold FB
   split
   · exact ih
   · split
     · rename_i h; exact hH _ _ _ ih h
     · exact ih
 have w:∀n,P 0 (Fh l k n).2:=λn=>by
  induction n with
  |zero=>exact o 3
  |succ n ih=>
   show P 0 (MM l (Fh l k n).1 (n+1) (Fh l k n).2).2
   generalize Fh l k n=z at*
   unfold MM
   split
   · exact ih
   · show P 0 (SK l z.1 (n+1) z.2)
     have a1:P 0 (Qb l z.1 (n+1) z.2):=hv _ _ ih (Zg ..)
     have a2:P 0 (O0 l z.1 (n+1) z.2):=by
      unfold O0; split
      · exact hv _ _ a1 (Zl ..)
      · exact a1
     have a3:P 0 (Nw l z.1 (n+1) z.2):=by
      unfold Nw; split
      · exact hv _ _ a2 (YU ..)
      · exact a2
     unfold SK; split
     · exact hv _ _ a3 (Y0 ..)
     · exact a3
 have q:∀n,P n (Qd (Fh l k 3).2 n):=λn=>by
  induction n with
  |zero=>exact w 3
  |succ n ih=>
   show P (n+1) (NF (Qd (Fh l k 3).2 n))
   unfold NF
   split
   · rename_i h; exact hq _ _ ih h
   · exact hm _ _ ih
 exact q _
theorem X5 (l:List (List C)) (k:Int):0<=qi 1 (EO l k)/\qi 1 (EO l k)<=32:=by
 have z:0<=qi 1 ([]:List C)/\qi 1 ([]:List C)<=32:=by decide
 refine X0 (P:=λ_ e=>0<=qi 1 e/\qi 1 e<=32) ?_ (λk id e h _=> ?_) (λe x h q=> ?_) (λn e h he=> ?_) (λ_ _ h=>h)
 · unfold UY I4;split
   · show 0<=qi 0 (rGet FH _)/\qi 0 (rGet FH _)<=32;have n:=KY l (Aj l k) (n:=2) (by decide);have c:Aw l (Aj l k) 2=0∨Aw l (Aj l k) 2=1:=by omega
     rcases c with c|c<;>rw[c]<;>decide
   · exact z
 · unfold NG KW;split
   · exact h
   · exact z
 · rcases q with rfl|q
   · exact z
   · rw[q.2.1]; exact h
 · unfold Iy; rw[if_pos he]; exact h
end Go
namespace Go
open Go.Sx
def TZ (z:Int×Int×List C):Prop:=0<=z.1/\z.1<=11/\0<=z.2.1/\((ql 1 z.2.2).length:Int)+z.1<=11
end Go
namespace Go.Sx
def A4 (l:List (List C)):FuncId->Nat->LoopAnn:=λ_ _=> .on (λsv0=>match sv0.tmps.getD 9 .undef with| .ref ka _=>(match sv0.tmps.getD 12 .undef with| .ref kb _=>(match sv0.tmps.getD 13 .undef with| .ref kc _=> .inv (Int×Int×List C) (λz=>TZ z) (λz=>[(14,.int .i64 z.1)]) (λz=>[(ka,.box (ofCs hDk [.l l,.i z.2.1]) 108),(kb,.box (ofCs hWt z.2.2) 61),(kc,.box (ofCs hWt z.2.2) 61)]) [ka,kb,kc] [0,1,2,3,5,6,8,9,10,11,12,13,14,15,17,21,29,51,74] (λz=>z.1.toNat)|_=> .unroll 0)|_=> .unroll 0)|_=> .unroll 0)
def m4_0 (l:List (List C)) (n:Int) (x:Int×Int×List C):List C:=(DC x.2.2 (rGet (ql 3 (EO l 0)) (n % iLen (ql 3 (EO l 0)))) (iSub (iAdd (qi 1 (EO l 0)) (Aw l x.2.1 5)) 2) (qi 1 (EO l 0)))
def m4_1 (l:List (List C)) (n:Int):List C:=(rGet (ql 3 (EO l 0)) (n % iLen (ql 3 (EO l 0))))
theorem v4 (l:List (List C)) (raw:List C) (ta:Int) (tb:Int) (n:Int):WL hI l/\InR .u64 (qi 0 raw)/\WL hII (ql 1 raw)/\InR .i64 ta/\InR .i64 tb/\InR .i64 n->True/\True/\Cn (bNot true) (false=true) (pLe (iLen (ql 1 raw)) 9223372036854775807->Cn (bLt 20 (iLen (ql 1 raw))) (Sm true) (True/\(pLe 0 0/\True)/\(WD hE (EO l 0)->pLe (iLen (ql 3 (EO l 0))) 9223372036854775807->Cn (bEq (iLen (ql 3 (EO l 0))) 0) (Sm true) (pLe (iLen (ql 3 (EO l 0))) 9223372036854775807->(pLe 1 (iLen (ql 3 (EO l 0)))/\True)/\(InR .i64 (n % iLen (ql 3 (EO l 0)))->pIn 0 (iLen (ql 3 (EO l 0))) (n % iLen (ql 3 (EO l 0)))/\(WD hV (m4_1 l n)->(pLe 0 (MK l 0)/\pLe 1 12)/\(InR .i64 (Aw l (MK l 0) 12)->(∃(x:Int×Int×List C),TZ x/\Aw l (MK l 0) 12=x.1/\Sm l/\Aj l (MK l 0)=x.2.1/\qi 0 (m4_1 l n)=qi 0 x.2.2/\ql 1 x.2.2=[]/\false=qb 2 x.2.2/\qi 0 (m4_1 l n)=qi 0 x.2.2/\ql 1 x.2.2=[]/\false=qb 2 x.2.2)/\∀(x:Int×Int×List C),TZ x->InR .i64 x.1/\WL hI l/\InR .i64 x.2.1/\InR .u64 (qi 0 x.2.2)/\WL hII (ql 1 x.2.2)/\InR .u64 (qi 0 x.2.2)/\WL hII (ql 1 x.2.2)->Cn (bLt 0 x.1) ((pLe 0 x.2.1/\pLe 1 5)/\(InR .i64 (Aw l x.2.1 5)->InR .i64 (iAdd (qi 1 (EO l 0)) (Aw l x.2.1 5))/\InR .i64 (iSub (iAdd (qi 1 (EO l 0)) (Aw l x.2.1 5)) 2)/\pLe (iLen (ql 1 x.2.2)) 200/\(InR .u64 (qi 0 (m4_0 l n x))/\WL hII (ql 1 (m4_0 l n x))->pLe (iLen (ql 1 x.2.2)) 200/\(InR .u64 (qi 0 (m4_0 l n x))/\WL hII (ql 1 (m4_0 l n x))->(Sm (sg 0 [0,3,1] (m4_0 l n x))/\True)/\True/\Cn (bNot true) (false=true) (InR .i64 (iSub x.1 1)/\Sm l/\Sm (sg 0 [0,3,1] raw)/\Sm [C.i ta,C.i tb]/\Sm n/\Sm (sg 0 [0,3,1] raw)/\Sm [C.i ta,C.i tb]/\Sm (sg 0 [0,0,0,3,3] (EO l 0))/\Sm (Ox (m4_1 l n))/\∃(y:Int×Int×List C),TZ y/\iSub x.1 1=y.1/\Sm l/\Aj l x.2.1=y.2.1/\qi 0 (m4_0 l n x)=qi 0 y.2.2/\ql 1 (m4_0 l n x)=ql 1 y.2.2/\qb 2 (m4_0 l n x)=qb 2 y.2.2/\qi 0 (m4_0 l n x)=qi 0 y.2.2/\ql 1 (m4_0 l n x)=ql 1 y.2.2/\qb 2 (m4_0 l n x)=qb 2 y.2.2/\nLt y.1.toNat x.1.toNat))))) (pLe (iLen (ql 1 raw)) 200/\(InR .u64 (qi 0 (DC raw (m4_1 l n) ta tb))/\WL hII (ql 1 (DC raw (m4_1 l n) ta tb))->pLe (iLen (ql 1 raw)) 200/\(InR .u64 (qi 0 (DC raw (m4_1 l n) ta tb))/\WL hII (ql 1 (DC raw (m4_1 l n) ta tb))->(Sm (sg 0 [0,3,1] (DC raw (m4_1 l n) ta tb))/\True)/\Cn true (pLe (iLen (ql 1 x.2.2)) 200/\(InR .u64 (qi 0 (DC x.2.2 (m4_1 l n) ta tb))/\WL hII (ql 1 (DC x.2.2 (m4_1 l n) ta tb))->pLe (iLen (ql 1 x.2.2)) 200/\(InR .u64 (qi 0 (DC x.2.2 (m4_1 l n) ta tb))/\WL hII (ql 1 (DC x.2.2 (m4_1 l n) ta tb))->(Sm (sg 0 [0,3,1] (DC x.2.2 (m4_1 l n) ta tb))/\True)/\Sm true))) (false=true))))))))))):=by
 intro hw;delta m4_0 m4_1;have hp:=X5 l 0;have k0:0<=MK l 0:=HY (Vh l (Int.le_refl 0) 3);have n12:=KY l (MK l 0) (n:=12) (by decide);simp only[D,E];refine⟨λh=>(by cases h),λ_=>⟨λ_=>trivial,λh20=>⟨Int.le_refl _,λ_ _=>⟨λ_=>trivial,λhn _=>⟨by omega,λ_=>⟨⟨Int.emod_nonneg _ hn,Int.emod_lt_of_pos _ (by omega)⟩,λ_=> ?_⟩⟩⟩⟩⟩⟩;generalize rGet (ql 3 (EO l 0)) (n % ((ql 3 (EO l 0)).length:Int))=d;refine⟨⟨k0,by decide⟩,λ_=>⟨⟨(Aw l (MK l 0) 12,Aj l (MK l 0),[.i (qi 0 d),.l [],.b false]),⟨n12.1,by simp only; omega,HY k0,by show((0:Nat):Int)+_<=11; omega⟩,rfl,rfl,rfl,rfl,rfl,rfl,rfl,rfl⟩,λx ⟨x0,x1,x2,x3⟩ _=>⟨λhx=>⟨⟨x2,by decide⟩,λ_=> ?_⟩,λhx=> ?_⟩⟩⟩
 · have n5:=KY l x.2.1 (n:=5) (by decide);refine⟨by simp only[InR]; omega,by simp only[InR]; omega,by omega,λ_=>⟨by omega,λ_=>⟨λh=>(by cases h),by simp only[InR]; omega,(x.1-1,Aj l x.2.1,DC x.2.2 d _ _),⟨by simp only; omega,by simp only; omega,HY x2,?_⟩,rfl,rfl,rfl,rfl,rfl,rfl,rfl,rfl,by simp only; omega⟩⟩⟩;show((ql 1 x.2.2++[_]).length:Int)+(x.1-1)<=11;rw[List.length_append,List.length_singleton]; omega
 · exact⟨by omega,λ_=>⟨by omega,λ_=>⟨⟨by omega,λ_=>⟨by omega,λ_=>trivial⟩⟩,λh=>(by cases h)⟩⟩⟩
theorem u4 (l:List (List C)) (raw:List C) (ta:Int) (tb:Int) (n:Int):AdE (hyp (wfP.go [.sl [.int .i64] l,.agg (ofCs hWt raw),.agg [.int .i64 ta,.int .i64 tb],.int .i64 n]) (vcF PR (look (tbR [r5,r7,r6,r8,r11,r10,r12,r13])) (λ_=>false) (A4 l) 8 4 [.sl [.int .i64] l,.agg (ofCs hWt raw),.agg [.int .i64 ta,.int .i64 tb],.int .i64 n] [] (λsv _=>Aix sv))):=Y (v4 l raw ta tb n)
end Go.Sx

