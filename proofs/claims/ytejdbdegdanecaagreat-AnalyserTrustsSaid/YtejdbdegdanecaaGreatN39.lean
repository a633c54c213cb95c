import Derived.Test.YtejdbdegdanecaaGreatSxUse
import Derived.Test.YtejdbdegdanecaaGreatN42
import Derived.Test.YtejdbdegdanecaaGreatSxFmap
import Derived.Test.YtejdbdegdanecaaGreatM20
set_option linter.unusedVariables false
set_option linter.unusedSimpArgs false
set_option maxRecDepth 100000
set_option maxHeartbeats 4000000
namespace Go.Sx
abbrev hWt:List Sh:=[.int .u64,.sl hII,.bool]
def KF (u:List (Cr PR)) (f n:Nat) (ct:Ct) {t:TypeId} {e:List Sh} (A:List (List C)->FuncId->Nat->LoopAnn)
 (h:∀args,Ad6 (hyp (wfP.go (ofRess ct.ps args)) (ct.pre args->vcF PR (look (tbR u)) (λ_=>false) (A args) n f (ofRess ct.ps args) [] λsv heap=>Ah2 t e ((((ct.out args).headD []).headD default).list) sv heap)))
 (hbx:ct.bx=none:=by rfl) (how:ct.ow=none:=by rfl) (hfr:ct.fr=some (t,e):=by rfl) (hfm:ct.fm=none:=by rfl) (hfl:e.all noSl1=true:=by rfl):Cr PR:=
 ⟨f,ct,Ajs AbT (Acb (AeA u)) (λ_=>false) A n f ct hbx how hfr hfm hfl (λa=>⟨λhw hp=>hyp_of (h a).out ((wfPs_iff _).2 hw) hp⟩)⟩
end Go.Sx
namespace Go
open Go.Sx
def Dz (w d:List C) (a b:Int):List C:=[.i (qi 0 w),.l (ql 1 w++[[.i a,.i b]]),.b (qb 2 w|| !(IE d (ql 1 w++[[.i a,.i b]])))]
def Vx (n z:Int):Prop:=0<=z/\z<=n
end Go
namespace Go.Sx
theorem v32 (xs:List (List C)):WL hII xs->pLe (iLen xs) 1000000->(xs=[]->xs=[])/\Abb 16 (iLen xs)/\Sm xs:=by
 intro hw hp;simp only[D,E]at hp ⊢;exact⟨λh=>h,by omega⟩
def r32:Cr PR:=KF [] 32 6 {ps:=[(false,[.sl hII])],rs:=[],pre:=λa=>pLe (iLen (L a 0 0)) 1000000,out:=λa=>[[.l (L a 0 0)]],fr:=some (67,[.int .i64,.int .i64])} U λa=>Y (v32 (L a 0 0))
theorem v12 (w:List C) (d:List C) (a:Int) (b:Int):AnD (qi 0 w)/\WL hII (ql 1 w)/\WD hV d/\AnC a/\AnC b->pLe (iLen (ql 1 w)) 200->Abb 16 (iLen (ql 1 w))/\Abb 16 (iLen (ql 1 w++[[C.i a,C.i b]]))/\(AnE (ql 1 w++[[C.i a,C.i b]])->AnC (iSub (iLen (ql 1 w++[[C.i a,C.i b]])) 256)/\geB (some (iMax 0 (iSub (iLen (ql 1 w++[[C.i a,C.i b]])) 256))) none (iLen (ql 1 w++[[C.i a,C.i b]]))/\Cn (qb 2 w) (qi 0 w=qi 0 (Dz w d a b)/\cutRows (ql 1 w++[[C.i a,C.i b]]) (some (iMax 0 (iSub (iLen (ql 1 w++[[C.i a,C.i b]])) 256))) none=ql 1 (Dz w d a b)/\true=qb 2 (Dz w d a b)) (True/\True/\qi 0 w=qi 0 (Dz w d a b)/\cutRows (ql 1 w++[[C.i a,C.i b]]) (some (iMax 0 (iSub (iLen (ql 1 w++[[C.i a,C.i b]])) 256))) none=ql 1 (Dz w d a b)/\bNot (IE d (cutRows (ql 1 w++[[C.i a,C.i b]]) (some (iMax 0 (iSub (iLen (ql 1 w++[[C.i a,C.i b]])) 256))) none))=qb 2 (Dz w d a b))):=by
 intro hw hp;obtain⟨w0,w1,_⟩:=hw;have l:(ql 1 w++[[C.i a,C.i b]]).length=(ql 1 w).length+1:=by simp
 simp only[D,E]at hp ⊢;rw[l];have z:max 0 ((((ql 1 w).length+1:Nat):Int)-256)=0:=by omega
 have c:cutRows (ql 1 w++[[C.i a,C.i b]]) (some 0) none=ql 1 w++[[C.i a,C.i b]]:=rfl;rw[z,c];refine⟨by omega,by omega,λ_=>⟨by simp only[InR]; omega,⟨by decide,by omega⟩,λh=>⟨rfl,rfl,?_⟩,λh=>⟨rfl,rfl,?_⟩⟩⟩
 all_goals (show _=(qb 2 w||_); rw[h]; rfl)
def r12:Cr PR:=K [r35] 12 8 {ps:=[(true,hWt),(true,hV),(true,hII)],rs:=[(true,hWt)],pre:=λa=>pLe (iLen (ql 1 (AnQ a))) 200,out:=λa=>[rb [0,3,1] (Dz (AnQ a) (AnR a) (AnI a) (AnO a))]} U λa=>Y (v12 (AnQ a) (AnR a) (AnI a) (AnO a))
theorem v10 (w:List C) (d:List C) (a:Int) (b:Int):AnD (qi 0 w)/\WL hII (ql 1 w)/\WD hV d/\AnC a/\AnC b->pLe (iLen (ql 1 w)) 200->pLe (iLen (ql 1 w)) 1000000/\Abb 16 (iLen (ql 1 w++[[C.i a,C.i b]]))/\(AnE (ql 1 w++[[C.i a,C.i b]])->Cn (bLt 256 (iLen (ql 1 w++[[C.i a,C.i b]]))) (geB (some 1) none (iLen (ql 1 w++[[C.i a,C.i b]]))/\Cn (qb 2 w) (qi 0 w=qi 0 (Dz w d a b)/\cutRows (ql 1 w++[[C.i a,C.i b]]) (some 1) none=ql 1 (Dz w d a b)/\true=qb 2 (Dz w d a b)) (True/\True/\qi 0 w=qi 0 (Dz w d a b)/\cutRows (ql 1 w++[[C.i a,C.i b]]) (some 1) none=ql 1 (Dz w d a b)/\bNot (IE d (cutRows (ql 1 w++[[C.i a,C.i b]]) (some 1) none))=qb 2 (Dz w d a b))) (Cn (qb 2 w) (qi 0 w=qi 0 (Dz w d a b)/\ql 1 w++[[C.i a,C.i b]]=ql 1 (Dz w d a b)/\true=qb 2 (Dz w d a b)) (True/\True/\qi 0 w=qi 0 (Dz w d a b)/\ql 1 w++[[C.i a,C.i b]]=ql 1 (Dz w d a b)/\bNot (IE d (ql 1 w++[[C.i a,C.i b]]))=qb 2 (Dz w d a b)))):=by
 intro hw hp;obtain⟨w0,w1,_⟩:=hw;have l:(ql 1 w++[[C.i a,C.i b]]).length=(ql 1 w).length+1:=by simp
 simp only[D,E]at hp ⊢;rw[l];refine⟨by omega,by omega,λ_=>⟨λh=>by omega,λ_=>⟨λh=>⟨rfl,rfl,?_⟩,λh=>⟨rfl,rfl,?_⟩⟩⟩⟩
 all_goals (show _=(qb 2 w||_); rw[h]; rfl)
def r10:Cr PR:=K [r32,r33] 10 8 {ps:=[(true,hWt),(true,hV),(true,hII)],rs:=[(true,hWt)],pre:=λa=>pLe (iLen (ql 1 (AnQ a))) 200,out:=λa=>[rb [0,3,1] (Dz (AnQ a) (AnR a) (AnI a) (AnO a))]} U λa=>Y (v10 (AnQ a) (AnR a) (AnI a) (AnO a))
def A13 (w:List C):FuncId->Nat->LoopAnn:=λ_ _=>lp 5 (ql 1 w).length (Vx (ql 1 w).length) [0,1,2,3,4,5,26,31,44]
theorem v13 (w:List C) (v:List C):AnD (qi 0 w)/\WL hII (ql 1 w)/\AnD (qi 0 v)/\WL hII (ql 1 v)->w=v/\True->Cn (bNe (qi 0 w) (qi 0 v)) (false=true) (Cn (Akb (qb 2 w) (qb 2 v)) (false=true) (AnE (ql 1 w)->AnE (ql 1 v)->Cn (bNe (iLen (ql 1 w)) (iLen (ql 1 v))) (false=true) ((∃(x:Int),Vx (↑(ql 1 w).length) x/\0=x)/\∀(x:Int),Vx (↑(ql 1 w).length) x->AnC x->AnE (ql 1 w)->Cn (bLt x (iLen (ql 1 w))) (pIn 0 (iLen (ql 1 w)) x/\(AnC (qi 0 (rGet (ql 1 w) x))/\AnC (qi 1 (rGet (ql 1 w) x))->pIn 0 (iLen (ql 1 v)) x/\(AnC (qi 0 (rGet (ql 1 v) x))/\AnC (qi 1 (rGet (ql 1 v) x))->Cn (bNot (bAnd (bEq (qi 0 (rGet (ql 1 w) x)) (qi 0 (rGet (ql 1 v) x))) (bEq (qi 1 (rGet (ql 1 w) x)) (qi 1 (rGet (ql 1 v) x))))) (false=true) (AnC (iAdd x 1)/\Sm (sg 0 [0,3,1] w)/\Sm (sg 0 [0,3,1] v)/\Sm (sg 0 [0,3,1] w)/\Sm (sg 0 [0,3,1] v)/\∃(y:Int),Vx (↑(ql 1 w).length) y/\iAdd x 1=y/\nLt ((ql 1 w).length-y.toNat) ((ql 1 w).length-x.toNat))))) (Sm true)))):=by
 intro hw hp;obtain⟨rfl,_⟩:=hp;simp only[D,E];refine⟨λh=>(h trivial).elim,λh=>by simp at h,λ_ _ hn=>⟨λh=>(h trivial).elim,⟨0,⟨AlO _,by omega⟩,rfl⟩,λx ⟨x0,x1⟩ _ _=>⟨λhl=>⟨⟨x0,hl⟩,λ_=>⟨⟨x0,hl⟩,λ_=>⟨λh=>by simp at h,λ_=>⟨by simp only[InR]; omega,x+1,⟨by omega,by omega⟩,rfl,by omega⟩⟩⟩⟩,λ_=>trivial⟩⟩⟩
def r13:Cr PR:=K [] 13 8 {ps:=[(true,hWt),(true,hWt)],rs:=[(false,[.bool])],pre:=λa=>(AnQ a)=(AnR a)/\True,out:=λ_=>[[.b true]]} (λa=>A13 (AnQ a)) λa=>Y (v13 (AnQ a) (AnR a))
theorem v5:True/\(AnC 1/\AnC 3/\AnC 1/\AnD 0->AnC 1/\AnC 5/\AnC 1/\AnD 0->True/\True/\Cn (bAnd (bEq (0+1) 1) (Ahl false false)) (True/\(AnC 1/\AnC 3/\AnC 1/\AnD 0->True/\True/\(AnC 1/\AnC 5/\AnC 1/\AnD 0->True/\True/\(AnC 3->Cn (bAnd (bEq 0 0) (Ahl false false)) (True/\bAnd (bEq (-1) (-1)) (Ahl true true)=true) (false=true))))) (false=true)):=by
 simp[D,E,InR,Ahl]
def r5:Cr PR:=K0 [] 5 8 {ps:=[],rs:=[(false,[.bool])],out:=λ_=>[[.b true]]} U λa=>Y (v5)
end Go.Sx

namespace Go
open Go.Sx
def SA (e x:List C):Prop:=x=[]∨(qi 0 x=qi 0 e/\qi 1 x=qi 1 e/\qi 2 x=qi 2 e/\ql 3 x=ql 3 e)
theorem ZF (e:List C) (id dir:Int) (m:List (List C)) (r c s:Int):SA e (Kv e id dir m r c s):=by
 unfold Kv; split
 · exact .inr ⟨rfl,rfl,rfl,rfl⟩
 · exact .inl rfl
theorem Zw (e:List C) (id d:Int):SA e (KI e id d):=by
 unfold KI; split
 · exact .inr ⟨rfl,rfl,rfl,rfl⟩
 · exact .inl rfl
theorem ZO (e:List C) (id c:Int) (d:List (List C)):SA e (Lr e id c d):=by
 unfold Lr; split
 · exact .inr ⟨rfl,rfl,rfl,rfl⟩
 · exact .inl rfl
theorem ZR (e:List C) (id c:Int):SA e (GR e id c):=by
 unfold GR; split
 · exact .inr ⟨rfl,rfl,rfl,rfl⟩
 · exact .inl rfl
theorem Wu {P:Nat->List C->Prop} {l:List (List C)} {k:Int} (h0:P 0 (Rh l k)) (hH:∀k id e,P 0 e->Tq l k id e=0->P 0 (Me l k id e))
 (hv:∀e x,P 0 e->SA e x->P 0 x) (hq:∀n e,P n e->GN e (GL e)=0->P (n+1) (Io e (GL e))) (hm:∀n e,P n e->P (n+1) e):P (Nl l k).toNat (Ba l k):=by
 have o:∀n,P 0 (Hf l k n).2:=λn=>by
  induction n with
  |zero=>exact h0
  |succ n ih=>
   show P 0 (FT l (Hf l k n).1 (n+1) (Hf l k n).2).2
   unfold FT
   split
   · exact ih
   · split
     · rename_i h; exact hH _ _ _ ih h
     · exact ih
 have w:∀n,P 0 (Fp l k n).2:=λn=>by
  induction n with
  |zero=>exact o 3
  |succ n ih=>
   show P 0 (Ny l (Fp l k n).1 (n+1) (Fp l k n).2).2
   generalize Fp l k n=z at*
   unfold Ny
   split
   · exact ih
   · show P 0 (SG l z.1 (n+1) z.2)
     have a1:P 0 (Qq l z.1 (n+1) z.2):=hv _ _ ih (ZF ..)
     have a2:P 0 (PU l z.1 (n+1) z.2):=by
      unfold PU; split
      · exact hv _ _ a1 (Zw ..)
      · exact a1
     have a3:P 0 (Oc l z.1 (n+1) z.2):=by
      unfold Oc; split
      · exact hv _ _ a2 (ZO ..)
      · exact a2
     unfold SG; split
     · exact hv _ _ a3 (ZR ..)
     · exact a3
 have q:∀n,P n (Qy (Fp l k 3).2 n):=λn=>by
  induction n with
  |zero=>exact w 3
  |succ n ih=>
   show P (n+1) (Oa (Qy (Fp l k 3).2 n))
   unfold Oa
   split
   · rename_i h; exact hq _ _ ih h
   · exact hm _ _ ih
 exact q _
theorem Y8 (l:List (List C)) (k:Int):0<=qi 1 (Ba l k)/\qi 1 (Ba l k)<=32:=by
 have z:0<=qi 1 ([]:List C)/\qi 1 ([]:List C)<=32:=by decide
 refine Wu (P:=λ_ e=>0<=qi 1 e/\qi 1 e<=32) ?_ (λk id e h _=> ?_) (λe x h q=> ?_) (λn e h he=> ?_) (λ_ _ h=>h)
 · unfold Rh Ip;split
   · show 0<=qi 0 (rGet FI _)/\qi 0 (rGet FI _)<=32;have n:=Iq l (Aj l k) (n:=2) (by decide);have c:Au l (Aj l k) 2=0∨Au l (Aj l k) 2=1:=by omega
     rcases c with c|c<;>rw[c]<;>decide
   · exact z
 · unfold Me J4;split
   · exact h
   · exact z
 · rcases q with rfl|q
   · exact z
   · rw[q.2.1]; exact h
 · unfold Io; rw[if_pos he]; exact h
def Uy (z:Int×Int×List C):Prop:=0<=z.1/\z.1<=11/\0<=z.2.1/\((ql 1 z.2.2).length:Int)+z.1<=11
end Go
namespace Go.Sx
def A4 (l:List (List C)):FuncId->Nat->LoopAnn:=λ_ _=> .on (λsv0=>match sv0.tmps.getD 9 .undef with| .ref ka _=>(match sv0.tmps.getD 12 .undef with| .ref kb _=>(match sv0.tmps.getD 13 .undef with| .ref kc _=> .inv (Int×Int×List C) (λz=>Uy z) (λz=>[(14,.int .i64 z.1)]) (λz=>[(ka,.box (ofCs hDk [.l l,.i z.2.1]) 108),(kb,.box (ofCs hWt z.2.2) 61),(kc,.box (ofCs hWt z.2.2) 61)]) [ka,kb,kc] [0,1,2,3,5,6,8,9,10,11,12,13,14,15,17,21,29,51,74] (λz=>z.1.toNat)|_=> .unroll 0)|_=> .unroll 0)|_=> .unroll 0)
def m4_0 (l:List (List C)) (n:Int) (x:Int×Int×List C):List C:=(Dz x.2.2 (rGet (ql 3 (Ba l 0)) (n % iLen (ql 3 (Ba l 0)))) (iSub (iAdd (qi 1 (Ba l 0)) (Au l x.2.1 5)) 2) (qi 1 (Ba l 0)))
def m4_1 (l:List (List C)) (n:Int):List C:=(rGet (ql 3 (Ba l 0)) (n % iLen (ql 3 (Ba l 0))))
theorem v4 (l:List (List C)) (raw:List C) (ta:Int) (tb:Int) (n:Int):WL hI l/\AnD (qi 0 raw)/\WL hII (ql 1 raw)/\AnC ta/\AnC tb/\AnC n->True/\True/\Cn (bNot true) (false=true) (AnE (ql 1 raw)->Cn (bLt 20 (iLen (ql 1 raw))) (Sm true) (True/\(pLe 0 0/\True)/\(WD hE (Ba l 0)->AnE (ql 3 (Ba l 0))->Cn (bEq (iLen (ql 3 (Ba l 0))) 0) (Sm true) (AnE (ql 3 (Ba l 0))->(pLe 1 (iLen (ql 3 (Ba l 0)))/\True)/\(AnC (n % iLen (ql 3 (Ba l 0)))->pIn 0 (iLen (ql 3 (Ba l 0))) (n % iLen (ql 3 (Ba l 0)))/\(WD hV (m4_1 l n)->(pLe 0 (KH l 0)/\pLe 1 12)/\(AnC (Au l (KH l 0) 12)->(∃(x:Int×Int×List C),Uy x/\Au l (KH l 0) 12=x.1/\Sm l/\Aj l (KH l 0)=x.2.1/\qi 0 (m4_1 l n)=qi 0 x.2.2/\ql 1 x.2.2=[]/\false=qb 2 x.2.2/\qi 0 (m4_1 l n)=qi 0 x.2.2/\ql 1 x.2.2=[]/\false=qb 2 x.2.2)/\∀(x:Int×Int×List C),Uy x->AnC x.1/\WL hI l/\AnC x.2.1/\AnD (qi 0 x.2.2)/\WL hII (ql 1 x.2.2)/\AnD (qi 0 x.2.2)/\WL hII (ql 1 x.2.2)->Cn (bLt 0 x.1) ((pLe 0 x.2.1/\pLe 1 5)/\(AnC (Au l x.2.1 5)->AnC (iAdd (qi 1 (Ba l 0)) (Au l x.2.1 5))/\AnC (iSub (iAdd (qi 1 (Ba l 0)) (Au l x.2.1 5)) 2)/\pLe (iLen (ql 1 x.2.2)) 200/\(AnD (qi 0 (m4_0 l n x))/\WL hII (ql 1 (m4_0 l n x))->pLe (iLen (ql 1 x.2.2)) 200/\(AnD (qi 0 (m4_0 l n x))/\WL hII (ql 1 (m4_0 l n x))->(Sm (sg 0 [0,3,1] (m4_0 l n x))/\True)/\True/\Cn (bNot true) (false=true) (AnC (iSub x.1 1)/\Sm l/\Sm (sg 0 [0,3,1] raw)/\Sm [C.i ta,C.i tb]/\Sm n/\Sm (sg 0 [0,3,1] raw)/\Sm [C.i ta,C.i tb]/\Sm (sg 0 [0,0,0,3,3] (Ba l 0))/\Sm (KC (m4_1 l n))/\∃(y:Int×Int×List C),Uy y/\iSub x.1 1=y.1/\Sm l/\Aj l x.2.1=y.2.1/\qi 0 (m4_0 l n x)=qi 0 y.2.2/\ql 1 (m4_0 l n x)=ql 1 y.2.2/\qb 2 (m4_0 l n x)=qb 2 y.2.2/\qi 0 (m4_0 l n x)=qi 0 y.2.2/\ql 1 (m4_0 l n x)=ql 1 y.2.2/\qb 2 (m4_0 l n x)=qb 2 y.2.2/\nLt y.1.toNat x.1.toNat))))) (pLe (iLen (ql 1 raw)) 200/\(AnD (qi 0 (Dz raw (m4_1 l n) ta tb))/\WL hII (ql 1 (Dz raw (m4_1 l n) ta tb))->pLe (iLen (ql 1 raw)) 200/\(AnD (qi 0 (Dz raw (m4_1 l n) ta tb))/\WL hII (ql 1 (Dz raw (m4_1 l n) ta tb))->(Sm (sg 0 [0,3,1] (Dz raw (m4_1 l n) ta tb))/\True)/\Cn true (pLe (iLen (ql 1 x.2.2)) 200/\(AnD (qi 0 (Dz x.2.2 (m4_1 l n) ta tb))/\WL hII (ql 1 (Dz x.2.2 (m4_1 l n) ta tb))->pLe (iLen (ql 1 x.2.2)) 200/\(AnD (qi 0 (Dz x.2.2 (m4_1 l n) ta tb))/\WL hII (ql 1 (Dz x.2.2 (m4_1 l n) ta tb))->(Sm (sg 0 [0,3,1] (Dz x.2.2 (m4_1 l n) ta tb))/\True)/\Sm true))) (false=true))))))))))):=by
 intro hw;delta m4_0 m4_1;have hp:=Y8 l 0;have k0:0<=KH l 0:=Ik (VL l (AlO 0) 3);have n12:=Iq l (KH l 0) (n:=12) (by decide);simp only[D,E];refine⟨λh=>(by cases h),λ_=>⟨λ_=>trivial,λh20=>⟨AlO _,λ_ _=>⟨λ_=>trivial,λhn _=>⟨by omega,λ_=>⟨⟨AmB _ hn,Aml _ (by omega)⟩,λ_=> ?_⟩⟩⟩⟩⟩⟩;generalize rGet (ql 3 (Ba l 0)) (n % ((ql 3 (Ba l 0)).length:Int))=d;refine⟨⟨k0,by decide⟩,λ_=>⟨⟨(Au l (KH l 0) 12,Aj l (KH l 0),[.i (qi 0 d),.l [],.b false]),⟨n12.1,by simp only; omega,Ik k0,by show((0:Nat):Int)+_<=11; omega⟩,rfl,rfl,rfl,rfl,rfl,rfl,rfl,rfl⟩,λx ⟨x0,x1,x2,x3⟩ _=>⟨λhx=>⟨⟨x2,by decide⟩,λ_=> ?_⟩,λhx=> ?_⟩⟩⟩
 · have n5:=Iq l x.2.1 (n:=5) (by decide);refine⟨by simp only[InR]; omega,by simp only[InR]; omega,by omega,λ_=>⟨by omega,λ_=>⟨λh=>(by cases h),by simp only[InR]; omega,(x.1-1,Aj l x.2.1,Dz x.2.2 d _ _),⟨by simp only; omega,by simp only; omega,Ik x2,?_⟩,rfl,rfl,rfl,rfl,rfl,rfl,rfl,rfl,by simp only; omega⟩⟩⟩;show((ql 1 x.2.2++[_]).length:Int)+(x.1-1)<=11;rw[AlF,AlJ]; omega
 · exact⟨by omega,λ_=>⟨by omega,λ_=>⟨⟨by omega,λ_=>⟨by omega,λ_=>trivial⟩⟩,λh=>(by cases h)⟩⟩⟩
theorem u4 (l:List (List C)) (raw:List C) (ta:Int) (tb:Int) (n:Int):Ad6 (hyp (wfP.go [.sl [.int .i64] l,.agg (ofCs hWt raw),.agg [.int .i64 ta,.int .i64 tb],.int .i64 n]) (vcF PR (look (tbR [r5,r7,r6,r8,r11,r10,r12,r13])) (λ_=>false) (A4 l) 8 4 [.sl [.int .i64] l,.agg (ofCs hWt raw),.agg [.int .i64 ta,.int .i64 tb],.int .i64 n] [] (λsv _=>AhS sv))):=Y (v4 l raw ta tb n)
end Go.Sx

noncomputable section
namespace Go
open Go.Sx
theorem Zm {J c a S V V':Int} {s:Int×Int} (h1:s.1=S) (h2:V-c*J<=c*s.2) (hc:1<=c) (hv:V'<=V) (hb:V'-c*J<=c*(S+a)) (hu:c*(S+a)<=V'):Gf J (Ap s a)=true/\(Ap s a).1=S+a/\V'-c*J<=c*(Ap s a).2:=by
 subst h1;have m:V'-c*J<=c*min s.2 (s.1+a):=by
  rcases Int.le_total s.2 (s.1+a)with h|h
  · rw[Int.min_eq_left h]; omega
  · rw[Int.min_eq_right h]; exact hb
 refine⟨AlL ?_,rfl,m⟩;show s.1+a-min s.2 (s.1+a)<=J;refine Int.le_of_mul_le_mul_left ?_ (show 0<c by omega);rw[Int.mul_sub]; omega
theorem Xu {J c:Int} {m:Nat->List C->Int} {X:Nat->List C} {S V:Nat->Nat->Int} (hc:1<=c) (hx:∀k,CX (X k)=true)
 (hs:∀g,g<6->∀k,S g (k+1)=S g k+m g (X k)) (hv:∀g,g<6->∀k,V g (k+1)<=V g k) (hb:∀g,g<6->∀k,V g k-c*J<=c*S g k/\c*S g k<=V g k):
 ∀(n k:Nat) (st:List (Int×Int)),(∀g,g<6->(st.getD g (0,0)).1=S g k/\V g k-c*J<=c*(st.getD g (0,0)).2)->Ot J m st ((List.range' k n).map X)=true
 |0,_,_,_=>rfl
 |n+1,k,st,h=>by
  have w:=λg hg=>Zm (h g hg).1 (h g hg).2 hc (hv g hg k) (hs g hg k ▸ (hb g hg (k+1)).1) (hs g hg k ▸ (hb g hg (k+1)).2);rw[List.range'_succ,AmQ,Ot,hx k,(w 0 (by decide)).1,(w 1 (by decide)).1,(w 2 (by decide)).1,(w 3 (by decide)).1,(w 4 (by decide)).1,(w 5 (by decide)).1];simp only[AlR];refine Xu hc hx hs hv hb n (k+1) _ λg hg=> ?_;rw[hs g hg k]
  match g,hg with
  |0,hg=>exact(w 0 hg).2
  |1,hg=>exact(w 1 hg).2
  |2,hg=>exact(w 2 hg).2
  |3,hg=>exact(w 3 hg).2
  |4,hg=>exact(w 4 hg).2
  |5,hg=>exact(w 5 hg).2
def KL (P u v:Int) (k:Nat):Int:=(k:Int)*P*u/v
def Lt (A q P u v dr:Int) (z:Nat) (k:Nat):Int:=match z with
 |0=>A*KL P u v k-k*(q*(65536+dr))
 |1=>k*(q*(65536-dr))-A*KL P u v k
 |_=> -(k*(q*dr))
def Np (A q P u v dr:Int) (z:Nat) (k:Nat):Int:=match z with
 |0=>k*(A*(P*u))-v*(k*(q*(65536+dr)))
 |1=>v*(k*(q*(65536-dr)))-k*(A*(P*u))+v*A
 |_=>v* -(k*(q*dr))
theorem Zx (A q P u v dr:Int) (z k:Nat):Lt A q P u v dr z (k+1)=Lt A q P u v dr z k+(match z with
 |0=>A*(KL P u v (k+1)-KL P u v k)-q*(65536+dr)
 |1=>q*(65536-dr)-A*(KL P u v (k+1)-KL P u v k)
 |_=> -(q*dr)):=by
 match z with
 |0=>simp only[Lt,Amr,Ank]; grind
 |1=>simp only[Lt,Amr,Ank]; grind
 |n+2=>simp only[Lt,Amr,Ank]; grind
theorem Aag {A q P u v dr p:Int} (hq:0<=q) (hv:1<=v) (he:A*(P*u)=q*v*(65536+p)) (h1: -dr<=p) (h2:p<=dr) (z k:Nat):Np A q P u v dr z (k+1)<=Np A q P u v dr z k:=by
 have m:=Al1 hq (show 0<=v by omega);have a:=Al1 m (show 0<=dr-p by omega);have b:=Al1 m (show 0<=dr+p by omega)
 match z with
 |0=>
  simp only[Np,Amr,Ank,he]; grind
 |1=>simp only[Np,Amr,Ank,he]; grind
 |n+2=>
  have c:=Al1 m (show 0<=dr by omega)
  simp only[Np,Amr,Ank]; grind
theorem WT {A q P u v dr J:Int} (hv:1<=v) (hA:0<=A) (hJ:A<=J) (z k:Nat):Np A q P u v dr z k-v*J<=v*Lt A q P u v dr z k/\v*Lt A q P u v dr z k<=Np A q P u v dr z k:=by
 have e:=Anc ((k:Int)*P*u) v;have f:=AmB ((k:Int)*P*u) (show v≠0 by omega);have g:=Aml ((k:Int)*P*u) (show 0<v by omega);have j:=Al0 hJ (show 0<=v by omega);have d:KL P u v k=(k:Int)*P*u/v:=rfl;rw[←d]at e;generalize ((k:Int)*P*u) % v=r at*;have a:=Al1 hA f;have b:=Al0 (show r<=v by omega) hA;have t:(k:Int)*(A*(P*u))=v*(A*KL P u v k)+A*r:=by rw[show(k:Int)*(A*(P*u))=A*(k*P*u) by ac_rfl,←e,Int.mul_add]; ac_rfl
 have w:v*A=A*v:=Amo ..
 match z with
 |0=>simp only[Np,Lt,t,Int.mul_sub]; omega
 |1=>simp only[Np,Lt,t,Int.mul_sub]; omega
 |n+2=>simp only[Np,Lt]; have:=Al1 (show 0<=v by omega) (show 0<=J by omega); omega
def Zr (r m p:Int):List (List C):=[[.i 0,.i (Aq (r*(65536+p)) (m*65536) (r*(65536+p))),.i (Aq (r*(65536+p)) (m*65536) (m*65536))]]
def WG (d:List C) (p:Int):Int:=qi 9 d*(65536+p)
def Jk (d:List C) (p:Int):Int:=Aq (WG d p) (qi 12 d*65536) (WG d p)
def JC (d:List C) (p:Int):Int:=Aq (WG d p) (qi 12 d*65536) (qi 12 d*65536)
def EQ (d:List C) (p:Int) (k:Nat):Int:=KL (qi 13 d) (Jk d p) (JC d p) (k+1)-KL (qi 13 d) (Jk d p) (JC d p) k
def NU (d:List C) (n:Int):List C:=if qi 2 d=2 then[.i (qi 13 d),.i n]else[.i n,.i (qi 13 d)]
def Rl (d:List C) (p:Int):Prop:=Be d=true/\qi 13 d<=32/\1<=qi 6 d/\qi 6 d<=3/\-qi 5 d<=p/\p<=qi 5 d/\ql 14 d=Zr (qi 9 d) (qi 12 d) p
theorem Uw {d:List C} {p:Int} (h:Rl d p):1<=Jk d p/\1<=JC d p/\Jk d p<=JC d p*1024/\Jk d p*qi 12 d*65536=JC d p*(qi 9 d*(65536+p)):=by
 obtain⟨hv,h13,_,_,p0,p1,hk⟩:=h;have b:=OB hv;have c:=(Ic hv).1.2.2.2;rw[hk]at c;have c:=WH ((XF _ _).symm.trans c);have m1:=Aa8 (x:=qi 9 d) (X:=768000) (y:=65536+p) (Y:=67584) (by omega) (by omega) (by omega) (by omega);have m0:=Al0 (show 1<=65536+p by omega) (show 0<=qi 9 d by omega);have k:=Oz (a:=qi 9 d*(65536+p)) (b:=qi 12 d*65536) (by omega) (by omega) (by omega) (by omega);refine⟨k.2.2.2.2.2.1,k.2.2.2.2.2.2.2.1,c.2.2.2.2.2.2,?_⟩;show Aq (qi 9 d*(65536+p)) (qi 12 d*65536) (qi 9 d*(65536+p))*qi 12 d*65536=Aq (qi 9 d*(65536+p)) (qi 12 d*65536) (qi 12 d*65536)*(qi 9 d*(65536+p));generalize Aq (qi 9 d*(65536+p)) (qi 12 d*65536) (qi 9 d*(65536+p))=u at*;generalize Aq (qi 9 d*(65536+p)) (qi 12 d*65536) (qi 12 d*65536)=w at*;have k3:=k.2.2.1;have k4:=k.2.2.2.1;generalize Ag (qi 9 d*(65536+p)) (qi 12 d*65536)=g at*;rw[Am4,←k4,←k3]; ac_rfl
theorem VS {d:List C} {p:Int} (h:Rl d p) (k:Nat):0<=EQ d p k/\EQ d p k<=65536:=by
 have u:=Uw h;have b:=OB h.1;have h13:=h.2.1;unfold EQ KL;generalize Jk d p=U at*;generalize JC d p=W at*;have m:=Aa8 (x:=qi 13 d) (X:=32) (y:=U) (Y:=W*1024) (by omega) (by omega) (by omega) (by omega);have e:(((k+1:Nat):Int))*qi 13 d*U=(k:Int)*qi 13 d*U+qi 13 d*U:=by rw[Amr,Ank,Amt,Amt,AmR]
 have a:=Int.ediv_le_ediv (show 0<W by omega) (show(k:Int)*qi 13 d*U<=(((k+1:Nat):Int))*qi 13 d*U by omega);have c:=Int.ediv_le_ediv (show 0<W by omega) (show(((k+1:Nat):Int))*qi 13 d*U<=(k:Int)*qi 13 d*U+32768*W by omega);rw[Int.add_mul_ediv_right _ _ (by omega)]at c;omega
theorem Wl {d:List C} {p A:Int} {z:Nat->Nat} (h:Rl d p) (hA:0<=A) (hJ:A<=AU d*(BF d*65536)*EZ d) (he:A*(qi 13 d*Jk d p)=Bo d*AU d*JC d p*(65536+p)) (hj:0<=EZ d/\EZ d<=65536)
 (hs:∀g,g<6->∀k,BR (Bf d) (AU d) (Bo d) (BF d) (qi 5 d) g (NU d (EQ d p k))=(match z g with
  |0=>A*EQ d p k-Bo d*AU d*(65536+qi 5 d)
  |1=>Bo d*AU d*(65536-qi 5 d)-A*EQ d p k
  |_=> -(Bo d*AU d*qi 5 d))) (n:Nat) (hn:n<=256):IE d ((List.range n).map λk=>NU d (EQ d p k))=true:=by
 have hv:=h.1;have v:=Ic hv;have b:=OB hv;have i:=TW v.1;have bb:=Xy v.1;have u:=Uw h;have r:=DC bb.1;have q0:=Al1 (show 0<=Bo d by omega) (show 0<=AU d by omega);have io:BF d<=Bo d*64/\Bo d<=BF d*64*8192:=by
  have h13:=h.2.1;have m1:=Aa8 (x:=qi 13 d) (X:=32) (y:=qi 9 d) (Y:=768000) (by omega) (by omega) (by omega) (by omega);have m2:=AmY (show 16<=qi 13 d by omega) (show 1000<=qi 9 d by omega) (by omega) (by omega);have k:=Oz (a:=qi 13 d*qi 9 d) (b:=qi 12 d) (by omega) (by omega) (by omega) (by omega);unfold Bo BF;split
  · omega
  · generalize Aq (qi 13 d*qi 9 d) (qi 12 d) (qi 13 d*qi 9 d)=x at*;generalize Aq (qi 13 d*qi 9 d) (qi 12 d) (qi 12 d)=y at*;generalize Ag (qi 13 d*qi 9 d) (qi 12 d)=g at*;exact⟨Int.le_of_mul_le_mul_right (show y*g<=x*64*g by rw[Am5]; omega) (show 0<g by omega),Int.le_of_mul_le_mul_right (show x*g<=y*64*8192*g by rw[Am5,Am5 y]; omega) (show 0<g by omega)⟩
 have dc:Bv (Bo d) (BF d) (qi 5 d) (EZ d)=true:=by
  unfold Bv EW;rw[i.2,AlL (show BF d<=768000/\BF d<=Bo d*64/\Bo d<=BF d*64*8192 by omega),AlL (show 0<=qi 5 d/\qi 5 d<=4096/\0<=EZ d/\EZ d<=65536 by omega)]; rfl
 unfold IE;rw[hv,AlR,Tm bb.1 bb.2.1 bb.2.2.1 dc (by rw[Al5,List.length_range]; omega),List.range_eq_range'];refine Xu u.2.1 (λk=> ?_) (S:=λg k=>Lt A (Bo d*AU d) (qi 13 d) (Jk d p) (JC d p) (qi 5 d) (z g) k) (V:=λg k=>Np A (Bo d*AU d) (qi 13 d) (Jk d p) (JC d p) (qi 5 d) (z g) k)
  (λg hg k=> ?_) (λg hg k=>Aag q0 u.2.1 he (by have:=h.2.2.2.2.1; omega) h.2.2.2.2.2.1 (z g) k) (λg hg k=>WT u.2.1 hA hJ (z g) k) n 0 PW (λg hg=> ?_)
 · have t:=VS h k;have h13:=h.2.1;unfold NU;split
   · exact AlL (show 0<=qi 13 d/\qi 13 d<=65536/\0<=EQ d p k/\EQ d p k<=65536 by omega)
   · exact AlL (show 0<=EQ d p k/\EQ d p k<=65536/\0<=qi 13 d/\qi 13 d<=65536 by omega)
 · rw[hs g hg k]; exact Zx A (Bo d*AU d) (qi 13 d) (Jk d p) (JC d p) (qi 5 d) (z g) k
 · have F0:KL (qi 13 d) (Jk d p) (JC d p) 0=0:=by unfold KL; simp
   have s0:Lt A (Bo d*AU d) (qi 13 d) (Jk d p) (JC d p) (qi 5 d) (z g) 0=0:=by
    unfold Lt; rw[F0]; split<;>simp
   have st:(PW.getD g (0,0))=(0,0):=by match g,hg with|0,_=>rfl|1,_=>rfl|2,_=>rfl|3,_=>rfl|4,_=>rfl|5,_=>rfl
   have bd:=(WT (q:=Bo d*AU d) (P:=qi 13 d) (u:=Jk d p) (dr:=qi 5 d) u.2.1 hA hJ (z g) 0)
   rw[s0]at bd;rw[st];exact⟨s0.symm,bd.1⟩
theorem ZG {d:List C} {p:Int} (h:Rl d p) (n:Nat) (hn:n<=256):IE d ((List.range n).map λk=>NU d (EQ d p k))=true:=by
 have hv:=h.1;have v:=Ic hv;have b:=OB hv;have i:=TW v.1;have bb:=Xy v.1;have nm:=VK v.1;have u:=Uw h;have r:=DC bb.1;have h13:=h.2.1;rcases b.1 with h2|h2
 · have e1:Bf d=BP d:=by rw[bb.2.2.2.1,if_pos h2]
   have e2:AU d=BO d:=by rw[bb.2.2.2.2,if_pos h2]
   have e3:Bo d=qi 13 d:=if_pos h2;have e4:BF d=1:=if_pos h2;have e5:EZ d=Cb (qi 6 d) (Bf d) (AU d)+1:=if_pos h2;have mk:=Aa8 (x:=qi 6 d) (X:=3) (y:=Bf d) (Y:=768000) (by have:=h.2.2.1; omega) h.2.2.2.1 (by omega) (by omega);have j3:=h.2.2.2.1;have j1:=h.2.2.1;have ce:qi 6 d*Bf d<=AU d*EF (qi 6 d) (Bf d) (AU d)/\AU d*EF (qi 6 d) (Bf d) (AU d)<qi 6 d*Bf d+AU d:=by
    have q:=Anc (-qi 6 d*Bf d) (AU d);have q0:=AmB (-qi 6 d*Bf d) (show AU d≠0 by omega);have q1:=Aml (-qi 6 d*Bf d) (show 0<AU d by omega);have e:AU d*EF (qi 6 d) (Bf d) (AU d)= -(AU d*(-qi 6 d*Bf d/AU d)):=Int.mul_neg ..;rw[Int.neg_mul]at*;omega
   have fb:0<=EF (qi 6 d) (Bf d) (AU d)/\EF (qi 6 d) (Bf d) (AU d)<=577:=by
    have a:=nm.2.2.1;have c:=nm.2.2.2.1;have g1:=nm.2.2.2.2.1;rw[←e1]at c;rw[←e2]at a;have m3:=Aa8 (x:=qi 6 d) (X:=3) (y:=qi 12 d) (Y:=192000) (by omega) (by omega) (by omega) (by omega);generalize EF (qi 6 d) (Bf d) (AU d)=f at*;generalize Ag (qi 9 d) (qi 12 d)=y at*;have e:=Int.mul_lt_mul_of_pos_right ce.2 (show 0<y by omega);have e:f*qi 9 d<qi 6 d*qi 12 d+qi 9 d:=by rw[←a,←c]; grind
    refine⟨Int.not_lt.1 λg=> ?_,Int.not_lt.1 λg=> ?_⟩
    · have:=Al0 (show f<=-1 by omega) (show 0<=AU d by omega); omega
    · have:=AmY (show 577<=f-1 by omega) (show 1000<=qi 9 d by omega) (by omega) (by omega);rw[Int.sub_mul,AmR]at this; omega
   have jv:Cb (qi 6 d) (Bf d) (AU d)=EF (qi 6 d) (Bf d) (AU d):=((OD (((RG (qi 6 d) (Bf d) (AU d)).2 bb.1).2 (by omega))).1 (by omega)).2;have A0:=Al1 (show 0<=Bf d by omega) (show(0:Int)<=65536 by decide);have sq:Bf d*65536*(qi 13 d*Jk d p)=Bo d*AU d*JC d p*(65536+p):=by
    refine Am7 (show Ag (qi 9 d) (qi 12 d)≠0 by omega) ?_;have f:=nm.2.2.1;have g:=nm.2.2.2.1;have w:=u.2.2.2;rw[e1,e2,e3];generalize Ag (qi 9 d) (qi 12 d)=y at*;grind
   refine Wl (z:=λg=>match g with|0=>0|1=>1|4=>0|5=>1|_=>2) h A0 ?_ sq (by omega) (λg hg k=> ?_) n hn
   · have m6:=AlS h.2.2.1 (show 0<=Bf d by omega);rw[e4,e5,jv];have:AU d*(1*65536)*(EF (qi 6 d) (Bf d) (AU d)+1)=65536*(AU d*EF (qi 6 d) (Bf d) (AU d))+65536*AU d:=by grind
     omega
   · have x:NU d (EQ d p k)=[.i (EQ d p k),.i (qi 13 d)]:=if_neg (by omega);rw[x,e3,e4];have y0:CJ [.i (EQ d p k),.i (qi 13 d)]=EQ d p k:=rfl;have y1:CO [.i (EQ d p k),.i (qi 13 d)]=qi 13 d:=rfl
     match g,hg with
     |0,_=>simp only[BR,y0,y1]; grind
     |1,_=>simp only[BR,y0,y1]; grind
     |2,_=>simp only[BR,y0,y1]; grind
     |3,_=>simp only[BR,y0,y1]; grind
     |4,_=>simp only[BR,y0,y1]; grind
     |5,_=>simp only[BR,y0,y1]; grind
 · have h1:¬qi 2 d=1:=by omega
   have e1:Bf d=BO d:=by rw[bb.2.2.2.1,if_neg h1]
   have e2:AU d=BP d:=by rw[bb.2.2.2.2,if_neg h1]
   have e3:Bo d=Aq (qi 13 d*qi 9 d) (qi 12 d) (qi 13 d*qi 9 d):=if_neg h1;have e4:BF d=Aq (qi 13 d*qi 9 d) (qi 12 d) (qi 12 d):=if_neg h1;have e5:EZ d=qi 6 d+1:=if_neg h1;have m1:=Aa8 (x:=qi 13 d) (X:=32) (y:=qi 9 d) (Y:=768000) (by omega) (by omega) (by omega) (by omega);have m2:=AmY (show 16<=qi 13 d by omega) (show 1000<=qi 9 d by omega) (by omega) (by omega);have k:=Oz (a:=qi 13 d*qi 9 d) (b:=qi 12 d) (by omega) (by omega) (by omega) (by omega);rw[←e3,←e4]at k;have A0:=Al1 (show 0<=AU d by omega) (show 0<=BF d*65536 by omega);have sl:qi 13 d*Bf d*BF d=Bo d*AU d:=by
    rw[e1,e2];refine Am7 (show Ag (qi 9 d) (qi 12 d)≠0 by omega) (Am7 (show Ag (qi 13 d*qi 9 d) (qi 12 d)≠0 by omega) ?_);have a:=nm.2.2.1;have c:=nm.2.2.2.1;have f:=k.2.2.1;have g:=k.2.2.2.1;generalize Ag (qi 9 d) (qi 12 d)=x at*;generalize Ag (qi 13 d*qi 9 d) (qi 12 d)=y at*;grind
   have sq:AU d*(BF d*65536)*(qi 13 d*Jk d p)=Bo d*AU d*JC d p*(65536+p):=by
    refine Am7 (show Ag (qi 13 d*qi 9 d) (qi 12 d)≠0 by omega) ?_;have f:=k.2.2.1;have g:=k.2.2.2.1;have w:=u.2.2.2;generalize Ag (qi 13 d*qi 9 d) (qi 12 d)=y at*;grind
   refine Wl (z:=λg=>match g with|2=>0|3=>1|4=>1|5=>0|_=>2) h A0 ?_ sq (by omega) (λg hg k=> ?_) n hn
   · have:=Al0 (show 1<=EZ d by omega) A0; omega
   · have x:NU d (EQ d p k)=[.i (qi 13 d),.i (EQ d p k)]:=if_pos h2;rw[x];have y0:CJ [.i (qi 13 d),.i (EQ d p k)]=qi 13 d:=rfl;have y1:CO [.i (qi 13 d),.i (EQ d p k)]=EQ d p k:=rfl
     match g,hg with
     |0,_=>simp only[BR,y0,y1]; grind
     |1,_=>simp only[BR,y0,y1]; grind
     |2,_=>simp only[BR,y0,y1]; grind
     |3,_=>simp only[BR,y0,y1]; grind
     |4,_=>simp only[BR,y0,y1]; grind
     |5,_=>simp only[BR,y0,y1]; grind
theorem Xh {u w t:Int} (h0:0<=t) (h1:t<=1099511627776):Et [[.i 0,.i u,.i w]] t=t*u/w:=by
 have c:QA [[.i 0,.i u,.i w]] t=1:=by
  unfold QA;have g:decide (qi 0 [.i 0,.i u,.i w]<=t)=true:=AlL (show(0:Int)<=t from h0);simp only[List.takeWhile,g,Al9,AmX]
 unfold Et;rw[c];show 0+(min t 1099511627776-0)*u/w=_;rw[Int.zero_add,Int.sub_zero,Int.min_eq_left h1]
theorem W9 {d:List C} {p:Int} (h:Rl d p) (hr:qb 15 d=true) (h0:qi 16 d=0) {k:Nat} (hk:k<=1000):CS d (k*qi 13 d) (k*qi 13 d+qi 13 d)=0/\A8 d (k*qi 13 d) (k*qi 13 d+qi 13 d)=EQ d p k:=by
 have b:=OB h.1;have h13:=h.2.1;have n:=VS h k;have m:=Aa8 (x:=(k:Int)) (X:=1000) (y:=qi 13 d) (Y:=32) (by omega) (by omega) (by omega) (by omega);have cv:=(Ic h.1).1.2.2.2;have K:ql 14 d=[[.i 0,.i (Jk d p),.i (JC d p)]]:=h.2.2.2.2.2.2;have e:GY (ql 14 d) (max (k*qi 13 d) (qi 16 d)) (k*qi 13 d+qi 13 d)=EQ d p k:=by
  unfold GY;rw[show max (k*qi 13 d) (qi 16 d)=k*qi 13 d by omega,if_pos (by unfold Oq; rw[if_neg (by simp[cv]),if_neg (by omega)]),K,Xh (by omega) (by omega),Xh (by omega) (by omega)];unfold EQ KL;rw[Amr,Ank,Amt (k:Int),AmR]
 have ez:CS d (k*qi 13 d) (k*qi 13 d+qi 13 d)=0:=by
  unfold CS;rw[if_neg (by simp[h.1]),if_neg (by omega),e,if_neg (by omega)]
 refine⟨ez,?_⟩;unfold A8;rw[if_pos ⟨ez,hr,by omega⟩,e]
def Ew (e:List C) (n:Int) (o:List C):Prop:=(qb 15 o=true/\qi 16 o=0/\qi 13 o=qi 1 e)/\(qi 26 o<=n/\qi 29 o<=n/\qi 30 o<=n)/\∃p,Rl o p
def Ti (n:Nat) (e:List C):Prop:=qi 1 e<=32/\(n<=100->(n=0->qi 2 e=0)/\∀o∈ql 3 e,Ew e (n*1000000) o)
theorem Zg (e:List C) (n:Int) (o:List C):Ew e n (Ih o)=Ew e n o:=by kernel_rfl
theorem Wj (e:List C) (n:Int) (d:List C) (h r g:Int):Ew e n (RI d h r g)=Ew e n d:=by kernel_rfl
theorem YG (e:List C) (n:Int) (d:List C):Ew e n (KC d)=Ew e n d:=by kernel_rfl
theorem ZQ {d g:List C} (h:Be d=true) (hg:BI g=true) (h5:qi 5 g=qi 22 d) (h6:qi 6 g=qi 23 d) (h7:qi 7 g=qi 24 d):Be (Ol d g)=true:=by
 have v:=Ic h;have e:Be (Ol d g)=((AY d&&(Fj (ql 7 d) (qi 8 d) (qi 9 d) (ql 10 d) (qi 11 d)&&(Jl d&&A7 (ql 14 d))))&&(decide (0<=qi 16 d/\qi 16 d<=1099511627776)&&(BI g&&decide (qi 5 g=((ql 10 d).length:Int)/\qi 6 g=Bf d/\qi 7 g=AU d)))):=by kernel_rfl
 have ds:Jl d=true:=AlL v.1.2.2.1;rw[e,v.1.1,v.1.2.1,ds,v.1.2.2.2,hg,AlL v.2.1,AlL ⟨by omega,by omega,by omega⟩]; rfl
theorem ZV {d:List C} (h:Be d=true):Be (Xw d 0)=true:=by
 have v:=Ic h;have e:Be (Xw d 0)=((AY d&&(Fj (ql 7 d) (qi 8 d) (qi 9 d) (ql 10 d) (qi 11 d)&&(Jl d&&A7 (ql 14 d))))&&(decide ((0:Int)<=0/\(0:Int)<=1099511627776)&&(BI (BN d)&&decide (qi 22 d=((ql 10 d).length:Int)/\qi 23 d=Bf d/\qi 24 d=AU d)))):=by kernel_rfl
 have ds:Jl d=true:=AlL v.1.2.2.1;rw[e,v.1.1,v.1.2.1,ds,v.1.2.2.2,v.2.2.1,AlL v.2.2.2]; rfl
theorem WW {e d:List C} {n:Int} {ch m:Int} {da:List (List C)} (h:Ew e n d) (hn:n<=100000000) (he:E8 d ch da m=0):Ew e (n+1000000) (Ol d (Ez (DN d ch da) m)):=by
 obtain⟨⟨hr,h0,h13⟩,⟨c1,c2,c3⟩,p,hd⟩:=h;have hv:=hd.1;have v:=Ic hv;have pu:ET (BN d) ch da=0:=by
  unfold E8 at he;split at he
  · omega
  · omega
 have pl:D8 (DN d ch da) m=0:=by
  unfold E8 at he;rw[if_neg (by omega)]at he; exact he
 have hb:AO ch da=true/\ch=qi 5 (BN d):=by
  unfold ET at pu;split at pu
  · cases pu
  · rename_i q;split at pu
    · cases pu
    · rename_i q2;exact⟨by cases z:AO ch da with|true=>rfl|false=>exact(q (.inr z)).elim,by omega⟩
 obtain⟨_,pn,pe,pv,pg,pw⟩:=X7 v.2.2.1 hb.1 hb.2 (show qi 29 d<=_ by omega);have bl:=Eo hb.1;have eB:DN d ch da=sga 0 [0,0,0,0,0,0,0,0,0,0,0] (BN d) [.l (ql 28 d++da.take (CY (BN d) ch da*ch).toNat),.i (qi 29 d+F7 (BN d) ch da),.i (qi 30 d)]:=pv;have hm:0<=m/\m<=65536:=by
  unfold D8 at pl;split at pl
  · cases pl
  · split at pl
    · cases pl
    · omega
 have gB:BI (DN d ch da)=true:=pg;obtain⟨_,qm,qf,qv,qg,_⟩:=X6 (n:=m) gB hm.1 hm.2 (by rw[eB]; show qi 26 d<=_; omega) (by rw[eB]; show qi 30 d<=_; omega);have w:Ak (Bz (DN d ch da))<=65536:=by
  have:=LV gB; omega
 have fr:=Df hb.1;have dv:Be (Ol d (Ez (DN d ch da) m))=true:=by
  refine ZQ hv qg ?_ ?_ ?_
  · rw[qv]; show qi 5 (DN d ch da)=_; rw[eB]; rfl
  · rw[qv]; show qi 6 (DN d ch da)=_; rw[eB]; rfl
  · rw[qv]; show qi 7 (DN d ch da)=_; rw[eB]; rfl
 refine⟨⟨hr,h0,h13⟩,⟨?_,?_,?_⟩,p,dv,hd.2⟩
 · show qi 9 (Ez (DN d ch da) m)<=_;rw[qv];show qi 9 (DN d ch da)+BX (BQ (DN d ch da)) (AC (DN d ch da) m)<=_;have:qi 9 (DN d ch da)=qi 26 d:=by rw[eB]; rfl
   omega
 · show qi 12 (Ez (DN d ch da) m)<=_;rw[qv];show qi 12 (DN d ch da)<=_;have:qi 12 (DN d ch da)=qi 29 d+F7 (BN d) ch da:=by rw[eB]; rfl
   omega
 · show qi 13 (Ez (DN d ch da) m)<=_;rw[qv];show qi 13 (DN d ch da)+(m-AC (DN d ch da) m)<=_;have:qi 13 (DN d ch da)=qi 30 d:=by rw[eB]; rfl
   omega
theorem Aae {e d:List C} {n ch a b:Int} {da:List (List C)} (h:Ew e n d) (hn:n<=100000000) (he:Ir d ch da a b=0):Ew e (n+1000000) (JJ d ch da a b):=by
 unfold Ir at he;by_cases hc:FU d 1 ch da a b=0
 · rw[if_neg (by omega),h.1.1]at he;have he:E8 d ch da (Na d 1 ch da a b)=0:=he;unfold JJ;rw[if_neg (by omega),h.1.1];show Ew e _ (KZ d ch da (Na d 1 ch da a b));unfold KZ;rw[if_pos he]; exact WW h hn he
 · rw[if_pos hc]at he; exact(hc he).elim
theorem ZN {e d:List C} {n ch m a b:Int} {da:List (List C)} (h:Ew e n d) (hn:n<=100000000) (he:D7 d ch da m a b=0):Ew e (n+1000000) (IP d ch da m a b):=by
 have hz:=he;unfold D7 at he;by_cases hc:FU d 2 ch da a b=0
 · rw[if_neg (by omega)]at he;split at he
   · cases he
   · split at he
     · cases he
     · rw[h.1.1]at he;have he:E8 d ch da m=0:=he;unfold IP;rw[if_neg (by omega),h.1.1];show Ew e _ (KZ d ch da m);unfold KZ;rw[if_pos he]; exact WW h hn he
 · rw[if_pos hc]at he; exact(hc he).elim
theorem YV (e:List C) (n:Int) (e' o c:List C):Ew e n (Qn e' o c)=Ew e n (VI e' o c):=by kernel_rfl
theorem Zq (o:List C) (ch:Int) (da:List (List C)) (a b:Int):Ir (KC o) ch da a b=Ir o ch da a b:=by kernel_rfl
theorem Yy (o:List C) (ch:Int) (da:List (List C)) (m a b:Int):D7 (KC o) ch da m a b=D7 o ch da m a b:=by kernel_rfl
theorem Uo {e:List C} {n:Int} {tk:List (List C)} (hn:n<=100000000):∀(os l:List (List C)) (q:List C),(∀o∈ql 1 q,Ew e (n+1000000) o)->(∀o∈os,Ew e n o)->∀o∈ql 1 (Nz e tk os l q),Ew e (n+1000000) o
 |[],_,q,hq,_=>hq
 |o::r,l,q,hq,ho=>by
  have h0:Ew e n (KC o):=(YG e n o).symm ▸ ho o List.mem_cons_self;have hr:∀x∈r,Ew e n x:=λx hx=>ho x (List.mem_cons_of_mem _ hx);have a:∀x∈ql 1 (NF e tk o q),Ew e (n+1000000) x:=by
   unfold NF;split
   · exact λx hx=>by cases hx
   · split
     · exact λx hx=>by cases hx
     · rename_i h1 h2;intro x hx;rcases AlY.1 hx with hx|hx
       · exact hq x hx
       · rw[Am3.1 hx];show Ew e _ (RI (OT e o _) _ _ _);rw[Wj];exact Aae h0 hn (by rw[Zq]; exact Decidable.not_not.1 h2)
  have b:∀c,∀x∈ql 1 (KD e o c q),Ew e (n+1000000) x:=λc=>by
   unfold KD;split
   · exact λx hx=>by cases hx
   · rename_i h1;split
     · exact λx hx=>by cases hx
     · intro x hx;rcases AlY.1 hx with hx|hx
       · exact hq x hx
       · rw[Am3.1 hx,YV];exact ZN h0 hn (by rw[Yy]; exact Decidable.not_not.1 h1)
  simp only[Nz];split
  · split
    · exact Uo hn r l _ a hr
    · exact a
  · split
    · exact Uo hn r l.tail _ (b _) hr
    · exact b _
theorem ZP {l:List (List C)} {k id:Int} {e:List C} (h:Ti 0 e) (ho:Tq l k id e=0):Ti 0 (Me l k id e):=by
 obtain⟨pe,h⟩:=h;obtain⟨now,hm⟩:=h (by decide);have now:=now rfl;unfold Me J4;split
 · rename_i he;unfold J6 at he;split at he
   · rename_i c;obtain⟨_,dv,_,_,d13,_⟩:=c;split at he
     · cases he
     · split at he
       · cases he
       · rw[now,Int.zero_mul]at he ⊢;refine⟨pe,λ_=>⟨λ_=>rfl,λo hx=> ?_⟩⟩;rcases AlY.1 hx with hx|hx
         · rcases AlY.1 hx with hx|hx
           · obtain⟨y,hy,rfl⟩:=AmU.1 hx;rw[Zg];exact hm y (List.takeWhile_subset _ hy)
           · rw [Am3.1 hx, Wj];unfold IC;rw [if_pos he];have em : JO l k id e = Ol (AV (EK l k id) (qi 0 (GZ l k id e)) (qi 1 (GZ l k id e)) (ql 2 (GZ l k id e)) (qi 3 (GZ l k id e)) (Tj l k id e) (qi 0 e) (qi 1 e)) (PX (AV (EK l k id) (qi 0 (GZ l k id e)) (qi 1 (GZ l k id e)) (ql 2 (GZ l k id e)) (qi 3 (GZ l k id e)) (Tj l k id e) (qi 0 e) (qi 1 e))) := if_pos ho;have z : ∀ U, qi 9 (PX U) <= 0 /\ qi 12 (PX U) <= 0 /\ qi 13 (PX U) <= 0 := λU => by
              unfold PX JD;split
              · exact⟨AlO _,AlO _,AlO _⟩
              · decide
             have j:=Iq l (Dk l (Aj l k) 3) (n:=3) (by decide);have q5:=Iq l (Dk l (Aj l k) 2) (n:=300) (by decide);have e5:qi 5 (EK l k id)=Au l (Dk l (Aj l k) 2) 300:=rfl;have e1:(0-qi 5 (EK l k id)).tdiv 2= -((qi 5 (EK l k id))/2):=by rw[Int.zero_sub,Int.neg_tdiv,AlI (by omega)]
             have e2:(qi 5 (EK l k id)).tdiv 2=(qi 5 (EK l k id))/2:=AlI (by omega);have np:=Iq l (Dk l (Aj l k) 6) (n:=(qi 5 (EK l k id)).tdiv 2- (0-qi 5 (EK l k id)).tdiv 2+1) (by rw[e1,e2]; omega);have pb: -qi 5 (EK l k id)<=TK l (Dk l (Aj l k) 6) (EK l k id)/\TK l (Dk l (Aj l k) 6) (EK l k id)<=qi 5 (EK l k id):=by
              unfold TK;rw[e1,e2]at np ⊢; omega
             refine⟨⟨rfl,rfl,d13⟩,?_,TK l (Dk l (Aj l k) 6) (EK l k id),ZV dv,by show qi 13 (JO l k id e)<=32; omega,?_⟩
             · show qi 26 (JO l k id e)<=_/\qi 29 (JO l k id e)<=_/\qi 30 (JO l k id e)<=_;rw[em]; exact z _
             · show 1<=qi 6 (JO l k id e)/\qi 6 (JO l k id e)<=3/\-qi 5 (JO l k id e)<=_/\_<=qi 5 (JO l k id e)/\ql 14 (JO l k id e)=Zr (qi 9 (JO l k id e)) (qi 12 (JO l k id e)) _;rw[em];exact⟨by show 1<=1+Au l (Dk l (Aj l k) 3) 3; omega,by show 1+Au l (Dk l (Aj l k) 3) 3<=3; omega,pb.1,pb.2,rfl⟩
         · exact hm o (Al3 hx)
   · cases he
 · exact⟨by decide,λ_=>⟨λ_=>rfl,λo hx=>by cases hx⟩⟩
theorem ZT (l:List (List C)) (k:Int):∀o∈ql 3 (Ba l k),Ew (Ba l k) 1000000000 o:=by
 have h:Ti (Nl l k).toNat (Ba l k):=by
  refine Wu (P:=Ti) ?_ (λk id e h he=>ZP h he) (λe x h q=> ?_) (λn e h he=> ?_) (λn e h=>⟨h.1,λhn=>⟨λz=>by omega,λo hx=> ?_⟩⟩)
  · refine⟨?_,λ_=> ?_⟩
    · unfold Rh Ip;split
      · show qi 0 (rGet FI _)<=32;have n:=Iq l (Aj l k) (n:=2) (by decide);have c:Au l (Aj l k) 2=0∨Au l (Aj l k) 2=1:=by omega
        rcases c with c|c<;>rw[c]<;>decide
      · decide
    · unfold Rh Ip;split
      · exact⟨λ_=>rfl,λo hx=>by cases hx⟩
      · exact⟨λ_=>rfl,λo hx=>by cases hx⟩
  · rcases q with rfl|⟨_,q1,q2,q3⟩
    · exact⟨by decide,λ_=>⟨λ_=>rfl,λo hx=>by cases hx⟩⟩
    · unfold Ti Ew; rw[q1,q2,q3]; exact h
  · unfold Io;rw[if_pos he];refine⟨h.1,λhn=>⟨λz=>by omega,λo hx=> ?_⟩⟩;have:=Uo (e:=e) (n:=n*1000000) (by omega) (ql 3 e) (GL e) (Xi e) (λo hx=>by cases hx) (h.2 (by omega)).2 o hx;rw[show((n+1:Nat):Int)*1000000=n*1000000+1000000 by omega];exact this
  · obtain⟨a,⟨b1,b2,b3⟩,c⟩:=(h.2 (by omega)).2 o hx;exact⟨a,⟨by omega,by omega,by omega⟩,c⟩
 have n4:=Iq l (Fp l k 3).1 (n:=4) (by decide);have nn:Nl l k=Au l (Fp l k 3).1 4:=rfl;intro o hx;obtain⟨a,⟨b1,b2,b3⟩,c⟩:=(h.2 (by omega)).2 o hx;exact⟨a,⟨by omega,by omega,by omega⟩,c⟩
def MG (d:List C) (n:Int):List (List C):=(List.range n.toNat).map fun(k:Nat)=>NU d (A8 d (k*qi 13 d) (k*qi 13 d+qi 13 d))
def H6 (d:List C) (n:Int):List C:=[.i (qi 0 d),.l (MG d n),.b false]
theorem AaE (d:List C) {n:Int} (h:0<=n):MG d n++[NU d (A8 d (n*qi 13 d) (n*qi 13 d+qi 13 d))]=MG d (n+1):=by
 unfold MG;rw[show(n+1).toNat=n.toNat+1 by omega,AmI,AmN,Ane,show((n.toNat:Nat):Int)=n by omega]
theorem Aav {e d:List C} {N n:Int} (h:Ew e N d) (hn:n<=24):IE d (MG d n)=true:=by
 obtain⟨⟨hr,h0,_⟩,_,p,hd⟩:=h;have c:MG d n=(List.range n.toNat).map λk=>NU d (EQ d p k):=List.map_congr_left λk hk=>by
  have:=List.mem_range.1 hk;rw[(W9 hd hr h0 (k:=k) (by omega)).2]
 rw[c]; exact ZG hd _ (by omega)
end Go

namespace Go
open Go.Sx
def O4 (n z:Int):Prop:=0<=z/\z<=n
end Go
namespace Go.Sx
def A3 (l:List (List C)) (q:Int):FuncId->Nat->LoopAnn:=λ_ ii=>bif Nat.beq ii 5 then .inv Int (λz=>O4 (ql 3 (Ba l 0)).length z) (λz=>[(22,.int .i64 z)]) (λ_=>[]) [] [0,1,4,5,6,7,8,9,10,11,12,13,15,21,22,23,38,65,87] (λz=>(ql 3 (Ba l 0)).length-z.toNat)else .on (λsv0=>match sv0.tmps.getD 8 .undef with| .ref kb _=>(match sv0.tmps.getD 22 .undef with| .int _ zi=> .inv Int (λz=>O4 (q % 24) z) (λz=>[(9,.int .i64 z)]) (λz=>[(kb,.box (ofCs hWt (H6 (rGet (ql 3 (Ba l 0)) zi) z)) 61)]) [kb] [0,1,4,5,6,7,8,9,10,11,12,13,15,21,22,23,38,65,87] (λz=>(24-z).toNat)|_=> .unroll 0)|_=> .unroll 0)
def m3_0 (l:List (List C)) (x:Int) (x_1:Int):Int:=(A8 (rGet (ql 3 (Ba l 0)) x) (iAdd (qi 16 (rGet (ql 3 (Ba l 0)) x)) (iMul x_1 (qi 1 (Ba l 0)))) (iAdd (iAdd (qi 16 (rGet (ql 3 (Ba l 0)) x)) (iMul x_1 (qi 1 (Ba l 0)))) (qi 1 (Ba l 0))))
def m3_1 (l:List (List C)) (x:Int):List C:=(rGet (ql 3 (Ba l 0)) x)
def m3_2 (l:List (List C)) (x:Int) (x_1:Int):List C:=(Dz (H6 (m3_1 l x) x_1) (m3_1 l x) (qi 1 (Ba l 0)) (m3_0 l x x_1))
def m3_3 (l:List (List C)) (x:Int) (x_1:Int):List C:=(Dz (H6 (m3_1 l x) x_1) (m3_1 l x) (m3_0 l x x_1) (qi 1 (Ba l 0)))
def m3_4 (l:List (List C)) (x:Int) (x_1:Int):Int:=(CS (m3_1 l x) (iAdd (qi 16 (m3_1 l x)) (iMul x_1 (qi 1 (Ba l 0)))) (iAdd (iAdd (qi 16 (m3_1 l x)) (iMul x_1 (qi 1 (Ba l 0)))) (qi 1 (Ba l 0))))
theorem v3 (l:List (List C)) (q:Int):WL hI l/\AnC q->True/\True/\Cn (bNot true) (false=true) (True/\(pLe 0 0/\True)/\(WD hE (Ba l 0)->AnE (ql 3 (Ba l 0))->(∃(x:Int),O4 (↑(ql 3 (Ba l 0)).length) x/\0=x)/\∀(x:Int),O4 (↑(ql 3 (Ba l 0)).length) x->AnC x->Cn (bLt x (iLen (ql 3 (Ba l 0)))) (pIn 0 (iLen (ql 3 (Ba l 0))) x/\(WD hV (m3_1 l x)->(∃(x_1:Int),O4 (q % 24) x_1/\0=x_1/\qi 0 (m3_1 l x)=qi 0 (H6 (m3_1 l x) x_1)/\ql 1 (H6 (m3_1 l x) x_1)=[]/\false=qb 2 (H6 (m3_1 l x) x_1))/\∀(x_1:Int),O4 (q % 24) x_1->AnC x_1/\AnD (qi 0 (H6 (m3_1 l x) x_1))/\WL hII (ql 1 (H6 (m3_1 l x) x_1))->(pLe 1 24/\True)/\(AnC (q % 24)->Cn (bLt x_1 (q % 24)) (AnC (iMul x_1 (qi 1 (Ba l 0)))/\AnC (iAdd (qi 16 (m3_1 l x)) (iMul x_1 (qi 1 (Ba l 0))))/\AnC (iAdd (iAdd (qi 16 (m3_1 l x)) (iMul x_1 (qi 1 (Ba l 0)))) (qi 1 (Ba l 0)))/\True/\(AnC (m3_0 l x x_1)/\AnC (m3_4 l x x_1)->Cn (bEq (qi 2 (m3_1 l x)) 2) (pLe (iLen (ql 1 (H6 (m3_1 l x) x_1))) 200/\(AnD (qi 0 (m3_2 l x x_1))/\WL hII (ql 1 (m3_2 l x x_1))->Cn (bNe (m3_4 l x x_1) 0) (false=true) (Cn (qb 2 (m3_2 l x x_1)) (false=true) (AnE (ql 1 (m3_2 l x x_1))->AnC (iAdd x_1 1)/\Cn (bNe (iLen (ql 1 (m3_2 l x x_1))) (iAdd x_1 1)) (false=true) (AnC (iAdd x_1 1)/\Sm l/\Sm q/\Sm x/\Sm (iLen (ql 3 (Ba l 0)))/\Sm x/\Sm [C.l l,C.i (KH l 0)]/\Sm (sg 0 [0,0,0,3,3] (Ba l 0))/\Sm (KC (m3_1 l x))/\∃(y:Int),O4 (q % 24) y/\iAdd x_1 1=y/\qi 0 (m3_2 l x x_1)=qi 0 (H6 (m3_1 l x) y)/\ql 1 (m3_2 l x x_1)=ql 1 (H6 (m3_1 l x) y)/\qb 2 (m3_2 l x x_1)=qb 2 (H6 (m3_1 l x) y)/\nLt (24-y).toNat (24-x_1).toNat))))) (pLe (iLen (ql 1 (H6 (m3_1 l x) x_1))) 200/\(AnD (qi 0 (m3_3 l x x_1))/\WL hII (ql 1 (m3_3 l x x_1))->Cn (bNe (m3_4 l x x_1) 0) (false=true) (Cn (qb 2 (m3_3 l x x_1)) (false=true) (AnE (ql 1 (m3_3 l x x_1))->AnC (iAdd x_1 1)/\Cn (bNe (iLen (ql 1 (m3_3 l x x_1))) (iAdd x_1 1)) (false=true) (AnC (iAdd x_1 1)/\Sm l/\Sm q/\Sm x/\Sm (iLen (ql 3 (Ba l 0)))/\Sm x/\Sm [C.l l,C.i (KH l 0)]/\Sm (sg 0 [0,0,0,3,3] (Ba l 0))/\Sm (KC (m3_1 l x))/\∃(y:Int),O4 (q % 24) y/\iAdd x_1 1=y/\qi 0 (m3_3 l x x_1)=qi 0 (H6 (m3_1 l x) y)/\ql 1 (m3_3 l x x_1)=ql 1 (H6 (m3_1 l x) y)/\qb 2 (m3_3 l x x_1)=qb 2 (H6 (m3_1 l x) y)/\nLt (24-y).toNat (24-x_1).toNat))))))) (AnC (iAdd x 1)/\Sm l/\Sm q/\Sm (iLen (ql 3 (Ba l 0)))/\Sm [C.l l,C.i (KH l 0)]/\Sm (sg 0 [0,0,0,3,3] (Ba l 0))/\∃(y:Int),O4 (↑(ql 3 (Ba l 0)).length) y/\iAdd x 1=y/\nLt ((ql 3 (Ba l 0)).length-y.toNat) ((ql 3 (Ba l 0)).length-x.toNat))))) (Sm true))):=by
 intro hw;delta m3_0 m3_1 m3_2 m3_3 m3_4;have tm:=ZT l 0;have q24:=Aml q (show(0:Int)<24 by decide);have q0:=AmB q (show(24:Int)≠0 by decide);simp only[D,E];refine⟨λh=>(by cases h),AlO _,λ_ hl=>⟨⟨0,⟨AlO _,by omega⟩,rfl⟩,λx ⟨x0,x1⟩ _=>⟨λhx=>⟨⟨x0,hx⟩,λ_=> ?_⟩,λ_=>trivial⟩⟩⟩;have ho:=tm _ (AjV x0 hx);generalize rGet (ql 3 (Ba l 0)) x=o at*;have wk:=fun(n:Int) (h:n<=24)=>Aav (n:=n) ho h;obtain⟨⟨hr,h0,h13⟩,_,p,hd⟩:=ho;have hp:=hd.2.1;have b:=OB hd.1;rw[h0,←h13];refine⟨⟨0,⟨AlO _,by omega⟩,rfl,rfl,rfl,rfl⟩,λk ⟨k0,k1⟩ _=>⟨by decide,λ_=>⟨λhk=> ?_,λhk=> ?_⟩⟩⟩
 · obtain ⟨m, rfl⟩ := Amf k0;have du := W9 hd hr h0 (k := m) (by omega);have tn := VS hd m;have mb := Aa8 (x := (m : Int)) (X := 24) (y := qi 13 o) (Y := 32) (by omega) (by omega) (by omega) (by omega);have ts := AaE o k0;have ob : ∀ a b, NU o (A8 o (m * qi 13 o) (m * qi 13 o + qi 13 o)) = [.i a, .i b] -> Dz (H6 o m) o a b = H6 o (m + 1) := λa b h => by
    have e:MG o m++[[.i a,.i b]]=MG o (m+1):=by rw[←ts,h]
    show([.i (qi 0 o),.l (MG o m++[[.i a,.i b]]),.b (false|| !IE o (MG o m++[[.i a,.i b]]))]:List C)=_;rw[e,wk _ (by omega)]; rfl
   have ll:∀n:Int,0<=n->((ql 1 (H6 o n)).length:Int)=n:=λn h=>by
    show((MG o n).length:Int)=n;unfold MG; rw[Al5,List.length_range]; omega
   have l0:=ll m k0;have l1:=ll (m+1) (by omega);rw[Int.zero_add];refine⟨by simp only[InR]; omega,by simp only[InR]; omega,by simp only[InR]; omega,λ_=>⟨λh2=> ?_,λh2=> ?_⟩⟩
   · rw[ob _ _ (if_pos h2),l0,l1,du.1];exact⟨by omega,λ_=>⟨λh=>(h rfl).elim,λ_=>⟨λh=>(by cases h),λ_ _=>⟨by simp only[InR]; omega,λh=>(h rfl).elim,λ_=>⟨by simp only[InR]; omega,_,⟨by omega,by omega⟩,rfl,rfl,rfl,rfl,by omega⟩⟩⟩⟩⟩
   · rw[ob _ _ (if_neg h2),l0,l1,du.1];exact⟨by omega,λ_=>⟨λh=>(h rfl).elim,λ_=>⟨λh=>(by cases h),λ_ _=>⟨by simp only[InR]; omega,λh=>(h rfl).elim,λ_=>⟨by simp only[InR]; omega,_,⟨by omega,by omega⟩,rfl,rfl,rfl,rfl,by omega⟩⟩⟩⟩⟩
 · exact⟨by simp only[InR]; omega,x+1,⟨by omega,by omega⟩,rfl,by omega⟩
theorem uu3 (l:List (List C)) (q:Int):Ad6 (hyp (wfP.go [.sl [.int .i64] l,.int .i64 q]) (vcF PR (look (tbR [r5,r7,r6,r8,r9,r10])) (λ_=>false) (A3 l q) 8 3 [.sl [.int .i64] l,.int .i64 q] [] (λsv _=>AhS sv))):=Y (v3 l q)
end Go.Sx

