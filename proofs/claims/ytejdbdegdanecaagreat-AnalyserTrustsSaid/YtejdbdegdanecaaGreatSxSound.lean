import Derived.Test.YtejdbdegdanecaaGreatSxCall
set_option linter.unusedVariables false
set_option linter.unusedSimpArgs false
namespace Go.Sx
open Go.RowKit
variable {P:Program}
def newH (heap heap':List HB) (W:List Nat) (H:Nat->Option HB) (k:Nat):Option HB:=
 if k∈W∨(heap.length<=k/\k<heap'.length)then heap'[k]? else H k
theorem AcZ (heap:List HB) (H:Nat->Option HB) (k:Nat):newH heap heap [] H k=H k:=by
 unfold newH; rw[if_neg]; rintro(h|h)
 · simp at h
 · omega
theorem numOf_VR {V:Vw} {x:SV} {v:Value} {k:IntKind} {n:Int} {l:Bool} (h:numOf x=some (k,n,l)) (hv:VR V x v):v= .int k n:=by
 cases x<;>simp only[numOf]at h<;>first|(cases h; done)|(simp only[AlC,AlH]at h; obtain⟨rfl,rfl,_⟩:=h; simpa only[VR]using hv)
theorem AcJ {x:SV} {k:IntKind} {n:Int} {l:Bool} (h:numOf x=some (k,n,l)) (hv:Wf x):InR k n:=by
 cases x<;>simp only[numOf]at h<;>first|(cases h; done)|(simp only[AlC,AlH]at h; obtain⟨rfl,rfl,_⟩:=h; simpa only[Wf]using hv)
theorem AcL {V:Vw} {x:SV} {v:Value} {b l:Bool} (h:booOf x=some (b,l)) (hv:VR V x v):v= .bool b:=by
 cases x<;>simp only[booOf]at h<;>first|(cases h; done)|(simp only[AlC,AlH]at h; obtain⟨rfl,_⟩:=h; simpa only[VR]using hv)
theorem Ab9 (V:Vw) (k:IntKind) (n:Int) (l:Bool):VR V (mkNum k n l) (.int k n):=by cases l<;>simp[mkNum,VR]
theorem Akf (V:Vw) (b:Bool) (l:Bool):VR V (mkBoo b l) (.bool b):=by cases l<;>simp[mkBoo,VR]
theorem Aby (k:IntKind) (n:Int) (l:Bool) (h:InR k n):Wf (mkNum k n l):=by cases l<;>simpa[mkNum,Wf]using h
theorem Ake (b:Bool) (l:Bool):Wf (mkBoo b l):=by cases l<;>simp[mkBoo,Wf]
theorem AjM {l:Bool} {op:BinOp} {a b:Int} {r:Bool} (h:sCmp l op a b=some r) (w:World):(Op.intCmp op a b).run P w= .ok (.bool r) w:=by
 unfold sCmp at h;have hl:∀x:Bool,(if l=true then x else x)=x:=λx=>by cases l<;>rfl
 simp only[hl]at h
 cases op<;>simp only[AlC]at h<;>first|(cases h; done)|(subst h; simp[Op.intCmp,Sem.run_pure])
 · rw[Bool.eq_iff_iff]; simp
 · rw[Bool.eq_iff_iff]; simp
theorem Aij {t:TypeId} (hu:P.underlying t=some .bool) (a b:Bool) (w:World):(Op.equal t (.bool a) (.bool b)).run P w= .ok (a==b) w:=by
 have h:∀d,(Op.equalIn (d+1) t (.bool a) (.bool b)).run P w= .ok (a==b) w:=λd=>by
  simp only[Op.equalIn,Sem.run_bind,Aa4 hu,Result.andThen_ok,Sem.run_pure]
 exact h 9999
theorem AjQ {V:Vw} {wr:Bool} {op:BinOp} {x y:SV} {c:Q} {r:SV} {u v:Value} {t:TypeId} (h:sBin wr (isBoo P t) op x y=some (c,r)) (hc:c.h) (hx:VR V x u) (hy:VR V y v) (p q:Operand) (w:World):
 ∃z,(do eqGuard op t p q u v; binOp op t u v:Sem Value).run P w= .ok z w/\VR V r z:=by
 unfold sBin at h;split at h
 · rename_i k a la j b lb hp hq;rw [numOf_VR hp hx, numOf_VR hq hy];have hg : (eqGuard op t p q (.int k a) (.int j b)).run P w = .ok () w := by
    unfold eqGuard; cases op<;>rfl
   simp only[Sem.run_bind,hg,Result.andThen_ok];split at h
   · unfold Agg at h;simp only[AlM,AlC,AlH]at h;obtain⟨rfl,rfl⟩:=h;refine⟨.int k (a*2 ^ b.toNat),?_,Ab9 V _ _ _⟩;have h0:¬b<0:=by have:=hc.1.1; omega
     simp only[binOp,Op.shift,if_neg h0,Anx hc.1.2,Sem.run_pure,hc.2.wrap]
   · unfold Agg at h;simp only[AlM,AlC,AlH]at h;obtain⟨rfl,rfl⟩:=h;refine⟨.int k (a.fdiv (2 ^ b.toNat)),?_,Ab9 V _ _ _⟩;have h0:¬b<0:=by omega
     simp only[binOp,Op.shift,if_neg h0,Anx hc.2,Sem.run_pure]
   · rename_i hns1 hns2;split at h
     · rename_i hk;subst hk;split at h
       · rename_i rb hcm;simp only[AlC,AlH]at h;obtain⟨rfl,rfl⟩:=h;refine⟨.bool rb,?_,Akf V _ _⟩;have hrun:=AjM (P:=P) hcm w
         cases op<;>simp only[sCmp]at hcm<;>first|(cases hcm; done)|(simp only[binOp,ne_eq,not_true_eq_false,if_false]; exact hrun)
       · split at h
         · unfold Ag2 at h
           cases op<;>simp only at h<;>first|(cases h; done)|skip
           all_goals
            split at h
            · rename_i hc'
              simp only[AlM,AlC,AlH]at h
              obtain⟨rfl,rfl⟩:=h
              refine⟨_,?_,Ab9 V _ _ _⟩
              simp only[binOp,ne_eq,not_true_eq_false,if_false,Op.intArith,Op.intDiv,Sem.run_pure]
              first|rw[(inRb_iff.1 hc').wrap]|(rw[if_neg hc'.1]; simp only[Sem.run_pure,(inRb_iff.1 hc'.2).wrap])|(rw[if_neg hc']; rfl)
            · cases h
         split at h
         · cases op<;>simp only[sArithW,AlM,Am1,AlC,AlH]at h<;>first|(cases h; done)|skip
           all_goals
            obtain⟨rfl,rfl⟩:=h
            refine⟨_,?_,Ab9 V _ _ _⟩
            simp only[binOp,ne_eq,not_true_eq_false,if_false,Op.intArith,Op.intDiv,Sem.run_pure]
           all_goals (rw[if_neg hc]; rfl)
         · cases op<;>simp only[sArith,AlM,Am1,AlC,AlH]at h<;>first|(cases h; done)|skip
           all_goals
            obtain⟨rfl,rfl⟩:=h
            refine⟨_,?_,Ab9 V _ _ _⟩
            simp only[binOp,ne_eq,not_true_eq_false,if_false,Op.intArith,Op.intDiv,Sem.run_pure]
           · rw[hc.wrap]
           · rw[hc.wrap]
           · rw[hc.wrap]
           · rw[if_neg hc.1]; simp only[Sem.run_pure,hc.2.wrap]
           · rw[if_neg hc]; rfl
     · cases h
 · split at h
   · rename_i a la b lb hp hq;rw [AcL hp hx, AcL hq hy];have hg : (eqGuard op t p q (.bool a) (.bool b)).run P w = .ok () w := by
      unfold eqGuard; cases op<;>rfl
     simp only[Sem.run_bind,hg,Result.andThen_ok]
     cases hu:P.underlying t with
     |none=>cases op<;>simp[isBoo,hu]at h
     |some d=>
      cases d<;>(try (cases op<;>simp[isBoo,hu]at h; done))
      have he:=Aij hu a b w
      cases op<;>simp only[isBoo,hu,if_true,AlC,AlH]at h<;>first|(cases h; done)|skip
      · obtain⟨rfl,rfl⟩:=h
        refine⟨.bool (a==b),?_,by split<;>simp[VR]⟩
        simp only[binOp,Sem.run_bind,he,Result.andThen_ok,Sem.run_pure]
      · obtain⟨rfl,rfl⟩:=h
        refine⟨.bool (!(a==b)),?_,by split<;>simp[VR]⟩
        simp only[binOp,Sem.run_bind,he,Result.andThen_ok,Sem.run_pure]
   · split at h
     · rename_i a b _ _;simp only [VR] at hx hy;subst hx; subst hy;have hg : (eqGuard op t p q (.string a) (.string b)).run P w = .ok () w := by
        unfold eqGuard; cases op<;>rfl
       simp only[Sem.run_bind,hg,Result.andThen_ok]
       cases op<;>simp only[AlC,AlH]at h<;>first|(cases h; done)|skip
       · obtain⟨rfl,rfl⟩:=h;exact⟨.bool (a.toList==b.toList),by simp only[binOp,Op.stringOp,Sem.run_pure],by simp[VR]⟩
       · obtain⟨rfl,rfl⟩:=h;exact⟨.bool (!(a.toList==b.toList)),by simp only[binOp,Op.stringOp,Sem.run_pure],by simp[VR]⟩
     · cases h
theorem Aiu {V:Vw} {op:UnOp} {x:SV} {u:Value} {c:Q} {r:SV} (h:sUn op x=some (c,r)) (hc:c.h) (hx:VR V x u) (w:World):
 ∃z,(Op.unary op u).run P w= .ok z w/\VR V r z:=by
 unfold sUn at h;split at h
 · cases hb:booOf x with
   |none=>simp[hb]at h
   |some p=>
    obtain⟨b,l⟩:=p
    simp only[hb,AlM,AlC,AlH]at h
    obtain⟨rfl,rfl⟩:=h
    rw[AcL hb hx]
    exact⟨.bool (!b),rfl,by cases l<;>simp[VR]⟩
 · cases hb:numOf x with
   |none=>simp[hb]at h
   |some p=>
    obtain⟨k,n,l⟩:=p
    rw[numOf_VR hb hx]
    refine⟨.int k (0-n),?_,?_⟩
    · simp only[hb,AmG]at h
      have hin:InR k (0-n):=by
       split at h
       · split at h
         · rename_i hb'; exact inRb_iff.1 hb'
         · cases h
       · simp only[AlC,AlH]at h;obtain⟨rfl,rfl⟩:=h;exact hc
      simp only[Op.unary,Op.intArith,Sem.run_pure,hin.wrap]
    · simp only[hb,AmG]at h
      split at h
      · split at h
        · simp only[AlC,AlH]at h
          obtain⟨rfl,rfl⟩:=h
          simp[VR]
        · cases h
      · simp only[AlC,AlH]at h
        obtain⟨rfl,rfl⟩:=h
        simp[VR]
 · cases h
theorem sPick_run {V:Vw} {c a b r:SV} {u v z:Value} (h:Aiw c a b=some r) (hc:VR V c u) (ha:VR V a v) (hb:VR V b z):
 ∃q,u= .bool q/\VR V r (if q then v else z):=by
 unfold Aiw at h;split at h
 · injection h with h; subst h; simp only[VR]at hc; exact⟨true,hc,by simpa using ha⟩
 · injection h with h; subst h; simp only[VR]at hc; exact⟨false,hc,by simpa using hb⟩
 · rename_i q;simp only[VR]at hc;refine⟨q,hc,?_⟩;split at h
   · rename_i x _ y _ hx hy;injection h with h; subst h;rw[AcL hx ha,AcL hy hb]
     cases q<;>simp[VR]
   · split at h
     · rename_i k x _ j y _ hx hy;split at h
       · rename_i hk;subst hk;injection h with h; subst h;rw[numOf_VR hx ha,numOf_VR hy hb]
         cases q<;>simp[VR]
       · cases h
     · cases h
 · cases h
theorem sConv_run {V:Vw} {src dst:TypeId} {d:TypeDesc} {x r:SV} {u:Value} (hs:P.underlying src=some d) (h:AiA P dst x=some r) (hx:VR V x u) (hw:Wf x) (w:World):
 ∃z,(convert src dst u).run P w= .ok z w/\VR V r z:=by
 unfold AiA at h;split at h
 · rename_i j k n l hd hn;rw [numOf_VR hn hx];have hrun : (convert src dst (.int k n)).run P w = .ok (.int j (j.wrap n)) w := by
    simp only[convert,Sem.run_bind,Aa4 hs,Aa4 hd,Result.andThen_ok,Conv.intToInt,Sem.run_pure]
   refine⟨_,hrun,?_⟩;split at h
   · rename_i hwd;injection h with h; subst h;rw[((AcJ hn hw).widen hwd).wrap];exact Ab9 V _ _ _
   · injection h with h; subst h;simp[VR]
 · rename_i hd _;split at h
   · rename_i s _;injection h with h; subst h;simp only[VR]at hx;subst hx;refine⟨.string s,?_,by simp[VR]⟩;simp only[convert,Sem.run_bind,Aa4 hs,Aa4 hd,Result.andThen_ok,Sem.run_pure]
   · cases h
 · cases h
theorem sMin_run {V:Vw} {b:Builtin} {x y r:SV} {u v:Value} (h:sMin b x y=some r) (hx:VR V x u) (hy:VR V y v) (ts:Array TypeId) (t:TypeId) (cs:Array Bool) (w:World):
 ∃z,(builtin b ts t cs #[u,v]).run P w= .ok (.value z) w/\VR V r z:=by
 unfold sMin at h;split at h
 · rename_i k a la j c lc hp hq;split at h
   · rename_i hk;subst hk;rw[numOf_VR hp hx,numOf_VR hq hy];split at h
     · injection h with h; subst h;refine⟨.int k (min a c),?_,by split<;>simp[VR]⟩;simp only[builtin,Builtin.min_,List.foldlM_cons,List.foldlM_nil,Builtin.min2,Sem.run_bind,Sem.run_pure,Result.andThen_ok];congr 3;omega
     · injection h with h; subst h;refine⟨.int k (max a c),?_,by split<;>simp[VR]⟩;simp only[builtin,Builtin.max_,List.foldlM_cons,List.foldlM_nil,Builtin.max2,Sem.run_bind,Sem.run_pure,Result.andThen_ok];congr 3;omega
     · cases h
   · cases h
 · cases h
end Go.Sx

