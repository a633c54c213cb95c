import Derived.Test.YtejdbdegdanecaaGreatSxSop2
set_option linter.unusedVariables false
set_option linter.unusedSimpArgs false
namespace Go.Sx
open Go.RowKit
variable {P:Program} {G:Nat->Option Ct} {o:Oper} {ev:Operand->SV}
theorem Af0 {k:IntKind} {a:Int} (h:InR k a) (b:Int):InR k (a.tmod b):=by
 have h1:(a.tmod b).natAbs<=a.natAbs:=by rw[Int.natAbs_tmod]; exact Nat.mod_le _ _
 have h2:0<=a->0<=a.tmod b:=λh=>Int.tmod_nonneg b h;have h3:a<=0->a.tmod b<=0:=λh=>by
  have h4:=Int.tmod_nonneg (a:= -a) b (by omega);rw[Int.neg_tmod]at h4; omega
 cases k<;>simp only[InR]at* <;>omega
theorem Aj1 {k:IntKind} {a:Int} (h:InR k a) (n:Nat):InR k (a.fdiv (2 ^ n)):=by
 have hp:(0:Int)<2 ^ n:=Int.pow_pos (by decide);have he:a.fdiv (2 ^ n)=a/2 ^ n:=AmF a (Int.le_of_lt hp);rw[he];have h1:0<=a->0<=a/2 ^ n/\a/2 ^ n<=a:=λh=>⟨Al8 h (Int.le_of_lt hp),Amy _ h⟩
 have h2:a<0->a/2 ^ n<0/\a<=a/2 ^ n:=λh=>by
  refine⟨Int.ediv_neg_of_neg_of_pos h hp,?_⟩;rw[Am9 hp];have:a*2 ^ n<=a*1:=Int.mul_le_mul_of_nonpos_left (by omega) (by omega);omega
 cases k<;>simp only[InR]at* <;>omega
theorem AkB {wr isB:Bool} {op:BinOp} {x y r:SV} {c:Q} (h:sBin wr isB op x y=some (c,r)) (hc:c.h) (hx:Wf x):Wf r:=by
 unfold sBin at h;split at h
 · rename_i k a la j b lb hp hq;have ha:=AcJ hp hx;split at h
   · unfold Agg at h;simp only[AlM,AlC,AlH]at h;obtain⟨rfl,rfl⟩:=h;exact Aby _ _ _ hc.2
   · unfold Agg at h;simp only[AlM,AlC,AlH]at h;obtain⟨rfl,rfl⟩:=h;exact Aby _ _ _ (Aj1 ha _)
   · split at h
     · split at h
       · simp only[AlC,AlH]at h;obtain⟨rfl,rfl⟩:=h;exact Ake _ _
       · split at h
         · unfold Ag2 at h
           cases op<;>simp only at h<;>first|(cases h; done)|skip
           all_goals
            split at h
            · rename_i hc'
              simp only[AlM,AlC,AlH]at h
              obtain⟨rfl,rfl⟩:=h
              first|exact Aby _ _ _ (inRb_iff.1 hc')|exact Aby _ _ _ (inRb_iff.1 hc'.2)|exact Aby _ _ _ (Af0 ha _)
            · cases h
         split at h
         · cases op<;>simp only[sArithW,AlM,Am1,AlC,AlH]at h<;>first|(cases h; done)|skip
           all_goals
            obtain⟨rfl,rfl⟩:=h
            first|exact Aby _ _ _ (inR_wrap _ _)|exact Aby _ _ _ (Af0 ha _)
         · cases op<;>simp only[sArith,AlM,Am1,AlC,AlH]at h<;>first|(cases h; done)|skip
           all_goals
            obtain⟨rfl,rfl⟩:=h
            first|exact Aby _ _ _ hc|exact Aby _ _ _ hc.2|exact Aby _ _ _ (Af0 ha _)
     · cases h
 · split at h
   · split at h
     · split at h
       · simp only[AlC,AlH]at h; obtain⟨rfl,rfl⟩:=h; split<;>simp[Wf]
       · cases h
     · split at h
       · simp only[AlC,AlH]at h; obtain⟨rfl,rfl⟩:=h; split<;>simp[Wf]
       · cases h
     · cases h
   · split at h
     · split at h
       · simp only[AlC,AlH]at h; obtain⟨rfl,rfl⟩:=h; simp[Wf]
       · simp only[AlC,AlH]at h; obtain⟨rfl,rfl⟩:=h; simp[Wf]
       · cases h
     · cases h
theorem Akj {op:UnOp} {x r:SV} {c:Q} (h:sUn op x=some (c,r)) (hc:c.h):Wf r:=by
 unfold sUn at h;split at h
 · cases hb:booOf x with
   |none=>simp[hb]at h
   |some p=>
    simp only[hb,AlM,AlC,AlH]at h
    obtain⟨rfl,rfl⟩:=h
    split<;>simp[Wf]
 · cases hb:numOf x with
   |none=>simp[hb]at h
   |some p=>
    obtain⟨k,n,l⟩:=p
    simp only[hb,AmG]at h
    split at h
    · split at h
      · simp only[AlC,AlH]at h
        obtain⟨rfl,rfl⟩:=h
        rename_i hb'
        simpa only[Wf]using inRb_iff.1 hb'
      · cases h
    · simp only[AlC,AlH]at h
      obtain⟨rfl,rfl⟩:=h
      simpa only[Wf]using hc
 · cases h
theorem AjR {P:Program} {wr:Bool} {op:BinOp} {x y r:SV} {c:Q} {t:TypeId} (h:AiE P wr op t x y=some (c,r)) (hc:c.h) (hx:Wf x):Wf r:=by
 unfold AiE at h;split at h
 · rename_i r' he;injection h with h; subst h;exact AiD he
 · exact AkB h hc hx
theorem Akx {wr:Bool} {op:UnOp} {x r:SV} {c:Q} (h:sUnX wr op x=some (c,r)) (hc:c.h):Wf r:=by
 unfold sUnX at h;split at h
 · simp only[AlC,AlH]at h;obtain⟨rfl,rfl⟩:=h;exact Aby _ _ _ (inR_wrap _ _)
 · split at h
   · simp only[AlC,AlH]at h;obtain⟨rfl,rfl⟩:=h;simp only[Wf]; exact inR_wrap _ _
   · exact Akj h hc
 · exact Akj h hc
theorem Aj2 {k:IntKind} {p q:Int} (c:Bool) (h1:InR k p) (h2:InR k q):InR k (bif c then p else q):=by cases c<;>assumption
theorem AjG {c x y r:SV} (h:Aiw c x y=some r) (hx:Wf x) (hy:Wf y):Wf r:=by
 unfold Aiw at h;split at h
 · injection h with h; subst h; exact hx
 · injection h with h; subst h; exact hy
 · split at h
   · injection h with h; subst h; simp[Wf]
   · split at h
     · rename_i k p _ j q _ hp hq;split at h
       · rename_i hk;subst hk;injection h with h; subst h;simp only[Wf];exact Aj2 _ (AcJ hp hx) (AcJ hq hy)
       · cases h
     · cases h
 · cases h
theorem AjL {dst:TypeId} {x r:SV} (h:AiA P dst x=some r) (hx:Wf x):Wf r:=by
 unfold AiA at h;split at h
 · rename_i j k n l hd hn;split at h
   · rename_i hw;injection h with h; subst h;exact Aby _ _ _ ((AcJ hn hx).widen hw)
   · injection h with h; subst h;simp only[Wf]; exact inR_wrap _ _
 · split at h
   · injection h with h; subst h; exact hx
   · cases h
 · cases h
theorem Aky {b:Builtin} {x y r:SV} (h:sMin b x y=some r) (hx:Wf x) (hy:Wf y):Wf r:=by
 unfold sMin at h;split at h
 · rename_i k p la j q lc hp hq;split at h
   · rename_i hk;subst hk;have h1:=AcJ hp hx;have h2:=AcJ hq hy;split at h
     · injection h with h; subst h;have hm : InR k (min p q) := by
        rcases Int.le_total p q with h3|h3
        · rw[Int.min_eq_left h3]; exact h1
        · rw[Int.min_eq_right h3]; exact h2
       split<;>simpa only[Wf]using hm
     · injection h with h; subst h;have hm : InR k (max p q) := by
        rcases Int.le_total p q with h3|h3
        · rw[Int.max_eq_right h3]; exact h2
        · rw[Int.max_eq_left h3]; exact h1
       split<;>simpa only[Wf]using hm
     · cases h
   · cases h
 · cases h
theorem Akm (v:Value):Wf (ofV v):=by
 unfold ofV;split<;>(try split)<;>simp_all [Wf,inRb_iff]
theorem Adm (l:List Value):Wfs (ofVs l):=Wfs.all.2 λc hc=>by
 obtain⟨v,_,rfl⟩:=AmU.1 hc;exact Akm v
theorem Aic (v:Value):Wf (AeH v):=by
 unfold AeH;split
 · split
   · simp only[Wf]; exact Adm _
   · simp[Wf]
 · split<;>simp[Wf]
 · exact Akm _
theorem AbZ {x:SV} {cs:List SV} (h:svCells x=some cs) (hw:Wf x):Wfs cs:=by
 cases x<;>simp only[svCells]at h<;>first|(cases h; done)|(injection h with h; subst h; first|(simpa only[Wf]using hw)|(simp only[Wfs]; exact⟨hw,trivial⟩))
theorem AcI {t:TypeId} {cells:List SV} {off:Nat} {r:SV} (h:Adx P t cells off=some r) (hw:Wfs cells):Wf r:=by
 unfold Adx at h;split at h
 · split at h
   · injection h with h; subst h;simp only[Wf];exact Wfs.all.2 λc hc=>Wfs.all.1 hw c (Al3 (Al7 hc))
   · cases h
 · exact Wfs.all.1 hw r (Amm h)
 · cases h
theorem Aes {place:Nat->Option (Nat×Nat)}:∀(parts:List (Nat×SV)) (cells r:List SV),sFill place cells parts=some r->Wfs cells->(∀q∈parts,Wf q.2)->Wfs r
 |[],cells,r,h,hc,_=>by
  simp only[sFill,AlC]at h; subst h; exact hc
 |(i,x)::rest,cells,r,h,hc,hp=>by
  simp only[sFill]at h;split at h
  · rename_i off size cs hpl hcs;split at h
    · refine Aes rest _ r h ?_ λq hq=>hp q (by simp[hq]);have h1:=AbZ hcs (hp (i,x) (by simp));refine Wfs.all.2 λc hcm=> ?_;simp only[AlY]at hcm;rcases hcm with(hcm|hcm)|hcm
      · exact Wfs.all.1 hc c (Al7 hcm)
      · exact Wfs.all.1 h1 c hcm
      · exact Wfs.all.1 hc c (Al3 hcm)
    · cases h
  · cases h
theorem AiB {t:TypeId} {parts:List (Nat×SV)} {cs:List SV} (h:Agm P t parts=some cs) (hp:∀q∈parts,Wf q.2):Wfs cs:=by
 unfold Agm at h;split at h
 · cases h
 · split at h
   · split at h
     · exact Aes _ _ _ h (Adm _) hp
     · cases h
   · split at h
     · exact Aes _ _ _ h (Adm _) hp
     · cases h
   · cases h
theorem Ae0 {t:TypeId} {len:Nat} {parts:List (Nat×SV)} {n:Nat} {cs:List SV} (h:AbA P t len parts=some (n,cs)) (hp:∀q∈parts,Wf q.2):len<=16777216/\Wfs cs:=by
 unfold AbA at h;split at h
 · split at h
   · split at h
     · rename_i size z _ _ hsz;obtain⟨h1,h2,h3⟩:=hsz
       cases hf:sFill (λi=>some (i*size,size)) ((List.replicate len (ofVs z)).flatten) parts with
       |none=>simp[hf]at h
       |some ds=>
        simp only[hf,AlM,AlC,AlH]at h
        obtain⟨rfl,rfl⟩:=h
        refine⟨h3,Aes _ _ _ hf (Wfs.all.2 λc hc=> ?_) hp⟩
        simp only[List.mem_flatten,AmO]at hc
        obtain⟨l,⟨_,rfl⟩,hl⟩:=hc
        exact Wfs.all.1 (Adm z) c hl
     · cases h
   · cases h
 · cases h
theorem Akz {t:TypeId} {x i r:SV} {c:Q} (h:sIdx P t x i=some (c,r)) (hc:c.h) (hx:Wf x):Wf r:=by
 unfold sIdx at h;split at h
 · cases h
 · rename_i k n l hn;split at h
   · split at h
     · rename_i size e xs hs;split at h
       · simp only[AlC,AlH]at h;obtain⟨rfl,rfl⟩:=h;simp only[Wf]at hx ⊢;have hlt:n.toNat<xs.length:=by have h1:=hc.1; have h2:=hc.2; simp only[iLen]at h2; omega
         refine Adp e _ (hx.2 _ ?_);rw[rGet,List.getD_eq_getElem?_getD,List.getElem?_eq_getElem hlt,Amj];exact Anf hlt
       · cases h
     · rename_i size m sz cs hs;simp only[Wf]at hx;split at h
       · split at h
         · split at h
           · simp only[AlC,AlH]at h;obtain⟨rfl,rfl⟩:=h;simp only[Wf];exact Wfs.all.2 λc hcm=>Wfs.all.1 hx.2 c (Al3 hcm)
           · cases h
         · split at h
           · rename_i e xs hsr;simp only [AlC, AlH] at h;obtain ⟨rfl, rfl⟩ := h;simp only [Wf];have hlen : xs.length = m := by
              unfold Ack at hsr;split at hsr
              · split at hsr
                · rename_i e' _ _
                  cases hr:toRows (toCs e') m cs with
                  |none=>simp[hr]at hsr
                  |some ys=>
                   simp only[hr,AlM,AlC,AlH]at hsr
                   obtain⟨rfl,rfl⟩:=hsr
                   exact Abw _ m cs ys hr
                · cases hsr
              · cases hsr
             have hlt:n.toNat<xs.length:=by have h1:=hc.1; have h2:=hc.2; omega
             refine Adp e _ (AeB hsr hx.2 _ ?_);rw[rGet,List.getD_eq_getElem?_getD,List.getElem?_eq_getElem hlt,Amj];exact Anf hlt
           · cases h
       · cases h
     · cases h
   · split at h
     · split at h
       · split at h
         · simp only[AlC,AlH]at h;obtain⟨rfl,rfl⟩:=h;simp[Wf]
         · cases h
       · cases h
     · split at h
       · split at h
         · simp only[AlC,AlH]at h;obtain⟨rfl,rfl⟩:=h;simp only[Wf]at hx ⊢;exact Wfs.all.2 λc hcm=>Wfs.all.1 hx c (Al3 hcm)
         · cases h
       · cases h
     · cases h
   · cases h
theorem Ad2 {e:List Sh} {xs:List (List C)} {l h:Option Int} (hx:xs.length<=maxLen/\∀x∈xs,WfCs e x):Wf (.sl e (cutRows xs l h)):=by
 simp only[Wf];have hm:∀x∈cutRows xs l h,x∈xs:=by
  intro x hx
  cases l<;>cases h<;>simp only[cutRows]at hx
  · exact hx
  · exact Al7 hx
  · exact Al3 hx
  · exact Al7 (Al3 hx)
 refine⟨?_,λx hm'=>hx.2 x (hm x hm')⟩;have:(cutRows xs l h).length<=xs.length:=by
  cases l<;>cases h<;>simp only[cutRows,Amk,AlN]<;>omega
 omega
theorem Aiv {t:TypeId} {x r:SV} {lo hi:Option SV} {c:Q} (h:Ae8 P t x lo hi=some (c,r)) (hx:Wf x):Wf r:=by
 unfold Ae8 at h;split at h
 · split at h
   · split at h
     · simp only[AlC,AlH]at h;obtain⟨rfl,rfl⟩:=h;simp only[Wf]at hx;exact Ad2 hx
     · cases h
   · rename_i size m sz cs hs;split at h
     · split at h
       · rename_i e xs hsr;simp only [AlC, AlH] at h;obtain ⟨rfl, rfl⟩ := h;simp only [Wf] at hx;refine Ad2 ⟨?_, AeB hsr hx.2⟩;have hlen : xs.length = m := by
          unfold Ack at hsr;split at hsr
          · split at hsr
            · rename_i e' _ _
              cases hr:toRows (toCs e') m cs with
              |none=>simp[hr]at hsr
              |some ys=>
               simp only[hr,AlM,AlC,AlH]at hsr
               obtain⟨rfl,rfl⟩:=hsr
               exact Abw _ m cs ys hr
            · cases hsr
          · cases hsr
         have:=hx.1;simp only[maxLen]; omega
       · cases h
     · cases h
   · cases h
 · cases h
theorem AfQ {t:TypeId} {f:Nat} {x r:SV} (h:AcA P t f x=some r) (hx:Wf x):Wf r:=by
 unfold AcA at h;split at h
 · split at h
   · split at h
     · cases h
     · split at h
       · injection h with h; subst h; simp[Wf]
       · injection h with h; subst h;simp only[Wf]at hx ⊢;exact Wfs.all.2 λc hcm=>Wfs.all.1 hx c (Al3 hcm)
       · injection h with h; subst h; simp[Wf]
       · cases h
   · cases h
 · cases h
structure Frame (heap heap':List HB) (W:List Nat):Prop where
 len:heap.length<=heap'.length
 same:∀k,k<heap.length->k∉W->heap'[k]? =heap[k]?
 wf:WfH heap'
theorem Frame.refl {heap:List HB} (h:WfH heap) (W:List Nat):Frame heap heap W:=⟨AlT _,λ_ _ _=>rfl,h⟩
theorem AbX {heap heap':List HB} {W:List Nat} (h:WfH heap) (h1:heap'=heap):Frame heap heap' W:=by subst h1; exact Frame.refl h W
theorem Ak9 (s:Sh):Wf (ofC s default):=by
 cases s with
 |int k=>cases k<;>simp[ofC,Wf,InR,C.int,default,instInhabitedC.default]
 |bool=>simp[ofC,Wf]
 |str=>simp[ofC,Wf,C.str,default,instInhabitedC.default,maxLen]
 |sl e=>simp[ofC,Wf,C.list,default,instInhabitedC.default,maxLen]
theorem AhZ:∀(e:List Sh),Wfs (ofCs e [])
 |[]=>by simp[ofCs,Wfs]
 |s::r=>by simp only[ofCs,List.headD_nil,List.tail_nil,Wfs]; exact⟨Ak9 s,AhZ r⟩
theorem Af5 {e:List Sh} {xs:List (List C)} (h:∀x∈xs,WfCs e x) (i:Int):Wfs (ofCs e (rGet xs i)):=by
 rw[rGet,List.getD_eq_getElem?_getD]
 cases hc:xs[i.toNat]? with
 |none=>simpa using AhZ e
 |some x=>simpa using Adp e x (h x (Amm hc))
theorem frzH_frame {heap:List HB} (h:WfH heap) (ids:List Nat):Frame heap (frzH heap ids) ids:=
 ⟨by rw[Aa9]; exact AlT _,λk _ hk=>by rw[AbQ,if_neg hk],Ajo h ids⟩
theorem Frame.mono {heap heap':List HB} {W W':List Nat} (h:Frame heap heap' W) (hW:∀k,k∈W->k∈W'):Frame heap heap' W':=⟨h.len,λk hk hn=>h.same k hk λh'=>hn (hW k h'),h.wf⟩
theorem Frame.set {heap heap':List HB} {W:List Nat} (h:Frame heap heap' W) {k:Nat} {hb:HB} (hw:WfHB hb):Frame heap (heap'.set k hb) (k::W):=by
 refine⟨by simpa using h.len,λj hj hn=> ?_,λj b hj=> ?_⟩
 · simp only[Amd,not_or]at hn;rw[List.getElem?_set_ne (λe=>hn.1 e.symm)];exact h.same j hj hn.2
 · rw[List.getElem?_set]at hj;split at hj
   · split at hj
     · injection hj with hj; subst hj; exact hw
     · cases hj
   · exact h.wf j b hj
theorem Frame.push {heap heap':List HB} {W:List Nat} (h:Frame heap heap' W) {hb:HB} (hw:WfHB hb):Frame heap (heap'++[hb]) W:=by
 refine⟨by have:=h.len; simp; omega,λj hj hn=> ?_,λj b hj=> ?_⟩
 · rw[List.getElem?_append_left (by have:=h.len; omega)]; exact h.same j hj hn
 · rw[List.getElem?_append]at hj;split at hj
   · exact h.wf j b hj
   · rw[List.getElem?_singleton]at hj;split at hj
     · injection hj with hj; subst hj; exact hw
     · cases hj
theorem AjJ {t:TypeId} {heap:List HB} {x i r:SV} {c:Q} {R:List Nat} (h:Aiz P t heap x i=some (c,r,R)) (hc:c.h) (hx:Wf x) (hh:WfH heap):Wf r:=by
 unfold Aiz at h;split at h
 · split at h
   · split at h
     · split at h
       · simp only[AlC,AlH]at h;obtain⟨rfl,rfl,rfl⟩:=h;simp[Wf]
       · cases h
     · cases h
   · cases h
 · split at h
   · split at h
     · split at h
       · simp only[AlC,AlH]at h;obtain⟨rfl,rfl,rfl⟩:=h;simp[Wf]
       · cases h
     · rename_i e d xs size hk hs;split at h
       · simp only[AlC,AlH]at h;obtain⟨rfl,rfl,rfl⟩:=h;simp only[Wf];exact Af5 (hh _ _ hk).2 _
       · cases h
     · split at h
       · simp only[AlC,AlH]at h;obtain⟨rfl,rfl,rfl⟩:=h;simp[Wf]
       · cases h
     · cases h
   · cases h
 · cases hs:sIdx P t x i with
   |none=>simp[hs]at h
   |some p=>
    obtain⟨q,r'⟩:=p
    simp only[hs,AlM,AlC,AlH]at h
    obtain⟨rfl,rfl,rfl⟩:=h
    exact Akz hs hc hx
theorem Ahg {α:Type} (xs:List α) (l h:Option Int):(cutRows xs l h).length<=xs.length/\∀x∈cutRows xs l h,x∈xs:=by
 cases l<;>cases h<;>simp only[cutRows]<;>refine⟨?_,λx hx=> ?_⟩<;>first
 |exact AlT _
 |exact hx
 |(simp; omega)
 |(simp; done)
 |exact Al7 hx
 |exact Al3 hx
 |exact Al7 (Al3 hx)
theorem Ajz {e:List Sh} {xs:List (List C)} (h:Wf (.sl e xs)):Wf (.slc e xs):=by simpa only[Wf]using h
theorem Ae7 {t:TypeId} {heap heap':List HB} {x sv:SV} {lo hi mx:Option SV} {hyp chk:Q} {R W:List Nat} (h:AdW P t heap x lo hi mx= .ok hyp chk sv heap' R W) (hx:Wf x) (hh:WfH heap):hyp.h/\Wf sv/\Frame heap heap' W:=by
 unfold AdW at h;split at h
 · split at h
   · split at h
     · simp only[OpR.ok.injEq]at h;obtain⟨rfl,rfl,rfl,rfl,rfl,rfl⟩:=h;exact⟨trivial,by simp[Wf],Frame.refl hh _⟩
     · unfold AgX at h;split at h
       · split at h
         · simp only[OpR.ok.injEq]at h;obtain⟨rfl,rfl,rfl,rfl,rfl,rfl⟩:=h;simp only[Wf]at hx;refine⟨trivial,?_,Frame.refl hh _⟩;exact Ajz (Ad2 hx)
         · cases h
       · cases h
   · cases h
 · split at h
   · rename_i k c;split at h
     · rename_i e d xs l hb elem hcur hl hhb hu;split at h
       · simp only[OpR.ok.injEq]at h;obtain⟨rfl,rfl,rfl,rfl,rfl,rfl⟩:=h;have hw:=Aeu hh hcur;have hs:=Ahg xs l hb;refine⟨trivial,?_,frzH_frame hh [k]⟩;simp only[Wf];exact⟨AnB hs.1 hw.1,λx hx=>hw.2 x (hs.2 x hx)⟩
       · cases h
     · cases h
   · split at h
     · split at h
       · simp only[OpR.ok.injEq]at h;obtain⟨rfl,rfl,rfl,rfl,rfl,rfl⟩:=h;exact⟨trivial,by simp[Wf],Frame.refl hh _⟩
       · cases h
     · cases h
   · split at h
     · split at h
       · simp only[OpR.ok.injEq]at h;obtain⟨rfl,rfl,rfl,rfl,rfl,rfl⟩:=h;exact⟨trivial,by simp[Wf],Frame.refl hh _⟩
       · cases h
     · cases h
   · obtain⟨h1,h2,h3,h4,h5⟩:=okIf_inv h;exact⟨by rw[h5]; trivial,Aiv h1 hx,AbX hh h2⟩
theorem AdC {n by_:Nat} (h:Abb by_ (n:Int)) (hb:0<by_):n<=maxLen:=by
 have h1:n<=n*by_:=Nat.le_mul_of_pos_right _ hb;have h2:((n:Nat):Int)*(by_:Int)<=140737488355328:=h;simp only[maxLen]; omega
theorem AcW {e:List Sh} {z:List Value} {zs:List C} (h:toCs e (ofVs z)=some (zs,[])):WfCs e zs:=(Acd e _ zs [] h (Adm z)).1
theorem AjH {t:TypeId} {heap heap':List HB} {x y sv:SV} {hyp chk:Q} {R W:List Nat} (h:Aix P t heap x y= .ok hyp chk sv heap' R W) (hchk:chk.h) (hh:WfH heap):hyp.h/\Wf sv/\Frame heap heap' W:=by
 unfold Aix at h;split at h
 · rename_i elem k1 l b1 k2 c b2 hu hnx hny;split at h
   · split at h
     · rename_i zs hzs;split at h
       · rename_i hcond;simp only[OpR.ok.injEq]at h;obtain⟨rfl,rfl,rfl,rfl,rfl,rfl⟩:=h;obtain⟨h0,h1,h2⟩:=hchk;refine⟨trivial,by simp[Wf],(Frame.refl hh []).push ?_⟩;simp only[WfHB,Amx];refine⟨?_,λx hx=>by rw[(AmO.1 hx).2]; exact AcW hzs⟩;have:c.toNat<=maxLen:=AdC (by rw[show((c.toNat:Nat):Int)=c by omega]; exact h2) hcond.2.2.2;omega
       · cases h
     · cases h
   · cases h
 · cases h
theorem Ae5 {e:List Sh} {heap:List HB} {x:SV} {ys:List (List C)} {ids rd:List Nat} (h:AcH e heap x=some (ys,ids,rd)) (hx:Wf x) (hh:WfH heap):∀y∈ys,WfCs e y:=by
 unfold AcH at h;split at h
 · rename_i m sz cs;split at h
   · cases hr:toRows (toCs e) m (cs.map (thaw1 heap))with
     |none=>simp[hr]at h
     |some r=>
      simp only[hr,AlM,AlC,AlH]at h
      obtain⟨rfl,_,_⟩:=h
      simp only[Wf]at hx
      exact AcX e m _ _ (Acd e) hr (Aep hh hx.2)
   · cases h
 · split at h
   · rename_i hs;simp only[AlC,AlH]at h;obtain⟨rfl,_,_⟩:=h;have:=shEqs_eq _ _ hs;subst this;simp only[Wf]at hx;exact hx.2
   · cases h
 · split at h
   · rename_i hcur;split at h
     · rename_i hcd;simp only[AlG,AlE]at hcd;simp only[AlC,AlH]at h;obtain⟨rfl,_,_⟩:=h;have:=shEqs_eq _ _ hcd.2;subst this;exact(Aeu hh hcur).2
     · cases h
   · cases h
 · simp only[AlC,AlH]at h;obtain⟨rfl,_,_⟩:=h;simp
 · simp only[AlC,AlH]at h;obtain⟨rfl,_,_⟩:=h;simp
 · cases h
theorem sAppend0_wf {t:TypeId} {heap heap':List HB} {s x sv:SV} {hyp chk:Q} {R W:List Nat} (h:Ac9 P t heap s x= .ok hyp chk sv heap' R W) (hchk:chk.h) (hx:Wf x) (hh:WfH heap):hyp.h/\Wf sv/\Frame heap heap' W:=by
 unfold Ac9 at h;split at h
 · split at h
   · split at h
     · rename_i hcond;split at h
       · rename_i ys ids rd hsrc;have hys:=Ae5 hsrc hx hh;split at h
         · split at h
           · rename_i f ty d xs hk;split at h
             · rename_i hc;simp only[OpR.ok.injEq]at h;obtain⟨rfl,rfl,rfl,rfl,rfl,rfl⟩:=h;have hef:=shEqs_eq _ _ hc.2.1;subst hef;have hxs:=(hh _ _ hk).2;refine⟨trivial,by simp[Wf],(frzH_frame hh ids).set ?_⟩;simp only[WfHB];refine⟨AdC hchk hcond.2.2.2,λy hy=> ?_⟩;rcases AlY.1 hy with hy|hy
               · exact hxs y hy
               · exact hys y hy
             · cases h
           · cases h
         all_goals first|(cases h; done)|skip
         all_goals
          simp only[OpR.ok.injEq]at h
          obtain⟨rfl,rfl,rfl,rfl,rfl,rfl⟩:=h
          refine⟨trivial,by simp[Wf],(frzH_frame hh ids).push ?_⟩
          simp only[WfHB]
          exact⟨AdC hchk hcond.2.2.2,hys⟩
       · cases h
     · cases h
   · cases h
 · cases h
theorem Ag4 {t:TypeId} {heap heap':List HB} {f:List Sh} {xs:List (List C)} {x sv:SV} {hyp chk:Q} {R W:List Nat} (h:AdA P t heap f xs x= .ok hyp chk sv heap' R W) (hchk:chk.h) (hs:Wf (.slc f xs)) (hx:Wf x) (hh:WfH heap):hyp.h/\Wf sv/\Frame heap heap' W:=by
 unfold AdA at h;split at h
 · split at h
   · split at h
     · rename_i e z size by_ _ _ _ _ hcond;have hef:=shEqs_eq _ _ hcond.2.2;subst hef;split at h
       · rename_i m sz cs;split at h
         · rename_i hm;split at h
           · rename_i ys hys;simp only[OpR.ok.injEq]at h;obtain⟨rfl,rfl,rfl,rfl,rfl,rfl⟩:=h;have hyw:=Ae5 (e:=e) (show AcH e heap (.slit m sz cs)=some (ys,cs.flatMap ids1,[]) by unfold AcH; simp only[if_pos hm.2,hys,AlM]) hx hh;refine⟨trivial,by simp[Wf],(frzH_frame hh _).push ?_⟩;simp only[WfHB];obtain⟨_,hc2⟩:=hchk;simp only[pLe,iLen]at hc2;refine⟨by simp only[maxLen]; omega,λy hy=> ?_⟩;simp only[Wf]at hs;rcases AlY.1 hy with hy|hy
             · exact hs.2 y hy
             · exact hyw y hy
           · cases h
         · cases h
       · cases h
     · cases h
   · cases h
 · cases h
theorem Ald {x:SV} (h:Wf x):Wf (unl x):=by cases x<;>first|exact h|(simp only[unl,Wf])
theorem Ag3 {t t':TypeId} {heap heap':List HB} {s x sv:SV} {hyp chk:Q} {R W:List Nat} (h:Adz P t t' heap s x= .ok hyp chk sv heap' R W) (hchk:chk.h) (hh:WfH heap):hyp.h/\Wf sv/\Frame heap heap' W:=by
 unfold Adz at h;split at h
 · rename_i elem kn kx n lx hu hu' hnx;split at h
   · split at h
     · rename_i zs hzs;split at h
       · rename_i hcond;split at h
         · split at h
           · rename_i f ty d xs hk;split at h
             · rename_i hc;simp only[OpR.ok.injEq]at h;obtain⟨rfl,rfl,rfl,rfl,rfl,rfl⟩:=h;have hef:=shEqs_eq _ _ hc.2.1;subst hef;have hxs:=(hh _ _ hk).2;obtain⟨h0,h1⟩:=hchk;simp only[pLe,iAdd,iLen]at h0 h1;refine⟨trivial,by simp[Wf],(Frame.refl hh []).set ?_⟩;simp only[WfHB];refine⟨AdC (by rw[AlF,Amx,show((xs.length+n.toNat:Nat):Int)=xs.length+n by omega]; exact h1) hcond.2.2.2,λy hy=> ?_⟩;rcases AlY.1 hy with hy|hy
               · exact hxs y hy
               · rw[(AmO.1 hy).2]; exact AcW hzs
             · cases h
           · cases h
         all_goals first|(cases h; done)|skip
         all_goals
          simp only[OpR.ok.injEq]at h
          obtain⟨rfl,rfl,rfl,rfl,rfl,rfl⟩:=h
          obtain⟨h0,h1⟩:=hchk
          simp only[pLe]at h0
          refine⟨trivial,by simp[Wf],(Frame.refl hh []).push ?_⟩
          simp only[WfHB]
          exact⟨AdC (by rw[Amx,show((n.toNat:Nat):Int)=n by omega]; exact h1) hcond.2.2.2,λy hy=>by rw[(AmO.1 hy).2]; exact AcW hzs⟩
       · cases h
     · cases h
   · cases h
 · cases h
theorem Ah7 {t:TypeId} {heap heap':List HB} {s x sv:SV} {hyp chk:Q} {R W:List Nat} (h:AeF P t heap s x= .ok hyp chk sv heap' R W) (hchk:chk.h) (hs:Wf s) (hx:Wf x) (hh:WfH heap):hyp.h/\Wf sv/\Frame heap heap' W:=by
 unfold AeF at h;split at h
 · exact Ag4 h hchk hs hx hh
 · rename_i k0 c0 sz0 n0;unfold Aet at h;split at h
   · rename_i e ty w xs elem hk hu;split at h
     · split at h
       · rename_i hyp1 chk1 sv1 heap1 R1 W1 ha;split at h
         · rename_i hW;simp only[OpR.ok.injEq]at h;obtain⟨rfl,rfl,rfl,rfl,rfl,rfl⟩:=h;have hxs:=hh _ _ hk;simp only[WfHB]at hxs;have hF:Frame heap (heap.set k0 (.row e ty (w+1) (cutRows xs none (some n0)))) [k0]:=(Frame.refl hh []).set (by simp only[WfHB,cutRows]; exact⟨by rw[AlN]; omega,λx hx=>hxs.2 x (Al7 hx)⟩);obtain⟨h1,h2,h3⟩:=sAppend0_wf ha hchk hx hF.wf;refine⟨h1,h2,⟨by have:=h3.len; simpa using this,λj hj hn=> ?_,h3.wf⟩⟩;rw[h3.same j (by simpa using hj) hn,List.getElem?_set_ne (λhe=>hn (by rw[←he]; simpa using hW))]
         · cases h
       · cases h
     · cases h
   · cases h
 · exact sAppend0_wf h hchk hx hh
theorem WfH.append {heap:List HB} (h:WfH heap) {hb:HB} (hw:WfHB hb):WfH (heap++[hb]):=by
 intro k b hk;rw[List.getElem?_append]at hk;split at hk
 · exact h k b hk
 · cases hkk:k-heap.length with
   |zero=>simp[hkk]at hk; subst hk; exact hw
   |succ n=>simp[hkk]at hk
theorem WfH.set {heap:List HB} (h:WfH heap) {k:Nat} {hb:HB} (hw:WfHB hb):WfH (heap.set k hb):=by
 intro j b hj;rw[List.getElem?_set]at hj;split at hj
 · split at hj
   · injection hj with hj; subst hj; exact hw
   · cases hj
 · exact h j b hj
theorem Ajh {e:List Sh}:∀ {xs:List (Int×List C)} {n:Int} {z:List C},(∀x∈xs,WfCs e x.2)->WfCs e z->WfCs e (kGet xs n z)
 |[],_,_,_,hz=>hz
 |x::r,n,z,h,hz=>by
  simp only[kGet]
  cases decide (x.1=n)
  · exact Ajh (λy hy=>h y (by simp[hy])) hz
  · exact h x (by simp)
theorem Aha {e:List Sh} {n:Int} {y:List C}:∀ {xs:List (Int×List C)},(∀x∈xs,WfCs e x.2)->WfCs e y->∀x∈kPut xs n y,WfCs e x.2
 |[],_,hy,x,hx=>by
  simp only[kPut,Am3]at hx;subst hx; exact hy
 |x::r,h,hy,z,hz=>by
  simp only[kPut]at hz
  cases hd:decide (x.1=n)
  · rw[hd]at hz;simp only[cond_false,Amd]at hz;rcases hz with rfl|hz
    · exact h z (by simp)
    · exact Aha (λy hy=>h y (by simp[hy])) hy z hz
  · rw[hd]at hz;simp only[cond_true,Amd]at hz;rcases hz with rfl|hz
    · exact hy
    · exact h z (by simp[hz])
theorem AiJ {e:List Sh} {cs:List C} (h:Ae2 (false,e)=false):Abg (false,e) cs=(ofCs e cs).headD .any:=by
 match e,h with
 |[],_=>rfl
 |[_],_=>rfl
 |_::_::_,h=>simp[Ae2]at h
theorem AeG {t:TypeId} {kt:IntKind} {g:Bool} {e:List Sh} {zs:List C} (h:Aie P t=some (kt,g,e,zs)):Ae2 (g,e)=false:=by
 obtain⟨key,elem,z,hu,hk,hg,hz,hzs,hzl,hsz,hge,hza⟩:=mapTy_inv h
 match g,e,hge with
 |true,_,_=>rfl
 |false,[],_=>rfl
 |false,[_],_=>rfl
 |false,_::_::_,h=>simp at h
theorem Aey {p:Bool×List Sh} {x:SV} {ys:List C} (hp:Ae2 p=false) (h:AdU p x=some ys) (hw:Wf x):WfCs p.2 ys:=by
 unfold AdU at h;rw[if_neg (by rw[hp]; simp)]at h;unfold Ahr at h
 cases hc:svCells x with
 |none=>simp[hc]at h
 |some cs=>
  have hcs:Wfs cs:=AbZ hc hw
  simp only[hc]at h
  split at h
  · split at h
    · rename_i zs hz
      injection h with h; subst h
      exact(Acd p.2 cs zs [] hz hcs).1
    · cases h
  · cases h
theorem Ait (hG:∀f ct,G f=some ct->SoundCt P f ct) {wr:Bool} {heap heap':List HB} {hyp chk:Q} {sv:SV} {R W:List Nat} (h:sop P G wr o ev heap= .ok hyp chk sv heap' R W) (hchk:chk.h)
 (hw:∀x∈o.op.operands,Wf (ev x)) (hh:WfH heap):hyp.h/\Wf sv/\Frame heap heap' W:=by
 unfold sop at h
 cases ho:o.op<;>simp only[ho,Op.operands]at h hw<;>first|(cases h; done)|skip
 case move x=>
  simp only[OpR.ok.injEq]at h
  obtain⟨rfl,rfl,rfl,rfl,rfl,rfl⟩:=h
  exact⟨trivial,hw x (by simp),Frame.refl hh _⟩
 case assign x=>
  simp only[OpR.ok.injEq]at h
  obtain⟨rfl,rfl,rfl,rfl,rfl,rfl⟩:=h
  exact⟨trivial,hw x (by simp),Frame.refl hh _⟩
 case pick c x y=>
  obtain⟨h1,h2,h3,h4,h5,_⟩:=okPlain_inv h
  exact⟨by rw[h5]; trivial,AjG h1 (hw x (by simp)) (hw y (by simp)),AbX hh h2⟩
 case alloc t=>
  unfold AhA at h
  split at h
  · simp only[OpR.ok.injEq]at h
    obtain⟨rfl,rfl,rfl,rfl,rfl,rfl⟩:=h
    exact⟨trivial,by simp[Wf],by simp,λk hk _=>List.getElem?_append_left hk,hh.append (by simp only[WfHB]; exact Adm _)⟩
  · cases h
 case box t x=>
  split at h
  · unfold AjO at h
    split at h
    · rename_i cs hcs
      simp only[OpR.ok.injEq]at h
      obtain⟨rfl,rfl,rfl,rfl,rfl,rfl⟩:=h
      exact⟨trivial,by simp only[Wf]; exact AbZ hcs (hw x (by simp)),Frame.refl hh _⟩
    · cases h
  unfold sBox at h
  split at h
  · rename_i cs hcs
    simp only[OpR.ok.injEq]at h
    obtain⟨rfl,rfl,rfl,rfl,rfl,rfl⟩:=h
    exact⟨trivial,by simp[Wf],by simp,λk hk _=>List.getElem?_append_left hk,hh.append (by simp only[WfHB]; exact AbZ hcs (hw x (by simp)))⟩
  · cases h
 case build t parts=>
  split at h
  · rename_i cs hcs
    simp only[OpR.ok.injEq]at h
    obtain⟨rfl,rfl,rfl,rfl,rfl,rfl⟩:=h
    have h1:=AiB hcs λq hq=>by
     obtain⟨p,hp,rfl⟩:=AmU.1 hq;exact hw p.2 (by simp only[List.mem_toArray]; exact AmU.2 ⟨p,hp,rfl⟩)
    exact⟨trivial,by simp only[Wf]; exact h1,Frame.refl hh _⟩
  · cases h
 case buildSlice t len parts=>
  split at h
  · rename_i n cs hcs
    have h1:=Ae0 hcs λq hq=>by
     obtain⟨p,hp,rfl⟩:=AmU.1 hq;exact hw p.2 (by simp only[List.mem_toArray]; exact AmU.2 ⟨p,hp,rfl⟩)
    split at h
    · unfold Ady at h
      split at h
      · split at h
        · rename_i e he
          split at h
          · rename_i hcond
            split at h
            · rename_i rows hrows
              simp only[OpR.ok.injEq]at h
              obtain⟨rfl,rfl,rfl,rfl,rfl,rfl⟩:=h
              refine⟨trivial,by simp[Wf],(Frame.refl hh []).push ?_⟩
              simp only[WfHB]
              exact⟨by rw[Abw _ len _ _ hrows]; have:=h1.1; simp only[maxLen]; omega,AcX e len cs rows (Acd e) hrows h1.2⟩
            · cases h
          · cases h
        · cases h
      · cases h
    · simp only[OpR.ok.injEq]at h
      obtain⟨rfl,rfl,rfl,rfl,rfl,rfl⟩:=h
      refine⟨trivial,?_,Frame.refl hh _⟩
      split
      · simp[Wf]
      · simp only[Wf]; exact h1
  · cases h
 case makeSlice t x y=>
  split at h
  · unfold Ahx at h
    split at h
    · split at h
      · split at h
        · simp only[OpR.ok.injEq]at h
          obtain⟨rfl,rfl,rfl,rfl,rfl,rfl⟩:=h
          exact⟨trivial,by simp[Wf],(Frame.refl hh []).push (by simp[WfHB,Wf])⟩
        · cases h
      · cases h
    · cases h
  · exact AjH h hchk hh
 case makeMap t r=>
  cases r with
  |some r=>cases h
  |none=>
   simp only at h
   unfold Aer at h
   split at h
   · simp only[OpR.ok.injEq]at h
     obtain⟨rfl,rfl,rfl,rfl,rfl,rfl⟩:=h
     exact⟨trivial,by simp[Wf],(Frame.refl hh []).push (by simp only[WfHB]; intro x hx; simp at hx)⟩
   · cases h
 case lookup t x i ck=>
  unfold AfP at h
  split at h
  · rename_i kt g e zs k c kj n l hm he hn
    split at h
    · rename_i kt' g' e' c' xs hk
      split at h
      · rename_i hc
        obtain⟨hcc,rfl,rfl,rfl,hse⟩:=hc
        have hee:=shEqs_eq _ _ hse
        subst hee
        have hxs:∀x∈xs,WfCs e' x.2:=hh k _ hk
        obtain⟨key,elem,z,hu,hk2,hg,hz,hzs,hzl,hsz,hge,hza⟩:=mapTy_inv hm
        have hzw:WfCs e' zs:=(Acd e' _ _ _ hzs (Adm z)).1
        have hgw:WfCs e' (kGet xs n zs):=Ajh hxs hzw
        have hres:Wf (Abg (g',e') (kGet xs n zs)):=by
         have h2:=Adp e' _ hgw
         cases g' with
         |true=>simpa only[Abg,Wf]using h2
         |false=>
          rw[AiJ (AeG hm)]
          cases he':ofCs e' (kGet xs n zs)with
          |nil=>simp[Wf]
          |cons d ds=>rw[he']at h2; simp only[Wfs]at h2; exact h2.1
        split at h
        · simp only[OpR.ok.injEq]at h
          obtain⟨rfl,rfl,rfl,rfl,rfl,rfl⟩:=h
          exact⟨Adj.2 hres,by simp only[Wf,Wfs]; exact⟨hres,trivial,trivial⟩,Frame.refl hh _⟩
        · simp only[OpR.ok.injEq]at h
          obtain⟨rfl,rfl,rfl,rfl,rfl,rfl⟩:=h
          exact⟨Adj.2 hres,hres,Frame.refl hh _⟩
      · cases h
    · cases h
  · cases h
 case mapUpdate t x i y=>
  unfold Aca at h
  split at h
  · rename_i kt g e zs k c kj n l hm he hn
    split at h
    · rename_i kt' g' e' c' xs hk
      split at h
      · rename_i hc
        obtain⟨hcc,rfl,rfl,rfl,hse⟩:=hc
        have hee:=shEqs_eq _ _ hse
        subst hee
        have hxs:∀x∈xs,WfCs e' x.2:=hh k _ hk
        split at h
        · rename_i ys hys
          simp only[OpR.ok.injEq]at h
          obtain⟨rfl,rfl,rfl,rfl,rfl,rfl⟩:=h
          refine⟨trivial,by simp[Wf],(Frame.refl hh []).set ?_⟩
          simp only[WfHB]
          exact Aha hxs (Aey (AeG hm) hys (hw y (by simp)))
        · cases h
      · cases h
    · cases h
  · cases h
 case insert t x i y=>
  unfold Aca at h
  split at h
  · rename_i kt g e zs k c kj n l hm he hn
    split at h
    · rename_i kt' g' e' c' xs hk
      split at h
      · rename_i hc
        obtain⟨hcc,rfl,rfl,rfl,hse⟩:=hc
        have hee:=shEqs_eq _ _ hse
        subst hee
        have hxs:∀x∈xs,WfCs e' x.2:=hh k _ hk
        split at h
        · rename_i ys hys
          simp only[OpR.ok.injEq]at h
          obtain⟨rfl,rfl,rfl,rfl,rfl,rfl⟩:=h
          refine⟨trivial,by simp[Wf],(Frame.refl hh []).set ?_⟩
          simp only[WfHB]
          exact Aha hxs (Aey (AeG hm) hys (hw y (by simp)))
        · cases h
      · cases h
    · cases h
  · cases h
 case load t x=>
  have hxx:=hw x (by simp)
  unfold AjI at h
  split at h
  · rename_i k off he
    split at h
    · rename_i cells ty hk
      obtain⟨h1,h2,h3,h4,h5,_⟩:=okPlain_inv h
      have:=hh k _ hk
      simp only[WfHB]at this
      exact⟨by rw[h5]; trivial,AcI h1 this,AbX hh h2⟩
    · cases h
  · rename_i cs he
    split at h
    · rename_i r hr
      simp only[OpR.ok.injEq]at h
      obtain⟨rfl,rfl,rfl,rfl,rfl,rfl⟩:=h
      rw[he]at hxx
      simp only[Wf]at hxx
      have:=AcI hr hxx
      exact⟨Adj.2 this,this,Frame.refl hh _⟩
    · cases h
  · split at h
    · rename_i e ty d xs hk
      split at h
      · split at h
        · rename_i r hr
          simp only[OpR.ok.injEq]at h
          obtain⟨rfl,rfl,rfl,rfl,rfl,rfl⟩:=h
          have:=AcI hr (Af5 (hh _ _ hk).2 _)
          exact⟨Adj.2 this,this,Frame.refl hh _⟩
        · cases h
      · cases h
    · rename_i ty d m i0 x0 f0 hk
      split at h
      · split at h
        · rename_i r hr
          simp only[OpR.ok.injEq]at h
          obtain⟨rfl,rfl,rfl,rfl,rfl,rfl⟩:=h
          have h1:=hh _ _ hk
          simp only[WfHB]at h1
          exact⟨trivial,AcI hr (by simp only[Wfs,and_true]; exact h1),Frame.refl hh _⟩
        · cases h
      · cases h
    · cases h
  · cases h
 case store t x y=>
  unfold Ahw at h
  split at h
  · rename_i k off cs he hcs
    split at h
    · rename_i cells ty hk
      split at h
      · simp only[OpR.ok.injEq]at h
        obtain⟨rfl,rfl,rfl,rfl,rfl,rfl⟩:=h
        have h1:=hh k _ hk
        simp only[WfHB]at h1
        have h2:=AbZ hcs (hw y (by simp))
        refine⟨trivial,by simp[Wf],by simp,λj hj hne=> ?_,hh.set ?_⟩
        · rw[List.getElem?_set,if_neg]; rintro rfl; simp at hne
        · simp only[WfHB]
          refine Wfs.all.2 λc hc=> ?_
          simp only[AlY]at hc
          rcases hc with(hc|hc)|hc
          · exact Wfs.all.1 h1 c (Al7 hc)
          · exact Wfs.all.1 h2 c hc
          · exact Wfs.all.1 h1 c (Al3 hc)
      · cases h
    · cases h
  · rename_i k c sz i off cs he hcs
    split at h
    · rename_i e ty d xs hk
      split at h
      · split at h
        · rename_i z hz
          simp only[OpR.ok.injEq]at h
          obtain⟨rfl,rfl,rfl,rfl,rfl,rfl⟩:=h
          have h1:=hh _ _ hk
          simp only[WfHB]at h1
          have h2:=Aep hh (AbZ hcs (hw y (by simp)))
          have h3:=Af5 h1.2 i
          have h4:=(Acd e _ z [] hz (Wfs.all.2 λc hc=>by
           simp only[AlY]at hc;rcases hc with(hc|hc)|hc
           · exact Wfs.all.1 h3 c (Al7 hc)
           · exact Wfs.all.1 h2 c hc
           · exact Wfs.all.1 h3 c (Al3 hc))).1
          refine⟨trivial,by simp[Wf],(frzH_frame hh (idsOf (ev y))).set ?_⟩
          simp only[WfHB,rSet,Am0]
          refine⟨h1.1,λx hx=> ?_⟩
          rcases Amw hx with hx|rfl
          · exact h1.2 x hx
          · exact h4
        · cases h
      · cases h
    · rename_i ty d m i0 x0 f0 hk
      split at h
      · split at h
        · simp only[OpR.ok.injEq]at h
          obtain⟨rfl,rfl,rfl,rfl,rfl,rfl⟩:=h
          have h2:=AbZ hcs (hw y (by simp))
          simp only[Wfs,and_true]at h2
          refine⟨trivial,by simp[Wf],by simp,λj hj hne=> ?_,hh.set ?_⟩
          · rw[List.getElem?_set,if_neg]; rintro rfl; simp at hne
          · simp only[WfHB]; exact h2
        · cases h
      · cases h
    · cases h
  · cases h
 case nilCheck x=>
  have hxx:=hw x (by simp)
  split at h
  · simp only[OpR.ok.injEq]at h
    obtain⟨rfl,rfl,rfl,rfl,rfl,rfl⟩:=h
    exact⟨trivial,by simp[Wf],Frame.refl hh _⟩
  · rename_i cs he
    simp only[OpR.ok.injEq]at h
    obtain⟨rfl,rfl,rfl,rfl,rfl,rfl⟩:=h
    exact⟨trivial,by rw[he]at hxx; exact hxx,Frame.refl hh _⟩
  · simp only[OpR.ok.injEq]at h
    obtain⟨rfl,rfl,rfl,rfl,rfl,rfl⟩:=h
    exact⟨trivial,by simp[Wf],Frame.refl hh _⟩
  · cases h
 case binOp op t x y ty=>
  obtain⟨h1,h2,h3,h4,h5⟩:=okIf_inv h
  exact⟨by rw[h5]; trivial,AjR h1 hchk (hw x (by simp)),AbX hh h2⟩
 case unOp op t x=>
  obtain⟨h1,h2,h3,h4,h5⟩:=okIf_inv h
  exact⟨by rw[h5]; trivial,Akx h1 hchk,AbX hh h2⟩
 case convert src dst x=>
  split at h
  · obtain⟨h1,h2,h3,h4,h5,_⟩:=okPlain_inv h
    exact⟨by rw[h5]; trivial,AjL h1 (hw x (by simp)),AbX hh h2⟩
  · cases h
 case makeFunc fn first cap=>
  cases fn<;>simp only at h<;>first|(cases h; done)|skip
  split at h
  · simp only[OpR.ok.injEq]at h
    obtain⟨rfl,rfl,rfl,rfl,rfl,rfl⟩:=h
    have h1:Wfs (cap.toList.map ev):=Wfs.all.2 λc hc=>by
     obtain⟨x,hx,rfl⟩:=AmU.1 hc;exact hw x (by simp at hx ⊢; exact .inr hx)
    exact⟨trivial,by simp only[Wf]; exact h1,Frame.refl hh _⟩
  · cases h
 case slice t x lo hi mx=>
  split at h
  · unfold AjF at h
    split at h
    · split at h
      · split at h
        · simp only[OpR.ok.injEq]at h
          obtain⟨rfl,rfl,rfl,rfl,rfl,rfl⟩:=h
          exact⟨trivial,by simp[Wf],Frame.refl hh _⟩
        · cases h
      · cases h
    · cases h
  split at h
  · split at h
    · unfold Ahv at h
      split at h
      · split at h
        · rename_i e ty w xs sz hk hs
          split at h
          · simp only[OpR.ok.injEq]at h
            obtain⟨rfl,rfl,rfl,rfl,rfl,rfl⟩:=h
            have hxs:=hh _ _ hk
            simp only[WfHB]at hxs
            refine⟨trivial,by simp[Wf],(Frame.refl hh []).set ?_⟩
            simp only[WfHB]
            exact⟨by rw[AlN]; omega,λx hx=>hxs.2 x (Al7 hx)⟩
          · cases h
        · cases h
      · cases h
    · exact Ae7 h (hw x (by simp)) hh
  · exact Ae7 h (hw x (by simp)) hh
 case fieldAddr t x f=>
  obtain⟨h1,h2,h3,h4,h5,_⟩:=okPlain_inv h
  exact⟨by rw[h5]; trivial,AfQ h1 (hw x (by simp)),AbX hh h2⟩
 case field t x f=>
  split at h
  · rename_i fd cs hf he
    obtain⟨h1,h2,h3,h4,h5,_⟩:=okPlain_inv h
    have hxx:=hw x (by simp)
    rw[he]at hxx
    simp only[Wf]at hxx
    exact⟨by rw[h5]; trivial,AcI h1 hxx,AbX hh h2⟩
  · cases h
 case indexAddr t x i=>
  split at h
  · rename_i q r R' hs
    simp only[OpR.ok.injEq]at h
    obtain⟨rfl,rfl,rfl,rfl,rfl,rfl⟩:=h
    exact⟨trivial,AjJ hs hchk (hw x (by simp)) hh,Frame.refl hh _⟩
  · cases h
 case index t x i=>
  obtain⟨h1,h2,h3,h4,h5⟩:=okIf_inv h
  exact⟨by rw[h5]; trivial,Aiy h1,AbX hh h2⟩
 case extract x i=>
  split at h
  · rename_i cs he
    obtain⟨h1,h2,h3,h4,h5,_⟩:=okPlain_inv h
    have hxx:=hw x (by simp)
    rw[he]at hxx
    simp only[Wf]at hxx
    exact⟨by rw[h5]; trivial,Wfs.all.1 hxx _ (Amm h1),AbX hh h2⟩
  · cases h
 case call c=>
  split at h
  · rename_i hcal
    split at h
    · rename_i x t hargs htys
      split at h
      · split at h
        · simp only[OpR.ok.injEq]at h
          obtain⟨rfl,rfl,rfl,rfl,rfl,rfl⟩:=h
          simp only[pLe,iLen]at hchk
          exact⟨trivial,by simp only[Wf,InR,iLen]; have h0:=hchk; simp only[pLe,iLen,Q.h]at h0; omega,Frame.refl hh _⟩
        · cases h
      · split at h
        · split at h
          · simp only[OpR.ok.injEq]at h
            obtain⟨rfl,rfl,rfl,rfl,rfl,rfl⟩:=h
            exact⟨trivial,by simp only[Wf]; exact hchk,Frame.refl hh _⟩
          · cases h
        · cases h
      · split at h
        · rename_i hy r R' hl
          simp only[OpR.ok.injEq]at h
          obtain⟨rfl,rfl,rfl,rfl,rfl,rfl⟩:=h
          have hargs':c.args= #[x]:=by rw[←AlV (xs:=c.args),hargs]
          have hxx:=hw x (by simp[Call.operands,hcal,hargs'])
          unfold sLen at hl
          have em:maxLen=9223372036854775807:=rfl
          split at hl
          · simp only[AlC,AlH]at hl
            obtain⟨rfl,rfl,hR⟩:=hl
            rename_i he
            rw[he]at hxx
            simp only[Wf,InR,iLen,Abs,pLe]at*
            exact⟨by omega,by omega,Frame.refl hh _⟩
          · simp only[AlC,AlH]at hl
            obtain⟨rfl,rfl,hR⟩:=hl
            rename_i he
            rw[he]at hxx
            simp only[Wf,InR]at*
            exact⟨trivial,by omega,Frame.refl hh _⟩
          · simp only[AlC,AlH]at hl
            obtain⟨rfl,rfl,_⟩:=hl
            exact⟨trivial,by simp[Wf,InR],Frame.refl hh _⟩
          · simp only[AlC,AlH]at hl
            obtain⟨rfl,rfl,_⟩:=hl
            exact⟨trivial,by simp[Wf,InR],Frame.refl hh _⟩
          · split at hl
            · rename_i hk
              split at hl
              · simp only[AlC,AlH]at hl
                obtain⟨rfl,rfl,_⟩:=hl
                have h1:=Aeu hh hk
                simp only[Wf,InR,iLen,pLe]at*
                exact⟨by omega,by omega,Frame.refl hh _⟩
              · cases hl
            · cases hl
          · simp only[AlC,AlH]at hl
            obtain⟨rfl,rfl,hR⟩:=hl
            rename_i he
            rw[he]at hxx
            simp only[Wf,InR,iLen,Abs,pLe]at*
            exact⟨by omega,by omega,Frame.refl hh _⟩
          · cases hl
        · cases h
    · cases h
  · rename_i hcal
    split at h
    · rename_i s x t t' hargs htys
      split at h
      · have hargs':c.args= #[s,x]:=by rw[←AlV (xs:=c.args),hargs]
        exact Ah7 h hchk (Ald (hw s (by simp[Call.operands,hcal,hargs']))) (hw x (by simp[Call.operands,hcal,hargs'])) hh
      · exact Ag3 h hchk hh
    · cases h
  · rename_i hcal
    split at h
    · split at h
      · simp only[OpR.ok.injEq]at h
        obtain⟨rfl,rfl,rfl,rfl,rfl,rfl⟩:=h
        exact⟨trivial,by simp[Wf,InR],Frame.refl hh _⟩
      · cases h
    · cases h
  · rename_i b hb hb2 hb3 hcal
    split at h
    · rename_i x y hargs
      obtain⟨h1,h2,h3,h4,h5,_⟩:=okPlain_inv h
      have hargs':c.args= #[x,y]:=by rw[←AlV (xs:=c.args),hargs]
      exact⟨by rw[h5]; trivial,Aky h1 (hw x (by simp[Call.operands,hcal,hargs'])) (hw y (by simp[Call.operands,hcal,hargs'])),AbX hh h2⟩
    · cases h
  · rename_i x0 hcal
    split at h
    · rename_i f caps hev
      unfold AjN at h
      have hw0:=hw x0 (by simp[Call.operands,hcal])
      rw[hev]at hw0
      simp only[Wf]at hw0
      have hwargs:Wfs (c.args.toList.map ev++caps):=Wfs.all.2 λy hy=>by
       rcases AlY.1 hy with hy|hy
       · obtain⟨x,hx,rfl⟩:=AmU.1 hy;exact hw x (by simp[Call.operands,hcal]; exact .inr (by simpa using hx))
       · exact Wfs.all.1 hw0 y hy
      generalize c.args.toList.map ev++caps=es at h hwargs
      split at h
      · rename_i ct hct
        split at h
        · rename_i hbx
          split at h
          rotate_left
          · rename_i oo how
            obtain⟨t,e,r⟩:=oo
            unfold Ahz at h
            split at h
            · rename_i k c rest
              split at h
              · rename_i e' ty d xs hk
                split at h
                · rename_i hc
                  obtain⟨hcd,hse,rfl,hni⟩:=hc
                  have hee:=shEqs_eq _ _ hse
                  simp only at hee
                  subst hee
                  split at h
                  · rename_i args hargs
                    simp only[OpR.ok.injEq]at h
                    obtain⟨rfl,rfl,rfl,rfl,rfl,rfl⟩:=h
                    simp only[Wfs]at hwargs
                    have hwx:xs.length<=maxLen/\∀x∈xs,WfCs e' x:=hh k _ hk
                    have ha:Wfs (ofRess ct.aps ([.l xs]::args)):=by
                     simp only[Ct.aps,hbx,how,ofRess,Al4,AmD,Wfs,Abg,ofCs,ofC,C.list,Wf];exact⟨hwx,Abp _ _ _ hargs (AbD hh hwargs.2)⟩
                    have h2:=(hG f ct hct).wf _ ha hchk
                    simp only[Ct.ars,hbx,how,ofRess,Wfs,Abg,ofCs,ofC,Al4,Wf]at h2
                    exact⟨trivial,by cases r<;>simp[Wf,Wfs],(frzH_frame hh _).set (by simp only[WfHB]; exact h2.1)⟩
                  · cases h
                · cases h
              · cases h
            · cases h
          rename_i how
          split at h
          rotate_left
          · rename_i tt ee hfr
            split at h
            · rename_i args hargs
              have fin:ct.pre args->WfHB (ct.frHB tt ee args):=λhchk=>by
               have h2:=(hG f ct hct).wf args (by simp only[Ct.aps,hbx,how]; exact Abp _ _ _ hargs (AbD hh hwargs)) hchk;simp only[Ct.ars,hbx,how,hfr,ofRess,Wfs,Abg,ofCs,ofC,Al4,Wf]at h2;unfold Ct.frHB
               cases hfm:ct.fm with
               |none=>simp only[WfHB]; exact h2.1
               |some z=>
                cases z with
                |mp kt g ks=>simp only[WfHB]; exact λx hx=>h2.1.2 _ (List.of_mem_zip hx).2
                |bx=>
                 simp only[WfHB]
                 have h3:=Af5 (e:=ee) h2.1.2 0
                 cases hl:(((ct.out args).headD []).headD default).list<;>(rw[hl]at h3; exact h3)
              split at h
              · simp only[OpR.ok.injEq]at h
                obtain⟨rfl,rfl,rfl,rfl,rfl,rfl⟩:=h
                exact⟨trivial,by simp[Wf],(Frame.refl hh _).push (fin hchk)⟩
              · simp only[OpR.ok.injEq]at h
                obtain⟨rfl,rfl,rfl,rfl,rfl,rfl⟩:=h
                exact⟨trivial,by unfold Ct.frSV; cases isBx ct.fm<;>simp[Wf],(frzH_frame hh _).push (fin hchk)⟩
            · cases h
          rename_i hfr
          split at h
          · rename_i args hargs
            split at h
            · simp only[OpR.ok.injEq]at h
              obtain⟨rfl,rfl,rfl,rfl,rfl,rfl⟩:=h
              have h1:=(hG f ct hct).svWf (args:=args) (λ_=>⟨how,hfr⟩) (by simp only[Ct.aps,hbx,how]; exact Abp _ _ _ hargs (AbD hh hwargs)) hchk
              exact⟨Adj.2 h1,h1,Frame.refl hh _⟩
            · simp only[OpR.ok.injEq]at h
              obtain⟨rfl,rfl,rfl,rfl,rfl,rfl⟩:=h
              have h1:=(hG f ct hct).svWf (args:=args) (λ_=>⟨how,hfr⟩) (by simp only[Ct.aps,hbx,how]; exact Abp _ _ _ hargs (AbD hh hwargs)) hchk
              exact⟨Adj.2 h1,h1,frzH_frame hh _⟩
          · cases h
        · rename_i t e hbx
          split at h
          · rename_i k rest
            split at h
            · rename_i cells ty hk
              split at h
              · split at h
                · rename_i args hargs
                  simp only[OpR.ok.injEq]at h
                  obtain⟨rfl,rfl,rfl,rfl,rfl,rfl⟩:=h
                  have hwc:Wfs cells:=by have:=hh k _ hk; simpa only[WfHB]using this
                  simp only[Wfs]at hwargs
                  have ha:Wfs (ofRess ct.aps args):=by simp only[Ct.aps,hbx]; exact Abp _ _ _ hargs (AbD hh (by simp only[Wfs,Wf]; exact⟨hwc,hwargs.2⟩))
                  have h1:=(hG f ct hct).svWf (λh=>by rw[hbx]at h; cases h) ha hchk
                  have h2:=(hG f ct hct).wf args ha hchk
                  simp only[Ct.ars,hbx,ofRess,Wfs,Abg,Wf]at h2
                  exact⟨Adj.2 h1,h1,(frzH_frame hh _).set (by simp only[Ct.hb,WfHB]; exact h2.1)⟩
                · cases h
              · cases h
            · cases h
          · cases h
      · cases h
    · cases h
  · cases h
end Go.Sx

