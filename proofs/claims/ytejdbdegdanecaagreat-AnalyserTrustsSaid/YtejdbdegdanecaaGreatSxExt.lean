import Derived.Test.YtejdbdegdanecaaGreatSxSound3
import Derived.Laws.StructEq
set_option linter.unusedVariables false
set_option linter.unusedSimpArgs false
namespace Go.Sx
open Go.RowKit
variable {P:Program}
theorem AiC {op:BinOp} {k:IntKind} {a b n:Int} (h:sBits op k a b=some n) (w:World):(Op.intBits op k a b).run P w= .ok (.int k n) w:=by
 cases op<;>simp only[sBits]at h<;>first|(cases h; done)|(injection h with h; subst h; rfl)
theorem AjP {op:BinOp} {k:IntKind} {a b n:Int} (h:sBits op k a b=some n):InR k n:=by
 cases op<;>simp only[sBits]at h<;>first|(cases h; done)|(injection h with h; subst h; exact inR_wrap _ _)
theorem Agj {V:Vw} {g:TypeId->SV->SV->Option Bool} {d:Nat} (w:World)
 (hg:∀(t:TypeId) (x y:SV) (u v:Value) (b:Bool),g t x y=some b->VR V x u->VR V y v->(Op.equalIn d t u v).run P w= .ok b w)
 {cs ds:List SV} {us vs:List Value} (hu:VRs V cs us) (hv:VRs V ds vs) (h1:∀v∈us,v.oneCell'=true) (h2:∀v∈vs,v.oneCell'=true):
 ∀(fs:List Field) (r:Bool),sEqFs P g cs ds fs=some r->(Op.eqFields d us.toArray vs.toArray fs).run P w= .ok r w
 |[],r,h=>by simp only[sEqFs,AlC]at h; subst h; rfl
 |f::fs,r,h=>by
  simp only[sEqFs]at h;split at h
  · cases h
  · rename_i hn;split at h
    · rename_i x y hx hy;obtain⟨u,hu1,hu2⟩:=run_part hx hu h1 w;obtain⟨v,hv1,hv2⟩:=run_part hy hv h2 w;split at h
      · rename_i b hb;have he := hg _ _ _ _ _ _ hb hu2 hv2;simp only [Op.eqFields, if_pos (show f.name ≠ "_" from hn), Sem.run_bind, hu1, hv1, he, Result.andThen_ok];have rest : ∀ r', sEqFs P g cs ds fs = some r' → r = (b && r') → (if (!b) = true then (pure false : Sem Bool) else Op.eqFields d us.toArray vs.toArray fs).run P w = .ok r w := by
         intro r' hr' hrr
         cases b
         · simp at hrr; subst hrr; simp[Sem.run_pure]
         · simp at hrr; subst hrr;simpa using Agj w hg hu hv h1 h2 fs _ hr'
        cases fs with
        |nil=>
         simp only[AlC]at h
         subst h
         exact rest true (by simp only[sEqFs]) (by simp)
        |cons f' fs'=>
         simp only at h
         cases hr:sEqFs P g cs ds (f'::fs')with
         |none=>simp[hr]at h
         |some r'=>
          simp only[hr,AlM,AlC]at h
          exact rest r' hr h.symm
      · cases h
    · cases h
theorem AeD {V:Vw} (w:World):∀(d:Nat) (t:TypeId) (x y:SV) (u v:Value) (b:Bool),sEqAt P d t x y=some b->VR V x u->VR V y v->∀m,d<=m->(Op.equalIn m t u v).run P w= .ok b w
 |0,t,x,y,u,v,b,h,_,_,_,_=>by simp[sEqAt]at h
 |d+1,t,x,y,u,v,b,h,hx,hy,m,hm=>by
  obtain⟨m,rfl⟩:∃m',m=m'+1:=⟨m-1,by omega⟩
  simp only[sEqAt]at h;split at h
  · rename_i k' hu;split at h
    · rename_i k a la j b' lb hp hq;split at h
      · rename_i hk;subst hk;injection h with h; subst h;rw[numOf_VR hp hx,numOf_VR hq hy,run_equalIn_int w m t k k' a b' hu];rfl
      · cases h
    · cases h
  · rename_i hu;split at h
    · rename_i a la b' lb hp hq;injection h with h; subst h;rw[AcL hp hx,AcL hq hy];exact run_equalIn_bool' w m t a b' hu
    · cases h
  · rename_i hu;split at h
    · rename_i a b';injection h with h; subst h;simp only[VR]at hx hy;subst hx; subst hy;simp only[Op.equalIn,Sem.run_bind,Aa4 hu,Result.andThen_ok,Sem.run_pure]
      first|done|(congr 1; rw[beq_toListBytes]; done)|(congr 1; exact(beq_toListBytes _ _).symm)
    · cases h
  · rename_i fs hu;split at h
    · rename_i cs ds;split at h
      · cases h
      · rename_i hst;simp only[VR]at hx hy;obtain⟨us,rfl,h1,h2⟩:=hx;obtain⟨vs,rfl,h3,h4⟩:=hy;have hf:P.fieldsOf t=fs:=by simp[Program.fieldsOf,hu]
        rw[run_equalIn_agg w m t us.toArray vs.toArray (by rw[hf]; exact hu) (by simpa using hst),hf];exact Agj w (λt x y u v b hb hx hy=>AeD w d t x y u v b hb hx hy m (by omega)) h2 h4 h1 h3 _ _ h
    · cases h
  · cases h
theorem AjK {V:Vw} {wr:Bool} {op:BinOp} {x y:SV} {c:Q} {r:SV} {u v:Value} {t:TypeId} (h:sExt P wr op t x y=some (c,r)) (hc:c.h) (hx:VR V x u) (hy:VR V y v) (p q:Operand) (w:World):
 ∃z,(do eqGuard op t p q u v; binOp op t u v:Sem Value).run P w= .ok z w/\VR V r z:=by
 unfold sExt at h;split at h
 · rename_i k a la j b lb hp hq;rw [numOf_VR hp hx, numOf_VR hq hy];have hg : (eqGuard op t p q (.int k a) (.int j b)).run P w = .ok () w := by
    unfold eqGuard; cases op<;>rfl
   simp only[Sem.run_bind,hg,Result.andThen_ok];split at h
   · split at h
     · simp only[AlC,AlH]at h;obtain⟨rfl,rfl⟩:=h;refine⟨.int k (k.wrap (a*2 ^ b.toNat)),?_,Ab9 V _ _ _⟩;have h0:¬b<0:=by have:=hc.1; omega
       simp only[binOp,Op.shift,if_neg h0,Anx hc.2,Sem.run_pure]
     · cases h
   · rename_i hns;split at h
     · rename_i hk;subst hk
       cases hs:sBits op k a b with
       |none=>simp[hs]at h
       |some n=>
        simp only[hs,AlM,AlC,AlH]at h
        obtain⟨rfl,rfl⟩:=h
        refine⟨_,?_,Ab9 V _ _ _⟩
        have hb:=AiC (P:=P) hs w
        cases op<;>simp only[sBits]at hs<;>first|(cases hs; done)|(simp only[binOp,ne_eq,not_true_eq_false,if_false]; exact hb)
     · cases h
 · split at h
   · rename_i cs ds _;split at h
     · cases h
     · rename_i hgt;have hx':=hx;have hy':=hy;simp only[VR]at hx hy;obtain⟨us,rfl,h1,h2⟩:=hx;obtain⟨vs,rfl,h3,h4⟩:=hy;have hg:=run_eqGuard_agg w op t p q us.toArray vs.toArray (P:=P) (by simpa using hgt);simp only[Sem.run_bind,hg,Result.andThen_ok];split at h
       · cases he:sEqAt P 8 t (.agg cs) (.agg ds)with
         |none=>simp[he]at h
         |some b=>
          simp only[he,AlM,AlC,AlH]at h
          obtain⟨rfl,rfl⟩:=h
          have:=AeD w 8 t _ _ _ _ b he hx' hy' 10000 (by omega)
          refine⟨.bool b,?_,by simp[VR]⟩
          rw[run_eql_struct,this]; rfl
       · cases he:sEqAt P 8 t (.agg cs) (.agg ds)with
         |none=>simp[he]at h
         |some b=>
          simp only[he,AlM,AlC,AlH]at h
          obtain⟨rfl,rfl⟩:=h
          have:=AeD w 8 t _ _ _ _ b he hx' hy' 10000 (by omega)
          refine⟨.bool (!b),?_,by simp[VR]⟩
          rw[run_neq_struct,this]; rfl
       · cases h
   · rename_i e xs _;split at h
     · rename_i ty hu;simp only[AlC,AlH]at h;obtain⟨rfl,rfl⟩:=h;simp only[VR,RepC,C.list]at hx hy;obtain⟨a,n,cap,rfl,h1,h2,h3,h4⟩:=hx;subst hy;have hg:(eqGuard .eql t p q (.slice a n cap) (.slice none 0 0)).run P w= .ok () w:=by unfold eqGuard; rfl
       refine⟨.bool a.isNone,?_,?_⟩
       · simp only [Sem.run_bind, hg, Result.andThen_ok];have he : ∀ d : Nat, (Op.equalIn (d + 1) t (.slice a n cap) (.slice none 0 0)).run P w = .ok a.isNone w := λd => by
          cases a<;>simp[Op.equalIn,run_underlying hu]
         simp only[binOp];simp[Op.equal,Op.maxDepth,he 9999]
       · simp only[VR,Value.bool.injEq,exists_eq_left'];intro ha;rcases h4 with h4|⟨b,o,rfl,_⟩
         · exact Am2.1 (by omega)
         · cases ha
     · cases h
   · cases h
theorem sBinX_run {V:Vw} {wr:Bool} {op:BinOp} {x y:SV} {c:Q} {r:SV} {u v:Value} {t:TypeId} (h:AiE P wr op t x y=some (c,r)) (hc:c.h) (hx:VR V x u) (hy:VR V y v) (p q:Operand) (w:World):
 ∃z,(do eqGuard op t p q u v; binOp op t u v:Sem Value).run P w= .ok z w/\VR V r z:=by
 unfold AiE at h;split at h
 · rename_i r' he;injection h with h; subst h;exact AjK he hc hx hy p q w
 · exact AjQ h hc hx hy p q w
theorem AiD {wr:Bool} {op:BinOp} {x y r:SV} {c:Q} {t:TypeId} (h:sExt P wr op t x y=some (c,r)):Wf r:=by
 unfold sExt at h;split at h
 · split at h
   · split at h
     · simp only[AlC,AlH]at h;obtain⟨rfl,rfl⟩:=h;exact Aby _ _ _ (inR_wrap _ _)
     · cases h
   · split at h
     · rename_i k a la j b lb hk1 hk2 _ _ _
       cases hs:sBits op k a b with
       |none=>simp[hs]at h
       |some n=>
        simp only[hs,AlM,AlC,AlH]at h
        obtain⟨rfl,rfl⟩:=h
        exact Aby _ _ _ (AjP hs)
     · cases h
 · split at h
   · split at h
     · cases h
     · split at h
       · rename_i cs ds _ _ _
         cases he:sEqAt P 8 t (.agg cs) (.agg ds)with
         |none=>simp[he]at h
         |some b=>simp only[he,AlM,AlC,AlH]at h; obtain⟨rfl,rfl⟩:=h; simp[Wf]
       · rename_i cs ds _ _ _
         cases he:sEqAt P 8 t (.agg cs) (.agg ds)with
         |none=>simp[he]at h
         |some b=>simp only[he,AlM,AlC,AlH]at h; obtain⟨rfl,rfl⟩:=h; simp[Wf]
       · cases h
   · split at h
     · simp only[AlC,AlH]at h;obtain⟨rfl,rfl⟩:=h; simp[Wf]
     · cases h
   · cases h
theorem sUnX_run {V:Vw} {wr:Bool} {op:UnOp} {x:SV} {u:Value} {c:Q} {r:SV} (h:sUnX wr op x=some (c,r)) (hc:c.h) (hx:VR V x u) (w:World):
 ∃z,(Op.unary op u).run P w= .ok z w/\VR V r z:=by
 unfold sUnX at h;split at h
 · rename_i k n l hn;simp only[AlC,AlH]at h;obtain⟨rfl,rfl⟩:=h;rw[numOf_VR hn hx];exact⟨_,rfl,Ab9 V _ _ _⟩
 · rename_i k n hn;split at h
   · simp only[AlC,AlH]at h;obtain⟨rfl,rfl⟩:=h;rw[numOf_VR hn hx];exact⟨_,rfl,by simp only[VR]⟩
   · exact Aiu h hc hx w
 · exact Aiu h hc hx w
theorem sIndex_run {V:Vw} {t:TypeId} {x i r:SV} {u v:Value} {c:Q} (h:Agi P t x i=some (c,r)) (hc:c.h) (hx:VR V x u) (hi:VR V i v) (w:World):
 ∃z,(Instr.index t u v).run P w= .ok z w/\VR V r z:=by
 unfold Agi at h;split at h
 · rename_i s k n l hu hn;simp only[AlC,AlH]at h;obtain⟨rfl,rfl⟩:=h;rw[numOf_VR hn hi];simp only[VR]at hx;subst hx;obtain⟨h0,h1⟩:=hc;simp only[Abs]at h1;have hlt:n.toNat<s.size:=by omega
   refine⟨.int .u8 (sAt s n),?_,by simp only[VR]⟩;have hs:s[n.toNat]? =some s[n.toNat]:=getElem?_pos s n.toNat hlt;simp only[Instr.index,asIntOf,Sem.run_bind,Sem.run_pure,Result.andThen_ok,Aa4 hu,if_pos h0,hs,sAt]
 · cases h
theorem Aiy {t:TypeId} {x i r:SV} {c:Q} (h:Agi P t x i=some (c,r)):Wf r:=by
 unfold Agi at h;split at h
 · simp only[AlC,AlH]at h;obtain⟨rfl,rfl⟩:=h;simp only[Wf,InR,sAt];split
   · rename_i b _;have:=b.toNat_lt;omega
   · omega
 · cases h
end Go.Sx

