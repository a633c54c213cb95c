import Derived.Test.YtejdbdegdanecaaGreatSxFn
set_option linter.unusedVariables false
set_option linter.unusedSimpArgs false
namespace Go.Sx
open Go.RowKit
variable {P:Program} {G:Nat->Option Ct}
theorem Ahd {s s':St} {ws rk:List Nat} {nv:Nat->Nat} {ts:List (Nat×SV)} {hs:List (Nat×HB)} (hw:StWf s') (hws:StWf s) (hle:leT s'.tmps (AfU (fVer nv) rk ts)) (hlh:leH s'.heap (mapH1 (fVer nv) rk nv hs)):StWf (headOf ws rk nv s ts hs):=by
 have wt:=Aee hw.tm _ hle;have wh:=Aef hw.hp _ hlh;have wD:=Ab8 (s:=s) (ks:=rk) (nv:=nv) AhW hws;have memT:∀ {xs:List (Nat×SV)} {i:Nat} {y:SV},WfTs xs->(i,y)∈xs->Wf y:=by
  intro xs
  induction xs with
  |nil=>intro i y _ h; simp at h
  |cons p r ih=>
   intro i y h hm
   obtain⟨j,z⟩:=p
   simp only[WfTs]at h
   rcases Amd.1 hm with hm|hm
   · injection hm with h1 h2; subst h1; subst h2; exact h.1
   · exact ih h.2 hm
 have memH:∀ {xs:List (Nat×HB)} {i:Nat} {y:HB},WfHs xs->(i,y)∈xs->WfHB y:=by
  intro xs
  induction xs with
  |nil=>intro i y _ h; simp at h
  |cons p r ih=>
   intro i y h hm
   obtain⟨j,z⟩:=p
   simp only[WfHs]at h
   rcases Amd.1 hm with hm|hm
   · injection hm with h1 h2; subst h1; subst h2; exact h.1
   · exact ih h.2 hm
 refine⟨Wfs.all.2 λc hc=> ?_,λk c hc=> ?_⟩
 · obtain⟨i,hi,rfl⟩:=List.getElem_of_mem hc;have hc':=List.getElem?_eq_getElem hi;simp only[headOf]at hc';rcases setsT_get _ _ i _ hc' with h|h
   · exact memT wt h
   · rw[Ac0]at h
     cases hx:(remap fDrop rk nv s).tmps[i]? with
     |none=>simp[hx]at h
     |some x=>
      simp only[hx,AlM,AlC]at h
      simp only[headOf]
      rw[←h]
      split
      · simp[Wf]
      · exact Wfs.all.1 wD.tm x (Amm hx)
 · simp only[headOf]at hc;rcases setsH_get _ _ k c hc with h|⟨h,_⟩
   · exact memH wh h
   · exact wD.hp k c h
def AeW (inl:Inl):Prop:=∀(f:FuncId) (args:List SV) (heap:List HB) (K:SV->List HB->Prop),inl f args heap K->Wfs args->WfH heap->∃sv heap',K sv heap'/\Wf sv/\WfH heap'
def AdP (draw:Inl->Array Oper->St->(St->Prop)->Prop):Prop:=∀(inl:Inl),AeW inl->∀(ops:Array Oper) (s:St) (K:St->Prop),draw inl ops s K->StWf s->∃s',K s'/\StWf s'
theorem run_pure (hG:∀f ct,G f=some ct->SoundCt P f ct) {inl:Inl} (hI:AeW inl) {wr:Bool} {o:Oper} {s:St} {K:St->Prop} (h:Aex P G wr inl o s K) (hw:StWf s):∃s',K s'/\StWf s':=by
  unfold Aex at h;split at h
  · rename_i f args hin;have hwa:Wfs args:=by
      unfold AfB at hin;split at hin
      · rename_i c ho;split at hin
        · rename_i x hcal;split at hin
          · rename_i g caps hev;have hargs:args=c.args.toList.map s.ev++caps:=by
              split at hin
              · cases hin
              · simp only[AlC,AlH]at hin; exact hin.2.symm
            subst hargs;have hwx:=hw.ev x;rw[hev]at hwx;refine Wfs.all.2 λy hy=> ?_;simp only[AlY,AmU]at hy;rcases hy with⟨z,_,rfl⟩|hy
            · exact hw.ev z
            · simp only[Wf]at hwx; exact Wfs.all.1 hwx y hy
          · cases hin
        · cases hin
      · cases hin
    obtain⟨sv,heap',hK,h1,h2⟩:=hI _ _ _ _ h hwa hw.hp;exact⟨_,hK,hw.put h1 h2⟩
  · obtain⟨hyp,chk,sv,heap',R,W,hop,hc,hK⟩:∃hyp chk sv heap' R W,sop P G wr o s.ev s.heap= .ok hyp chk sv heap' R W/\chk.h/\(hyp.h->K (St.put ⟨s.tmps,heap'⟩ o.dst sv)):=by
      split at h
      · exact⟨_,_,_,_,_,_,by assumption,trivial,λ_=>h⟩
      · exact⟨_,_,_,_,_,_,by assumption,h.1,λ_=>h.2⟩
      · exact⟨_,_,_,_,_,_,by assumption,trivial,h⟩
      · exact⟨_,_,_,_,_,_,by assumption,h.1,h.2⟩
      · exact h.elim
    · skip;have hwf:=Ait hG hop hc (λx _=>hw.ev x) hw.hp;exact⟨_,hK hwf.1,hw.put hwf.2.1 hwf.2.2.wf⟩
theorem ops_pure (hG:∀f ct,G f=some ct->SoundCt P f ct) {inl:Inl} (hI:AeW inl) {wr:Bool} {all:List Oper}:∀(l:List Oper) {s:St} {K:St->Prop},AdQ P G wr inl all l s K->StWf s->∃s',K s'/\StWf s'
 |[],s,K,h,hw=>⟨s,h,hw⟩
 |o::r,s,K,h,hw=>by
  simp only[AdQ]at h;split at h
  · obtain⟨s',h1,h2⟩:=run_pure hG hI h hw;exact ops_pure hG hI r h1 h2
  · exact ops_pure hG hI r h (StWf.put (heap:=s.heap) hw (by simp[Wf]) hw.hp)
  · rename_i t b want _;by_cases hb:b=want
    · obtain⟨s',h1,h2⟩:=run_pure hG hI ((Cw_iff.1 h).1 hb) (StWf.put (heap:=s.heap) hw (by simp[Wf]) hw.hp);exact ops_pure hG hI r h1 h2
    · refine ops_pure hG hI r ((Cw_iff.1 h).2 (by cases b<;>cases want<;>simp_all)) ?_;exact StWf.put (heap:=s.heap) (s:=s.put (some t) (.blit (!want))) (x:= .undef) (StWf.put (heap:=s.heap) (x:= .blit (!want)) hw (by simp[Wf]) hw.hp) (by simp[Wf]) hw.hp
  · exact h.elim
theorem Aii {s:St} (t:Nat) (e:List Sh) (ty:TypeId) (hw:StWf s):StWf (Ad0 t e ty s):=by
 have key:StWf ⟨s.tmps.set t (.own s.heap.length 0),s.heap++[.row e ty 0 []]⟩:=by
  refine⟨Wfs.all.2 λc hc=> ?_,λk hb hk=> ?_⟩
  · rcases Amw hc with hc|rfl
    · exact Wfs.all.1 hw.tm c hc
    · simp[Wf]
  · rcases AmZ k s.heap.length with h|h
    · rw[List.getElem?_append_left h]at hk; exact hw.hp k hb hk
    · rw[List.getElem?_append_right h]at hk
      cases hk':k-s.heap.length with
      |zero=>rw[hk']at hk; simp at hk; subst hk; simp[WfHB,maxLen]
      |succ j=>rw[hk']at hk; simp at hk
 unfold Ad0;split
 · exact key
 · exact key
 · exact hw
theorem Ahe {s:St} (t i:Nat) (e:List Sh) (ty:TypeId) (hw:StWf s):StWf (Ade t i e ty s):=by
 unfold Ade;split
 · rename_i k off ht;split
   · rename_i cells bt hk;split
     · refine⟨hw.tm,λj hb hj=> ?_⟩;have hc:=hw.hp _ _ hk;simp only[WfHB]at hc;rcases AmZ j s.heap.length with h|h
       · rw[List.getElem?_append_left (by simpa using h),List.getElem?_set]at hj;by_cases hkj:k=j
         · rw [if_pos hkj] at hj;have hkl := (List.getElem?_eq_some_iff.1 hk).1;have hj' : some (HB.box (cells.set i (.own s.heap.length 0)) bt) = some hb := by
            first|exact hj|(rw[if_pos hkl]at hj; exact hj)|simpa[hkl]using hj
           injection hj' with hj';subst hj';simp only[WfHB];refine Wfs.all.2 λc hc'=> ?_;rcases Amw hc' with hc'|rfl
           · exact Wfs.all.1 hc c hc'
           · simp[Wf]
         · rw[if_neg hkj]at hj; exact hw.hp j hb hj
       · rw[List.getElem?_append_right (by simpa using h)]at hj;rw[Am0]at hj
         cases hk':j-s.heap.length with
         |zero=>rw[hk']at hj; simp at hj; subst hj; simp[WfHB,maxLen]
         |succ j=>rw[hk']at hj; simp at hj
     · exact hw
   · exact hw
 · exact hw
theorem AdO:∀(A:LoopAnn) {s:St} (hw:StWf s),StWf (A.res s).2
  | .on g,s,hw=>by simp only[LoopAnn.res]; exact AdO (g s) hw
  | .ghost t e ty r,s,hw=>by simp only[LoopAnn.res]; exact AdO r (Aii t e ty hw)
  | .ghostB t i e ty r,s,hw=>by simp only[LoopAnn.res]; exact AdO r (Ahe t i e ty hw)
  | .settle r,s,hw=>by simp only[LoopAnn.res]; exact AdO r (settle_wf hw)
  | .settleN _ r,s,hw=>by simp only[LoopAnn.res]; exact AdO r (settle_wf hw)
  | .mark t r,s,hw=>by
    simp only[LoopAnn.res];refine AdO r ?_;unfold Agy;split
    · split
      · split
        · exact⟨Wfs.all.2 λc' hc'=>by
            rcases Amw hc' with hc'|rfl
            · exact Wfs.all.1 hw.tm c' hc'
            · simp[Wf],hw.hp⟩
        · exact hw
      · exact hw
    · exact hw
  | .unroll n,s,hw=>hw
  | .hand h,s,hw=>hw
  | .cut X pre mk hp ks kp,s,hw=>hw
  | .inv X pre mk hp ks kp mu,s,hw=>hw
theorem code_pure (hG:∀f ct,G f=some ct->SoundCt P f ct) {inl:Inl} (hI:AeW inl) {wr:Bool} {A:Nat->LoopAnn} {draw:Inl->Array Oper->St->(St->Prop)->Prop} (hD:AdP draw):
 ∀(c:Code) (s:St) (Q:Exit->St->Prop),Abd P G wr A draw inl c s Q->StWf s->∃e s',Q e s'/\StWf s'
 | .skip,s,Q,h,hw=>⟨_,s,h,hw⟩
 | .region id ops d,s,Q,h,hw=>by
  simp only[Abd,St.force_eq]at h
  cases d with
  |true=>
   simp only[if_true]at h
   obtain⟨s',h1,h2⟩:=hD inl hI ops s _ h hw
   exact⟨_,s',h1,h2⟩
  |false=>
   simp only[AlW,if_false]at h
   split at h
   · obtain⟨s',h1,h2⟩:=ops_pure hG hI _ h hw
     obtain⟨s2,h3,h4⟩:=clrPair_pure h1 h2
     exact⟨_,s2,h3,h4⟩
   · obtain⟨s',h1,h2⟩:=ops_pure hG hI _ h hw
     exact⟨_,s',h1,h2⟩
 | .seq x y,s,Q,h,hw=>by
  simp only[Abd]at h;have w1:=AdO (A ((nameOf y).getD 0+1000000)) hw;split at h
  · rename_i s1 he;rw[he]at w1;replace hw:=w1;clear he w1;revert h hw;generalize s1=s;intro h hw;replace h:=Ahp h;obtain⟨_,hb,hk⟩:=h;obtain⟨e,s',h1,h2⟩:=code_pure hG hI hD x s _ hb hw
    cases e with
    |normal=>
     rw[St.force_eq]at h1
     replace h2:=settle_wf (n:=s.heap.length) h2
     replace h1:=AdN h1
     simp only[Aej]at h1
     revert h1 h2 hk
     generalize settle s.heap.length s'=s'
     generalize (λk=>curV s.heap k+1)=nv
     generalize rvKs s.heap _ _=rk
     intro hk h2 h1
     obtain⟨_,_,z,hz,_,hly,hlh,_⟩:=h1
     have wT:=Ab8 (s:=s') (ks:=rk) (nv:=nv) (AeT nv s'.heap) h2
     have hk':=hk z hz (Acf _ (Aee wT.tm _ hly)) (Ach _ (Aef wT.hp _ hlh))
     exact code_pure hG hI hD y _ Q hk' (Ahd wT hw hly hlh)
    |exit id=>exact⟨_,s',h1,h2⟩
    |goto l=>exact⟨_,s',h1,h2⟩
    |ret=>exact⟨_,s',h1,h2⟩
    |panic ch=>exact⟨_,s',h1,h2⟩
    |outgrown=>exact⟨_,s',h1,h2⟩
  · rename_i l s1 hne he;rw[he]at w1;obtain⟨e,s',h1,h2⟩:=code_pure hG hI hD x s1 _ h w1
    cases e with
    |normal=>exact code_pure hG hI hD y _ Q h1 (AdO (A ((nameOf y).getD 0+2000000)) h2)
    |exit id=>exact⟨_,s',h1,h2⟩
    |goto l=>exact⟨_,s',h1,h2⟩
    |ret=>exact⟨_,s',h1,h2⟩
    |panic ch=>exact⟨_,s',h1,h2⟩
    |outgrown=>exact⟨_,s',h1,h2⟩
 | .cond c x y,s,Q,h,hw=>by
  simp only[Abd]at h;split at h
  · rename_i t _
    cases t with
    |true=>exact code_pure hG hI hD x s Q (by simpa using h) hw
    |false=>exact code_pure hG hI hD y s Q (by simpa using h) hw
  · rename_i t _
    cases t with
    |true=>exact code_pure hG hI hD x _ Q ((Cn_iff.1 h).1 rfl) hw.know
    |false=>exact code_pure hG hI hD y _ Q ((Cn_iff.1 h).2 rfl) hw.know
  · exact code_pure hG hI hD y s Q h.2 hw
  · exact h.elim
 | .block id c,s,Q,h,hw=>by
  simp only[Abd]at h;obtain⟨e,s',h1,h2⟩:=code_pure hG hI hD c s _ h hw
  cases e with
  |exit j=>
   simp only at h1
   split at h1
   · exact⟨_,s',h1,h2⟩
   · exact⟨_,s',h1,h2⟩
  |normal=>exact⟨_,s',h1,h2⟩
  |goto l=>exact⟨_,s',h1,h2⟩
  |ret=>exact⟨_,s',h1,h2⟩
  |panic ch=>exact⟨_,s',h1,h2⟩
  |outgrown=>exact⟨_,s',h1,h2⟩
 | .loop c,s,Q,h,hw=>by
  simp only[Abd]at h;have w1:=AdO (A ((nameOf c).getD 0)) hw;split at h
  · rename_i n s1 he;rw [he] at w1;have key : ∀ (n : Nat) (s : St), AdR (Abd P G wr A draw inl c) n s Q -> StWf s -> ∃ e s', Q e s' /\ StWf s' := by
     intro n
     induction n with
     |zero=>intro s h; exact h.elim
     |succ n ih=>
      intro s h hw
      simp only[AdR]at h
      obtain⟨e,s',h1,h2⟩:=code_pure hG hI hD c s _ h hw
      cases e with
      |normal=>exact ih s' h1 h2
      |exit id=>exact⟨_,s',h1,h2⟩
      |goto l=>exact⟨_,s',h1,h2⟩
      |ret=>exact⟨_,s',h1,h2⟩
      |panic ch=>exact⟨_,s',h1,h2⟩
      |outgrown=>exact⟨_,s',h1,h2⟩
    exact key n s1 h w1
  · rename_i X pre mk hp ks kp mu s1 he;rw [he] at w1;replace hw := w1;clear he w1;revert h hw;generalize s1 = s;intro h hw;replace h := Aho h;have hback : ∀ {s' : St} {x : X}, Aeg (wrOf c) ks kp s s' (∃ y, Adr ks kp s s' (mk y) (hp y) (pre y) [nLt (mu y) (mu x)]) -> Aej (wrOf c) ks kp s s' X pre mk hp λy => mu y < mu x := λh => AdN h;simp only [Aej] at hback;generalize (λk => curV s.heap k + 1) = nv at h hback;generalize rvKs s.heap ks kp = rk at h hback;obtain ⟨⟨x0, hx0, hk0, ht0, hh0⟩, hbel, hround⟩ := h;have key : ∀ (n : Nat) (x : X), mu x < n -> pre x -> WfTs (mk x) -> WfHs (hp x) -> StWf (headOf (dropOf (keepOf (wrOf c) kp) 0 s.tmps) rk nv s (mk x) (hp x)) -> ∃ e s', Q e s' /\ StWf s' := by
     intro n
     induction n with
     |zero=>intro x hx; omega
     |succ n ih=>
      intro x hlt hpre hwt hwh hw1
      have hb:=hround x hpre hwt hwh
      obtain⟨e,s',h1,h2⟩:=code_pure hG hI hD c _ _ hb hw1
      cases e with
      |normal=>
       rw[St.force_eq]at h1
       replace h2:=settle_wf (n:=s.heap.length) h2
       replace h1:=hback h1
       revert h1 h2
       generalize settle s.heap.length s'=s'
       intro h2 h1
       obtain⟨_,_,y,hy,_,hly,hlh,hmu⟩:=h1
       have wT:=Ab8 (s:=s') (ks:=rk) (nv:=nv) (AeT nv s'.heap) h2
       exact ih y (by omega) hy (Acf _ (Aee wT.tm _ hly)) (Ach _ (Aef wT.hp _ hlh)) (Ahd wT hw hly hlh)
      |exit id=>exact⟨_,s',h1,h2⟩
      |goto l=>exact⟨_,s',h1,h2⟩
      |ret=>exact⟨_,s',h1,h2⟩
      |panic ch=>exact⟨_,s',h1,h2⟩
      |outgrown=>exact⟨_,s',h1,h2⟩
    have wT:=Ab8 (s:=s) (ks:=rk) (nv:=nv) (AeT nv s.heap) hw;exact key (mu x0+1) x0 (Nat.lt_succ_self _) hx0 (Acf _ (Aee wT.tm _ ht0)) (Ach _ (Aef wT.hp _ hh0)) (Ahd wT hw ht0 hh0)
  · rename_i hd s1 he;rw[he]at w1;simp only[St.force_eq]at h;exact hd.pure h w1
  · exact h.elim
 | .exit id,s,Q,h,hw=>⟨_,s,h,hw⟩
 | .ret,s,Q,h,hw=>⟨_,s,h,hw⟩
 | .rangeFunc _ _ _ _,s,Q,h,hw=>by simp[Abd]at h
 | .scope c,s,Q,h,hw=>by
  simp only[Abd]at h;obtain⟨e,s',h1,h2⟩:=code_pure hG hI hD c s _ h hw
  cases e with
  |normal=>exact⟨_,s',h1,h2⟩
  |exit id=>exact⟨_,s',h1,h2⟩
  |goto l=>exact h1.elim
  |ret=>exact⟨_,s',h1,h2⟩
  |panic ch=>exact⟨_,s',h1,h2⟩
  |outgrown=>exact⟨_,s',h1,h2⟩
 | .label _,s,Q,h,hw=>⟨_,s,h,hw⟩
 | .goto _,s,Q,h,hw=>by simp[Abd]at h
 | .refuse _,s,Q,h,hw=>by simp[Abd]at h
theorem AiF {s:St} (hw:StWf s):∀(rs:List ResultVar) (xs:List SV),rs.mapM (resOf P s)=some xs->Wfs xs
 |[],xs,h=>by
  simp only[List.mapM_nil,Option.pure_def,AlC]at h;subst h; simp[Wfs]
 |r::rs,xs,h=>by
  simp only[List.mapM_cons,Option.bind_eq_bind,Option.pure_def]at h
  cases hx:resOf P s r with
  |none=>simp[hx]at h
  |some x=>
   cases hxs:rs.mapM (resOf P s)with
   |none=>simp[hx,hxs]at h
   |some ys=>
    simp only[hx,hxs,AmG,AlC]at h
    subst h
    simp only[Wfs]
    refine⟨?_,AiF hw rs ys hxs⟩
    cases r with
    |tmp t=>simp only[resOf,AlC]at hx; subst hx; exact hw.ev (.tmp t)
    |cell c t=>
     simp only[resOf]at hx
     split at hx
     · split at hx
       · rename_i k off _ _ cells ty hk
         exact AcI hx (by have:=hw.hp k _ hk; simpa only[WfHB]using this)
       · cases hx
     · cases hx
theorem AjT {s:St} (hw:StWf s) {rs:List ResultVar} {x:SV} (h:Ag5 P s rs=some x):Wf x:=by
 unfold Ag5 at h;split at h
 · rename_i y hm;injection h with h; subst h;have:=AiF hw _ _ hm;simp only[Wfs]at this;exact this.1
 · rename_i l hne hm;injection h with h; subst h;simpa only[Wf]using AiF hw _ _ hm
 · cases h
theorem call_pure (hG:∀f ct,G f=some ct->SoundCt P f ct) {wr:FuncId->Bool} {A:FuncId->Nat->LoopAnn} {draw:Bool->Inl->Array Oper->St->(St->Prop)->Prop} (hD:∀b,AdP (draw b)):
    ∀n,AeW (Ad7 P G wr A draw n)
  |0=>λf args heap K h=>h.elim
  |n+1=>λf args heap K h hwa hwh=>by
    simp only[Ad7]at h;split at h
    · rename_i fn hf;split at h
      · rename_i c hb;split at h
        · exact h.elim
        · have hwf:StWf ⟨args++List.replicate (fn.ntmps-args.length) .undef,heap⟩:=by
            refine⟨Wfs.all.2 λd hd=> ?_,hwh⟩;simp only[AlY,AmO]at hd;rcases hd with hd|⟨_,rfl⟩
            · exact Wfs.all.1 hwa d hd
            · simp[Wf]
          obtain⟨e,s',h1,h2⟩:=code_pure hG (call_pure hG hD n) (hD (wr f)) c _ _ h hwf;have fin:(match Ag5 P s' fn.results.toList with|some x=>K x s'.heap|none=>False)->∃sv heap',K sv heap'/\Wf sv/\WfH heap':=by
            intro hres;split at hres
            · rename_i x hx;exact⟨x,s'.heap,hres,AjT h2 hx,h2.hp⟩
            · exact hres.elim
          cases e with
          |normal=>exact fin h1
          |ret=>exact fin h1
          |exit id=>exact h1.elim
          |goto l=>exact h1.elim
          |panic ch=>exact h1.elim
          |outgrown=>exact h1.elim
      · exact h.elim
    · exact h.elim
def Ab3 (n:Nat) (sv:SV):List SV:=match n with
 |1=>[sv]
 |_=>match sv with| .tup l=>l|_=>[]
theorem Afc:∀(ps:List (Bool×List Sh)) (xs:List (List C)),(ofRess ps xs).length=ps.length
 |[],_=>rfl
 |p::ps,xs=>by simp[ofRess,Afc ps]
theorem Ae3:∀(ps:List (Bool×List Sh)) (xs:List SV) (ys:List (List C)),Abq ps xs=some ys->xs.length=ps.length
 |[],[],_,_=>rfl
 |[],_::_,_,h=>by simp[Abq]at h
 |_::_,[],_,h=>by simp[Abq]at h
 |p::ps,x::xs,ys,h=>by
  simp only[Abq]at h;split at h
  · rename_i y ys' _ h2;simp[Ae3 ps xs ys' h2]
  · cases h
theorem Adb (V V':Vw) (hok:∀b,V.ok b->V'.ok b/\V'.w.heap[b]? =V.w.heap[b]?) (p:Bool×List Sh) (cs:List C) (v:Value) (h:VR V (Abg p cs) v):VR V' (Abg p cs) v:=by
 have one:∀(s:Sh) (c:C) (v:Value),VR V (ofC s c) v->VR V' (ofC s c) v:=λs c v h=>(Adi V' s c v).2 (RepC.mono hok s c v ((Adi V s c v).1 h));have all:∀(e:List Sh) (cs:List C) (vs:List Value),VRs V (ofCs e cs) vs->VRs V' (ofCs e cs) vs:=by
  intro e
  induction e with
  |nil=>intro cs vs h; simpa only[ofCs,VRs]using h
  |cons s r ih=>
   intro cs vs h
   simp only[ofCs,VRs]at h ⊢
   obtain⟨v,t,rfl,h1,h2⟩:=h
   exact⟨v,t,rfl,one s _ v h1,ih _ t h2⟩
 obtain⟨g,e⟩:=p
 cases g with
 |true=>
  simp only[Abg,VR]at h ⊢
  obtain⟨vs,rfl,h1,h2⟩:=h
  exact⟨vs,rfl,h1,all e cs vs h2⟩
 |false=>
  match e with
  |[]=>simp only[Abg,ofCs,List.headD_nil,VR]
  |[s]=>simp only[Abg,ofCs,Al4]at h ⊢; exact one s _ v h
  |_::t::r=>
   simp only[Abg,VR]at h ⊢
   obtain⟨b,o,rfl,hb,hc⟩:=h
   obtain⟨us,hus,hul,hui⟩:=VRc_vals hc
   refine⟨b,o,rfl,(hok b hb).1,AfJ (all _ _ us hus) λi u hi=> ?_⟩
   have:=hui i u hi
   exact⟨by rw[World.cell?_of_block (w:=V.w) (hok b hb).2]; exact this.1,this.2⟩
theorem ofRess_data (V V':Vw) (hok:∀b,V.ok b->V'.ok b/\V'.w.heap[b]? =V.w.heap[b]?):∀(ps:List (Bool×List Sh)) (xs:List (List C)) (vs:List Value),VRs V (ofRess ps xs) vs->VRs V' (ofRess ps xs) vs
 |[],_,_,h=>by simpa only[ofRess,VRs]using h
 |p::ps,xs,vs,h=>by
  simp only[ofRess,VRs]at h ⊢;obtain⟨v,t,rfl,h1,h2⟩:=h;exact⟨v,t,rfl,Adb V V' hok p _ v h1,ofRess_data V V' hok ps _ t h2⟩
theorem AiH {ct:Ct} {n:Nat} {sv:SV} {args:List (List C)} (hl:ct.rs.length=n) (hK:Abq ct.rs (Ab3 n sv)=some (ct.outs args)) (hws:Wf sv):Wfs (ofRess ct.rs (ct.outs args)):=by
 refine Abp _ _ _ hK ?_;unfold Ab3;split
 · simp only[Wfs]; exact⟨hws,trivial⟩
 · split
   · simpa only[Wf]using hws
   · simp[Wfs]
theorem AhD {ct:Ct} {sv:SV} {args:List (List C)} (hrs:ct.rs≠[]) (hK:Abq ct.rs (Ab3 ct.rs.length sv)=some (ct.outs args)) {V' V2:Vw} {H:Nat->Option HB} (hH:Heap V' H)
 (hok2:∀b,V'.ok b->V2.ok b/\V2.w.heap[b]? =V'.w.heap[b]?) {v:Value} (hvr:VR V' sv v):VR V2 (ct.sv args) v:=by
 have hne:ct.rs.length≠1->∃l,sv= .tup l/\Ab3 ct.rs.length sv=l:=by
  intro h2;have h0:ct.rs.length≠0:=by intro h0; exact hrs (Am2.1 h0)
  have hl:=Ae3 _ _ _ hK;unfold Ab3 at hl ⊢;split at hl
  · omega
  · split at hl
    · rename_i l; exact⟨l,rfl,by first|rfl|(split; omega; rfl)⟩
    · simp at hl; omega
 have hsv:ct.sv args=(match ofRess ct.rs (ct.outs args)with|[x]=>x|l=> .tup l):=rfl;rw[hsv];by_cases h1l:ct.rs.length=1
 · obtain⟨p,hp⟩:∃p,ct.rs=[p]:=List.length_eq_one_iff.1 h1l;rw[hp]at hK ⊢;simp only[AlJ,Ab3,Abq]at hK;split at hK
   · rename_i y ys hy hys;injection hys with hys; subst hys;injection hK with hK;rw[←hK];simp only[ofRess,Al4];exact Adb V' _ hok2 p y v (AcY hH hy hvr)
   · cases hK
 · obtain⟨l,rfl,hl⟩:=hne h1l;rw[hl]at hK;simp only[VR]at hvr;obtain⟨vs,rfl,hvs⟩:=hvr;have h3:=ofRess_data V' V2 hok2 _ _ _ (AbR hH _ _ _ _ hK hvs);split
   · rename_i x hx;have:=Afc ct.rs (ct.outs args);rw[hx]at this;simp at this; omega
   · simp only[VR]; exact⟨vs,rfl,h3⟩
def idsR (x:SV):List Nat:=match x with| .tup cs=>cs.flatMap idsOf|x=>idsOf x
theorem Af9 {V:Vw} {H:Nat->Option HB} {heap:List HB} {ids:List Nat} (hH:Heap V H) (hag:∀k,k∈ids->V.D k->H k=heap[k]?) {x:SV} {v:Value} (hi:∀k∈idsR x,k∈ids) (hx:VR V x v):VR (V.frz H ids) (AeY heap x) v:=by
 unfold AeY;split
 · rename_i cs;simp only[VR]at hx ⊢;obtain⟨vs,rfl,h2⟩:=hx;exact⟨vs,rfl,Ab1 hH hag hi h2⟩
 · rename_i hne;refine Aeq hH hag (λk hk=>hi k ?_) hx
   cases x<;>first|exact hk|exact(hne _ rfl).elim
theorem Ahs {heap:List HB} (h:WfH heap) {x:SV} (hx:Wf x):Wf (AeY heap x):=by
 unfold AeY;split
 · simp only[Wf]at hx ⊢; exact AbD h hx
 · exact AfL h hx
theorem Ahj (hG:∀f ct,G f=some ct->SoundCt P f ct) {wr:FuncId->Bool} {A:List (List C)->FuncId->Nat->LoopAnn} {draw:Bool->Inl->Array Oper->St->(St->Prop)->Prop} (hD:∀b,Ac6 P (draw b)) (hDp:∀b,AdP (draw b)) (n:Nat) (f:FuncId) (ct:Ct) (hbx:ct.bx=none) (how:ct.ow=none) (hfr:ct.fr=none) (hrs:ct.rs≠[])
 {KK:List (List C)->SV->List HB->Prop} (hKK:∀args sv heap,KK args sv heap->Abq ct.rs (Ab3 ct.rs.length (AeY heap sv))=some (ct.out args))
 (h:∀args,Wfs (ofRess ct.ps args)->ct.pre args->Ad7 P G wr (A args) draw n f (ofRess ct.ps args) [] (KK args)):SoundCt P f ct:=by
 have ho:∀args,ct.outs args=ct.out args:=λargs=>by simp only[Ct.outs,hbx]
 refine⟨λargs hwa hpre=> ?_,λ_ _ _ V args vals hlt hbd hwa hpre hv=> ?_,λt e hb=>by(rw[hbx]at hb; cases hb),λt e r _ h=>by rw[how]at h; (cases h),λt e _ _ h=>by rw[hfr]at h; (cases h)⟩
 · simp only[Ct.aps,Ct.ars,hbx,how,hfr]at hwa ⊢;obtain⟨sv,heap',hK,hws,hwh⟩:=call_pure hG hDp n f _ [] _ (h args hwa hpre) hwa (λk c hk=>by simp at hk);replace hK:=hKK _ _ _ hK;rw[←ho];exact AiH rfl (by rw[ho]; exact hK) (Ahs hwh hws)
 · let V1:Vw:= {w:=V.w,D:=λ_=>False,L:=λ_=>False,c:=λ_=>0,p:=λ_=>Go.undef,bad:=λb=>b<V.w.heap.size/\¬V.ok b}
   have hok1:∀b,V.ok b->V1.ok b/\V1.w.heap[b]? =V.w.heap[b]? :=λb hb=>⟨⟨hb.1,λhbad=>hbad.2 hb,λk hk=>hk.elim⟩,rfl⟩
   have hH1:Heap V1 (λk=>([]:List HB)[k]?):=⟨λk hk=>hk.elim,λk b hk=>hk.elim,λb hb=>hb.1,λk b hk=>hk.elim,λk k' b hk=>hk.elim⟩
   obtain⟨h1,h2⟩:=call_sound hG hD n f _ [] _ (h args hwa hpre) hwa (λk c hk=>by simp at hk) V1 vals (ofRess_data V V1 hok1 _ _ _ hv) hH1 (λk hk=>hk.elim);refine .inl ⟨h1,h2.mono λe w' ⟨v,V',sv,heap',he,hw',hK,hws,_,hvr,hg,hH,_⟩=> ?_⟩;replace hK:=hKK _ _ _ hK;subst he; subst hw';obtain⟨W,hg⟩:=hg;have hbelow:Below V.w.heap.size V.w V'.w:=⟨hg.os,hg.tape,hg.output,hg.size,λb hb=>hg.blk b hb λk _ hk=>hk.elim⟩
   refine⟨v,rfl,hbelow,?_⟩;have hHf:=Abt hH (idsR sv);have hvf:=Af9 (heap:=heap') (ids:=idsR sv) hH (λ_ _ _=>rfl) (λ_ h=>h) hvr;have hok2:∀b,(V'.frz (λk=>heap'[k]?) (idsR sv)).ok b->Vw.ok {V with w:=V'.w} b/\V'.w.heap[b]? =V'.w.heap[b]? :=λb hb=>by
    have hb2:¬V1.bad b:=λhx=>hb.2.1 ((hg.bad b).1 hx);refine⟨⟨hb.1,?_,?_⟩,rfl⟩
    · intro hbad;by_cases hlt':b<V.w.heap.size
      · exact hb2 ⟨hlt',λho=>ho.2.1 hbad⟩
      · have:=hbd b hbad; omega
    · intro k hk hl he;exact hb2 ⟨hlt k b hk hl he,λho=>ho.2.2 k hk hl he⟩
   exact AhD hrs (by rw[ho]; exact hK) hHf hok2 hvf
theorem AgP (hG:∀f ct,G f=some ct->SoundCt P f ct) {wr:FuncId->Bool} {A:List (List C)->FuncId->Nat->LoopAnn} {draw:Bool->Inl->Array Oper->St->(St->Prop)->Prop} (hD:∀b,Ac6 P (draw b)) (hDp:∀b,AdP (draw b)) (n:Nat) (f:FuncId) (ct:Ct) {t:TypeId} {e:List Sh} (hbx:ct.bx=some (t,e)) (hrs:ct.rs≠[])
 {KK:List (List C)->SV->List HB->Prop} (hKK:∀args sv heap,KK args sv heap->(∃cells,heap[0]? =some (.box cells t)/\AdU (true,e) (thaw heap (.agg cells))=some ((ct.out args).headD []))/\Abq ct.rs (Ab3 ct.rs.length (AeY heap sv))=some (ct.out args).tail)
 (h:∀args,Wfs (ofRess ((true,e)::ct.ps) args)->ct.pre args->Ad7 P G wr (A args) draw n f (.ref 0 0::ofRess ct.ps args.tail) [.box (ofCs e (args.headD [])) t] (KK args)):SoundCt P f ct:=by
 have ho:∀args,ct.outs args=(ct.out args).tail:=λargs=>by simp only[Ct.outs,hbx]
 have hw0:∀args,Wfs (ofRess ((true,e)::ct.ps) args)->Wfs (.ref 0 0::ofRess ct.ps args.tail)/\WfH [HB.box (ofCs e (args.headD [])) t]:=λargs hwa=>by
  simp only[ofRess,Abg,Wfs,Wf]at hwa ⊢;refine⟨⟨trivial,hwa.2⟩,λk c hk=> ?_⟩
  cases k with
  |zero=>injection hk with hk; subst hk; simp only[WfHB]; exact hwa.1
  |succ k=>simp at hk
 refine⟨λargs hwa hpre=> ?_,λhb=>by(rw[hbx]at hb; cases hb),λt' e' hb V args vals b us hlt hbd hnok hbl hone hrep hwa hpre hv=> ?_,λt e r hb=>by(rw[hbx]at hb; cases hb),λt e hb=>by(rw[hbx]at hb; cases hb)⟩
 · simp only[Ct.aps,Ct.ars,hbx]at hwa ⊢;obtain⟨hw1,hw2⟩:=hw0 args hwa;obtain⟨sv,heap',hK,hws,hwh⟩:=call_pure hG hDp n f _ _ _ (h args hwa hpre) hw1 hw2;obtain⟨⟨cells,hc1,hc2⟩,hK⟩:=hKK _ _ _ hK;have h1:=AiH (ct:=ct) (args:=args) rfl (by rw[ho]; exact hK) (Ahs hwh hws);rw[ho]at h1;have h2:=hwh 0 _ hc1;simp only[WfHB]at h2;have h3:=Ahq hc2 (AfL hwh (by simp only[Wf]; exact h2));simp only[ofRess,Wfs];exact⟨h3,h1⟩
 · rw[hbx]at hb;injection hb with hb;obtain⟨rfl,rfl⟩:=Prod.mk.inj hb;have hbs:b<V.w.heap.size:=(Array.getElem?_eq_some_iff.1 hbl).1;let V1:Vw:= {w:=V.w,D:=λk=>k=0,L:=λk=>k=0,c:=λ_=>0,p:=λ_=> .pointer (some ⟨b,0,none⟩),bad:=λc=>c<V.w.heap.size/\c≠b/\¬V.ok c}
   have hok1:∀c,V.ok c->V1.ok c/\V1.w.heap[c]? =V.w.heap[c]? :=λc hc=>⟨⟨hc.1,λhbad=>hbad.2.2 hc,λk _ _ hk=>by
    injection hk with hk;have hk':b=c:=hk;rw[hk']at hnok;exact hnok hc⟩,rfl⟩
   have hst1:VRs V1 (ofCs e (args.headD [])) us:=by
    have:=Adb V V1 hok1 (true,e) (args.headD []) (.agg us.toArray) (by simp only[Abg,VR]; exact⟨us,rfl,hone,hrep⟩);simp only[Abg,VR]at this;obtain⟨us1,heq,_,hr⟩:=this;obtain rfl:us=us1:=by injection heq with heq; simpa using heq
    exact hr
   have hH1:Heap V1 (λk=>[HB.box (ofCs e (args.headD [])) t][k]?):=by
    refine⟨λk hk=> ?_,λk c _ _ hc=> ?_,λc hc=>hc.1,λk c _ _ hc hbad=> ?_,λk k' c hk _ hk' _ _ _=> ?_⟩
    · have hk':k=0:=hk;subst hk';exact⟨_,rfl,rfl,b,us,rfl,hbl,hone,hst1⟩
    · injection hc with hc;have hc':b=c:=hc;rw[←hc']; exact hbs
    · injection hc with hc;have hc':b=c:=hc;exact hbad.2.1 hc'.symm
    · have h1:k=0:=hk;have h2:k'=0:=hk';rw[h1,h2]
   obtain⟨hw1,hw2⟩:=hw0 args hwa;obtain⟨h1,h2⟩:=call_sound hG hD n f _ _ _ (h args hwa hpre) hw1 hw2 V1 (.pointer (some ⟨b,0,none⟩)::vals)
    (by simp only[VRs,VR]; exact⟨_,_,rfl,⟨rfl,b,rfl,rfl⟩,ofRess_data V V1 hok1 _ _ _ hv⟩) hH1 (λk hk=>by have hk':k=0:=hk; simp[hk'])
   refine .inl ⟨h1,h2.mono λee w' ⟨v,V',sv,heap',he,hw',hK,hws,_,hvr,hg,hH,_⟩=> ?_⟩;obtain⟨⟨cells,hc1,hc2⟩,hK⟩:=hKK _ _ _ hK;subst he; subst hw';obtain⟨W,hg⟩:=hg;have hD0:V'.D 0:=hg.D 0 rfl;have hp0:V'.p 0= .pointer (some ⟨b,0,none⟩):=hg.pp 0 _ rfl rfl;have hL0:V'.L 0:=hH.boxL hD0 hc1;have hother:AjD b V.w V'.w:=⟨hg.os,hg.tape,hg.output,hg.size,λc hc hcb=>hg.blk c hc λk _ _ _ hk=>by
    injection hk with hk;exact hcb hk.symm⟩
   have hHf:=Abt hH (idsOf (.agg cells)++idsR sv);have hvf:=Af9 (heap:=heap') (ids:=idsOf (.agg cells)++idsR sv) hH (λ_ _ _=>rfl) (λ_ h=>by simp[h]) hvr;have hL0f:(V'.frz (λk=>heap'[k]?) (idsOf (.agg cells)++idsR sv)).L 0:=⟨hL0,λh=>by have h2:=h.2; simp only[hc1,AlM,AfZ]at h2; cases h2⟩
   have hok2:∀c,(V'.frz (λk=>heap'[k]?) (idsOf (.agg cells)++idsR sv)).ok c->Vw.ok {V with w:=V'.w} c/\V'.w.heap[c]? =V'.w.heap[c]? :=λc hc=>by
    have hcb:c≠b:=λhcb=>hc.2.2 0 hD0 hL0f (by show blkOf (V'.p 0)=_; rw[hp0,hcb]; rfl);have hb2:¬V1.bad c:=λhx=>hc.2.1 ((hg.bad c).1 hx);refine⟨⟨hc.1,?_,?_⟩,rfl⟩
    · intro hbad;by_cases hlt':c<V.w.heap.size
      · exact hb2 ⟨hlt',hcb,λho=>ho.2.1 hbad⟩
      · have:=hbd c hbad; omega
    · intro k hk hl he;exact hb2 ⟨hlt k c hk hl he,hcb,λho=>ho.2.2 k hk hl he⟩
   refine⟨v,rfl,hother,?_,AhD hrs (by rw[ho]; exact hK) hHf hok2 hvf⟩;obtain⟨us',hbl',hone',hrep'⟩:=hH.box hD0 hc1 hp0;refine⟨us',hbl',hone',?_⟩;have hth:=Aeq (heap:=heap') (ids:=idsOf (.agg cells)++idsR sv) hH (λ_ _ _=>rfl) (x:= .agg cells) (v:= .agg us'.toArray) (λ_ h=>by simp only[AlY]; exact .inl h) (by simp only[VR]; exact⟨us',rfl,hone',hrep'⟩);have h5:=Adb _ {V with w:=V'.w} hok2 (true,e) _ _ (AcY hHf hc2 hth);simp only[Abg,VR]at h5;obtain⟨us2,heq,_,hr⟩:=h5;obtain rfl:us'=us2:=by injection heq with heq; simpa using heq
   exact hr
end Go.Sx

