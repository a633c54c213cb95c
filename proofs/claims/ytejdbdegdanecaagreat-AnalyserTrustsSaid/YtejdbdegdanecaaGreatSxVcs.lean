import Derived.Test.YtejdbdegdanecaaGreatSxVc
set_option linter.unusedVariables false
set_option linter.unusedSimpArgs false
namespace Go.Sx
open Go.RowKit
variable {P:Program} {G:Nat->Option Ct}
theorem VRs.of_get {V:Vw}:∀ {cs:List SV} {vs:List Value},vs.length=cs.length->(∀(i:Nat) (c:SV) (v:Value),cs[i]? =some c->vs[i]? =some v->VR V c v)->VRs V cs vs
 |[],vs,hl,_=>by simp only[VRs]; exact AmH (by simpa using hl)
 |c::cs,[],hl,_=>by simp at hl
 |c::cs,v::vs,hl,h=>by
  simp only[VRs];exact⟨v,vs,rfl,h 0 c v rfl rfl,VRs.of_get (by simpa using hl) λi d u hd hu=>h (i+1) d u (by simpa using hd) (by simpa using hu)⟩
theorem VRs.set {V:Vw} {cs:List SV} {vs:List Value} (h:VRs V cs vs) (i:Nat) {x:SV} {u:Value} (hx:VR V x u):VRs V (cs.set i x) (vs.set i u):=by
 have hl:=h.len;refine VRs.of_get (by simpa using hl) λj c v hc hv=> ?_;rw[List.getElem?_set]at hc hv;by_cases hij:i=j
 · subst hij;simp only[if_pos]at hc hv;split at hc
   · rename_i hlt;rw[if_pos (by omega)]at hv;injection hc with hc; injection hv with hv; subst hc; subst hv; exact hx
   · cases hc
 · rw[if_neg hij]at hc hv;obtain⟨v',hv',hr⟩:=h.get j c hc;rw[hv]at hv'; injection hv' with hv'; subst hv'; exact hr
theorem VRs.getD {V:Vw} {cs:List SV} {vs:List Value} (h:VRs V cs vs) (i:Nat):VR V (cs.getD i .undef) (vs.getD i Go.undef):=by
 have hl:=h.len;rw[List.getD_eq_getElem?_getD,List.getD_eq_getElem?_getD]
 cases hc:cs[i]? with
 |none=>
  have:vs[i]? =none:=by rw[List.getElem?_eq_none_iff]at hc ⊢; omega
  rw[this]; simp[VR]
 |some c=>
  obtain⟨v,hv,hr⟩:=h.get i c hc
  rw[hv]; exact hr
theorem StRep.ev {V:Vw} {a:Act} {s:St} (h:StRep V a s) (x:Operand):VR V (s.ev x) (a.eval x):=by
 cases x with
 |tmp t=>
  simp only[St.ev,Act.eval]
  have:=h.tm.getD t
  have e:a.tmps.getD t Go.undef=a.tmps.toList.getD t Go.undef:=by simp[List.getD_eq_getElem?_getD]
  rw[e]; exact this
 |const v=>exact AfH V v
 |global g=>simp[St.ev,VR]
 |func f=>simp only[St.ev,Act.eval,VR]; exact⟨[],rfl,by simp[VRs]⟩
theorem StWf.ev {s:St} (h:StWf s) (x:Operand):Wf (s.ev x):=by
 cases x with
 |tmp t=>
  simp only[St.ev]
  rw[List.getD_eq_getElem?_getD]
  cases hc:s.tmps[t]? with
  |none=>simp[Wf]
  |some c=>simpa using Wfs.all.1 h.tm c (Amm hc)
 |const v=>exact Aic v
 |global g=>simp[St.ev,Wf]
 |func f=>simp[St.ev,Wf,Wfs]
theorem AjW (l:List SV) (d:Option Tmp) (x:SV):(putT l d x).length=l.length:=by cases d<;>simp[putT]
theorem StRep.put {V V':Vw} {a:Act} {s:St} {heap:List HB} {d:Option Tmp} {x:SV} {v:Value} (h:StRep V a s) (hs:Aim V V') (hx:VR V' x v) (hH:Heap V' (λk=>heap[k]?)) (hlt:∀k,V'.D k->k<heap.length):
 StRep V' (a.put d v) (St.put ⟨s.tmps,heap⟩ d x):=by
 refine⟨?_,hH,hlt,?_⟩
 · have h1:=VRs.mono hs _ _ h.tm
   cases d with
   |none=>exact h1
   |some t=>simpa[St.put,putT,Act.put]using h1.set t hx
 · cases d<;>simpa[Act.put]using h.df
theorem StWf.put {s:St} {heap:List HB} {d:Option Tmp} {x:SV} (h:StWf s) (hx:Wf x) (hH:WfH heap):StWf (St.put ⟨s.tmps,heap⟩ d x):=by
 refine⟨?_,hH⟩
 cases d with
 |none=>exact h.tm
 |some t=>
  refine Wfs.all.2 λc hc=> ?_
  simp only[St.put,putT]at hc
  rcases Amw hc with hc|rfl
  · exact Wfs.all.1 h.tm c hc
  · exact hx
theorem StRep.recast {V:Vw} {a:Act} {s:St} {t:Tmp} {y:SV} (h:StRep V a s) (hy:∀x v,s.tmps[t]? =some x->VR V x v->VR V y v):StRep V a (s.put (some t) y):=by
 refine⟨?_,h.hp,h.lt,h.df⟩;have hl:=h.tm.len;refine VRs.of_get (by simp[St.put,putT]; simpa using hl) λj c v hc hv=> ?_;simp only[St.put,putT,List.getElem?_set]at hc;by_cases hij:t=j
 · subst hij;simp only[if_pos]at hc;split at hc
   · rename_i hlt;injection hc with hc; subst hc;obtain⟨u,hu,hr⟩:=h.tm.get t s.tmps[t] (by simp[hlt]);rw[hv]at hu; injection hu with hu; subst hu;exact hy _ v (by simp[hlt]) hr
   · cases hc
 · rw[if_neg hij]at hc;obtain⟨v',hv',hr⟩:=h.tm.get j c hc;rw[hv]at hv'; injection hv' with hv'; subst hv'; exact hr
theorem StRep.know {V:Vw} {a:Act} {s:St} {c:Operand} {t b:Bool} (h:StRep V a s) (he:s.ev c= .bool t) (hb:t=b):StRep V a (s.know c b):=by
 unfold St.know
 cases c<;>first|exact h|skip
 rename_i i;refine h.recast λx v hx hv=> ?_;simp only[St.ev,List.getD_eq_getElem?_getD,hx,Amj]at he;subst he; subst hb;simpa only[VR]using hv
theorem StWf.know {s:St} {c:Operand} {b:Bool} (h:StWf s):StWf (s.know c b):=by
 unfold St.know
 cases c<;>first|exact h|exact StWf.put (heap:=s.heap) (s:=s) h (by simp[Wf]) h.hp
theorem guard_yield {ops:Array Oper} {V:Vw} {a:Act} {s:St} (h:StRep V a s) {j:Nat} {t:Tmp} {x:SV} (ht:(ops.toList[j]?).bind (·.dst)=some t) (hx:s.tmps[t]? =some x):
 ∃v,VR V x v/\yielded ops a.tmps j=(match v with| .bool b=>some b|_=>none):=by
 obtain⟨v,hv,hr⟩:=h.tm.get t x hx;refine⟨v,hr,?_⟩;unfold yielded;have e1:(ops[j]?).bind (·.dst)=some t:=by simpa using ht
 have e2:a.tmps[t]? =some v:=by simpa using hv
 simp only[e1,AmG,e2]
 cases v<;>rfl
def AcO (P:Program) (inl:Inl):Prop:=
 ∀(f:FuncId) (args:List SV) (heap:List HB) (K:SV->List HB->Prop),inl f args heap K->Wfs args->WfH heap->
  ∀(V:Vw) (vals:List Value),VRs V args vals->Heap V (λk=>heap[k]?)->(∀k,V.D k->k<heap.length)->
   (callFunc f vals.toArray).run P V.w= .ok (.enter f vals.toArray) V.w/\
   Calls P f vals.toArray V.w λe w'=>∃v V' sv heap',e= .returned v/\w'=V'.w/\K sv heap'/\Wf sv/\WfH heap'/\VR V' sv v/\Gro V V'/\Heap V' (λk=>heap'[k]?)/\(∀k,V'.D k->k<heap'.length)
theorem Agq (hG:∀f ct,G f=some ct->SoundCt P f ct) {inl:Inl} (hI:AcO P inl) {wr:Bool} {o:Oper} {s:St} {K:St->Prop} (h:Aex P G wr inl o s K) {V:Vw} {a:Act} (hr:StRep V a s) (hw:StWf s)
    (next:Act->World->Prop) (Q:Exit->Act->World->Prop) (hn:∀a' V' s',Gro V V'->StRep V' a' s'->StWf s'->K s'->next a' V'.w):o.wp P a V.w next Q:=by
  unfold Aex at h;split at h
  · rename_i f args hin;unfold AfB at hin;split at hin
    · rename_i c ho;split at hin
      · rename_i x hcal;split at hin
        · rename_i g caps hev;have hargs:f=g/\args=c.args.toList.map s.ev++caps:=by
            split at hin
            · cases hin
            · simp only[AlC,AlH]at hin; exact⟨hin.1.symm,hin.2.symm⟩
          obtain⟨rfl,rfl⟩:=hargs;have hx:=hr.ev x;rw[hev]at hx;have hwx:=hw.ev x;rw[hev]at hwx;simp only[VR]at hx;obtain⟨vs,hv,hvs⟩:=hx;have hvals:VRs V (c.args.toList.map s.ev++caps) (c.args.toList.map a.eval++vs):=(VRs.map s.ev a.eval _ λy _=>hr.ev y).append hvs;have hwf:Wfs (c.args.toList.map s.ev++caps):=Wfs.all.2 λy hy=>by
            simp only[AlY,AmU]at hy;rcases hy with⟨z,_,rfl⟩|hy
            · exact hw.ev z
            · simp only[Wf]at hwx; exact Wfs.all.1 hwx y hy
          obtain⟨h1,h2⟩:=hI _ _ _ _ h hwf hw.hp V _ hvals hr.hp hr.lt;have hex:(execOp a.eval o).run P V.w=(callFunc f (c.args.toList.map a.eval++vs).toArray).run P V.w:=by
            simp only[execOp,ho,resolve,hcal,hv,Deferred.ofValue,Sem.run_bind,Sem.run_pure,Result.andThen_ok,invoke];have e:c.args.map a.eval=(c.args.toList.map a.eval).toArray:=by rw[←Array.toList_map,AlV]
            congr 2;rw[e]; simp
          unfold Oper.wp;rw[hex,h1];refine h2.mono λe w' ⟨v,V',sv,heap',he,hw',hK,hwsv,hwh,hvr,hg,hH,hlt⟩=> ?_;subst he; subst hw';obtain⟨W,hg'⟩:=hg;exact hn _ V' _ ⟨W,hg'⟩ (hr.put hg'.stays hvr hH hlt) (hw.put hwsv hwh) hK
        · cases hin
      · cases hin
    · cases hin
  · obtain⟨hyp,chk,sv,heap',R,W,hop,hc,hK⟩:∃hyp chk sv heap' R W,sop P G wr o s.ev s.heap= .ok hyp chk sv heap' R W/\chk.h/\(hyp.h->K (St.put ⟨s.tmps,heap'⟩ o.dst sv)):=by
      split at h
      · exact⟨_,_,_,_,_,_,by assumption,trivial,λ_=>h⟩
      · exact⟨_,_,_,_,_,_,by assumption,h.1,λ_=>h.2⟩
      · exact⟨_,_,_,_,_,_,by assumption,trivial,h⟩
      · exact⟨_,_,_,_,_,_,by assumption,h.1,h.2⟩
      · exact h.elim
    · skip;have hH:=hr.hp;have hwf:=Ait hG hop hc (λx _=>hw.ev x) hw.hp;have hK:=hK hwf.1;have hl:=Agc (a:=a) hG hop hc (λx _=>hr.ev x) (λx _=>hw.ev x) hH (λk _ _=>rfl) (λk hk _ hd=>by have:=hr.lt k hd; omega) hw.hp;refine hl next Q λv V' hg hv hH' hD=> ?_;have hfr:=hwf.2.2;refine hn _ V' _ ⟨W,hg⟩ (hr.put hg.stays hv (hH'.congr λk hk=> ?_) λk hk=> ?_) (hw.put hwf.2.1 hfr.wf) hK
      · unfold newH;split
        · rfl
        · rename_i hne;have hne':k∉W/\¬(s.heap.length<=k/\k<heap'.length):=by simpa[not_or]using hne
          have hk1:k<s.heap.length:=by
            rcases(hD k).1 hk with h|h
            · exact hr.lt k h
            · exact(hne'.2 h).elim
          exact hfr.same k hk1 hne'.1
      · rcases(hD k).1 hk with h|h
        · exact Amg (hr.lt k h) hfr.len
        · exact h.2
theorem AdL {ops:Array Oper} {V:Vw} {a:Act} {s:St} (hr:StRep V a s) {o:Oper}:
 match guardOf ops.toList s o.guard with
 | .run=>Region.wanted o (yielded ops a.tmps)=true
 | .skip=>Region.wanted o (yielded ops a.tmps)=false
 | .ask t b want=>s.tmps[t]? =some (.bool b)/\Region.wanted o (yielded ops a.tmps)=(b==want)
 | .bad=>True:=by
 unfold guardOf
 cases hg:o.guard with
 |none=>simp[Region.wanted,hg]
 |some g=>
  obtain⟨j,want⟩:=g
  simp only
  cases ht:(ops.toList[j]?).bind (·.dst)with
  |none=>trivial
  |some t=>
   simp only
   cases hx:s.tmps[t]? with
   |none=>trivial
   |some x=>
    obtain⟨v,hv,hy⟩:=guard_yield hr ht hx
    cases x<;>simp only<;>try trivial
    · simp only[VR]at hv
      subst hv
      simp[Region.wanted,hg,hy,Go.undef]
    · simp only[VR]at hv
      subst hv
      rename_i b
      refine⟨hx,?_⟩
      simp[Region.wanted,hg,hy]
    · simp only[VR]at hv
      subst hv
      rename_i b
      cases b<;>cases want<;>simp[Region.wanted,hg,hy]
theorem Ab0 (hG:∀f ct,G f=some ct->SoundCt P f ct) {inl:Inl} (hI:AcO P inl) {wr:Bool} {ops:Array Oper} {Q:Exit->Act->World->Prop} (rest:List Oper):∀(l:List Oper) {s:St} {K:St->Prop},AdQ P G wr inl ops.toList l s K->
 ∀ {V0 V:Vw} {a:Act},Gro V0 V->StRep V a s->StWf s->(∀a' V' s',Gro V0 V'->StRep V' a' s'->StWf s'->K s'->wpList P ops Q rest a' V'.w)->wpList P ops Q (l++rest) a V.w
 |[],s,K,h,V0,V,a,hg,hr,hw,hq=>hq a V s hg hr hw h
 |o::r,s,K,h,V0,V,a,hg,hr,hw,hq=>by
  have hgd:=AdL (ops:=ops) hr (o:=o);simp only[AdQ]at h;show wpList P ops Q (o::(r++rest)) a V.w;unfold wpList;have run:∀ {s:St},StRep V a s->StWf s->Aex P G wr inl o s (λs=>AdQ P G wr inl ops.toList r s K)->o.wp P a V.w (wpList P ops Q (r++rest)) Q:=λhr hw h=>
   Agq hG hI h hr hw _ _ λa' V' s' hg' hr' hw' hK=>Ab0 hG hI rest r hK (hg.trans hg') hr' hw' hq
  have skip:∀ {s:St},StRep V a s->StWf s->AdQ P G wr inl ops.toList r (s.put o.dst .undef) K->wpList P ops Q (r++rest) (a.put o.dst Go.undef) V.w:=λ{s} hr hw h=>
   Ab0 hG hI rest r h hg (StRep.put (heap:=s.heap) hr (Grow.refl V []).stays (by simp[VR]) hr.hp hr.lt) (StWf.put (heap:=s.heap) hw (by simp[Wf]) hw.hp) hq
  cases hgu:guardOf ops.toList s o.guard with
  |run=>
   simp only[hgu]at h hgd
   rw[if_pos hgd]
   exact .inl (run hr hw h)
  |skip=>
   simp only[hgu]at h hgd
   rw[if_neg (by rw[hgd]; simp)]
   exact skip hr hw h
  |ask t b want=>
   simp only[hgu]at h hgd
   obtain⟨hx,hwd⟩:=hgd
   have hcast:∀c,b=c->StRep V a (s.put (some t) (.blit c)):=λc hc=>hr.recast λx v hx' hv=>by
    rw[hx]at hx'; injection hx' with hx'; subst hx'; subst hc; simpa only[VR]using hv
   have hwf:∀c,StWf (s.put (some t) (.blit c)):=λc=>StWf.put (heap:=s.heap) (s:=s) hw (by simp[Wf]) hw.hp
   by_cases hb:b=want
   · rw[if_pos (by rw[hwd]; simp[hb])]
     exact .inl (run (hcast want hb) (hwf want) ((Cw_iff.1 h).1 hb))
   · have hb':b= !want:=by cases b<;>cases want<;>simp_all
     rw[if_neg (by rw[hwd]; simp[hb])]
     exact skip (hcast _ hb') (hwf _) ((Cw_iff.1 h).2 hb')
  |bad=>
   simp only[hgu]at h
theorem AiI (hG:∀f ct,G f=some ct->SoundCt P f ct) {inl:Inl} (hI:AcO P inl) {wr:Bool} {ops:Array Oper} {Q:Exit->Act->World->Prop} (l:List Oper) {s:St} {K:St->Prop} (h:AdQ P G wr inl ops.toList l s K)
 {V0 V:Vw} {a:Act} (hg:Gro V0 V) (hr:StRep V a s) (hw:StWf s) (hq:∀a' V' s',Gro V0 V'->StRep V' a' s'->StWf s'->K s'->Q .normal a' V'.w):wpList P ops Q l a V.w:=by
 have:=Ab0 hG hI (ops:=ops) (Q:=Q) [] l h hg hr hw hq;rwa [Ame]at this
end Go.Sx

