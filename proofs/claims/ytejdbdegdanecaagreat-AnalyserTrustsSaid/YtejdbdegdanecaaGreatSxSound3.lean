import Derived.Test.YtejdbdegdanecaaGreatSxOwn2
set_option linter.unusedVariables false
set_option linter.unusedSimpArgs false
namespace Go.Sx
open Go.RowKit
variable {P:Program} {G:Nat->Option Ct} {o:Oper} {a:Act} {V:Vw} {H:Nat->Option HB} {ev:Operand->SV}
theorem Aeh {V:Vw} {w':World} {W:List Nat} (os:w'.os=V.w.os) (tape:w'.tape=V.w.tape) (output:w'.output=V.w.output) (size:V.w.heap.size<=w'.heap.size)
 (blk:∀b,b<V.w.heap.size->(∀k,k∈W->V.D k->V.L k->blkOf (V.p k)≠some b)->w'.heap[b]? =V.w.heap[b]?):Grow V {V with w:=w'} W:=
 ⟨os,tape,output,Ahk rfl,size,λ_ h=>h,λ_ _=>AlT _,λ_ _ _=>rfl,λ_ _ _ h=>h,λ_ _ h=>h,λ_ _ _ _ h=> .inl h,blk,λ_ h _ h'=>(h' h).elim⟩
theorem Aa5 {heap:List HB} {r:SV} {v:Value} (hrun:(execOp a.eval o).run P V.w= .ok (.value v) V.w) (hv:VR V r v) (hH:Heap V H):
 Ab6 P o a V r (newH heap heap [] H) [] heap.length heap.length:=
 Ag9 hrun hv (hH.congr λk _=>AcZ heap H k)
theorem AbK {s:Sem Value} {v:Value} {w w':World} (h:s.run P w= .ok v w'):(do pure (.value (←s)):Sem Next).run P w= .ok (.value v) w':=by
 simp only[Sem.run_bind,h,Result.andThen_ok,Sem.run_pure]
theorem Agp {t:TypeId} {heap heap':List HB} {hyp chk:Q} {sv:SV} {R W:List Nat} (ho:o.op= .alloc t) (h:AhA P t heap= .ok hyp chk sv heap' R W) (hH:Heap V H) (hn:∀k,heap.length<=k->k<heap'.length->¬V.D k):
 Ab6 P o a V sv (newH heap heap' W H) W heap.length heap'.length:=by
 unfold AhA at h;split at h
 · rename_i z hz;simp only[OpR.ok.injEq]at h;obtain⟨rfl,rfl,rfl,rfl,rfl,rfl⟩:=h;obtain⟨v,hv,hc,h1⟩:=run_zero hz V.w;simp only[AlF,AlJ]at hn ⊢;have hnew:=hn heap.length (AlT _) (by omega);refine AgL (cs:=ofVs z) (vs:=z) (t:=t) hnew ?_ h1 (VRs_ofVs V z) hH ?_ λk hk=> ?_
   · simp only[execOp,ho];refine AbK ?_;simp only[Instr.alloc,newVar,newRow,Sem.run_bind,hv,Result.andThen_ok,run_newObj_alloc,Sem.run_pure,hc]
   · unfold newH; rw[if_pos (.inr (by simp))]; simp
   · unfold newH; rw[if_neg]; rintro(h|⟨h2,h3⟩)
     · simp at h
     · exact hn k h2 (by simpa using h3) hk
 · cases h
theorem Ah6 {t:TypeId} {x:Operand} {heap heap':List HB} {hyp chk:Q} {sv:SV} {R W:List Nat} (ho:o.op= .box t x) (h:sBox t (ev x) heap= .ok hyp chk sv heap' R W) (hx:VR V (ev x) (a.eval x)) (hH:Heap V H) (hn:∀k,heap.length<=k->k<heap'.length->¬V.D k):
 Ab6 P o a V sv (newH heap heap' W H) W heap.length heap'.length:=by
 unfold sBox at h;split at h
 · rename_i cs hcs;simp only[OpR.ok.injEq]at h;obtain⟨rfl,rfl,rfl,rfl,rfl,rfl⟩:=h;obtain⟨vs,hc,h1,hr⟩:=svCells_rep hH hx hcs;simp only[AlF,AlJ]at hn ⊢;have hnew:=hn heap.length (AlT _) (by omega);refine AgL (cs:=cs) (vs:=vs) (t:=t) hnew ?_ h1 hr hH ?_ λk hk=> ?_
   · simp only[execOp,ho];refine AbK ?_;simp only[Instr.box,newVar,newRow,Sem.run_bind,Result.andThen_ok,run_newObj_alloc,Sem.run_pure,hc]
   · unfold newH; rw[if_pos (.inr (by simp))]; simp
   · unfold newH; rw[if_neg]; rintro(h|⟨h2,h3⟩)
     · simp at h
     · exact hn k h2 (by simpa using h3) hk
 · cases h
theorem run_mapM_places {fs:Array Field} (h:fs.toList.all (λf=>(szTy P f.type).isSome)=true) (w:World):
 ∃ps:Array (Nat×Nat),(fs.mapM λf=>do pure (f.offset,←sizeOf f.type):Sem (Array (Nat×Nat))).run P w= .ok ps w/\∀i,ps[i]? =AhC P fs i:=by
 have key:∀(l:List Field),l.all (λf=>(szTy P f.type).isSome)=true->∃ps:List (Nat×Nat),(l.mapM λf=>do pure (f.offset,←sizeOf f.type):Sem (List (Nat×Nat))).run P w= .ok ps w/\
  ∀i:Nat,ps[i]? =(match l[i]? with|some f=>(szTy P f.type).map λn=>(f.offset,n)|none=>none):=by
  intro l
  induction l with
  |nil=>intro _; exact⟨[],by simp[Sem.run_pure],by simp⟩
  |cons f l ih=>
   intro hl
   simp only[Anb,AlG]at hl
   obtain⟨ps,h1,h2⟩:=ih hl.2
   cases hs:szTy P f.type with
   |none=>simp[hs]at hl
   |some n=>
    refine⟨(f.offset,n)::ps,?_,λi=> ?_⟩
    · simp only[List.mapM_cons,Sem.run_bind,run_size hs,Result.andThen_ok,Sem.run_pure,h1]
    · cases i with
      |zero=>simp[hs]
      |succ i=>simpa using h2 i
 obtain⟨ps,h1,h2⟩:=key fs.toList h;refine⟨ps.toArray,?_,λi=> ?_⟩
 · rw[Array.mapM_eq_mapM_toList,Sem.run_map,h1];rfl
 · unfold AhC;simp only[List.getElem?_toArray,h2 i,Array.getElem?_toList]
   cases fs[i]? <;>rfl
theorem parts_map1 (parts:List (Nat×Operand)):(parts.map fun(i,x)=>(i,a.eval x)).map (·.1)=(parts.map fun(i,x)=>(i,ev x)).map (·.1):=by
 simp[List.map_map,Function.comp_def]
theorem parts_rep {parts:List (Nat×Operand)} (hp:∀q∈parts,VR V (ev q.2) (a.eval q.2)) (i:Nat) (p:Nat×SV) (v:Nat×Value) (h:(parts.map fun(i,x)=>(i,ev x))[i]? =some p)
 (h':(parts.map fun(i,x)=>(i,a.eval x))[i]? =some v):VR V p.2 v.2:=by
 rw[List.getElem?_map]at h h'
 cases hq:parts[i]? with
 |none=>simp[hq]at h
 |some q=>
  simp only[hq,AlM,AlC]at h h'
  subst h; subst h'
  exact hp q (Amm hq)
theorem sBuild_run {t:TypeId} {parts:Array (Nat×Operand)} {cs:List SV} (h:Agm P t (parts.toList.map fun(i,x)=>(i,ev x))=some cs) (hp:∀q∈parts.toList,VR V (ev q.2) (a.eval q.2)) (hH:Heap V H):
 ∃z,(Instr.build t (parts.map fun(i,x)=>(i,a.eval x))).run P V.w= .ok z V.w/\VR V (.agg cs) z:=by
 unfold Agm at h;split at h
 · cases h
 · rename_i z hz;obtain⟨v,hv,hc,h1⟩:=run_zero hz V.w;split at h
   · rename_i fs hu;split at h
     · rename_i hall;obtain⟨ps,hps,hpl⟩:=run_mapM_places hall V.w;have hfun:(λi=>ps[i]?)=AhC P fs:=funext hpl;obtain⟨rs,hf,hr,hone⟩:=fill_rep hH _ (parts.toList.map fun(i,x)=>(i,a.eval x)) _ z _ h (parts_map1 _) (parts_rep hp) (VRs_ofVs V z) h1;refine⟨.agg rs.toArray,?_,?_⟩
       · simp only[Instr.build,Sem.run_bind,hv,Result.andThen_ok,Aa4 hu,hps,hc];have e:(parts.map fun(i,x)=>(i,a.eval x)).toList=parts.toList.map fun(i,x)=>(i,a.eval x):=by simp
         rw[e,hfun,hf];rfl
       · simp only[VR];exact⟨rs,rfl,hone,hr⟩
     · cases h
   · rename_i n elem hu;split at h
     · rename_i size hs;obtain⟨rs,hf,hr,hone⟩:=fill_rep hH _ (parts.toList.map fun(i,x)=>(i,a.eval x)) _ z _ h (parts_map1 _) (parts_rep hp) (VRs_ofVs V z) h1;refine⟨.agg rs.toArray,?_,?_⟩
       · simp only[Instr.build,Sem.run_bind,hv,Result.andThen_ok,Aa4 hu,run_size hs,hc];have e:(parts.map fun(i,x)=>(i,a.eval x)).toList=parts.toList.map fun(i,x)=>(i,a.eval x):=by simp
         rw[e,hf];rfl
       · simp only[VR];exact⟨rs,rfl,hone,hr⟩
     · cases h
   · cases h
theorem AcB (z:List Value) (n len:Nat) (hz:z.length=n) (hn:0<n):(Array.range (len*n)).map (λi=>z.toArray[i % z.toArray.size]!)=((List.replicate len z).flatten).toArray:=by
 subst hz;apply Array.ext
 · simp
 · intro i h1 h2;simp only[Array.getElem_map,Array.getElem_range,Ana];have hi:i<len*z.length:=by simpa using h1
   have key:∀(len i:Nat),i<len*z.length->((List.replicate len z).flatten)[i]? =z[i % z.length]? :=by
    intro len
    induction len with
    |zero=>intro i hi; simp at hi
    |succ len ih=>
     intro i hi
     rw[List.replicate_succ,List.flatten_cons,List.getElem?_append]
     split
     · rename_i hlt; rw[Nat.mod_eq_of_lt hlt]
     · rename_i hge
       rw[ih (i-z.length) (by rw[Amz]at hi; omega)]
       congr 1
       rw[←Nat.mod_eq_sub_mod (by omega)]
   have h3:i % z.length<z.length:=Nat.mod_lt _ hn;have h4:=key len i hi;rw[List.getElem?_eq_getElem (by simpa using h2),List.getElem?_eq_getElem h3]at h4;injection h4 with h4;simp only[List.getElem_toArray,h4];rw[getElem!_pos _ _ (by simpa using h3)];simp
theorem VRs_replicate {z:List SV} {us:List Value} (h:VRs V z us):∀(n:Nat),VRs V ((List.replicate n z).flatten) ((List.replicate n us).flatten)
 |0=>by simp[VRs]
 |n+1=>by
  simp only[List.replicate_succ,List.flatten_cons];exact h.append (VRs_replicate h n)
theorem AdX {t:TypeId} {len:Nat} {parts:Array (Nat×Operand)} {n:Nat} {cs:List SV} {heap:List HB} (ho:o.op= .buildSlice t len parts)
    (h:AbA P t len (parts.toList.map fun(i,x)=>(i,ev x))=some (n,cs)) (hp:∀q∈parts.toList,VR V (ev q.2) (a.eval q.2)) (hH:Heap V H):
    Ab6 P o a V (if len=0 then .emp else .slit len n cs) (newH heap heap [] H) [] heap.length heap.length:=by
  unfold AbA at h;split at h
  · rename_i elem hu;split at h
    · rename_i size z hs hz;split at h
      · rename_i hsz;obtain⟨hsz,hzl,hpos⟩:=hsz
        cases hfl:sFill (λi=>some (i*size,size)) ((List.replicate len (ofVs z)).flatten) (parts.toList.map fun(i,x)=>(i,ev x))with
        |none=>simp[hfl]at h
        |some ds=>
          simp only[hfl,AlM,AlC,AlH]at h
          obtain⟨rfl,rfl⟩:=h
          obtain⟨v,hv,hc,h1⟩:=run_zero hz V.w
          have hone0:∀u∈(List.replicate len z).flatten,u.oneCell'=true:=by
            intro u hu;simp only[List.mem_flatten,AmO]at hu;obtain⟨l,⟨_,rfl⟩,hl⟩:=hu;exact h1 u hl
          obtain⟨rs,hf,hr,hone⟩:=fill_rep hH _ (parts.toList.map fun(i,x)=>(i,a.eval x)) _ _ _ hfl (parts_map1 _) (parts_rep hp) (VRs_replicate (VRs_ofVs V z) len) hone0
          have hlen:ds.length=len*size:=by
            have e:∀(parts:List (Nat×SV)) (c r:List SV),sFill (λi=>some (i*size,size)) c parts=some r->r.length=c.length:=by
              intro parts
              induction parts with
              |nil=>intro c r h; simp only[sFill,AlC]at h; rw[h]
              |cons p parts ih=>
                intro c r h
                obtain⟨i,x⟩:=p
                simp only[sFill]at h
                split at h
                · split at h
                  · rename_i hq
                    rw[ih _ r h]; simp only[AlF,AlN,Amk]; omega
                  · cases h
                · cases h
            rw[e _ _ _ hfl];simp[Ang,Anm,Am8,ofVs,hzl]
          have hrun:(execOp a.eval o).run P V.w= .ok (.value (.slice (some ⟨V.w.heap.size,0,none⟩) len len)) (V.w.alloc (.cells rs.toArray elem)):=by
            simp only[execOp,ho];refine AbK ?_;have e:(parts.map fun(i,x)=>(i,a.eval x)).toList=parts.toList.map fun(i,x)=>(i,a.eval x):=by simp
            by_cases h0:len*size=0
            · have hl0:(List.replicate len z).flatten=[]:=by
                rcases Nat.mul_eq_zero.1 h0 with h|h
                · subst h; rfl
                · have:z=[]:=AmH (by omega);subst this; simp
              rw[hl0]at hf;simp only[Instr.buildSlice,newRow,Sem.run_bind,Aa4 hu,Result.andThen_ok,run_size hs,h0,Nat.not_lt_zero,gt_iff_lt,if_false,if_true,Sem.run_pure,e];rw[show(Array.range 0)= #[]from rfl];simp only[List.map_toArray,List.map_nil,hf,Sem.run_bind,run_newObj_alloc,Result.andThen_ok,Sem.run_pure]
            · simp only[Instr.buildSlice,newRow,Sem.run_bind,Aa4 hu,Result.andThen_ok,run_size hs,if_neg h0,if_neg (show¬(len*size>2 ^ 24) by omega),hv,Sem.run_pure,hc,e];rw[AcB z size len hzl (Nat.pos_of_ne_zero λhz0=>h0 (by rw[hz0,Nat.mul_zero])),hf];simp only[Sem.run_bind,run_newObj_alloc,Result.andThen_ok,Sem.run_pure]
          intro K Q hK
          unfold Oper.wp
          rw[hrun]
          have hg:Grow V {V with w:=V.w.alloc (.cells rs.toArray elem)} []:=
            Aeh rfl rfl rfl (by rw[World.size_alloc]; omega) λb hb _=>Below.heap_alloc V.w _ b hb
          have hH':=hH.grow hg (λ_ h=>h) (λ_ _=>rfl) (λ_ _ h=>h)
          refine hK _ _ hg ?_ (hH'.congr λk _=>AcZ heap H k) λk=>⟨.inl,λh=>h.elim id (λh=>by omega)⟩
          split
          · rename_i hl0
            simp only[VR]
            exact⟨_,by rw[hl0]⟩
          simp only[VR]
          refine⟨_,_,rfl,AlT _,by simp only[maxLen]; omega,hlen,_,_,rfl,⟨by rw[World.size_alloc]; omega,λhb=>by have:=hH.bd _ hb; omega,λk hk hl he=>by have:=hH.lt k _ hk hl he; omega⟩,?_⟩
          exact VRc.of_block (heap_alloc_new V.w _) hone ds 0 (by simpa using VRs.mono hg.stays _ _ hr)
      · cases h
    · cases h
  · cases h
theorem Ag1 {t:TypeId} {x:Operand} {heap heap':List HB} {hyp chk:Q} {sv:SV} {R W:List Nat} (ho:o.op= .box t x) (h:AjO (ev x) heap= .ok hyp chk sv heap' R W) (hx:VR V (ev x) (a.eval x)) (hH:Heap V H):
 Ab6 P o a V sv (newH heap heap' W H) W heap.length heap'.length:=by
 unfold AjO at h;split at h
 · rename_i cs hcs;simp only [OpR.ok.injEq] at h;obtain ⟨rfl, rfl, rfl, rfl, rfl, rfl⟩ := h;obtain ⟨vs, hc, h1, hr⟩ := svCells_rep hH hx hcs;have hrun : (execOp a.eval o).run P V.w = .ok (.value (.pointer (some ⟨V.w.heap.size, 0, none⟩))) (V.w.alloc (.cells vs.toArray t)) := by
    simp only[execOp,ho];refine AbK ?_;simp only[Instr.box,newVar,newRow,Sem.run_bind,Result.andThen_ok,run_newObj_alloc,Sem.run_pure,hc]
   intro K Q hK;unfold Oper.wp;rw[hrun];have hg:Grow V {V with w:=V.w.alloc (.cells vs.toArray t)} []:=
    Aeh rfl rfl rfl (by rw[World.size_alloc]; omega) λb hb _=>Below.heap_alloc V.w _ b hb
   have hH':=hH.grow hg (λ_ h=>h) (λ_ _=>rfl) (λ_ _ h=>h);refine hK _ _ hg ?_ (hH'.congr λk _=>AcZ heap H k) λk=>⟨.inl,λh=>h.elim id (λh=>by omega)⟩
   simp only[VR];refine⟨_,_,rfl,⟨by rw[World.size_alloc]; omega,λhb=>by have:=hH.bd _ hb; omega,λk hk hl he=>by have:=hH.lt k _ hk hl he; omega⟩,?_⟩;exact VRc.of_block (heap_alloc_new V.w _) h1 cs 0 (by simpa using VRs.mono hg.stays _ _ hr)
 · cases h
theorem Heap.box {V:Vw} {H:Nat->Option HB} (hH:Heap V H) {k:Nat} {cells:List SV} {t:TypeId} (hk:V.D k) (he:H k=some (.box cells t)) {b:Nat} (hp:V.p k= .pointer (some ⟨b,0,none⟩)):
 ∃vs,V.w.heap[b]? =some (.cells vs.toArray t (0,0))/\(∀v∈vs,v.oneCell'=true)/\VRs V cells vs:=by
 obtain⟨hb,h1,h2⟩:=hH.rep k hk;rw[he]at h1;injection h1 with h1; subst h1;obtain⟨_,b',vs,hp',hh,hone,hr⟩:=h2;rw[hp]at hp';injection hp' with hp'; injection hp' with hp'; injection hp' with hp' _ _; subst hp';exact⟨vs,hh,hone,hr⟩
theorem AgZ {t:TypeId} {x:Operand} {heap heap':List HB} {hyp chk:Q} {sv:SV} {R W:List Nat} (ho:o.op= .load t x) (h:AjI P t (ev x) heap= .ok hyp chk sv heap' R W) (hchk:chk.h) (hx:VR V (ev x) (a.eval x)) (hH:Heap V H)
 (hag:∀k,k∈R->V.D k->H k=heap[k]?):Ab6 P o a V sv (newH heap heap' W H) W heap.length heap'.length:=by
 unfold AjI at h;split at h
 · rename_i k off hev;rw[hev]at hx;simp only[VR]at hx;obtain⟨hd,b,hp,hv⟩:=hx;split at h
   · rename_i cells ty hk;unfold Acw at h;split at h
     · rename_i r hr;simp only[OpR.ok.injEq]at h;obtain⟨rfl,rfl,rfl,rfl,rfl,rfl⟩:=h;have hHk:H k=some (.box cells ty):=by rw[hag k (by simp) hd,hk]
       obtain⟨vs,hb,h1,hvs⟩:=hH.box hd hHk hp;have hc:VRc V cells b 0:=VRc.of_block hb h1 cells 0 (by simpa using hvs);obtain⟨z,hz,hrz⟩:=run_loadVar_at (w:=V.w) rfl hr hc;refine Aa5 ?_ hrz hH;simp only[execOp,ho,hv];refine AbK ?_;rw[AmK]at hz;simp only[Instr.loadAt,Instr.sureAddr,Sem.run_bind,Sem.run_pure,Result.andThen_ok,hz]
     · cases h
   · cases h
 · rename_i cs hev;rw[hev]at hx;simp only[VR]at hx;obtain⟨b,off,hv,hb,hc⟩:=hx;split at h
   · rename_i r hr;simp only[OpR.ok.injEq]at h;obtain⟨rfl,rfl,rfl,rfl,rfl,rfl⟩:=h;obtain⟨z,hz,hrz⟩:=run_loadVar_at (w:=V.w) rfl hr hc;refine Aa5 ?_ hrz hH;simp only[execOp,ho,hv];refine AbK ?_;rw[AmC]at hz;simp only[Instr.loadAt,Instr.sureAddr,Sem.run_bind,Sem.run_pure,Result.andThen_ok,hz]
   · cases h
 · rename_i k c sz i off hev;rw[hev]at hx;have hx0:=hx;simp only[VR]at hx0;have hd:=hx0.1;split at h
   · rename_i e ty d xs hk;split at h
     · rename_i hcd;split at h
       · rename_i r hr;simp only[OpR.ok.injEq]at h;obtain⟨rfl,rfl,rfl,rfl,rfl,rfl⟩:=h;obtain⟨b,n,cap,cur,us,_,hL,_,hp,hn,h0,hlt,hu,hc0,hh,q1,q2,q3,q4,q5,hrow,hcells⟩:=rref_at hH hx (by rw[hag k (by simp) hd,hk]) hcd.1;have hrep:=RepRow.cells (b:=b) (o:=0) hrow (λj u hj=>by rw[AmK]; exact hcells j u hj) i.toNat hlt;have hc:VRc V (ofCs e (rGet xs i)) b (i.toNat*sz):=Aev V e _ b _ (by rw[←hcd.2]; simpa using hrep);obtain⟨z,hz,hrz⟩:=run_loadVar_at (w:=V.w) rfl hr hc;refine Aa5 ?_ hrz hH;simp only[execOp,ho,hu];refine AbK ?_;simp only[Instr.loadAt,Instr.sureAddr,Sem.run_bind,Sem.run_pure,Result.andThen_ok,hz]
       · cases h
     · cases h
   · rename_i ty d m i0 x0 f0 hk;split at h
     · rename_i hcd;obtain⟨hcd,rfl,rfl⟩:=hcd;split at h
       · rename_i r hr;simp only[OpR.ok.injEq]at h;obtain⟨rfl,rfl,rfl,rfl,rfl,rfl⟩:=h;obtain⟨b,cap,cur,us,_,hL,_,hp,h0,hlt,hu,hc0,hh,q1,q2,q3,q4,q5,hone,hcs,hcells⟩:=href_at hH hx (by rw[hag k (by simp) hd,hk]) hcd hchk;obtain⟨v,hv⟩:∃v,us[i.toNat]? =some v:=⟨us[i.toNat]'(by omega),List.getElem?_eq_getElem (by omega)⟩
         have hc:VRc V [x0] b i.toNat:=by
          simp only[VRc,and_true];exact⟨v,hcells _ _ hv,hone v (Amm hv),(hcs i.toNat hlt).1 (by omega) v hv⟩
         obtain⟨z,hz,hrz⟩:=run_loadVar_at (w:=V.w) rfl hr hc;rw[AmC]at hz;refine Aa5 ?_ hrz hH;simp only[execOp,ho,hu];refine AbK ?_;simp only[Instr.loadAt,Instr.sureAddr,Sem.run_bind,Sem.run_pure,Result.andThen_ok,hz]
       · cases h
     · cases h
   · cases h
 · cases h
theorem Heap.boxL {V:Vw} {H:Nat->Option HB} (hH:Heap V H) {k:Nat} {cells:List SV} {t:TypeId} (hk:V.D k) (he:H k=some (.box cells t)):V.L k:=by
 obtain⟨hb,h1,h2⟩:=hH.rep k hk;rw[he]at h1;injection h1 with h1; subst h1;exact h2.1
theorem heap_set {V:Vw} {H H':Nat->Option HB} (hH:Heap V H) {k:Nat} {cells':List SV} {t:TypeId} (hk:V.D k) (hL:V.L k) {b:Nat} (hp:V.p k= .pointer (some ⟨b,0,none⟩)) {vs vs':List Value}
 (hb:V.w.heap[b]? =some (.cells vs.toArray t (0,0))) (h1:∀v∈vs',v.oneCell'=true) (hr:VRs V cells' vs') (hk':H' k=some (.box cells' t)) (ho:∀j,V.D j->j≠k->H' j=H j):
 Grow V {V with w:=V.w.setRow b vs'.toArray} [k]/\Heap {V with w:=V.w.setRow b vs'.toArray} H':=by
 have hblk:blkOf (V.p k)=some b:=by rw[hp]; rfl
 have hg:Grow V {V with w:=V.w.setRow b vs'.toArray} [k]:=
  Aeh rfl rfl rfl (by simp) λc hc hne=>setRow_other V.w b c _ (λe=>hne k (by simp) hk hL (by rw[e]; exact hblk))
 refine⟨hg,⟨λj hj=> ?_,λj c hj hl hc=>by simpa using hH.lt j c hj hl hc,λc hc=>by simpa using hH.bd c hc,hH.nb,hH.inj⟩⟩;by_cases he:j=k
 · subst he;exact⟨_,hk',hL,b,vs',hp,setRow_heap V.w b _ _ t (0,0) hb,h1,VRs.mono hg.stays _ _ hr⟩
 · obtain⟨hb',h2,h3⟩:=hH.rep j hj;refine⟨hb',by rw[ho j hj he]; exact h2,h3.mono hg.stays hj rfl (λh=>h) λc hl hc=>setRow_other V.w b c _ (λe=>he ?_)⟩;subst e;exact hH.inj j k _ hj hl hk hL hc hblk
theorem Ahc {x:SV} {cs:List SV} (h:svCells x=some cs):cs.flatMap ids1=idsOf x:=by
 cases x<;>simp only[svCells]at h<;>first|(cases h; done)|(injection h with h; subst h; simp[idsOf])
theorem Agf {t:TypeId} {x y:Operand} {heap heap':List HB} {hyp chk:Q} {sv:SV} {R W:List Nat} (ho:o.op= .store t x y) (h:Ahw P t (ev x) (ev y) heap= .ok hyp chk sv heap' R W) (hchk:chk.h)
 (hx:VR V (ev x) (a.eval x)) (hy:VR V (ev y) (a.eval y)) (hH:Heap V H) (hag:∀k,k∈W->V.D k->H k=heap[k]?):Ab6 P o a V sv (newH heap heap' W H) W heap.length heap'.length:=by
 unfold Ahw at h;split at h
 · rename_i k off cs hev hcs;rw[hev]at hx;simp only[VR]at hx;obtain⟨hd,b,hp,hv⟩:=hx;split at h
   · rename_i cells ty hk;split at h
     · rename_i hsz;obtain⟨hsz,hle⟩:=hsz;simp only[OpR.ok.injEq]at h;obtain⟨rfl,rfl,rfl,rfl,rfl,rfl⟩:=h;have hHk:H k=some (.box cells ty):=by rw[hag k (by simp) hd,hk]
       obtain⟨vs,hb,h1,hvs⟩:=hH.box hd hHk hp;obtain⟨us,hus,hu1,hur⟩:=svCells_rep hH hy hcs;have hl1:=hvs.len;have hl2:=hur.len;have hrun:(execOp a.eval o).run P V.w= .ok .skip (V.w.setRow b (vs.take off++us++vs.drop (off+cs.length)).toArray):=by
        have hst:=run_storeCells_at (P:=P) b off ty us 0 vs.toArray V.w hb (by simp; omega) hu1;simp only[execOp,ho,hv,Instr.storeAt,Instr.sureAddr,storeVar,Sem.run_bind,Sem.run_pure,Result.andThen_ok,run_size hsz,hus];rw[if_neg (by simp; omega)];simp only[AmC,hl2]at hst;simp only[hst,Result.andThen_ok]
       have hk1:k<heap.length:=by
        rcases AmZ k heap.length with h|h
        · exact h
        · rw[List.getElem?_eq_none h]at hk; cases hk
       obtain⟨hg,hH'⟩:=heap_set (H':=newH heap (heap.set k (.box (cells.take off++cs++cells.drop (off+cs.length)) ty)) [k] H) hH hd (hH.boxL hd hHk) hp
        (vs':=vs.take off++us++vs.drop (off+cs.length)) (cells':=cells.take off++cs++cells.drop (off+cs.length)) hb
        (λv hv=>by
         simp only[AlY]at hv;rcases hv with(hv|hv)|hv
         · exact h1 v (Al7 hv)
         · exact hu1 v hv
         · exact h1 v (Al3 hv))
        (((hvs.take off).append hur).append (hvs.drop _))
        (by unfold newH; rw[if_pos (.inl (by simp))]; simp[hk1])
        (λj hj hne=>by unfold newH; rw[if_neg]; rintro(h|h)<;>first|(simp at h; exact hne h)|(simp at h; omega))
       intro K Q hK;unfold Oper.wp;rw[hrun];refine hK Go.undef _ hg (by simp[VR]) hH' λj=>⟨.inl,λh=>h.elim id (λh=>by simp at h; omega)⟩
     · cases h
   · cases h
 · rename_i k c sz i off cs hev hcs;rw[hev]at hx;have hx0:=hx;simp only[VR]at hx0;have hd:=hx0.1;split at h
   · rename_i e ty d xs hk;split at h
     · rename_i hcd;obtain⟨hcd,hsz,hst,hle,hni⟩:=hcd;split at h
       · rename_i z hz;simp only[OpR.ok.injEq]at h;obtain⟨rfl,rfl,rfl,rfl,rfl,rfl⟩:=h;have hni':k∉idsOf (ev y):=by simpa using hni
         have hag':∀j,j∈idsOf (ev y)->V.D j->H j=heap[j]? :=λj hj hd=>hag j (by simp[hj]) hd;have hHk:H k=some (.row e ty d xs):=by rw[hag k (by simp) hd,hk]
         have hk1:k<heap.length:=(List.getElem?_eq_some_iff.1 hk).1;have hH1:=Abt hH (idsOf (ev y));have hg1:=AbE V H (idsOf (ev y)) (idsOf (ev y));have hx1:=VR.mono hg1.stays _ _ hx;obtain⟨b,n,cap,cur,us,_,hL,hck,hp,hn,h0,hlt,hu,hc0,hh,q1,q2,q3,q4,q5,hrow,hcells⟩:=rref_at hH1 hx1 (by simp only[if_neg hni']; exact hHk) hcd;obtain⟨ws,hws,hw1,hwr⟩:=svCells_rep hH hy hcs;have hthaw:=Ads hH hag' (cs:=cs) (λj hj=>by rw[Ahc hcs]at hj; exact hj) hwr;have hl2:=hwr.len;have hp1:(i.toNat+1)*sz<=n*sz:=AmT _ (by omega);have hp2:(i.toNat+1)*sz=i.toNat*sz+sz:=by rw[Amz,AnA]
         have hcl:n*sz<=cur.toList.length:=by rw[AmJ,q3,hsz]; exact AmT _ q1
         have hrun:(execOp a.eval o).run P V.w= .ok .skip (V.w.setRow b (cur.toList.take (i.toNat*sz+off)++ws++cur.toList.drop (i.toNat*sz+off+ws.length)).toArray):=by
          have hs:=run_storeCells_at (P:=P) b (i.toNat*sz+off) ty ws 0 cur V.w hh (by rw[AmJ]at hcl; omega) hw1;simp only[execOp,ho,hu,Instr.storeAt,Instr.sureAddr,storeVar,Sem.run_bind,Sem.run_pure,Result.andThen_ok,run_size hst,hws];rw[if_neg (by simp; omega)];simp only[AmC]at hs;simp only[hs,Result.andThen_ok]
         have hat:=hrow.at i.toNat hlt;have hM:=Acu (V:=V.frz H (idsOf (ev y))) hat;have hMone:=hat.one;have hMlen:=hat.len;rw[hsz]at hM hMone hMlen;have hN:VRs (V.frz H (idsOf (ev y))) ((ofCs e (rGet xs i)).take off++cs.map (thaw1 heap)++(ofCs e (rGet xs i)).drop (off+cs.length)) ((((us.drop (i.toNat*sz)).take sz).take off)++ws++(((us.drop (i.toNat*sz)).take sz).drop (off+ws.length))):=by
          rw[hl2]; exact((hM.take off).append hthaw).append (hM.drop _)
         have hNone:∀u∈(((us.drop (i.toNat*sz)).take sz).take off)++ws++(((us.drop (i.toNat*sz)).take sz).drop (off+ws.length)),u.oneCell'=true:=λu hu=>by
          simp only[AlY]at hu;rcases hu with(hu|hu)|hu
          · exact hMone u (Al7 hu)
          · exact hw1 u hu
          · exact hMone u (Al3 hu)
         have hNlen:((((us.drop (i.toNat*sz)).take sz).take off)++ws++(((us.drop (i.toNat*sz)).take sz).drop (off+ws.length))).length=e.length:=by
          have h1:((us.drop (i.toNat*sz)).take sz).length=sz:=hMlen;simp only[AlF,AlN,Amk]at h1 ⊢;omega
         have hy1:=(toCs_vals _ e _ _ _ _ hz hN).1;rw[AlZ (by omega)]at hy1;have hset:=hrow.set (i:=i.toNat) hlt (AbC hy1 hNone);rw[hsz]at hset;have hspl:=AgV cur.toList ws (i.toNat*sz) off sz (n*sz) (by omega) (by omega) hcl;rw[hsz]at q4;rw[q4,←hp2]at hspl;rw[←hspl]at hset;have hown:OwnRow (V.w.setRow b (cur.toList.take (i.toNat*sz+off)++ws++cur.toList.drop (i.toNat*sz+off+ws.length)).toArray) ty e.length (.slice (some ⟨b,0,none⟩) n cap) (rSet xs i z).length
          ((cur.toList.take (i.toNat*sz+off)++ws++cur.toList.drop (i.toNat*sz+off+ws.length)).take (n*sz)):=by
          have hlen:(rSet xs i z).length=n:=by simp[rSet,hn]
          rw[hlen,hsz];refine⟨?_,.inr ⟨b,cap,_,rfl,hc0,setRow_heap V.w b cur _ ty (0,0) hh,q1,q2,?_,rfl⟩⟩
          · simp only[AlN,AlF,Amk]; omega
          · rw[hsz]at q3;rw[AmJ]at hcl;simp only[Ana,AlF,AlN,Amk,AmJ]; omega
         have hbk:blkOf ((V.frz H (idsOf (ev y))).p k)=some b:=by rw[hp]; simp only[blkOf]; rw[if_neg (by omega)]
         obtain⟨hg2,hH2⟩:=row_step (H':=newH heap ((frzH heap (idsOf (ev y))).set k (.row e ty d (rSet xs i z))) (k::idsOf (ev y)) H) hH1 hd hL ⟨_,_,_,hp⟩
          (w':=V.w.setRow b (cur.toList.take (i.toNat*sz+off)++ws++cur.toList.drop (i.toNat*sz+off+ws.length)).toArray) (v':=(V.frz H (idsOf (ev y))).p k) (c':=(V.frz H (idsOf (ev y))).c k)
          rfl rfl rfl (by simp[Vw.frz]) (AlT _) (λ_=>rfl) (λc hc hne=>setRow_other V.w b c _ (λe=>hne (by rw[e]; exact hbk)))
          (λc hc=>⟨.inl hc,by simpa[Vw.frz]using hH1.lt k c hd hL hc⟩) (by rw[hp]; exact hown) hset
          (by unfold newH; rw[if_pos (.inl (by simp)),hck]; simp[Aa9,hk1,rSet])
          (λj hj hne=>by
           unfold newH;by_cases hji:j∈idsOf (ev y)
           · rw[if_pos (.inl (by simp[hji])),if_pos hji,List.getElem?_set_ne (λh=>hne h.symm),AbQ,if_pos hji,hag' j hji hj]
           · rw[if_neg,if_neg hji];rintro(h|h)
             · simp at h; exact h.elim hne hji
             · simp[Aa9]at h; omega)
         intro K Q hK;unfold Oper.wp;rw[hrun];refine hK Go.undef _ ((hg1.mono λj hj=>by simp[hj]).trans hg2 λj hj _=>by simp at hj; simp[hj]) (by simp[VR]) hH2 λj=>⟨.inl,λh=>h.elim id (λh=>by simp[Aa9]at h; omega)⟩
       · cases h
     · cases h
   · rename_i ty d m i0 x0 f0 hk;split at h
     · rename_i y';split at h
       · rename_i hcd;obtain⟨hcd,rfl,rfl,hst⟩:=hcd;simp only[OpR.ok.injEq]at h;obtain⟨rfl,rfl,rfl,rfl,rfl,rfl⟩:=h;have hii:i=i0:=hchk;clear hx0;have hHk:H k=some (.hrow ty d m i0 x0 f0):=by rw[hag k (by simp) hd,hk]
         have hk1:k<heap.length:=(List.getElem?_eq_some_iff.1 hk).1;obtain⟨b,cap,cur,us,_,hL,hck,hp,h0,hlt,hu,hc0,hh,q1,q2,q3,q4,q5,hone,hcs',hcells⟩:=href_at hH hx hHk hcd hchk;obtain⟨ws,hws,hw1,hwr⟩:=svCells_rep hH hy hcs;have hwl:=hwr.len;obtain⟨wv,rfl⟩:∃wv,ws=[wv]:=by
          cases ws with
          |nil=>simp at hwl
          |cons a r=>cases r with
           |nil=>exact⟨a,rfl⟩
           |cons b r=>simp at hwl
         have hwv:VR V y' wv:=by
          simp only[VRs]at hwr;obtain⟨_,_,he,h1,_⟩:=hwr;injection he with he _; subst he; exact h1
         have hcl:m<=cur.toList.length:=by rw[AmJ,q3]; exact q1
         have hrun:(execOp a.eval o).run P V.w= .ok .skip (V.w.setRow b (cur.toList.take i.toNat++[wv]++cur.toList.drop (i.toNat+1)).toArray):=by
          have hs:=run_storeCells_at (P:=P) b i.toNat ty [wv] 0 cur V.w hh (by simp only[AlJ]; omega) hw1;simp only[execOp,ho,hu,Instr.storeAt,Instr.sureAddr,storeVar,Sem.run_bind,Sem.run_pure,Result.andThen_ok,run_size hst,hws];rw[if_neg (by simp)];simp only[AmC,AlJ]at hs;simp only[hs,Result.andThen_ok]
         have hbk:blkOf (V.p k)=some b:=by rw[hp]; simp only[blkOf]; rw[if_neg (by omega)]
         have hg:Grow V {V with w:=V.w.setRow b (cur.toList.take i.toNat++[wv]++cur.toList.drop (i.toNat+1)).toArray} [k]:=
          Aeh rfl rfl rfl (by simp) λc hc hne=>setRow_other V.w b c _ (λe=>hne k (by simp) hd hL (by rw[e]; exact hbk))
         have hrow:OwnRow (V.w.setRow b (cur.toList.take i.toNat++[wv]++cur.toList.drop (i.toNat+1)).toArray) ty 1 (V.p k) m (us.set i.toNat wv):=by
          refine⟨by simp[q5],.inr ⟨b,cap,_,hp,hc0,setRow_heap V.w b cur _ ty (0,0) hh,q1,q2,?_,?_⟩⟩
          · simp only[Ana,AlF,AlN,Amk,AlJ,AmJ]; omega
          · have hil:i.toNat<cur.toList.length:=by omega
            have e:cur.toList.take i.toNat++[wv]++cur.toList.drop (i.toNat+1)=cur.toList.set i.toNat wv:=by
             rw[List.set_eq_take_append_cons_drop,if_pos hil]; simp
            rw[Nat.mul_one];show((cur.toList.take i.toNat++[wv]++cur.toList.drop (i.toNat+1))).take m=_;rw[e,List.take_set,q4]
         have hH':Heap {V with w:=V.w.setRow b (cur.toList.take i.toNat++[wv]++cur.toList.drop (i.toNat+1)).toArray} (newH heap (heap.set k (.hrow ty d m i0 y' f0)) [k] H):=by
          refine⟨λj hj=> ?_,λj c hj hl hc=>by simpa using hH.lt j c hj hl hc,λc hc=>by simpa using hH.bd c hc,hH.nb,hH.inj⟩;by_cases he:j=k
          · subst he;refine⟨.hrow ty d m i0 y' f0,by unfold newH; rw[if_pos (.inl (by simp))]; simp[hk1],hL,hck,us.set i.toNat wv,hrow,λu hu=> ?_,λl hl=>⟨λhe u hu=> ?_,λhe=> ?_⟩⟩
            · rcases Amw hu with hu|rfl
              · exact hone u hu
              · exact hw1 _ (by simp)
            · have:l=i.toNat:=by omega
              subst this;rw[List.getElem?_set_self (by omega)]at hu;injection hu with hu; subst hu;exact VR.mono hg.stays _ _ hwv
            · have:i.toNat≠l:=by intro e; apply he; omega
              rw[List.getElem?_set_ne this];exact(hcs' l hl).2 (by omega)
          · obtain⟨hb',h2,h3⟩:=hH.rep j hj;refine⟨hb',?_,h3.mono hg.stays hj rfl (λh=>h) λc hl hc=>setRow_other V.w b c _ (λe=>he ?_)⟩
            · unfold newH; rw[if_neg]
              · exact h2
              · rintro(h|h)
                · simp at h; exact he h
                · simp at h; omega
            · subst e;exact hH.inj j k _ hj hl hd hL hc hbk
         intro K Q hK;unfold Oper.wp;rw[hrun];refine hK Go.undef _ hg (by simp[VR]) hH' λj=>⟨.inl,λh=>h.elim id (λh=>by simp at h; omega)⟩
       · cases h
     · cases h
   · cases h
 · cases h
end Go.Sx

