import Derived.Test.YtejdbdegdanecaaGreatSxMap
set_option linter.unusedVariables false
set_option linter.unusedSimpArgs false
namespace Go.Sx
open Go.RowKit
variable {P:Program} {G:Nat->Option Ct} {o:Oper} {a:Act} {V:Vw} {H:Nat->Option HB} {ev:Operand->SV}
theorem sBuildSlice_run {t:TypeId} {len:Nat} {parts:Array (Nat×Operand)} {n:Nat} {cs:List SV} (ho:o.op= .buildSlice t len parts)
    (h:AbA P t len (parts.toList.map fun(i,x)=>(i,ev x))=some (n,cs)) (hp:∀q∈parts.toList,VR V (ev q.2) (a.eval q.2)) (hH:Heap V H):
    ∃elem rs,P.underlying t=some (.slice elem)/\(execOp a.eval o).run P V.w= .ok (.value (.slice (some ⟨V.w.heap.size,0,none⟩) len len)) (V.w.alloc (.cells rs.toArray elem))/\
      VRs V cs rs/\(∀u∈rs,u.oneCell'=true)/\rs.length=len*n/\len*n<=16777216/\len<=16777216:=by
  unfold AbA at h;split at h
  · rename_i elem hu;split at h
    · rename_i size z hs hz;split at h
      · rename_i hsz;obtain⟨hsz,hzl,hpos⟩:=hsz
        cases hfl:sFill (λi=>some (i*size,size)) ((List.replicate len (ofVs z)).flatten) (parts.toList.map fun(i,x)=>(i,ev x))with
        |none=>simp[hfl]at h
        |some ds=>
          simp only[hfl,AlM,AlC,AlH]at h
          obtain⟨rfl,rfl⟩:=h
          obtain⟨v,hv,hc,h1⟩:=run_zero hz V.w
          have hone0:∀u∈(List.replicate len z).flatten,u.oneCell'=true:=by
            intro u hu;simp only[List.mem_flatten,AmO]at hu;obtain⟨l,⟨_,rfl⟩,hl⟩:=hu;exact h1 u hl
          obtain⟨rs,hf,hr,hone⟩:=fill_rep hH _ (parts.toList.map fun(i,x)=>(i,a.eval x)) _ _ _ hfl (parts_map1 _) (parts_rep hp) (VRs_replicate (VRs_ofVs V z) len) hone0
          have hlen:ds.length=len*size:=by
            have e:∀(parts:List (Nat×SV)) (c r:List SV),sFill (λi=>some (i*size,size)) c parts=some r->r.length=c.length:=by
              intro parts
              induction parts with
              |nil=>intro c r h; simp only[sFill,AlC]at h; rw[h]
              |cons p parts ih=>
                intro c r h
                obtain⟨i,x⟩:=p
                simp only[sFill]at h
                split at h
                · split at h
                  · rename_i hq
                    rw[ih _ r h]; simp only[AlF,AlN,Amk]; omega
                  · cases h
                · cases h
            rw[e _ _ _ hfl];simp[Ang,Anm,Am8,ofVs,hzl]
          have hrun:(execOp a.eval o).run P V.w= .ok (.value (.slice (some ⟨V.w.heap.size,0,none⟩) len len)) (V.w.alloc (.cells rs.toArray elem)):=by
            simp only[execOp,ho];refine AbK ?_;have e:(parts.map fun(i,x)=>(i,a.eval x)).toList=parts.toList.map fun(i,x)=>(i,a.eval x):=by simp
            by_cases h0:len*size=0
            · have hl0:(List.replicate len z).flatten=[]:=by
                rcases Nat.mul_eq_zero.1 h0 with h|h
                · subst h; rfl
                · have:z=[]:=AmH (by omega);subst this; simp
              rw[hl0]at hf;simp only[Instr.buildSlice,newRow,Sem.run_bind,Aa4 hu,Result.andThen_ok,run_size hs,h0,Nat.not_lt_zero,gt_iff_lt,if_false,if_true,Sem.run_pure,e];rw[show(Array.range 0)= #[]from rfl];simp only[List.map_toArray,List.map_nil,hf,Sem.run_bind,run_newObj_alloc,Result.andThen_ok,Sem.run_pure]
            · simp only[Instr.buildSlice,newRow,Sem.run_bind,Aa4 hu,Result.andThen_ok,run_size hs,if_neg h0,if_neg (show¬(len*size>2 ^ 24) by omega),hv,Sem.run_pure,hc,e];rw[AcB z size len hzl (Nat.pos_of_ne_zero λhz0=>h0 (by rw[hz0,Nat.mul_zero])),hf];simp only[Sem.run_bind,run_newObj_alloc,Result.andThen_ok,Sem.run_pure]
          refine⟨elem,rs,hu,hrun,hr,hone,?_,hsz,hpos⟩
          rw[←hlen]
          exact VRs.len hr
      · cases h
    · cases h
  · cases h
theorem AeE {t:TypeId} {len:Nat} {parts:Array (Nat×Operand)} {n:Nat} {cs:List SV} {heap heap':List HB} {hyp chk:Q} {sv:SV} {R W:List Nat} (ho:o.op= .buildSlice t len parts)
 (h:AbA P t len (parts.toList.map fun(i,x)=>(i,ev x))=some (n,cs)) (h2:Ady P t len n cs heap= .ok hyp chk sv heap' R W) (hp:∀q∈parts.toList,VR V (ev q.2) (a.eval q.2)) (hH:Heap V H)
 (hn:∀k,heap.length<=k->k<heap'.length->¬V.D k):Ab6 P o a V sv (newH heap heap' W H) W heap.length heap'.length:=by
 obtain⟨elem,rs,hu,hrun,hr,hone,hrl,hsz,hpos⟩:=sBuildSlice_run ho h hp hH;unfold Ady at h2;rw[hu]at h2;simp only at h2;split at h2
 · rename_i e he;split at h2
   · rename_i hcond;obtain⟨c1,c2⟩:=hcond;split at h2
     · rename_i rows hrows;simp only [OpR.ok.injEq] at h2;obtain ⟨rfl, rfl, rfl, rfl, rfl, rfl⟩ := h2;have hrw := Adk V len cs rows rs hrows hr hone;have hlr := Abw _ len _ _ hrows;rw [c1] at hrl hsz;rw [AlZ (by omega)] at hrw;have hown : OwnRow (V.w.alloc (.cells rs.toArray elem)) elem e.length (.slice (some ⟨V.w.heap.size, 0, none⟩) len len) rows.length rs := by
        rw[hlr];exact⟨hrl,.inr ⟨_,len,_,rfl,c2,heap_alloc_new V.w _,AlT _,by simp only[maxLen]; omega,by simpa using hrl,by rw[AlZ (by simp[hrl])]⟩⟩
       have hnn:¬V.D heap.length:=hn _ (AlT _) (by simp);have hnew:=AdF (H:=H) hn;obtain⟨hg,hH'⟩:=row_new (H':=newH heap (heap++[.row e elem 0 rows]) [] H) hH hnn (w':=V.w.alloc (.cells rs.toArray elem)) (v':= .slice (some ⟨V.w.heap.size,0,none⟩) len len)
        rfl rfl rfl (by rw[World.size_alloc]; omega) (λb hb=>Below.heap_alloc V.w _ b hb)
        (λb hb=>by
         simp only[blkOf]at hb;split at hb
         · cases hb
         · injection hb with hb; subst hb; rw[World.size_alloc]; omega) hown hrw hnew.1 hnew.2
       intro K Q hK;unfold Oper.wp;rw[hrun];refine hK _ (V.newR heap.length _ _) hg ?_ hH' λk=> ?_
       · simp only[VR];exact⟨.inr rfl,by simp,.inl ⟨_,_,_,rfl⟩,λ_=>by simp[Vw.newR]⟩
       · simp only[Vw.newR,AlF,AlJ];constructor
         · rintro(h|h)
           · exact .inl h
           · exact .inr (by omega)
         · rintro(h|h)
           · exact .inl h
           · exact .inr (by omega)
     · cases h2
   · cases h2
 · cases h2
theorem Agd {t:TypeId} {x y:Operand} {heap heap':List HB} {hyp chk:Q} {sv:SV} {R W:List Nat} (ho:o.op= .slice t x none (some y) none) (h:Ahv P t heap (ev x) (ev y)= .ok hyp chk sv heap' R W) (hchk:chk.h)
 (hx:VR V (ev x) (a.eval x)) (hy:VR V (ev y) (a.eval y)) (hH:Heap V H) (hag:∀k,k∈R∨k∈W->V.D k->H k=heap[k]?):Ab6 P o a V sv (newH heap heap' W H) W heap.length heap'.length:=by
 unfold Ahv at h;split at h
 · rename_i k v kt l b elem hev hn hu;split at h
   · rename_i e ty w xs sz hk hs;split at h
     · rename_i hcond;obtain⟨c1,c2,c3⟩:=hcond;simp only[OpR.ok.injEq]at h;obtain⟨rfl,rfl,rfl,rfl,rfl,rfl⟩:=h;rw[hev]at hx;simp only[VR]at hx;obtain⟨hd,hle,hsl,hv⟩:=hx;obtain⟨h0,h1⟩:=hchk;simp only[iLen]at h1;have hkl:k<heap.length:=(List.getElem?_eq_some_iff.1 hk).1;obtain⟨hb,q1,q2⟩:=hH.rep k hd;rw[hag k (.inl (by simp)) hd,hk]at q1;injection q1 with q1;subst q1;obtain⟨hL,hc,n,us,hown,hnx,hrow⟩:=q2;have hvp:=hv (by rw[c1,hc]);have hyv:a.eval y= .int kt l:=numOf_VR hn hy;obtain⟨m,rfl⟩:∃m:Nat,l=(m:Int):=⟨l.toNat,by omega⟩
       have hmn:m<=n:=by omega
       have hrows:=(hrow.split' m (by omega)).1;obtain⟨a0,cap,hpv,hn1,hn2⟩:=hown.slice;have hus:us.length=n*e.length:=hown.1;have hsb:=Abh (P:=P) (V:=V) (lo:=none) (hi:=some (ev y)) (l:=none) (h:=some (m:Int)) (vl:=none) (vh:=some (a.eval y)) rfl (by simp[Abx,hn]) (by simp) (λ_=>rfl) (λx hx=>by injection hx with hx; subst hx; exact⟨_,rfl,hy⟩) (by simp) (len:=n) (cap:=cap) (by simp only[geB]; omega) hn1 V.w;simp only[Anl,Amj,AmM,show(0:Int).toNat=0 from rfl]at hsb;have hown':OwnRow V.w ty e.length (.slice (if cap=0 then a0 else a0.map (·.add (0*sz))) (m-0) (cap-0)) (xs.take m).length (us.take (m*e.length)):=by
        have hxl:(xs.take m).length=m:=by rw[AlN]; omega
        have ha:(if cap=0 then a0 else a0.map (·.add (0*sz)))=a0:=by
         split
         · rfl
         · cases a0<;>simp[Addr.add]
        rw[hxl,ha,Nat.sub_zero,Nat.sub_zero];have hm4:=AmT e.length hmn;refine⟨by rw[AlN,hus]; omega,?_⟩;rcases hown.2 with⟨hz,a1,hv1⟩|⟨g,cap1,cur,hv1,p1,p2,p3,p4,p5,p6⟩
        · rw[hpv]at hv1;injection hv1 with r1 r2 r3;subst r1; subst r3;obtain rfl:m=0:=by omega
          exact .inl ⟨rfl,_,rfl⟩
        · rw[hpv]at hv1;injection hv1 with r1 r2 r3;subst r1; subst r3;exact .inr ⟨g,_,cur,rfl,p1,p2,by omega,p4,p5,by rw[←p6,Anz]; congr 1; omega⟩
       have ha:(if cap=0 then a0 else a0.map (·.add (0*sz)))=a0:=by
        split
        · rfl
        · cases a0<;>simp[Addr.add]
       obtain⟨hg,hH'⟩:=row_step (H':=newH heap (heap.set k (.row e ty (w+1) (xs.take m))) [k] H) hH hd hL ⟨a0,n,cap,hpv⟩ (w':=V.w) (v':= .slice (if cap=0 then a0 else a0.map (·.add (0*sz))) (m-0) (cap-0)) (c':=w+1) rfl rfl rfl (AlT _) (by omega) (λh=>by omega)
        (λ_ _ _=>rfl) (λc hc=>by
         have hc':blkOf (V.p k)=some c:=by
          rw[hpv];rw[ha]at hc
          cases a0 with
          |none=>simp[blkOf]at hc
          |some a1=>simpa[blkOf]using hc
         exact⟨.inl hc',hH.lt k c hd hL hc'⟩) hown' hrows (by unfold newH; rw[if_pos (.inl (by simp))]; simp[hkl]) (λj hj hne=>by
         unfold newH; rw[if_neg]; rintro(h|h)
         · simp at h; exact hne h
         · simp at h; omega)
       intro K Q hK;unfold Oper.wp;have hex:(execOp a.eval o).run P V.w= .ok (.value (.slice (if cap=0 then a0 else a0.map (·.add (0*sz))) (m-0) (cap-0))) V.w:=by
        simp only[execOp,ho];refine AbK ?_;rw[hvp,hpv];simp only[Am1,AlM,Instr.sliceAt,Instr.slice,Sem.run_bind,Aa4 hu,Result.andThen_ok,hsb,run_size hs,Sem.run_pure]
       rw[hex];refine hK _ (V.upd k V.w _ (w+1)) hg ?_ hH' λj=>⟨.inl,λh=>h.elim id (λh=>by simp at h; omega)⟩
       simp only[VR];exact⟨hd,by simp[Vw.upd],.inl ⟨_,_,_,rfl⟩,λ_=>by simp[Vw.upd]⟩
     · cases h
   · cases h
 · cases h
theorem AgW {t:TypeId} {x:Operand} {lo hi mx:Option Operand} {heap heap':List HB} {hyp chk:Q} {sv:SV} {R W:List Nat} (ho:o.op= .slice t x lo hi mx) (hmx:mx=none) (h:AjF P t heap (ev x) (lo.map ev) (hi.map ev)= .ok hyp chk sv heap' R W) (hchk:chk.h)
    (hx:VR V (ev x) (a.eval x)) (hlo:∀y,lo=some y->VR V (ev y) (a.eval y)) (hhi:∀y,hi=some y->VR V (ev y) (a.eval y)) (hH:Heap V H) (hag:∀k,k∈R∨k∈W->V.D k->H k=heap[k]?):Ab6 P o a V sv (newH heap heap' W H) W heap.length heap'.length:=by
  subst hmx;have vlo:∀y,lo.map ev=some y->∃v,lo.map a.eval=some v/\VR V y v:=λy hy=>by
    cases lo with
    |none=>cases hy
    |some z=>simp only[AlM,AlC]at hy; subst hy; exact⟨_,rfl,hlo z rfl⟩
  have vhi:∀y,hi.map ev=some y->∃v,hi.map a.eval=some v/\VR V y v:=λy hy=>by
    cases hi with
    |none=>cases hy
    |some z=>simp only[AlM,AlC]at hy; subst hy; exact⟨_,rfl,hhi z rfl⟩
  have nlo:lo.map ev=none->lo.map a.eval=none:=λh=>by cases lo; rfl; cases h
  have nhi:hi.map ev=none->hi.map a.eval=none:=λh=>by cases hi; rfl; cases h
  unfold AjF at h;split at h
  · rename_i k v l hh elem hev hl hhn hu;split at h
    · rename_i e ty w xs sz hk hs;split at h
      · rename_i hcond;obtain⟨c1,c2,c3⟩:=hcond;simp only[OpR.ok.injEq]at h;obtain⟨rfl,rfl,rfl,rfl,rfl,rfl⟩:=h;rw[hev]at hx;simp only[VR]at hx;obtain⟨hd,hle,hsl,hv⟩:=hx;have hb0:geB l hh (iLen xs):=hchk;simp only[iLen]at hb0;obtain⟨hb,q1,q2⟩:=hH.rep k hd;rw[hag k (.inl (by simp)) hd,hk]at q1;injection q1 with q1;subst q1;obtain⟨hL,hc,n,us,hown,hnx,hrow⟩:=q2;have hvp:=hv (by rw[c1,hc]);obtain⟨a0,cap,hpv,hn1,hn2⟩:=hown.slice;rw[←hnx]at hb0;have hsb:=Abh (P:=P) (V:=V) hl hhn vlo nlo vhi nhi hb0 hn1 V.w;refine Aa5 (v:= .slice (if cap=(l.getD 0).toNat then a0 else a0.map (·.add ((l.getD 0).toNat*sz))) ((hh.getD n).toNat- (l.getD 0).toNat) (cap- (l.getD 0).toNat)) ?_ ?_ hH
        · simp only[execOp,ho];refine AbK ?_;rw[hvp,hpv];simp only[Am1,Instr.sliceAt,Instr.slice,Sem.run_bind,Aa4 hu,Result.andThen_ok,hsb,run_size hs,Sem.run_pure]
        · have e1:(viewN l hh (iLen xs)).toNat=(hh.getD n).toNat- (l.getD 0).toNat/\0<=l.getD 0/\0<=viewN l hh (iLen xs)/\l.getD 0+viewN l hh (iLen xs)<=(n:Int):=by
            cases l<;>cases hh<;>simp only[viewN,geB,iSub,iLen,Anl,Amj]at hb0 ⊢ <;>omega
          simp only[VR];refine⟨hd,by omega,⟨_,_,_,rfl⟩,λ_=>⟨a0,n,cap,hpv,e1.2.1,e1.2.2.1,e1.2.2.2,by rw[e1.1]⟩⟩
      · cases h
    · cases h
  · cases h
end Go.Sx

