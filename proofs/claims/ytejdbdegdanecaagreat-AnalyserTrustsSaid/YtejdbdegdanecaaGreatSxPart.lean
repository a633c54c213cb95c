import Derived.Test.YtejdbdegdanecaaGreatSxLem
set_option linter.unusedVariables false
set_option linter.unusedSimpArgs false
namespace Go.Sx
open Go.RowKit
variable {P:Program}
theorem Aa4 {t:TypeId} {d:TypeDesc} (h:P.underlying t=some d) (w:World):(underlying t).run P w= .ok d w:=by
 simp[underlying,h]
theorem run_size {t:TypeId} {n:Nat} (h:szTy P t=some n) (w:World):(sizeOf t).run P w= .ok n w:=by
 unfold szTy at h
 cases hi:P.info? t with
 |none=>simp[hi]at h
 |some i=>
  simp only[hi,AlM]at h
  injection h with h
  simp[sizeOf,typeInfo,hi,h]
theorem AdB {t:TypeId} {b:Bool} (h:agTy P t=some b) (w:World):(isAgg t).run P w= .ok b w:=by
 unfold agTy at h
 cases hu:P.underlying t with
 |none=>simp[hu]at h
 |some d=>
  simp only[hu]at h
  simp only[isAgg,Sem.run_bind,Aa4 hu,Result.andThen_ok]
  cases d<;>simp at h<;>subst h<;>rfl
theorem run_zero {t:TypeId} {z:List Value} (h:AbJ P t=some z) (w:World):∃v,(zeroValue t).run P w= .ok v w/\v.cells=z.toArray/\∀u∈z,u.oneCell'=true:=by
 unfold AbJ at h
 cases hi:P.info? t with
 |none=>simp[hi]at h
 |some i=>
  cases hz:i.zero with
  |none=>simp[hi,hz]at h
  |some v=>
   simp only[hi,hz,AmG]at h
   split at h
   · rename_i h1
     injection h with h; subst h
     refine⟨v,by simp[zeroValue,typeInfo,hi,hz],by simp,λu hu=>(Al6.1 h1) u hu⟩
   · cases h
theorem run_part {V:Vw} {t:TypeId} {cells:List SV} {vs:List Value} {off:Nat} {r:SV} (h:Adx P t cells off=some r) (hr:VRs V cells vs) (h1:∀v∈vs,v.oneCell'=true) (w:World):
 ∃v,(part t vs.toArray off).run P w= .ok v w/\VR V r v:=by
 unfold Adx at h;split at h
 · rename_i n ha hs;split at h
   · rename_i hl;injection h with h; subst h;refine⟨.agg ((vs.drop off).take n).toArray,?_,?_⟩
     · simp only[part,Sem.run_bind,AdB ha,Result.andThen_ok,if_true,run_size hs];show Result.ok (Value.agg (vs.toArray.extract off (off+n))) w=_;simp[List.extract_eq_take_drop]
     · simp only[VR];exact⟨_,rfl,λu hu=>h1 u (Al3 (Al7 hu)),(hr.drop off).take n⟩
   · cases h
 · rename_i ha;obtain⟨v,hv,hrv⟩:=hr.get off r h;refine⟨v,?_,hrv⟩;simp only[part,Sem.run_bind,AdB ha,Result.andThen_ok,AlW,if_false];have:vs.toArray[off]? =some v:=by simpa using hv
   rw[this]; rfl
 · cases h
theorem run_loadVar_at {V:Vw} {t:TypeId} {cells:List SV} {b o off:Nat} {r:SV} {w:World} (hw:w=V.w) (h:Adx P t cells off=some r) (hr:VRc V cells b o):
    ∃v,(loadVar t ⟨b,o+off,none⟩).run P w= .ok v w/\VR V r v:=by
  subst hw;obtain⟨vs,hs,h1,hc⟩:=hr.vals;unfold Adx at h;split at h
  · rename_i n ha hsz;split at h
    · rename_i hl;injection h with h; subst h;refine⟨.agg ((vs.drop off).take n).toArray,?_,?_⟩
      · have hlen:((vs.drop off).take n).length=n:=by
          have:=hs.len;simp; omega
        have hload:=run_loadCells_list (P:=P) V.w ⟨b,o+off,none⟩ ((vs.drop off).take n) (λj v hv=>by
          rw[add_mk,show o+off+j=o+(off+j) by omega];refine hc (off+j) v ?_;rw[List.getElem?_take]at hv;split at hv
          · rwa [List.getElem?_drop]at hv
          · cases hv)
        rw[hlen]at hload;simp only[loadVar,Sem.run_bind,AdB ha,Result.andThen_ok,if_true,run_size hsz,hload];rfl
      · simp only[VR];exact⟨_,rfl,λu hu=>h1 u (Al3 (Al7 hu)),(hs.drop off).take n⟩
    · cases h
  · rename_i ha;obtain⟨v,hv,hrv⟩:=hs.get off r h;refine⟨v,?_,hrv⟩;simp only[loadVar,Sem.run_bind,AdB ha,Result.andThen_ok,AlW,if_false];rw[run_load,hc off v hv]
  · cases h
theorem Ais (us:List Value):∀(cells:Array Value) (off k:Nat),off+k+us.length<=cells.size->
 (us.zipIdx k).foldl (fun(cs:Array Value) (x:Value×Nat)=>cs.setIfInBounds (off+x.2) x.1) cells=(cells.toList.take (off+k)++us++cells.toList.drop (off+k+us.length)).toArray:=by
 induction us with
 |nil=>intro cells off k _; simp
 |cons u us ih=>
  intro cells off k h
  simp only[Al9]at h
  rw[List.zipIdx_cons,List.foldl_cons,ih _ off (k+1) (by simp; omega)]
  congr 1
  simp only[Array.toList_setIfInBounds]
  apply List.ext_getElem?
  intro i
  simp only[Al9,List.getElem?_append,AlF,AlN,Am0,AmJ,List.getElem?_take,List.getElem?_drop,List.getElem?_set]
  have e1:min (off+(k+1)) cells.size=off+k+1:=by omega
  have e2:min (off+k) cells.size=off+k:=by omega
  rw[e1,e2]
  rcases Nat.lt_trichotomy i (off+k)with h1|h1|h1
  · have a1:i<off+k+1:=by omega
    have a2:i<off+k+1+us.length:=by omega
    have a3:i<off+k+(us.length+1):=by omega
    have a4:off+k≠i:=by omega
    have a5:i<off+(k+1):=by omega
    simp[h1,a1,a2,a3,a4,a5]
  · subst h1
    have a2:off+k<off+k+1+us.length:=by omega
    have a3:off+k<off+k+(us.length+1):=by omega
    have a5:off+k<off+(k+1):=by omega
    have a6:off+k<cells.size:=by omega
    simp[a2,a3,a5,a6]
  · have a1:¬i<off+k+1:=by omega
    have a0:¬i<off+k:=by omega
    by_cases h2:i<off+k+1+us.length
    · have a3:i<off+k+(us.length+1):=by omega
      have a4:i- (off+k)=(i- (off+k+1))+1:=by omega
      simp[a1,h2,a0,a3,a4]
    · have a3:¬i<off+k+(us.length+1):=by omega
      have a4:¬(off+k=off+(k+1)+us.length+(i- (off+k+1+us.length))):=by omega
      have a5:off+(k+1)+us.length+(i- (off+k+1+us.length))=off+k+(us.length+1)+(i- (off+k+(us.length+1))):=by omega
      simp[a1,h2,a0,a3,a4,a5]
      intro hx; omega
theorem fill_rep {V:Vw} {H:Nat->Option HB} (hH:Heap V H) {place:Nat->Option (Nat×Nat)}:∀(parts:List (Nat×SV)) (vals:List (Nat×Value)) (cells:List SV) (us:List Value) (r:List SV),
 sFill place cells parts=some r->vals.map (·.1)=parts.map (·.1)->(∀(i:Nat) (p:Nat×SV) (v:Nat×Value),parts[i]? =some p->vals[i]? =some v->VR V p.2 v.2)->VRs V cells us->(∀u∈us,u.oneCell'=true)->
 ∃rs,Instr.fill place us.toArray vals=some rs.toArray/\VRs V r rs/\(∀u∈rs,u.oneCell'=true)
 |[],vals,cells,us,r,h,hm,_,hr,h1=>by
  simp only[sFill]at h;injection h with h; subst h;have:vals=[]:=by simpa using hm
  subst this;exact⟨us,rfl,hr,h1⟩
 |(i,x)::rest,vals,cells,us,r,h,hm,hv,hr,h1=>by
  cases vals with
  |nil=>simp at hm
  |cons y vals=>
   obtain⟨j,v⟩:=y
   simp only[AmQ,List.cons.injEq]at hm
   obtain⟨rfl,hm⟩:=hm
   simp only[sFill]at h
   split at h
   · rename_i off size cs hp hc
     split at h
     · rename_i hl
       obtain⟨hl1,hl2⟩:=hl
       have hx:=hv 0 (j,x) (j,v) rfl rfl
       obtain⟨ws,hcells,hone,hws⟩:=svCells_rep hH hx hc
       have hlen:=hr.len
       have hwl:=hws.len
       have hr':VRs V (cells.take off++cs++cells.drop (off+size)) (us.take off++ws++us.drop (off+size)):=((hr.take off).append hws).append (hr.drop _)
       have h1':∀u∈us.take off++ws++us.drop (off+size),u.oneCell'=true:=by
        intro u hu;simp only[AlY]at hu;rcases hu with(hu|hu)|hu
        · exact h1 u (Al7 hu)
        · exact hone u hu
        · exact h1 u (Al3 hu)
       obtain⟨rs,hf,h2,h3⟩:=fill_rep hH rest vals _ _ r h hm (λi p v hp hv'=>hv (i+1) p v (by simpa using hp) (by simpa using hv')) hr' h1'
       refine⟨rs,?_,h2,h3⟩
       simp only[Instr.fill,hp,hcells]
       have e1:ws.toArray.size=size:=by simp; omega
       rw[if_neg (by simp; omega)]
       have hsp:=Ais ws us.toArray off 0 (by simp; omega)
       rw[←hf]
       congr 1
       rw[show ws.toArray.zipIdx=(ws.zipIdx 0).toArray by simp,List.foldl_toArray]
       rw[hsp]
       simp only[AmC]
       congr 2
       rw[hwl,hl1]
     · cases h
   · cases h
end Go.Sx

