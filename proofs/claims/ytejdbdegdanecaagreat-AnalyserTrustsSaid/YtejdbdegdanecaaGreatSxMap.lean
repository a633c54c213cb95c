import Derived.Test.YtejdbdegdanecaaGreatSxOwn3
import Derived.MapKept
set_option linter.unusedVariables false
set_option linter.unusedSimpArgs false
namespace Go.Sx
open Go.RowKit
variable {P:Program} {G:Nat->Option Ct} {o:Oper} {a:Act} {V:Vw} {H:Nat->Option HB} {ev:Operand->SV}
theorem hb_new {V:Vw} {H H':Nat->Option HB} (hH:Heap V H) {n:Nat} (hn:¬V.D n) {w':World} {v':Value}
 (os:w'.os=V.w.os) (tape:w'.tape=V.w.tape) (output:w'.output=V.w.output) (size:V.w.heap.size<=w'.heap.size)
 (blk:∀b,b<V.w.heap.size->w'.heap[b]? =V.w.heap[b]?) (hmv:∀b,blkOf v'=some b->V.w.heap.size<=b/\b<w'.heap.size)
 {hb:HB} (hrep:HBRep (V.newR n w' v') n hb) (hn':H' n=some hb) (ho:∀j,V.D j->H' j=H j):
 Grow V (V.newR n w' v') []/\Heap (V.newR n w' v') H':=by
 have hg:Grow V (V.newR n w' v') []:=by
  refine⟨os,tape,output,Ahk rfl,size,λ_ h=> .inl h,λj hj=> ?_,λj hj he=> ?_,λj a hj he=> ?_,λj hj hl=>hl.elim id λh=>by subst h; exact(hn hj).elim,λj hj hl b hb=> ?_,λb hb _=>blk b hb,λj hj hl hj' b hb=> ?_⟩
  · simp only[Vw.newR]; rw[if_neg (by rintro rfl; exact hn hj)]; exact AlT _
  · simp only[Vw.newR]; rw[if_neg (by rintro rfl; exact hn hj)]
  · simp only[Vw.newR]; rw[if_neg (by rintro rfl; exact hn hj)]; exact he
  · simp only[Vw.newR]at hb; rw[if_neg (by rintro rfl; exact hn hj)]at hb; exact .inl hb
  · have:j=n:=hj.elim (λh=>(hj' h).elim) id;subst this;simp only[Vw.newR,if_pos]at hb;exact(hmv b hb).1
 have old:∀ {k},(V.newR n w' v').D k->(V.newR n w' v').L k->k≠n->V.D k/\V.L k:=λhk hl he=>⟨hk.elim id λh=>(he h).elim,hl.elim id λh=>(he h).elim⟩
 refine⟨hg,⟨λj hj=> ?_,λj b hj hl hb=> ?_,λb hb=>Amg (hH.bd b hb) size,λj b hj hl hb=> ?_,λi j b hi hil hj hjl hib hjb=> ?_⟩⟩
 · by_cases he:j=n
   · subst he;exact⟨_,hn',hrep⟩
   · have hd:V.D j:=hj.elim id λh=>(he h).elim;obtain⟨hb',h2,h3⟩:=hH.rep j hd;exact⟨hb',by rw[ho j hd]; exact h2,h3.mono hg.stays hd (by simp[Vw.newR,he]) .inl λb hl hb=>blk b (hH.lt j b hd hl hb)⟩
 · simp only[Vw.newR]at hb; split at hb
   · exact(hmv b hb).2
   · rename_i he;exact Amg (hH.lt j b (old hj hl he).1 (old hj hl he).2 hb) size
 · simp only[Vw.newR]at hb; split at hb
   · intro hbad; have:=hH.bd b hbad; have:=(hmv b hb).1; omega
   · rename_i he;exact hH.nb j b (old hj hl he).1 (old hj hl he).2 hb
 · simp only[Vw.newR]at hib hjb;by_cases h1:i=n<;>by_cases h2:j=n
   · omega
   · rw[if_pos h1]at hib; rw[if_neg h2]at hjb;have:=hH.lt j b (old hj hjl h2).1 (old hj hjl h2).2 hjb;have:=(hmv b hib).1; omega
   · rw[if_neg h1]at hib; rw[if_pos h2]at hjb;have:=hH.lt i b (old hi hil h1).1 (old hi hil h1).2 hib;have:=(hmv b hjb).1; omega
   · rw[if_neg h1]at hib; rw[if_neg h2]at hjb;exact hH.inj i j b (old hi hil h1).1 (old hi hil h1).2 (old hj hjl h2).1 (old hj hjl h2).2 hib hjb
theorem AeZ {t:TypeId} {heap heap':List HB} {hyp chk:Q} {sv:SV} {R W:List Nat} (ho:o.op= .makeMap t none) (h:Aer P t heap= .ok hyp chk sv heap' R W) (hH:Heap V H) (hn:∀k,heap.length<=k->k<heap'.length->¬V.D k):
 Ab6 P o a V sv (newH heap heap' W H) W heap.length heap'.length:=by
 unfold Aer at h;split at h
 · rename_i kt g e zs hm;simp only [OpR.ok.injEq] at h;obtain ⟨rfl, rfl, rfl, rfl, rfl, rfl⟩ := h;simp only [AlF, AlJ] at hn ⊢;have hnew := hn heap.length (AlT _) (by omega);have hsz : (V.w.alloc (.map #[] 0)).heap.size = V.w.heap.size + 1 := World.size_alloc ..;obtain ⟨hg, hH'⟩ := hb_new (H' := newH heap (heap ++ [.mp kt g e 0 []]) [] H) hH hnew (w' := V.w.alloc (.map #[] 0)) (v' := .map (some V.w.heap.size)) rfl rfl rfl (by omega)
    (λb hb=>Below.heap_alloc V.w _ b hb) (λb hb=>by simp only[blkOf]at hb; injection hb with hb; subst hb; omega) (hb:= .mp kt g e 0 [])
    ⟨.inr rfl,by simp[Vw.newR],V.w.heap.size, #[],0,by simp[Vw.newR],heap_alloc_new V.w _,rfl⟩
    (by unfold newH; rw[if_pos (.inr (by simp))]; simp)
    (λk hk=>by
     unfold newH; rw[if_neg]; rintro(h|⟨h2,h3⟩)
     · simp at h
     · exact hn k h2 (by simpa using h3) hk)
   intro K Q hK;unfold Oper.wp;have hrun:(execOp a.eval o).run P V.w= .ok (.value (.map (some V.w.heap.size))) (V.w.alloc (.map #[] 0)):=by
    simp only[execOp,ho];exact AbK (by simp only[Am1,Instr.makeMap,Sem.run_bind,run_newObj_alloc,Result.andThen_ok,Sem.run_pure])
   rw[hrun];refine hK _ (V.newR heap.length _ _) hg ?_ hH' λk=> ?_
   · simp only[VR];exact⟨.inr rfl,by simp,.inr ⟨_,rfl⟩,λ_=>by simp[Vw.newR]⟩
   · simp only[Vw.newR];constructor
     · rintro(h|h)
       · exact .inl h
       · exact .inr (by omega)
     · rintro(h|h)
       · exact .inl h
       · exact .inr (by omega)
 · cases h
theorem Agh {t:TypeId} {x y:Operand} {heap heap':List HB} {hyp chk:Q} {sv:SV} {R W:List Nat} (ho:o.op= .makeSlice t x y) (h:Ahx P t heap (ev x) (ev y)= .ok hyp chk sv heap' R W) (hchk:chk.h)
 (hx:VR V (ev x) (a.eval x)) (hy:VR V (ev y) (a.eval y)) (hH:Heap V H) (hn:∀k,heap.length<=k->k<heap'.length->¬V.D k):Ab6 P o a V sv (newH heap heap' W H) W heap.length heap'.length:=by
 unfold Ahx at h;split at h
 · rename_i elem k1 l b1 k2 c b2 hu hnx hny;split at h
   · rename_i by_ hz hs hb;split at h
     · rename_i hby0;simp only[OpR.ok.injEq]at h;obtain⟨rfl,rfl,rfl,rfl,rfl,rfl⟩:=h;obtain⟨h0,h1,h2⟩:=hchk;simp only[Abb]at h2;unfold AbJ at hz
       cases hi:P.info? elem with
       |none=>simp[hi]at hz
       |some i=>
        cases hzv:i.zero with
        |none=>simp[hi,hzv]at hz
        |some zv=>
         simp only[hi,hzv,AmG]at hz
         split at hz
         · injection hz with hz
           have hsz:i.size=1:=by unfold szTy at hs; simpa[hi]using hs
           have hby:i.bytes=by_:=by unfold byTy at hb; simpa[hi]using hb
           have hbc:(i.bytes:Int)*c<=281474976710656:=by rw[hby,Amo]; omega
           have hcm:c<=140737488355328:=by
            have:c*1<=c*(by_:Int):=Al0 (by omega) (by omega);omega
           have hrun:=run_make (P:=P) V.w t elem i zv hu hi hzv k1 k2 l c h0 h1 hbc (by omega)
           have hzc:zv.cells=([.slice none 0 0]:List Value).toArray:=by rw[←hz]
           rw[hzc,hsz]at hrun
           have hmade:(madeCells ([.slice none 0 0]:List Value).toArray (c.toNat*1)).toList=(List.replicate c.toNat [Value.slice none 0 0]).flatten:=Aea c.toNat (by simp)
           have hsize:(madeCells ([.slice none 0 0]:List Value).toArray (c.toNat*1)).size=c.toNat*1:=size_madeCells _ _
           have hflat:∀n:Nat,(List.replicate n [Value.slice none 0 0]).flatten=List.replicate n (Value.slice none 0 0):=λn=>by
            induction n with
            |zero=>rfl
            |succ n ih=>rw[List.replicate_succ,List.flatten_cons,ih]; rfl
           have hown:OwnRow (V.w.alloc (.cells (madeCells ([.slice none 0 0]:List Value).toArray (c.toNat*1)) elem)) elem 1 (.slice (some ⟨V.w.heap.size,0,none⟩) l.toNat c.toNat) l.toNat (List.replicate l.toNat (.slice none 0 0)):=by
            refine⟨by simp,?_⟩;by_cases hc0:c.toNat=0
            · exact .inl ⟨by omega,_,by rw[hc0,show l.toNat=0 by omega]⟩
            · refine .inr ⟨_,c.toNat,_,rfl,by omega,heap_alloc_new V.w _,by omega,by simp only[maxLen]; omega,hsize,?_⟩;rw[hmade,hflat,List.take_replicate];congr 1;omega
           have hnn:¬V.D heap.length:=hn _ (AlT _) (by simp)
           have hnew:=AdF (H:=H) hn
           obtain⟨hg,hH'⟩:=hb_new (H':=newH heap (heap++[.hrow elem 0 l.toNat (-1) .any λ_=> .slice none 0 0]) [] H) hH hnn (w':=V.w.alloc (.cells (madeCells ([.slice none 0 0]:List Value).toArray (c.toNat*1)) elem)) (v':= .slice (some ⟨V.w.heap.size,0,none⟩) l.toNat c.toNat)
            rfl rfl rfl (by rw[World.size_alloc]; omega) (λb hb=>Below.heap_alloc V.w _ b hb)
            (λb hb=>by
             simp only[blkOf]at hb;split at hb
             · cases hb
             · injection hb with hb; subst hb; rw[World.size_alloc]; omega) (hb:= .hrow elem 0 l.toNat (-1) .any λ_=> .slice none 0 0)
            ⟨.inr rfl,by simp[Vw.newR],_,by simpa[Vw.newR]using hown,λu hu=>by rw[(AmO.1 hu).2]; rfl,λj hj=>⟨λhe=>by omega,λ_=>by rw[List.getElem?_replicate,if_pos hj]⟩⟩ hnew.1 hnew.2
           intro K Q hK
           unfold Oper.wp
           have hex:(execOp a.eval o).run P V.w= .ok (.value (.slice (some ⟨V.w.heap.size,0,none⟩) l.toNat c.toNat)) (V.w.alloc (.cells (madeCells ([.slice none 0 0]:List Value).toArray (c.toNat*1)) elem)):=by
            simp only[execOp,ho];refine AbK ?_;rw[show a.eval x= .int k1 l from numOf_VR hnx hx,show a.eval y= .int k2 c from numOf_VR hny hy];exact hrun
           rw[hex]
           refine hK _ (V.newR heap.length _ _) hg ?_ hH' λk=> ?_
           · simp only[VR]
             exact⟨.inr rfl,by simp,.inl ⟨_,_,_,rfl⟩,λ_=>by simp[Vw.newR]⟩
           · simp only[Vw.newR,AlF,AlJ]
             constructor
             · rintro(h|h)
               · exact .inl h
               · exact .inr (by omega)
             · rintro(h|h)
               · exact .inl h
               · exact .inr (by omega)
         · cases hz
     · cases h
   · cases h
 · cases h
theorem mapTy_inv {t:TypeId} {kt:IntKind} {g:Bool} {e:List Sh} {zs:List C} (h:Aie P t=some (kt,g,e,zs)):
 ∃key elem z,P.underlying t=some (.map key elem)/\P.underlying key=some (.int kt)/\agTy P elem=some g/\AbJ P elem=some z/\toCs e (ofVs z)=some (zs,[])/\z.length=e.length/\szTy P elem=some e.length/\(g=true∨e.length=1)/\zAgg P elem=g:=by
 unfold Aie at h;split at h
 · rename_i key elem hu;split at h
   · rename_i kt' e' g' z hk he hg hz;split at h
     · rename_i zs' hzs;split at h
       · rename_i hc;simp only[AlC,AlH]at h;obtain⟨rfl,rfl,rfl,rfl⟩:=h;exact⟨key,elem,z,hu,hk,hg,hz,hzs,hc.1,hc.2.1,hc.2.2.1,hc.2.2.2⟩
       · cases h
     · cases h
   · cases h
 · cases h
theorem Ah9 {w:World} {ok:Nat->Prop} {s:Sh} {d:C} {u:Value} (h1:u.oneCell'=true) (h2:RepC w ok s d u):RepVs w ok [s] [d] [u]:=⟨u,[],rfl,h1,h2,rfl⟩
theorem AjU {w:World} {ok:Nat->Prop} {s:Sh} {ys:List C} {us:List Value} (h:RepVs w ok [s] [ys.headD default] us):RepVs w ok [s] ys us:=by
 obtain⟨u,t,rfl,h1,h2,h3⟩:=h;exact⟨u,t,rfl,h1,h2,h3⟩
def oneVal (g:Bool) (us:List Value):Value:=bif g then .agg us.toArray else us.headD Go.undef
theorem Agu {V:Vw} {g:Bool} {e:List Sh} {cs:List C} {us:List Value} (h:RepVs V.w V.ok e cs us) (hg:g=true∨e.length=1):VR V (Abg (g,e) cs) (oneVal g us):=by
 have h1:=Acu h
 cases g with
 |true=>simp only[Abg,VR,oneVal,cond_true]; exact⟨us,rfl,h.one,h1⟩
 |false=>
  have hl:e.length=1:=by simpa using hg
  obtain⟨s,rfl⟩:∃s,e=[s]:=by
   match e,hl with
   |[s],_=>exact⟨s,rfl⟩
  simp only[ofCs,VRs]at h1
  obtain⟨v,r,rfl,h2,rfl⟩:=h1
  simpa only[Abg,ofCs,Al4,oneVal,cond_false]using h2
theorem AjE {t:TypeId} {g:Bool} {z:List Value} {zv:Value} {w:World} (ha:zAgg P t=g) (hz:AbJ P t=some z) (hv:(zeroValue t).run P w= .ok zv w) (hl:g=true∨z.length=1):oneVal g z=zv:=by
 unfold AbJ at hz;unfold zAgg at ha
 cases hi:P.info? t with
 |none=>simp[hi]at hz
 |some i=>
  cases hz0:i.zero with
  |none=>simp[hi,hz0]at hz
  |some v=>
   simp only[hi,hz0,AmG]at hz ha
   have hvv:v=zv:=by simpa[zeroValue,typeInfo,hi,hz0]using hv
   subst hvv
   split at hz
   · rename_i hone
     injection hz with hz
     cases v with
     |agg cs=>
      simp only at ha
      subst ha
      simp only[oneVal,cond_true,←hz,Value.cells,AlV]
     |_=>
      simp only at ha
      subst ha
      simp only[Value.cells]at hz
      subst hz
      rfl
   · cases hz
theorem findNow_ents {kt:IntKind} {V:Vw} {g:Bool} {e:List Sh} (n:Int):∀(xs:List (Int×List C)) (ms:List MapEntry) (i:Nat),EntsRep V.w V.ok kt g e xs ms->
    (kHas xs n=false/\Instr.findNow (.int kt) (.int kt n) ms i=some none)∨
    (kHas xs n=true/\∃j m us,Instr.findNow (.int kt) (.int kt n) ms i=some (some (i+j,m.val))/\ms[j]? =some m/\m.key= .int kt n/\m.val=oneVal g us/\(∀z,RepVs V.w V.ok e (kGet xs n z) us)/\∀ys m',Ah3 V.w V.ok kt g e (n,ys) m'->EntsRep V.w V.ok kt g e (kPut xs n ys) (ms.set j m'))
  |[],ms,i,h=>by
    simp only[EntsRep]at h;subst h;exact .inl ⟨rfl,rfl⟩
  |x::r,ms,i,h=>by
    obtain⟨m,t,rfl,⟨hk,us,hr,hv⟩,ht⟩:=h;by_cases hx:x.1=n
    · refine .inr ⟨by simp[kHas,hx],0,m,us,?_,rfl,by rw[hk,hx],hv,λz=>by simpa[kGet,hx]using hr,λys m' hm'=>by simp only[kPut,hx,decide_true,cond_true,Ama]; exact⟨m',t,rfl,hm',ht⟩⟩;simp[Instr.findNow,Instr.sameNow,hk,hx]
    · have hs:Instr.sameNow (.int kt) (.int kt n) m.key=some false:=by
        rw[hk];simp[Instr.sameNow];exact λh=>hx h.symm
      rcases findNow_ents n r t (i+1) ht with⟨h1,h2⟩|⟨h1,j,m',us',h2,h3,h4,h5,h6,h7⟩
      · exact .inl ⟨by simp[kHas,hx,h1],by simp[Instr.findNow,hs,h2]⟩
      · exact .inr ⟨by simp[kHas,h1],j+1,m',us',by simp[Instr.findNow,hs,h2]; omega,by simpa using h3,h4,h5,λz=>by simpa[kGet,hx]using h6 z,λys m'' hm'=>by simp only[kPut,hx,decide_false,cond_false,Amu]; exact⟨m,_,rfl,⟨hk,us,hr,hv⟩,h7 ys m'' hm'⟩⟩
theorem Ak6 {xs:List (Int×List C)} {n:Int} {z:List C} (h:kHas xs n=false):kGet xs n z=z:=by
 induction xs with
 |nil=>rfl
 |cons x r ih=>
  simp only[kHas,Bool.or_eq_false_iff]at h
  simp only[kGet,h.1,cond_false]
  exact ih h.2
theorem map_at {V:Vw} {H:Nat->Option HB} (hH:Heap V H) {k c:Nat} {u:Value} {kt:IntKind} {g:Bool} {e:List Sh} {c':Nat} {xs:List (Int×List C)} (hx:VR V (.own k c) u) (hk:H k=some (.mp kt g e c' xs)) (hc:c=c'):
 V.D k/\V.L k/\V.c k=c'/\∃b es clock,u= .map (some b)/\V.p k= .map (some b)/\V.w.heap[b]? =some (.map es clock)/\EntsRep V.w V.ok kt g e xs es.toList:=by
 simp only[VR]at hx;obtain⟨hd,_,_,hv⟩:=hx;obtain⟨hb,h1,h2⟩:=hH.rep k hd;rw[hk]at h1;injection h1 with h1; subst h1;obtain⟨hL,hcc,b,es,clock,hp,hh,hr⟩:=h2;exact⟨hd,hL,hcc,b,es,clock,by rw[hv (by rw[hcc,hc]),hp],hp,hh,hr⟩
theorem sLookup_run {t:TypeId} {heap heap':List HB} {hyp chk:Q} {x i r:SV} {u v:Value} {ck:Bool} {R W:List Nat} (h:AfP P t heap x i ck= .ok hyp chk r heap' R W) (hx:VR V x u) (hi:VR V i v) (hH:Heap V H)
 (hag:∀k,k∈R->V.D k->H k=heap[k]?):heap'=heap/\W=[]/\∃z,(Instr.lookup t u v ck).run P V.w= .ok z V.w/\VR V r z:=by
 unfold AfP at h;split at h
 · rename_i kt g e zs k c kj n l hm hn;obtain⟨key,elem,z,hu,hk,hg,hz,hzs,hzl,hsz,hge,hza⟩:=mapTy_inv hm;split at h
   · rename_i kt' g' e' c' xs hkh;split at h
     · rename_i hc;obtain⟨hcc,rfl,rfl,rfl,hse⟩:=hc;have hee:=shEqs_eq _ _ hse;subst hee;have hD:V.D k:=by simp only[VR]at hx; exact hx.1
       have key':∀(h1:heap'=heap) (h2:W=[]) (h3:R=[k]),heap'=heap/\W=[]/\∃q ok,(Instr.lookup t u v ck).run P V.w= .ok (if ck then .tuple #[q,.bool ok]else q) V.w/\VR V (Abg (g',e') (kGet xs n zs)) q/\ok=kHas xs n:=by
        rintro h1 h2 rfl;obtain⟨_,hL,_,b,es,clock,rfl,hp,hh,hr⟩:=map_at hH hx (by rw[hag k (by simp) hD]; exact hkh) hcc;have hv:=numOf_VR hn hi;subst hv;have hki:Go.MapKept.IsKey (.int kj) (.int kj n):=by simp[Go.MapKept.IsKey]
        refine⟨h1,h2,?_⟩;have hf:=findNow_ents (V:=V) n xs es.toList 0 hr;rcases hf with⟨hno,hf⟩|⟨hyes,j,m,us,hf,hj,hmk,hmv,hrep,_⟩
        · obtain⟨zv,hzv,hzc,hz1⟩:=run_zero hz V.w;refine⟨zv,false,?_,?_,hno.symm⟩
          · simp only[Instr.lookup,Sem.run_bind,Aa4 hu,Result.andThen_ok,Go.MapKept.run_getObj_map hh,Sem.run_pure,Go.MapKept.run_checkKey hk hki,Go.MapKept.run_findKey hk hf,hzv]
          · rw [Ak6 hno];have hvz := (toCs_vals V e' (ofVs z) zs [] z hzs (VRs_ofVs V z)).1;rw [AlZ (by omega)] at hvz;have hrz := AbC hvz hz1;have := Agu (V := V) (g := g') hrz hge;have hzo : oneVal g' z = zv := by
             exact AjE hza hz hzv (by rw[hzl]; exact hge)
            rw[hzo]at this;exact this
        · refine⟨m.val,true,?_,?_,hyes.symm⟩
          · simp only[Instr.lookup,Sem.run_bind,Aa4 hu,Result.andThen_ok,Go.MapKept.run_getObj_map hh,Sem.run_pure,Go.MapKept.run_checkKey hk hki,Go.MapKept.run_findKey hk hf]
          · rw[hmv]; exact Agu (hrep zs) hge
       split at h
       · rename_i hck;simp only[OpR.ok.injEq]at h;obtain⟨_,_,rfl,e4,e5,e6⟩:=h;obtain⟨a1,a2,q,ok,a3,a4,a5⟩:=key' e4.symm e6.symm e5.symm;refine⟨a1,a2,_,a3,?_⟩;simp only[hck,if_true,VR];exact⟨[q,.bool ok],rfl,by simp only[VRs]; exact⟨q,_,rfl,a4,.bool ok,_,rfl,by simp only[VR,a5],rfl⟩⟩
       · rename_i hck;simp only[OpR.ok.injEq]at h;obtain⟨_,_,rfl,e4,e5,e6⟩:=h;obtain⟨a1,a2,q,ok,a3,a4,a5⟩:=key' e4.symm e6.symm e5.symm;refine⟨a1,a2,_,a3,?_⟩;simp only[hck];exact a4
     · cases h
   · cases h
 · cases h
theorem Aid {α:Type} {l:List α} {i:Nat} {f:α->α} {m:α} (h:l[i]? =some m):l.modify i f=l.set i (f m):=by
 apply List.ext_getElem?;intro j;rw[List.getElem?_modify,List.getElem?_set];by_cases hij:i=j
 · subst hij;obtain⟨h1,h2⟩:=List.getElem?_eq_some_iff.1 h;simp[h1,h2]
 · simp[hij]
theorem AgO {w:World} {ok:Nat->Prop} {kt:IntKind} {g:Bool} {e:List Sh} {n:Int} {ys:List C} {m':MapEntry} (hm':Ah3 w ok kt g e (n,ys) m'):∀ {xs:List (Int×List C)} {ms:List MapEntry},EntsRep w ok kt g e xs ms->kHas xs n=false->EntsRep w ok kt g e (kPut xs n ys) (ms++[m'])
 |[],ms,h,_=>by
  simp only[EntsRep]at h;subst h;exact⟨m',[],rfl,hm',rfl⟩
 |x::r,ms,h,hn=>by
  obtain⟨m,t,rfl,hm,ht⟩:=h;simp only[kHas,Bool.or_eq_false_iff]at hn;simp only[kPut,hn.1,cond_false];exact⟨m,t++[m'],rfl,hm,AgO hm' ht hn.2⟩
theorem map_step {V:Vw} {H H':Nat->Option HB} (hH:Heap V H) {k:Nat} (hk:V.D k) (hL:V.L k) {b c:Nat} {es es':Array MapEntry} {clock clock':Nat} (hp:V.p k= .map (some b)) (hb:V.w.heap[b]? =some (.map es clock)) (hc:V.c k=c)
 {kt:IntKind} {g:Bool} {e:List Sh} {xs':List (Int×List C)} (hr:EntsRep V.w V.ok kt g e xs' es'.toList) (hk':H' k=some (.mp kt g e c xs')) (ho:∀j,V.D j->j≠k->H' j=H j):
 Grow V {V with w:= {V.w with heap:=V.w.heap.setIfInBounds b (.map es' clock')}} [k]/\Heap {V with w:= {V.w with heap:=V.w.heap.setIfInBounds b (.map es' clock')}} H':=by
 have hblk:blkOf (V.p k)=some b:=by rw[hp]; rfl
 have hset:=Go.MapKept.heap_set (o':= .map es' clock') hb;have hg:Grow V {V with w:= {V.w with heap:=V.w.heap.setIfInBounds b (.map es' clock')}} [k]:=
  Aeh rfl rfl rfl (by simp) λd hd hne=>hset.2 d λe=>hne k (by simp) hk hL (by rw[e]; exact hblk)
 refine⟨hg,⟨λj hj=> ?_,λj d hj hl hd=>by simpa using hH.lt j d hj hl hd,λd hd=>by simpa using hH.bd d hd,hH.nb,hH.inj⟩⟩;by_cases he:j=k
 · subst he;exact⟨_,hk',hL,hc,b,es',clock',hp,hset.1,EntsRep.mono hg.stays.ok _ _ hr⟩
 · obtain⟨hb',h2,h3⟩:=hH.rep j hj;refine⟨hb',by rw[ho j hj he]; exact h2,h3.mono hg.stays hj rfl (λh=>h) λd hl hd=>hset.2 d λe=>he ?_⟩;subst e;exact hH.inj j k _ hj hl hk hL hd hblk
theorem AcP {t:TypeId} {x i y:Operand} {heap heap':List HB} {hyp chk:Q} {sv:SV} {R W:List Nat} (ho:o.op= .mapUpdate t x i y∨o.op= .insert t x i y) (h:Aca P t heap (ev x) (ev i) (ev y)= .ok hyp chk sv heap' R W)
 (hx:VR V (ev x) (a.eval x)) (hi:VR V (ev i) (a.eval i)) (hy:VR V (ev y) (a.eval y)) (hH:Heap V H) (hag:∀k,k∈W->V.D k->H k=heap[k]?):Ab6 P o a V sv (newH heap heap' W H) W heap.length heap'.length:=by
 unfold Aca at h;split at h
 · rename_i kt g e zs k c kj n l hm hev hn;obtain⟨key,elem,z,hu,hk,hg,hz,hzs,hzl,hsz,hge,hza⟩:=mapTy_inv hm;split at h
   · rename_i kt' g' e' c' xs hkh;split at h
     · rename_i hc;obtain⟨hcc,rfl,rfl,rfl,hse⟩:=hc;have hee:=shEqs_eq _ _ hse;subst hee;split at h
       · rename_i ys hys;simp only[OpR.ok.injEq]at h;obtain⟨rfl,rfl,rfl,rfl,rfl,rfl⟩:=h;rw[hev]at hx;have hD:V.D k:=by simp only[VR]at hx; exact hx.1
         obtain⟨_,hL,hck,b,es,clock,hxv,hp,hh,hr⟩:=map_at hH hx (by rw[hag k (by simp) hD]; exact hkh) hcc;have hv:=numOf_VR hn hi;have hki:Go.MapKept.IsKey (.int kj) (.int kj n):=by simp[Go.MapKept.IsKey]
         have hk1:k<heap.length:=(List.getElem?_eq_some_iff.1 hkh).1;have hyv:=AcY hH hys hy;obtain⟨us,hus1,hus2⟩:∃us,RepVs V.w V.ok e' ys us/\a.eval y=oneVal g' us:=by
          cases g' with
          |true=>
           simp only[Abg,VR]at hyv
           obtain⟨us,h1,h2,h3⟩:=hyv
           exact⟨us,AbC h3 h2,by rw[h1]; rfl⟩
          |false=>
           have hl1:e'.length=1:=by simpa using hge
           obtain⟨s,rfl⟩:∃s,e'=[s]:=by
            match e',hl1 with
            |[s],_=>exact⟨s,rfl⟩
           simp only[Abg,ofCs,Al4]at hyv
           have hone:(a.eval y).oneCell'=true:=by
            have hr':=(Adi V s _ _).1 hyv
            cases s<;>simp only[RepC]at hr'
            · rw[hr']; rfl
            · rw[hr']; rfl
            · rw[hr']; rfl
            · obtain⟨_,_,_,hr',_⟩:=hr'; rw[hr']; rfl
           exact⟨[a.eval y],AjU (Ah9 hone ((Adi V s _ _).1 hyv)),rfl⟩
         have hent:∀born,Ah3 V.w V.ok kj g' e' (n,ys) ⟨.int kj n,a.eval y,born⟩:=λborn=>⟨rfl,us,hus1,by rw[hus2]; rfl⟩
         have fin:∀(es':Array MapEntry) clock',(Instr.mapUpdate t (a.eval x) (a.eval i) (a.eval y)).run P V.w= .ok () {V.w with heap:=V.w.heap.setIfInBounds b (.map es' clock')}->EntsRep V.w V.ok kj g' e' (kPut xs n ys) es'.toList->
          Ab6 P o a V .undef (newH heap (heap.set k (.mp kj g' e' c (kPut xs n ys))) [k] H) [k] heap.length (heap.set k (.mp kj g' e' c (kPut xs n ys))).length:=by
          intro es' clock' hrun hrep;obtain⟨hg,hH'⟩:=map_step (H':=newH heap (heap.set k (.mp kj g' e' c (kPut xs n ys))) [k] H) (es':=es') (clock':=clock') hH hD hL hp hh (hck.trans hcc.symm) hrep
           (by unfold newH; rw[if_pos (.inl (by simp))]; simp[hk1])
           (λj hj hne=>by unfold newH; rw[if_neg]; rintro(h|h)<;>first|(simp at h; exact hne h)|(simp at h; omega))
          intro K Q hK;unfold Oper.wp;have hex:(execOp a.eval o).run P V.w= .ok .skip {V.w with heap:=V.w.heap.setIfInBounds b (.map es' clock')}:=by
           rcases ho with ho|ho<;>simp only[execOp,ho,Sem.run_bind,hrun,Result.andThen_ok,Sem.run_pure]
          rw[hex];exact hK Go.undef _ hg (by simp[VR]) hH' λj=>⟨.inl,λh=>h.elim id (λh=>by simp at h; omega)⟩
         rcases findNow_ents (V:=V) n xs es.toList 0 hr with⟨hno,hf⟩|⟨hyes,j,m,us',hf,hj,hmk,hmv,hrep,hset⟩
         · refine fin (es.push ⟨.int kj n,a.eval y,clock⟩) (clock+1) ?_ (by rw[Array.toList_push]; exact AgO (hent clock) hr hno);rw[hxv,hv];simp only[Instr.mapUpdate,Sem.run_bind,Aa4 hu,Result.andThen_ok,Go.MapKept.run_getObj_map hh,Go.MapKept.run_checkKey hk hki,Go.MapKept.run_findKey hk hf,Go.MapKept.run_setObj_map _ hh]
         · have hjm:es[j]? =some m:=by simpa using hj
           refine fin (es.modify j λe=> {e with key:= .int kj n,val:=a.eval y}) clock ?_ ?_
           · rw[hxv,hv];rw[AmK]at hf;simp only[Instr.mapUpdate,Sem.run_bind,Aa4 hu,Result.andThen_ok,Go.MapKept.run_getObj_map hh,Go.MapKept.run_checkKey hk hki,Go.MapKept.run_findKey hk hf,hjm,AlM,Amj,hmk];simp only[Instr.keyThatStays,Instr.sameBits,beq_self_eq_true,Bool.and_self,if_true,Sem.run_pure,Result.andThen_ok,Go.MapKept.run_setObj_map _ hh]
           · rw[Array.toList_modify,Aid hj];exact hset ys _ (hent _)
       · cases h
     · cases h
   · cases h
 · cases h
end Go.Sx

