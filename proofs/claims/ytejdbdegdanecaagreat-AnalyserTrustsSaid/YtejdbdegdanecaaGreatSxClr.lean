import Derived.Test.YtejdbdegdanecaaGreatSxVcs
import Derived.Test.YtejdbdegdanecaaGreatSxWf
set_option linter.unusedVariables false
set_option linter.unusedSimpArgs false
namespace Go.Sx
open Go.RowKit
variable {P:Program} {V:Vw} {a:Act}
theorem run_clear_tail {w:World} {tS elem ty:TypeId} {z:List Value} {sz n l cap:Nat} {us:List Value} {a0:Option Addr} (hu:P.underlying tS=some (.slice elem)) (hz:AbJ P elem=some z) (hzl:z.length=sz) (hpos:0<sz)
 (hown:OwnRow w elem sz (.slice a0 n cap) n us) (hl:l<=n):
 ∃w',(Builtin.clear_ #[tS] ty #[.slice (if cap=l then a0 else a0.map (·.add (l*sz))) (n-l) (cap-l)]).run P w= .ok (.tuple #[]) w'/\OwnRow w' elem sz (.slice a0 n cap) n (us.take (l*sz)++(List.replicate (n-l) z).flatten)/\
  w'.os=w.os/\w'.tape=w.tape/\w'.output=w.output/\w'.heap.size=w.heap.size/\∀b,blkOf (.slice a0 n cap)≠some b->w'.heap[b]? =w.heap[b]? :=by
 have hl4:=AmT sz hl;by_cases hln:n-l=0
 · obtain rfl:l=n:=by omega
   refine⟨w,?_,?_,rfl,rfl,rfl,rfl,λ_ _=>rfl⟩
   · rw[hln];generalize (if cap=l then a0 else a0.map (·.add (l*sz)))=b
     cases b<;>simp[Builtin.clear_,run_underlying hu]
   · rw[hln,List.replicate_zero,List.flatten_nil,Ame,AlZ (by rw[hown.1]; omega)];exact hown
 · rcases hown.2 with⟨h0,_⟩|⟨g,cap',cur,hv,p1,p2,p3,p4,p5,p6⟩
   · omega
   · injection hv with r1 _ r3;subst r1; subst r3;obtain⟨v,hzv,hzc,hz1⟩:=run_zero hz w;have hne:¬cap=l:=by omega
     have hfl:(Builtin.zeroCells v.cells (n-l)).toList=(List.replicate (n-l) z).flatten:=by
      have:=AcB z sz (n-l) hzl hpos;unfold Builtin.zeroCells;rw[hzc];have hsz:z.toArray.size=sz:=by simpa using hzl
      rw[hsz]at this ⊢;rw[this]
     have hll:((List.replicate (n-l) z).flatten).length=(n-l)*sz:=by simp[Ang,Anm,Am8,hzl]
     have hc4:=AmT sz p3;have hsub:(n-l)*sz=n*sz-l*sz:=Nat.sub_mul _ _ _;have hst:=run_storeCells_at P g (l*sz) elem ((List.replicate (n-l) z).flatten) 0 cur w p2 (by rw[hll,p5]; omega) (λu hu=>by
      simp only[List.mem_flatten,AmO]at hu;obtain⟨q,⟨_,rfl⟩,hq⟩:=hu;exact hz1 u hq)
     simp only[AmC]at hst;refine⟨w.setRow g (cur.toList.take (l*sz)++(List.replicate (n-l) z).flatten++cur.toList.drop (l*sz+((List.replicate (n-l) z).flatten).length)).toArray,?_,⟨?_,.inr ⟨g,cap,_,rfl,p1,setRow_heap _ _ _ _ _ _ p2,p3,p4,?_,?_⟩⟩,rfl,rfl,rfl,setRow_size _ _ _,λb hb=>setRow_other _ _ _ _ ?_⟩;rotate_left
     · rw[AlF,AlN,hown.1,hll,hsub]; omega
     · simp only[Ana,AlF,AlN,Amk,AmJ,hll,p5,hsub]; omega
     · rw[List.take_append_of_le_length (by simp only[AlF,AlN,AmJ,hll,p5,hsub]; omega),AlZ (by simp only[AlF,AlN,AmJ,hll,p5,hsub]; omega),←p6,Anz];congr 2;omega
     · rintro rfl;exact hb (by simp[blkOf]; omega)
     · obtain⟨q,hq⟩:∃q,n-l=q+1:=⟨n-l-1,by omega⟩
       rw[if_neg hne];simp only[AlM,Addr.add_lit,AmK];rw[hq]at hfl hst ⊢;simp[Builtin.clear_,run_underlying hu,hzv,hfl,hst]
theorem Af2 {ops:Array Oper} {Q:Exit->Act->World->Prop} {s:St} {o3 o4:Oper} {K:St->Prop} (h:AeV P s o3 o4 K) {V0 V:Vw} {a:Act} (hg:Gro V0 V) (hr:StRep V a s) (hw:StWf s)
 (hq:∀a' V' s',Gro V0 V'->StRep V' a' s'->StWf s'->K s'->Q .normal a' V'.w):wpList P ops Q [o3,o4] a V.w:=by
 unfold AeV at h;split at h
 · rename_i t x y d c e1 e2 e3 e4 e5 e6;split at h
   · rename_i d' t' k v kt l b elem f1 f2 f3 f4 f5 f6;split at h
     · rename_i e ty w xs z sz g1 g2 g3;split at h
       · rename_i zs hzs;split at h
         · rename_i hc;obtain⟨c1,c2,c3,c4,c5,c6,c7,c8⟩:=hc;obtain⟨⟨h0,h1⟩,hK⟩:=h;simp only[pLe,iLen]at h0 h1;subst c1; subst c2; subst c4;have hkl:k<s.heap.length:=(List.getElem?_eq_some_iff.1 g1).1;have hx:=hr.ev x;rw[f4]at hx;simp only[VR]at hx;obtain⟨hd,hle,hsl,hv⟩:=hx;obtain⟨hb,q1,q2⟩:=hr.hp.rep k hd;rw[g1]at q1;injection q1 with q1;subst q1;obtain⟨hL,hcc,n,us,hown,hnx,hrow⟩:=q2;have hvp:=hv (by rw[c3,hcc]);obtain⟨m,rfl⟩:∃m:Nat,l=(m:Int):=⟨l.toNat,by omega⟩
           have hmn:m<=n:=by omega
           obtain⟨a0,cap,hpv,hn1,hn2⟩:=hown.slice;have hus:us.length=n*e.length:=hown.1;have hsb:=Abh (P:=P) (V:=V) (lo:=some (s.ev y)) (hi:=none) (l:=some (m:Int)) (h:=none) (vl:=some (a.eval y)) (vh:=none) (by simp[Abx,f5]) rfl (λx hx=>by injection hx with hx; subst hx; exact⟨_,rfl,hr.ev y⟩) (by simp) (by simp) (λ_=>rfl) (len:=n) (cap:=cap) (by simp only[geB]; omega) hn1 V.w;simp only[Anl,Amj,AmM]at hsb;have h3:(execOp a.eval o3).run P V.w= .ok (.value (.slice (if cap=m then a0 else a0.map (·.add (m*sz))) (n-m) (cap-m))) V.w:=by
            simp only[execOp,e1];refine AbK ?_;rw[hvp,hpv];simp only[Am1,AlM,Instr.sliceAt,Instr.slice,Sem.run_bind,Aa4 f6,Result.andThen_ok,hsb,run_size g3,Sem.run_pure]
           rw[hpv]at hown;obtain⟨w',hcl,hown',k1,k2,k3,k4,k5⟩:=run_clear_tail (P:=P) (tS:=t') (ty:=o4.type) (sz:=e.length) f6 g2 (by rw[c6]; exact c5) (by rw[←c5]; exact c7) hown hmn;rw[←c5]at hcl;have hsize:a.tmps.size=s.tmps.length:=by
            have:=VRs.len hr.tm;simpa using this
           have h4:(execOp (a.put (some d') (.slice (if cap=m then a0 else a0.map (·.add (m*sz))) (n-m) (cap-m))).eval o4).run P V.w= .ok (.value (.tuple #[])) w':=by
            have hc2:c.args= #[.tmp d']:=by rw[←AlV (xs:=c.args),f2]
            have hc3:c.argTypes= #[t']:=by rw[←AlV (xs:=c.argTypes),f3]
            have hev:(a.put (some d') (.slice (if cap=m then a0 else a0.map (·.add (m*sz))) (n-m) (cap-m))).eval (.tmp d')= .slice (if cap=m then a0 else a0.map (·.add (m*sz))) (n-m) (cap-m):=by
             simp[Act.eval,Act.put,AmA,hsize,c8]
            simp only[execOp,e4,resolve,f1,Sem.run_bind,Sem.run_pure,Result.andThen_ok,invoke];rw[hc3,hc2,show Array.map (a.put (some d') (.slice (if cap=m then a0 else a0.map (·.add (m*sz))) (n-m) (cap-m))).eval #[.tmp d']= #[(a.put (some d') (.slice (if cap=m then a0 else a0.map (·.add (m*sz))) (n-m) (cap-m))).eval (.tmp d')]from by simp,hev];simp only[builtin,Sem.run_bind,hcl,Result.andThen_ok,Sem.run_pure]
           have hone:∀u∈z,u.oneCell'=true:=by
            obtain⟨_,_,_,hz1⟩:=run_zero g2 V.w;exact hz1
           have hrw:RepRow V.w V.ok e (xs.take m++List.replicate (xs.length-m) zs) (us.take (m*e.length)++(List.replicate (n-m) z).flatten):=by
            rw[←hnx];exact(hrow.split' m (by omega)).1.append (RepRow.replicate (AcG V hzs hone) (n-m))
           have hxl:(xs.take m++List.replicate (xs.length-m) zs).length=n:=by
            simp only[AlF,AlN,Amx]; omega
           obtain⟨hgr,hH'⟩:=row_step (H':=λj=>(s.heap.set k (.row e ty w (xs.take m++List.replicate (xs.length-m) zs)))[j]?) hr.hp hd hL ⟨a0,n,cap,hpv⟩ (w':=w') (v':=V.p k) (c':=w) k1 k2 k3 (by omega) (by omega) (λ_=>rfl)
            (λb _ hb=>k5 b (by rw[←hpv]; exact hb)) (λb hb=>⟨.inl hb,by rw[k4]; exact hr.hp.lt k b hd hL hb⟩) (by rw[hxl,hpv]; exact hown') hrw (by simp[hkl]) (λj _ hne=>List.getElem?_set_ne (λe=>hne e.symm))
           have r1:StRep V (a.put (some d') (.slice (if cap=m then a0 else a0.map (·.add (m*sz))) (n-m) (cap-m))) (St.put ⟨s.tmps,s.heap⟩ (some d') .any):=StRep.put (heap:=s.heap) hr (Grow.refl V []).stays (by simp only[VR]) hr.hp hr.lt;have w1:StWf (St.put ⟨s.tmps,s.heap⟩ (some d') .any):=StWf.put (heap:=s.heap) hw (by simp[Wf]) hw.hp;have r2:=StRep.put (heap:=s.heap.set k (.row e ty w (xs.take m++List.replicate (xs.length-m) zs))) (d:=none) (x:= .any) (v:= .tuple #[]) r1 hgr.stays (by simp only[VR]) hH' (λj hj=>by rw[Am0]; exact hr.lt j hj);have hxs:=hw.hp _ _ g1;simp only[WfHB]at hxs;have hzw:WfCs e zs:=AcW hzs;have w2:StWf ⟨(St.put ⟨s.tmps,s.heap⟩ (some d') .any).tmps,s.heap.set k (.row e ty w (xs.take m++List.replicate (xs.length-m) zs))⟩:=⟨w1.tm,λj hb hj=>by
            rw[List.getElem?_set]at hj;by_cases hkj:k=j
            · rw [if_pos hkj] at hj;have hj' : some (HB.row e ty w (xs.take m ++ List.replicate (xs.length - m) zs)) = some hb := by
               first|exact hj|(rw[if_pos hkl]at hj; exact hj)|simpa[hkl]using hj
              injection hj' with hj';subst hj';simp only[WfHB];refine⟨by rw[hxl]; omega,λx hx=> ?_⟩;rcases AlY.1 hx with hx|hx
              · exact hxs.2 x (Al7 hx)
              · rw[List.eq_of_mem_replicate hx]; exact hzw
            · rw[if_neg hkj]at hj; exact hw.hp j hb hj⟩
           refine wpList_plain e2 λK1 hK1=> ?_;unfold Oper.wp;rw[h3];refine hK1 _ _ ?_;rw[e3];refine wpList_plain e5 λK2 hK2=> ?_;unfold Oper.wp;rw[h4];refine hK2 _ _ ?_;rw[e6];exact hq _ (V.upd k w' (V.p k) w) _ (hg.trans ⟨[k],hgr⟩) r2 w2 hK
         · cases h
       · cases h
     · cases h
   · cases h
 · cases h
theorem clrPair_pure {s:St} {o3 o4:Oper} {K:St->Prop} (h:AeV P s o3 o4 K) (hw:StWf s):∃s',K s'/\StWf s':=by
 unfold AeV at h;split at h
 · rename_i t x y d c e1 e2 e3 e4 e5 e6;split at h
   · rename_i d' t' k v kt l b elem f1 f2 f3 f4 f5 f6;split at h
     · rename_i e ty w xs z sz g1 g2 g3;split at h
       · rename_i zs hzs;split at h
         · rename_i hc;obtain⟨c1,c2,c3,c4,c5,c6,c7,c8⟩:=hc;obtain⟨⟨h0,h1⟩,hK⟩:=h;simp only[pLe,iLen]at h0 h1;have hkl:k<s.heap.length:=(List.getElem?_eq_some_iff.1 g1).1;have w1:StWf (St.put ⟨s.tmps,s.heap⟩ (some d) .any):=StWf.put (heap:=s.heap) hw (by simp[Wf]) hw.hp;have hxs:=hw.hp _ _ g1;simp only[WfHB]at hxs;have hzw:WfCs e zs:=AcW hzs;refine⟨_,hK,⟨w1.tm,λj hb hj=> ?_⟩⟩;rw[show(St.put ⟨s.tmps,s.heap.set k (.row e ty w (xs.take l.toNat++List.replicate (xs.length-l.toNat) zs))⟩ (some d) .any).heap=s.heap.set k (.row e ty w (xs.take l.toNat++List.replicate (xs.length-l.toNat) zs))from rfl,List.getElem?_set]at hj;by_cases hkj:k=j
           · rw [if_pos hkj] at hj;have hj' : some (HB.row e ty w (xs.take l.toNat ++ List.replicate (xs.length - l.toNat) zs)) = some hb := by
              first|exact hj|(rw[if_pos hkl]at hj; exact hj)|simpa[hkl]using hj
             injection hj' with hj';subst hj';simp only[WfHB];refine⟨by simp only[AlF,AlN,Amx]; omega,λx hx=> ?_⟩;rcases AlY.1 hx with hx|hx
             · exact hxs.2 x (Al7 hx)
             · rw[List.eq_of_mem_replicate hx]; exact hzw
           · rw[if_neg hkj]at hj; exact hw.hp j hb hj
         · cases h
       · cases h
     · cases h
   · cases h
 · cases h
end Go.Sx

