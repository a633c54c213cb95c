import Derived.Test.YtejdbdegdanecaaGreatSxOps
import Derived.Laws.CopyRow
import Derived.Laws.Rows
set_option linter.unusedVariables false
set_option linter.unusedSimpArgs false
namespace Go.Sx
open Go.RowKit
def Ab6 (P:Program) (o:Oper) (a:Act) (V:Vw) (r:SV) (H':Nat->Option HB) (W:List Nat) (n0 n1:Nat):Prop:=
 ∀(K:Act->World->Prop) (Q:Exit->Act->World->Prop),
  (∀v V',Grow V V' W->VR V' r v->Heap V' H'->(∀k,V'.D k↔V.D k∨(n0<=k/\k<n1))->K (a.put o.dst v) V'.w)->o.wp P a V.w K Q
variable {P:Program} {o:Oper} {a:Act} {V:Vw} {H:Nat->Option HB}
theorem Ag9 {r:SV} {v:Value} {n:Nat} {W:List Nat} (hrun:(execOp a.eval o).run P V.w= .ok (.value v) V.w) (hv:VR V r v) (hH:Heap V H):Ab6 P o a V r H W n n:=by
 intro K Q hK;unfold Oper.wp;rw[hrun];exact hK v V (Grow.refl V W) hv hH (λk=>⟨.inl,λh=>h.elim id (λh=>by omega)⟩)
theorem Heap.congr {V:Vw} {H H':Nat->Option HB} (h:Heap V H) (he:∀k,V.D k->H' k=H k):Heap V H':=
 ⟨λk hk=>by rw[he k hk]; exact h.rep k hk,h.lt,h.bd,h.nb,h.inj⟩
theorem HBRep.mono {V V':Vw} {k:Nat} {hb:HB} (hs:Aim V V') (hd:V.D k) (hc:V'.c k=V.c k) (hl:V.L k->V'.L k) (hb':∀b,V.L k->blkOf (V.p k)=some b->V'.w.heap[b]? =V.w.heap[b]?) (h:HBRep V k hb):HBRep V' k hb:=by
 have hp:=hs.p k hd hc
 cases hb with
 |box cells t=>
  obtain⟨hL,b,vs,hp',hh,h1,hr⟩:=h
  exact⟨hl hL,b,vs,by rw[hp]; exact hp',by rw[hb' b hL (by rw[hp']; rfl)]; exact hh,h1,VRs.mono hs _ _ hr⟩
 |row e t c xs=>
  obtain⟨hL,hcc,n,us,hown,hn,hr⟩:=h
  refine⟨hl hL,by rw[hc]; exact hcc,n,us,?_,hn,RepRow.mono hs.ok e xs us hr⟩
  rw[hp]
  refine⟨hown.1,?_⟩
  rcases hown.2 with h|⟨g,cap,cur,hv,h0,hh,r⟩
  · exact .inl h
  · refine .inr ⟨g,cap,cur,hv,h0,?_,r⟩
    rw[hb' g hL (by rw[hv]; simp only[blkOf]; rw[if_neg (by omega)])]; exact hh
 |froz e c xs=>
  obtain⟨hcc,hr⟩:=h
  refine⟨by rw[hc]; exact hcc,?_⟩
  rw[hp]
  exact RepC.mono hs.ok _ _ _ hr
 |mp kt g e c xs=>
  obtain⟨hL,hcc,b,es,clock,hp',hh,hr⟩:=h
  exact⟨hl hL,by rw[hc]; exact hcc,b,es,clock,by rw[hp]; exact hp',by rw[hb' b hL (by rw[hp']; rfl)]; exact hh,EntsRep.mono hs.ok _ _ hr⟩
 |hrow t c n i x f=>
  obtain⟨hL,hcc,us,hown,hone,hr⟩:=h
  refine⟨hl hL,by rw[hc]; exact hcc,us,?_,hone,λj hj=>⟨λhe u hu=>VR.mono hs _ _ ((hr j hj).1 he u hu),(hr j hj).2⟩⟩
  rw[hp]
  refine⟨hown.1,?_⟩
  rcases hown.2 with h|⟨g,cap,cur,hv,h0,hh,r⟩
  · exact .inl h
  · refine .inr ⟨g,cap,cur,hv,h0,?_,r⟩
    rw[hb' g hL (by rw[hv]; simp only[blkOf]; rw[if_neg (by omega)])]; exact hh
 |gone=>exact h.elim
def Vw.new (V:Vw) (n:Nat) (o:Obj):Vw:= {w:=V.w.alloc o,D:=λk=>V.D k∨k=n,L:=λk=>V.L k∨k=n,c:=λk=>if k=n then 0 else V.c k,p:=λk=>if k=n then .pointer (some ⟨V.w.heap.size,0,none⟩)else V.p k,bad:=V.bad}
theorem AhU {V:Vw} {n:Nat} (hn:¬V.D n) (o:Obj) (W:List Nat):Grow V (V.new n o) W where
 os:=rfl
 tape:=rfl
 output:=rfl
 bad:=Ahk rfl
 size:=by show _<=(V.w.alloc o).heap.size; rw[World.size_alloc]; omega
 D k hk:= .inl hk
 c k hk:=by simp only[Vw.new]; rw[if_neg (by rintro rfl; exact hn hk)]; exact AlT _
 p k hk _:=by simp only[Vw.new]; rw[if_neg (by rintro rfl; exact hn hk)]
 pp k a hk he:=by simp only[Vw.new]; rw[if_neg (by rintro rfl; exact hn hk)]; exact he
 L k hk hl:=hl.elim id (λh=>by subst h; exact(hn hk).elim)
 mv k hk hl b hb:=by simp only[Vw.new]at hb; rw[if_neg (by rintro rfl; exact hn hk)]at hb; exact .inl hb
 blk b hb _:=Below.heap_alloc V.w o b hb
 new k hk hl hk' b hb:=by
  rcases hk with hk|rfl
  · exact(hk' hk).elim
  · simp only[Vw.new,if_pos,blkOf]at hb;injection hb with hb; omega
theorem Aj3 {V:Vw} {H:Nat->Option HB} (hH:Heap V H) {n:Nat} (hn:¬V.D n) {cs:List SV} {vs:List Value} {t:TypeId} (h1:∀v∈vs,v.oneCell'=true) (hr:VRs V cs vs) {H':Nat->Option HB}
 (hn':H' n=some (.box cs t)) (hk':∀k,V.D k->H' k=H k):Heap (V.new n (.cells vs.toArray t)) H':=by
 have hg:=AhU hn (.cells vs.toArray t) [];have old:∀k,(V.new n (.cells vs.toArray t)).D k->(V.new n (.cells vs.toArray t)).L k->k≠n->V.D k/\V.L k:=λk hk hl he=>⟨hk.elim id λh=>(he h).elim,hl.elim id λh=>(he h).elim⟩
 refine⟨λk hk=> ?_,λk b hk hl hb=> ?_,λb hb=>Amg (hH.bd b hb) hg.size,λk b hk hl hb=> ?_,λk k' b hk hl hk' hl' hb hb'=> ?_⟩
 · by_cases he:k=n
   · subst he;refine⟨_,hn',.inr rfl,V.w.heap.size,vs,by simp[Vw.new],heap_alloc_new V.w _,h1,VRs.mono hg.stays _ _ hr⟩
   · have hd:V.D k:=hk.elim id (λh=>(he h).elim);obtain⟨hb,h2,h3⟩:=hH.rep k hd;exact⟨hb,by rw[hk' k hd]; exact h2,h3.mono hg.stays hd (by simp[Vw.new,he]) .inl λb hl hb=>hg.blk b (hH.lt k b hd hl hb) (by simp)⟩
 · simp only[Vw.new]at hb ⊢;by_cases he:k=n
   · subst he;simp only[if_pos,blkOf]at hb;injection hb with hb; subst hb;rw[World.size_alloc]; omega
   · rw[if_neg he]at hb;have:=hH.lt k b (old k hk hl he).1 (old k hk hl he).2 hb;rw[World.size_alloc]; omega
 · by_cases he:k=n
   · subst he;simp only[Vw.new,if_pos,blkOf]at hb ⊢;injection hb with hb; subst hb;intro h; have:=hH.bd _ h; omega
   · simp only[Vw.new]at hb;rw[if_neg he]at hb;exact hH.nb k b (old k hk hl he).1 (old k hk hl he).2 hb
 · simp only[Vw.new]at hb hb';by_cases he:k=n<;>by_cases he':k'=n
   · omega
   · rw[if_pos he]at hb; rw[if_neg he']at hb';have:=hH.lt k' b (old k' hk' hl' he').1 (old k' hk' hl' he').2 hb';simp only[blkOf]at hb; injection hb with hb; omega
   · rw[if_neg he]at hb; rw[if_pos he']at hb';have:=hH.lt k b (old k hk hl he).1 (old k hk hl he).2 hb;simp only[blkOf]at hb'; injection hb' with hb'; omega
   · rw[if_neg he]at hb; rw[if_neg he']at hb';exact hH.inj k k' b (old k hk hl he).1 (old k hk hl he).2 (old k' hk' hl' he').1 (old k' hk' hl' he').2 hb hb'
theorem Heap.grow {V V':Vw} {H:Nat->Option HB} (hH:Heap V H) (hg:Grow V V' []) (hD:∀k,V'.D k->V.D k) (hc:∀k,V.D k->V'.c k=V.c k) (hL:∀k,V.D k->V.L k->V'.L k):Heap V' H:=by
 refine⟨λk hk=> ?_,λk b hk hl hb=> ?_,λb hb=> ?_,λk b hk hl hb=> ?_,λk k' b hk hl hk' hl' hb hb'=> ?_⟩
 · obtain⟨hb,h1,h2⟩:=hH.rep k (hD k hk);exact⟨hb,h1,h2.mono hg.stays (hD k hk) (hc k (hD k hk)) (hL k (hD k hk)) λb hl hb=>hg.blk b (hH.lt k b (hD k hk) hl hb) (by simp)⟩
 · rw[hg.p k (hD k hk) (hc k (hD k hk))]at hb;exact Amg (hH.lt k b (hD k hk) (hg.L k (hD k hk) hl) hb) hg.size
 · rcases(hg.bad b).2 hb with hb|hb
   · exact Amg (hH.bd b hb) hg.size
   · exact hb.2
 · rw[hg.p k (hD k hk) (hc k (hD k hk))]at hb;intro hx;rcases(hg.bad b).2 hx with hx|hx
   · exact hH.nb k b (hD k hk) (hg.L k (hD k hk) hl) hb hx
   · have:=hH.lt k b (hD k hk) (hg.L k (hD k hk) hl) hb; omega
 · rw[hg.p k (hD k hk) (hc k (hD k hk))]at hb;rw[hg.p k' (hD k' hk') (hc k' (hD k' hk'))]at hb';exact hH.inj k k' b (hD k hk) (hg.L k (hD k hk) hl) (hD k' hk') (hg.L k' (hD k' hk') hl') hb hb'
theorem AgL {cs:List SV} {vs:List Value} {t:TypeId} {n:Nat} {H':Nat->Option HB} (hn:¬V.D n)
 (hrun:(execOp a.eval o).run P V.w= .ok (.value (.pointer (some ⟨V.w.heap.size,0,none⟩))) (V.w.alloc (.cells vs.toArray t)))
 (h1:∀v∈vs,v.oneCell'=true) (hr:VRs V cs vs) (hH:Heap V H) (hn':H' n=some (.box cs t)) (hk':∀k,V.D k->H' k=H k):Ab6 P o a V (.ref n 0) H' [] n (n+1):=by
 intro K Q hK;unfold Oper.wp;rw[hrun];refine hK _ (V.new n (.cells vs.toArray t)) (AhU hn _ _) ?_ (Aj3 hH hn h1 hr hn' hk') λk=> ?_
 · simp only[VR];exact⟨.inr rfl,V.w.heap.size,by simp[Vw.new],rfl⟩
 · simp only[Vw.new];constructor
   · rintro(h|h)
     · exact .inl h
     · exact .inr (by omega)
   · rintro(h|h)
     · exact .inl h
     · exact .inr (by omega)
end Go.Sx

