import Derived.Test.YtejdbdegdanecaaGreatSxRun
set_option linter.unusedVariables false
set_option linter.unusedSimpArgs false
namespace Go.Sx
open Go.RowKit
theorem VRs.len {V:Vw}:∀ {cs:List SV} {vs:List Value},VRs V cs vs->vs.length=cs.length
 |[],vs,h=>by simp only[VRs]at h; subst h; rfl
 |c::cs,vs,h=>by
  simp only[VRs]at h;obtain⟨v,r,rfl,_,h2⟩:=h;simp[VRs.len h2]
theorem VRs.get {V:Vw}:∀ {cs:List SV} {vs:List Value} (i:Nat) (c:SV),VRs V cs vs->cs[i]? =some c->∃v,vs[i]? =some v/\VR V c v
 |[],_,i,c,_,hc=>by simp at hc
 |d::cs,vs,i,c,h,hc=>by
  simp only[VRs]at h;obtain⟨v,r,rfl,h1,h2⟩:=h
  cases i with
  |zero=>simp at hc; subst hc; exact⟨v,rfl,h1⟩
  |succ i=>simpa using VRs.get i c h2 (by simpa using hc)
theorem VRs.drop {V:Vw}:∀ {cs:List SV} {vs:List Value} (n:Nat),VRs V cs vs->VRs V (cs.drop n) (vs.drop n)
 |[],vs,n,h=>by simp only[VRs]at h; subst h; simp[VRs]
 |c::cs,vs,0,h=>by simpa using h
 |c::cs,vs,n+1,h=>by
  simp only[VRs]at h;obtain⟨v,r,rfl,h1,h2⟩:=h;simpa using VRs.drop n h2
theorem VRs.take {V:Vw}:∀ {cs:List SV} {vs:List Value} (n:Nat),VRs V cs vs->VRs V (cs.take n) (vs.take n)
 |[],vs,n,h=>by simp only[VRs]at h; subst h; simp[VRs]
 |c::cs,vs,0,h=>by simp[VRs]
 |c::cs,vs,n+1,h=>by
  simp only[VRs]at h;obtain⟨v,r,rfl,h1,h2⟩:=h;simp only[List.take_succ_cons,VRs];exact⟨v,_,rfl,h1,VRs.take n h2⟩
theorem VRs.append {V:Vw}:∀ {cs ds:List SV} {vs us:List Value},VRs V cs vs->VRs V ds us->VRs V (cs++ds) (vs++us)
 |[],ds,vs,us,h,h'=>by simp only[VRs]at h; subst h; simpa using h'
 |c::cs,ds,vs,us,h,h'=>by
  simp only[VRs]at h;obtain⟨v,r,rfl,h1,h2⟩:=h;simp only[Anu,VRs];exact⟨v,_,rfl,h1,VRs.append h2 h'⟩
theorem VRs.map {V:Vw} {α:Type} (f:α->SV) (g:α->Value):∀(l:List α),(∀x∈l,VR V (f x) (g x))->VRs V (l.map f) (l.map g)
 |[],_=>by simp[VRs]
 |x::l,h=>by
  simp only[AmQ,VRs];exact⟨_,_,rfl,h x (by simp),VRs.map f g l λy hy=>h y (by simp[hy])⟩
theorem VRc.drop {V:Vw}:∀ {cs:List SV} {b o:Nat} (n:Nat),VRc V cs b o->VRc V (cs.drop n) b (o+n)
 |[],b,o,n,_=>by simp[VRc]
 |c::cs,b,o,0,h=>by simpa using h
 |c::cs,b,o,n+1,h=>by
  simp only[VRc]at h;have:=VRc.drop (V:=V) (cs:=cs) (b:=b) (o:=o+1) n h.2;simpa[Ami,Amh 1 n]using this
theorem VRc.take {V:Vw}:∀ {cs:List SV} {b o:Nat} (n:Nat),VRc V cs b o->VRc V (cs.take n) b o
 |[],b,o,n,_=>by simp[VRc]
 |c::cs,b,o,0,h=>by simp[VRc]
 |c::cs,b,o,n+1,h=>by
  simp only[VRc]at h;simp only[List.take_succ_cons,VRc];exact⟨h.1,VRc.take n h.2⟩
theorem VRc.vals {V:Vw}:∀ {cs:List SV} {b o:Nat},VRc V cs b o->∃vs,VRs V cs vs/\(∀v∈vs,v.oneCell'=true)/\∀(j:Nat) (v:Value),vs[j]? =some v->V.w.cell? ⟨b,o+j,none⟩=some v
 |[],b,o,_=>⟨[],by simp[VRs]⟩
 |c::cs,b,o,h=>by
  simp only[VRc]at h;obtain⟨⟨u,hu,h1,hr⟩,h2⟩:=h;obtain⟨vs,hs,ho,hj⟩:=VRc.vals h2;refine⟨u::vs,by simp only[VRs]; exact⟨u,vs,rfl,hr,hs⟩,λv hv=> ?_,λj v hv=> ?_⟩
  · rcases Amd.1 hv with rfl|hv
    · exact h1
    · exact ho v hv
  · cases j with
    |zero=>simp at hv; subst hv; exact hu
    |succ j=>rw[show o+(j+1)=o+1+j by omega]; exact hj j v (by simpa using hv)
theorem VRc.of_block {V:Vw} {b:Nat} {vs:List Value} {t:TypeId} {fr:Nat×Nat} (hb:V.w.heap[b]? =some (.cells vs.toArray t fr)) (h1:∀v∈vs,v.oneCell'=true):
 ∀(cs:List SV) (o:Nat),VRs V cs (vs.drop o)->VRc V cs b o
 |[],_,_=>by simp[VRc]
 |c::cs,o,h=>by
  simp only[VRs]at h;obtain⟨v,r,hv,hr,h2⟩:=h;have ho:vs[o]? =some v:=by
   have:=congrArg (λl:List Value=>l[0]?) hv;simpa using this
  simp only[VRc];refine⟨⟨v,?_,h1 v (Amm ho),hr⟩,VRc.of_block hb h1 cs (o+1) ?_⟩
  · rw[cell_of_row V.w b o vs.toArray t fr hb]; simpa using ho
  · have:vs.drop (o+1)=r:=by rw[←Anv,hv]; rfl
    rw[this]; exact h2
theorem Akq (V:Vw) (v:Value):VR V (ofV v) v:=by
 unfold ofV;split<;>(try split)<;>simp[VR]
theorem VRs_ofVs (V:Vw) (l:List Value):VRs V (ofVs l) l:=by
 have:=VRs.map (V:=V) ofV id l λx _=>Akq V x;simpa[ofVs]using this
theorem AfH (V:Vw) (v:Value):VR V (AeH v) v:=by
 unfold AeH;split
 · rename_i cs;split
   · rename_i h;simp only[VR];exact⟨cs.toList,by simp,λu hu=>by simpa using(Al6.1 h) u hu,VRs_ofVs V _⟩
   · simp[VR]
 · rename_i cs;split
   · rename_i h;simp only[VR,Go.undef];simp only[List.isEmpty_iff,Array.toList_eq_nil_iff]at h;rw[h]
   · simp[VR]
 · exact Akq V _
theorem Ajw {v:Value} (h:v.oneCell'=true):v.cells=[v].toArray:=by cases v<;>first|rfl|simp[Value.oneCell']at h
theorem svCells_rep {V:Vw} {H:Nat->Option HB} (hH:Heap V H) {x:SV} {v:Value} {cs:List SV} (hr:VR V x v) (hc:svCells x=some cs):
 ∃vs,v.cells=vs.toArray/\(∀u∈vs,u.oneCell'=true)/\VRs V cs vs:=by
 have one:v.oneCell'=true->svCells x=some [x]->cs=[x]->∃vs,v.cells=vs.toArray/\(∀u∈vs,u.oneCell'=true)/\VRs V cs vs:=λh _ he=>by
  subst he;exact⟨[v],Ajw h,by simpa using h,by simp only[VRs]; exact⟨v,[],rfl,hr,rfl⟩⟩
 cases x with
 |agg ds=>
  simp only[svCells]at hc
  injection hc with hc; subst hc
  simp only[VR]at hr
  obtain⟨vs,rfl,h1,h2⟩:=hr
  exact⟨vs,rfl,h1,h2⟩
 |any=>simp[svCells]at hc
 |undef=>simp[svCells]at hc
 |tup ds=>simp[svCells]at hc
 |own k c=>
  simp only[VR]at hr
  obtain⟨_,_,⟨_,_,_,rfl⟩|⟨_,rfl⟩,_⟩:=hr
  · exact one rfl rfl (by simp only[svCells]at hc; injection hc with hc; exact hc.symm)
  · exact one rfl rfl (by simp only[svCells]at hc; injection hc with hc; exact hc.symm)
 |ownl k c xs=>
  simp only[VR]at hr
  obtain⟨_,a,m,rfl⟩:=hr
  exact one rfl rfl (by simp only[svCells]at hc; injection hc with hc; exact hc.symm)
 |rref k c sz i off=>
  simp only[VR]at hr
  obtain⟨_,_,⟨_,_,rfl⟩,_⟩:=hr
  exact one rfl rfl (by simp only[svCells]at hc; injection hc with hc; exact hc.symm)
 |ownv k c sz lo n=>
  simp only[VR]at hr
  obtain⟨_,_,⟨_,_,_,rfl⟩,_⟩:=hr
  exact one rfl rfl (by simp only[svCells]at hc; injection hc with hc; exact hc.symm)
 |emp=>
  simp only[VR]at hr
  obtain⟨_,rfl⟩:=hr
  exact one rfl rfl (by simp only[svCells]at hc; injection hc with hc; exact hc.symm)
 |sl e xs=>
  simp only[VR,RepC]at hr
  obtain⟨_,_,_,rfl,_⟩:=hr
  exact one rfl rfl (by simp only[svCells]at hc; injection hc with hc; exact hc.symm)
 |slc e xs=>
  simp only[VR]at hr
  obtain⟨_,_,_,rfl⟩:=hr
  exact one rfl rfl (by simp only[svCells]at hc; injection hc with hc; exact hc.symm)
 |nilq xs=>
  simp only[VR]at hr
  obtain⟨_,rfl,_⟩:=hr
  exact one rfl rfl (by simp only[svCells]at hc; injection hc with hc; exact hc.symm)
 |slit n sz ds=>
  simp only[VR]at hr
  obtain⟨_,_,rfl,_⟩:=hr
  exact one rfl rfl (by simp only[svCells]at hc; injection hc with hc; exact hc.symm)
 |ref k off=>
  simp only[VR]at hr
  obtain⟨_,_,_,rfl⟩:=hr
  exact one rfl rfl (by simp only[svCells]at hc; injection hc with hc; exact hc.symm)
 |cref ds=>
  simp only[VR]at hr
  obtain⟨_,_,rfl,_⟩:=hr
  exact one rfl rfl (by simp only[svCells]at hc; injection hc with hc; exact hc.symm)
 |fn f ds=>
  simp only[VR]at hr
  obtain⟨_,rfl,_⟩:=hr
  exact one rfl rfl (by simp only[svCells]at hc; injection hc with hc; exact hc.symm)
 |_=>
  simp only[VR]at hr
  subst hr
  exact one rfl rfl (by simp only[svCells]at hc; injection hc with hc; exact hc.symm)
end Go.Sx

