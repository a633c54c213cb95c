import Derived.Test.YtejdbdegdanecaaGreatSxSound
set_option linter.unusedVariables false
set_option linter.unusedSimpArgs false
namespace Go.Sx
open Go.RowKit
variable {P:Program}
theorem RepVs.len {w:World} {ok:Nat->Prop}:∀ {e:List Sh} {cs:List C} {us:List Value},RepVs w ok e cs us->us.length=e.length
 |[],_,us,h=>by simp only[RepVs]at h; subst h; rfl
 |s::r,cs,us,h=>by
  simp only[RepVs]at h;obtain⟨u,t,rfl,_,_,h⟩:=h;simp[RepVs.len h]
theorem RepVs.one {w:World} {ok:Nat->Prop}:∀ {e:List Sh} {cs:List C} {us:List Value},RepVs w ok e cs us->∀u∈us,u.oneCell'=true
 |[],_,us,h=>by simp only[RepVs]at h; subst h; simp
 |s::r,cs,us,h=>by
  simp only[RepVs]at h;obtain⟨u,t,rfl,h1,_,h⟩:=h;intro v hv;rcases Amd.1 hv with rfl|hv
  · exact h1
  · exact RepVs.one h v hv
theorem RepRow.len {w:World} {ok:Nat->Prop} {e:List Sh}:∀ {xs:List (List C)} {us:List Value},RepRow w ok e xs us->us.length=xs.length*e.length
 |[],us,h=>by simp only[RepRow]at h; subst h; simp
 |x::r,us,h=>by
  simp only[RepRow]at h;obtain⟨a,t,rfl,h1,h2⟩:=h;simp[RepVs.len h1,RepRow.len h2,Amz,Amh]
theorem RepRow.one {w:World} {ok:Nat->Prop} {e:List Sh}:∀ {xs:List (List C)} {us:List Value},RepRow w ok e xs us->∀u∈us,u.oneCell'=true
 |[],us,h=>by simp only[RepRow]at h; subst h; simp
 |x::r,us,h=>by
  simp only[RepRow]at h;obtain⟨a,t,rfl,h1,h2⟩:=h;intro v hv;rcases AlY.1 hv with hv|hv
  · exact h1.one v hv
  · exact h2.one v hv
theorem RepRow.append {w:World} {ok:Nat->Prop} {e:List Sh}:∀ {xs ys:List (List C)} {us vs:List Value},RepRow w ok e xs us->RepRow w ok e ys vs->RepRow w ok e (xs++ys) (us++vs)
 |[],ys,us,vs,h,h'=>by simp only[RepRow]at h; subst h; simpa using h'
 |x::r,ys,us,vs,h,h'=>by
  simp only[RepRow]at h;obtain⟨a,t,rfl,h1,h2⟩:=h;simp only[Anu,RepRow];exact⟨a,t++vs,by simp,h1,RepRow.append h2 h'⟩
theorem RepVs.cells {w:World} {ok:Nat->Prop} {b:Nat}:∀ {e:List Sh} {cs:List C} {us:List Value} {o:Nat},RepVs w ok e cs us->(∀(j:Nat) (u:Value),us[j]? =some u->w.cell? ⟨b,o+j,none⟩=some u)->RepCs w ok e cs b o
 |[],_,_,_,_,_=>by simp only[RepCs]
 |s::r,cs,us,o,h,hc=>by
  simp only[RepVs]at h;obtain⟨u,t,rfl,h1,h2,h3⟩:=h;simp only[RepCs];exact⟨⟨u,hc 0 u rfl,h1,h2⟩,RepVs.cells h3 λj v hv=>by rw[show o+1+j=o+(j+1) by omega]; exact hc (j+1) v (by simpa using hv)⟩
theorem RepRow.at {w:World} {ok:Nat->Prop} {e:List Sh}:∀ {xs:List (List C)} {us:List Value},RepRow w ok e xs us->∀i,i<xs.length->RepVs w ok e (xs.getD i []) ((us.drop (i*e.length)).take e.length)
 |[],_,_,i,hi=>by simp at hi
 |x::r,us,h,i,hi=>by
  simp only[RepRow]at h;obtain⟨a,t,rfl,h1,h2⟩:=h;have hl:=h1.len
  cases i with
  |zero=>simp only[Nat.zero_mul,List.drop_zero,Al2]; rw[List.take_left' hl]; exact h1
  |succ i=>
   have:=RepRow.at h2 i (by simpa using hi)
   rw[AlU,Amz,AnA,Amh (i*e.length),←Anv,←hl,List.drop_left,hl]
   exact this
theorem RepRow.cells {w:World} {ok:Nat->Prop} {e:List Sh} {xs:List (List C)} {us:List Value} {b o:Nat} (h:RepRow w ok e xs us) (hc:∀(j:Nat) (u:Value),us[j]? =some u->w.cell? ⟨b,o+j,none⟩=some u):
 ∀i,i<xs.length->RepCs w ok e (xs.getD i []) b (o+i*e.length):=λi hi=>by
 refine RepVs.cells (h.at i hi) λj u hu=> ?_;rw[List.getElem?_take]at hu;split at hu
 · rw[List.getElem?_drop]at hu;rw[Ami]; exact hc _ u hu
 · cases hu
theorem RepCs.vals {w:World} {ok:Nat->Prop} {b:Nat}:∀ {e:List Sh} {cs:List C} {o:Nat},RepCs w ok e cs b o->∃us,RepVs w ok e cs us/\∀(j:Nat) (u:Value),us[j]? =some u->w.cell? ⟨b,o+j,none⟩=some u
 |[],_,_,_=>⟨[],by simp[RepVs]⟩
 |s::r,cs,o,h=>by
  simp only[RepCs]at h;obtain⟨⟨u,hu,h1,h2⟩,h3⟩:=h;obtain⟨us,h4,h5⟩:=RepCs.vals h3;refine⟨u::us,by simp only[RepVs]; exact⟨u,us,rfl,h1,h2,h4⟩,λj v hv=> ?_⟩
  cases j with
  |zero=>simp at hv; subst hv; exact hu
  |succ j=>rw[show o+(j+1)=o+1+j by omega]; exact h5 j v (by simpa using hv)
theorem RepRow.of_cells {w:World} {ok:Nat->Prop} {e:List Sh} {b:Nat}:∀ {xs:List (List C)} {o:Nat},(∀i,i<xs.length->RepCs w ok e (xs.getD i []) b (o+i*e.length))->
 ∃us,RepRow w ok e xs us/\∀(j:Nat) (u:Value),us[j]? =some u->w.cell? ⟨b,o+j,none⟩=some u
 |[],_,_=>⟨[],by simp[RepRow]⟩
 |x::r,o,h=>by
  obtain⟨a,h1,h2⟩:=RepCs.vals (by simpa using h 0 (by simp));obtain⟨t,h3,h4⟩:=RepRow.of_cells (xs:=r) (o:=o+e.length) λi hi=>by
   have:=h (i+1) (by simpa using hi);rw[AlU]at this;rw[Ami,←AnA e.length,←Nat.mul_assoc,←Amz,Nat.mul_one,Amh 1 i]; exact this
  have hl:=h1.len;refine⟨a++t,by simp only[RepRow]; exact⟨a,t,rfl,h1,h3⟩,λj u hu=> ?_⟩;rw[List.getElem?_append]at hu;split at hu
  · exact h2 j u hu
  · have:=h4 _ u hu;rw[show o+e.length+(j-a.length)=o+j by omega]at this;exact this
theorem OwnRow.cells {w:World} {t:TypeId} {sz n:Nat} {us:List Value} {g cap:Nat} (h:OwnRow w t sz (.slice (some ⟨g,0,none⟩) n cap) n us) (h0:0<cap):∀(j:Nat) (u:Value),us[j]? =some u->w.cell? ⟨g,j,none⟩=some u:=by
 intro j u hu;rcases h.2 with⟨_,a,ha⟩|⟨g',cap',cur,hv,_,hh,_,_,_,htake⟩
 · injection ha with _ _ hc; omega
 · injection hv with hv _ _;injection hv with hv;injection hv with hv _ _;subst hv;rw[cell_of_row w g j cur t (0,0) hh];rw[←htake,List.getElem?_take]at hu;split at hu
   · simpa using hu
   · cases hu
theorem OwnRow.slice {w:World} {t:TypeId} {sz n:Nat} {us:List Value} {v:Value} (h:OwnRow w t sz v n us):∃a cap,v= .slice a n cap/\n<=cap/\cap<=maxLen:=by
 rcases h.2 with⟨rfl,a,rfl⟩|⟨g,cap,cur,rfl,_,_,h1,h2,_⟩
 · exact⟨a,0,rfl,AlT _,by simp[maxLen]⟩
 · exact⟨_,cap,rfl,h1,h2⟩
theorem Akk {w:World} {ok ok':Nat->Prop} {t:TypeId} {e:List Sh} {xs:List (List C)} {us:List Value} {v:Value} {n:Nat} (h:OwnRow w t e.length v n us) (hn:n=xs.length) (hr:RepRow w ok e xs us)
 (hok:∀b,ok b->ok' b) (hb:∀b,blkOf v=some b->ok' b):RepC w ok' (.sl e) (.l xs) v:=by
 simp only[RepC,C.list];obtain⟨a,cap,rfl,h1,h2⟩:=h.slice;refine⟨a,n,cap,rfl,h1,h2,hn,?_⟩;rcases h.2 with⟨h0,_⟩|⟨g,cap',cur,hv,h0,hh,_⟩
 · exact .inl h0
 · injection hv with hv _ hcc;subst hv; subst hcc;refine .inr ⟨g,0,rfl,hb g (by simp only[blkOf]; rw[if_neg (by omega)]),λi hi=> ?_⟩;have:=RepRow.cells (b:=g) (o:=0) (hr.mono (ok':=ok') (λb hb=>⟨hok b hb,rfl⟩) e) (λj u hu=>by rw[AmK]; exact h.cells h0 j u hu) i (by omega);exact this
def AfZ:HB->Bool| .row _ _ _ _=>true|_=>false
def hbFrz:HB->HB| .row e _ c xs=> .froz e c xs|h=>h
def Vw.frz (V:Vw) (H:Nat->Option HB) (ids:List Nat):Vw:= {V with L:=λk=>V.L k/\¬(k∈ids/\(H k).map AfZ=some true)}
theorem AbE (V:Vw) (H:Nat->Option HB) (ids W:List Nat):Grow V (V.frz H ids) W:=
 ⟨rfl,rfl,rfl,Ahk rfl,AlT _,λ_ h=>h,λ_ _=>AlT _,λ_ _ _=>rfl,λ_ _ _ h=>h,λ_ _ h=>h.1,λ_ _ _ _ h=> .inl h,λ_ _ _=>rfl,λ_ h _ h'=>(h' h).elim⟩
theorem AgN {V:Vw} {H:Nat->Option HB} {ids:List Nat} {b:Nat} (h:V.ok b):(V.frz H ids).ok b:=⟨h.1,h.2.1,λk hd hl=>h.2.2 k hd hl.1⟩
theorem Ajn {V:Vw} {H:Nat->Option HB} (hH:Heap V H) {ids:List Nat} {k b:Nat} (hd:V.D k) (hl:V.L k) (hk:k∈ids) (hr:(H k).map AfZ=some true) (hb:blkOf (V.p k)=some b):(V.frz H ids).ok b:=
 ⟨hH.lt k b hd hl hb,hH.nb k b hd hl hb,λj hjd hjl hjb=>hjl.2 (by
  have:=hH.inj j k b hjd hjl.1 hd hl hjb hb;subst this; exact⟨hk,hr⟩)⟩
theorem Abt {V:Vw} {H:Nat->Option HB} (hH:Heap V H) (ids:List Nat):Heap (V.frz H ids) (λk=>if k∈ids then(H k).map hbFrz else H k):=by
 have hg:=AbE V H ids [];refine⟨λk hd=> ?_,λk b hd hl hb=>hH.lt k b hd hl.1 hb,hH.bd,λk b hd hl hb=>hH.nb k b hd hl.1 hb,λk k' b hd hl hd' hl' hb hb'=>hH.inj k k' b hd hl.1 hd' hl'.1 hb hb'⟩;obtain⟨hb,h1,h2⟩:=hH.rep k hd;by_cases hk:k∈ids
 · simp only[if_pos hk,h1,AlM];refine⟨_,rfl,?_⟩
   cases hb with
   |row e t c xs=>
    obtain⟨hl,hc,n,us,hown,hn,hr⟩:=h2
    simp only[hbFrz]
    exact⟨hc,Akk hown hn hr (λb hb=>AgN hb) λb hb=>Ajn hH hd hl hk (by rw[h1]; rfl) hb⟩
   |box cells t=>exact HBRep.mono hg.stays hd rfl (λhl=>⟨hl,by rw[h1]; simp[AfZ]⟩) (λ_ _ _=>rfl) h2
   |froz e c xs=>exact HBRep.mono (hb:= .froz e c xs) hg.stays hd rfl (λhl=>⟨hl,by rw[h1]; simp[AfZ]⟩) (λ_ _ _=>rfl) h2
   |mp kt g e c xs=>exact HBRep.mono (hb:= .mp kt g e c xs) hg.stays hd rfl (λhl=>⟨hl,by rw[h1]; simp[AfZ]⟩) (λ_ _ _=>rfl) h2
   |hrow t c n i x f=>exact HBRep.mono (hb:= .hrow t c n i x f) hg.stays hd rfl (λhl=>⟨hl,by rw[h1]; simp[AfZ]⟩) (λ_ _ _=>rfl) h2
   |gone=>exact h2.elim
 · simp only[if_neg hk,h1];exact⟨_,rfl,HBRep.mono hg.stays hd rfl (λhl=>⟨hl,λh=>hk h.1⟩) (λ_ _ _=>rfl) h2⟩
theorem Aj8 (heap:List HB) (k j:Nat):(frz1 heap k)[j]? =if j=k then(heap[j]?).map hbFrz else heap[j]? :=by
 unfold frz1;split
 · rename_i e t c xs hk;rw[List.getElem?_set];by_cases hjk:j=k
   · subst hjk;have:=(List.getElem?_eq_some_iff.1 hk).1;rw[if_pos rfl,if_pos this,if_pos rfl,hk]; rfl
   · rw[if_neg (λh=>hjk h.symm),if_neg hjk]
 · rename_i hne;by_cases hjk:j=k
   · subst hjk;rw[if_pos rfl]
     cases hj:heap[j]? with
     |none=>rfl
     |some hb=>
      cases hb<;>simp only[AlM,hbFrz]
      exact(hne _ _ _ _ hj).elim
   · rw[if_neg hjk]
theorem Aj7 (heap:List HB) (k:Nat):(frz1 heap k).length=heap.length:=by unfold frz1; split<;>simp
theorem Aa9:∀(ids:List Nat) (heap:List HB),(frzH heap ids).length=heap.length
 |[],_=>rfl
 |k::r,heap=>by simp only[frzH]; rw[Aa9 r,Aj7]
theorem Ajm (h:HB):hbFrz (hbFrz h)=hbFrz h:=by cases h<;>rfl
theorem AbQ:∀(ids:List Nat) (heap:List HB) (j:Nat),(frzH heap ids)[j]? =if j∈ids then(heap[j]?).map hbFrz else heap[j]?
 |[],heap,j=>by simp[frzH]
 |k::r,heap,j=>by
  simp only[frzH];rw[AbQ r,Aj8];by_cases hjk:j=k
  · subst hjk;simp only[if_pos,Amd,true_or];split
    · rw[Option.map_map]; congr 1; funext h; exact Ajm h
    · rfl
  · simp only[Amd,hjk,false_or,if_false]
theorem Ajo {heap:List HB} (h:WfH heap) (ids:List Nat):WfH (frzH heap ids):=by
 intro k hb hk;rw[AbQ]at hk;split at hk
 · cases hj:heap[k]? with
   |none=>simp[hj]at hk
   |some h0=>
    simp only[hj,AlM,AlC]at hk
    subst hk
    have:=h k h0 hj
    cases h0<;>first|exact this|simp only[hbFrz,WfHB]
 · exact h k hb hk
theorem curOf_rep {V:Vw} {H:Nat->Option HB} (hH:Heap V H) {heap:List HB} {k:Nat} (hd:V.D k) (hag:H k=heap[k]?) {e:List Sh} {c:Nat} {xs:List (List C)} (h:curOf heap k=some (e,c,xs)):
 V.c k=c/\∃a n cap,V.p k= .slice a n cap/\n=xs.length:=by
 obtain⟨hb,h1,h2⟩:=hH.rep k hd;unfold curOf at h;rw[←hag,h1]at h
 cases hb<;>simp only[AlC,AlH]at h<;>first|(cases h; done)|skip
 · obtain⟨rfl,rfl,rfl⟩:=h;obtain⟨_,hc,n,us,hown,hn,_⟩:=h2;obtain⟨a,cap,hv,_⟩:=hown.slice;exact⟨hc,a,n,cap,hv,hn⟩
 · obtain⟨rfl,rfl,rfl⟩:=h;obtain⟨hc,hr⟩:=h2;simp only[RepC,C.list]at hr;obtain⟨a,n,cap,hv,_,_,hn,_⟩:=hr;exact⟨hc,a,n,cap,hv,hn⟩
theorem AfE {V:Vw} {H:Nat->Option HB} (hH:Heap V H) {heap:List HB} {ids:List Nat} {k:Nat} (hk:k∈ids) (hd:V.D k) (hag:H k=heap[k]?) {e:List Sh} {c:Nat} {xs:List (List C)} (h:curOf heap k=some (e,c,xs)):
 RepC (V.frz H ids).w (V.frz H ids).ok (.sl e) (.l xs) (V.p k):=by
 obtain⟨hb,h1,h2⟩:=hH.rep k hd;unfold curOf at h;rw[←hag,h1]at h
 cases hb<;>simp only[AlC,AlH]at h<;>first|(cases h; done)|skip
 · obtain⟨rfl,rfl,rfl⟩:=h;obtain⟨hl,hc,n,us,hown,hn,hr⟩:=h2;exact Akk hown hn hr (λb hb=>AgN hb) λb hb=>Ajn hH hd hl hk (by rw[h1]; rfl) hb
 · obtain⟨rfl,rfl,rfl⟩:=h;exact RepC.mono (λb hb=>⟨AgN hb,rfl⟩) _ _ _ h2.2
theorem Aeu {heap:List HB} (h:WfH heap) {k:Nat} {e:List Sh} {c:Nat} {xs:List (List C)} (hc:curOf heap k=some (e,c,xs)):xs.length<=maxLen/\∀x∈xs,WfCs e x:=by
 unfold curOf at hc;split at hc
 · rename_i hk;simp only[AlC,AlH]at hc;obtain⟨rfl,rfl,rfl⟩:=hc;exact h k _ hk
 · rename_i hk;simp only[AlC,AlH]at hc;obtain⟨rfl,rfl,rfl⟩:=hc;exact h k _ hk
 · cases hc
theorem AfM {heap:List HB} (h:WfH heap) {x:SV} (hx:Wf x):Wf (thaw1 heap x):=by
 unfold thaw1;split
 · split
   · rename_i e d xs hc;split
     · simpa only[Wf]using Aeu h hc
     · simp[Wf]
   · simp[Wf]
 · exact hx
theorem Aep {heap:List HB} (h:WfH heap):∀ {cs:List SV},Wfs cs->Wfs (cs.map (thaw1 heap))
 |[],_=>by simp[Wfs]
 |c::cs,hx=>by
  simp only[Wfs]at hx;simp only[AmQ,Wfs];exact⟨AfM h hx.1,Aep h hx.2⟩
theorem AfL {heap:List HB} (h:WfH heap) {x:SV} (hx:Wf x):Wf (thaw heap x):=by
 unfold thaw;split
 · simp only[Wf]at hx ⊢; exact Aep h hx
 · exact AfM h hx
theorem AbD {heap:List HB} (h:WfH heap):∀ {cs:List SV},Wfs cs->Wfs (cs.map (thaw heap))
 |[],_=>by simp[Wfs]
 |c::cs,hx=>by
  simp only[Wfs]at hx;simp only[AmQ,Wfs];exact⟨AfL h hx.1,AbD h hx.2⟩
section
variable {V:Vw} {H:Nat->Option HB} {heap:List HB} {ids:List Nat}
theorem Aez (hH:Heap V H) (hag:∀k,k∈ids->V.D k->H k=heap[k]?) {x:SV} {v:Value} (hi:∀k∈ids1 x,k∈ids) (hx:VR V x v):VR (V.frz H ids) (thaw1 heap x) v:=by
 have mono:∀y,VR V y v->VR (V.frz H ids) y v:=λy h=>VR.mono (AbE V H ids []).stays _ _ h;unfold thaw1;split
 · rename_i k c;split
   · rename_i e d xs hc;split
     · rename_i hcd;simp only[VR]at hx;obtain⟨hd,_,_,hv⟩:=hx;have hk:k∈ids:=hi k (by simp[ids1]);have h1:=curOf_rep hH hd (hag k hk hd) hc;have h2:=AfE hH hk hd (hag k hk hd) hc;simp only[VR];rw[hv (by rw[h1.1]; exact hcd)];exact h2
     · simp[VR]
   · simp[VR]
 · exact mono _ hx
theorem Ads (hH:Heap V H) (hag:∀k,k∈ids->V.D k->H k=heap[k]?):∀ {cs:List SV} {vs:List Value},(∀k∈cs.flatMap ids1,k∈ids)->VRs V cs vs->VRs (V.frz H ids) (cs.map (thaw1 heap)) vs
 |[],vs,_,h=>by simpa only[List.map_nil,VRs]using h
 |c::cs,vs,hi,h=>by
  simp only[VRs]at h;obtain⟨v,r,rfl,h1,h2⟩:=h;simp only[AmQ,VRs];exact⟨v,r,rfl,Aez hH hag (λk hk=>hi k (by simp[hk])) h1,Ads hH hag (λk hk=>hi k (by simp only[List.flatMap_cons,AlY]; exact .inr hk)) h2⟩
theorem Aeq (hH:Heap V H) (hag:∀k,k∈ids->V.D k->H k=heap[k]?) {x:SV} {v:Value} (hi:∀k∈idsOf x,k∈ids) (hx:VR V x v):VR (V.frz H ids) (thaw heap x) v:=by
 unfold thaw;split
 · rename_i cs;simp only[VR]at hx ⊢;obtain⟨vs,rfl,h1,h2⟩:=hx;exact⟨vs,rfl,h1,Ads hH hag hi h2⟩
 · rename_i hne;refine Aez hH hag (λk hk=>hi k ?_) hx
   cases x<;>first|exact hk|exact(hne _ rfl).elim
theorem Ab1 (hH:Heap V H) (hag:∀k,k∈ids->V.D k->H k=heap[k]?):∀ {cs:List SV} {vs:List Value},(∀k∈cs.flatMap idsOf,k∈ids)->VRs V cs vs->VRs (V.frz H ids) (cs.map (thaw heap)) vs
 |[],vs,_,h=>by simpa only[List.map_nil,VRs]using h
 |c::cs,vs,hi,h=>by
  simp only[VRs]at h;obtain⟨v,r,rfl,h1,h2⟩:=h;simp only[AmQ,VRs];exact⟨v,r,rfl,Aeq hH hag (λk hk=>hi k (by simp[hk])) h1,Ab1 hH hag (λk hk=>hi k (by simp only[List.flatMap_cons,AlY]; exact .inr hk)) h2⟩
end
end Go.Sx

