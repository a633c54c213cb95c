import Derived.Test.YtejdbdegdanecaaGreatSxCode
import Derived.Test.YtejdbdegdanecaaGreatSxClr
set_option linter.unusedVariables false
set_option linter.unusedSimpArgs false
namespace Go.Sx
open Go.RowKit
variable {P:Program} {G:Nat->Option Ct}
def Ac6 (P:Program) (draw:Inl->Array Oper->St->(St->Prop)->Prop):Prop:=
 ∀(inl:Inl),AcO P inl->∀(id:Nat) (ops:Array Oper) (s:St) (K:St->Prop),draw inl ops s K->∀ {V0 V:Vw} {a:Act},Gro V0 V->StRep V a s->StWf s->
  (Code.region id ops true).wp P (Post V0 λe s'=>e= .normal/\K s') a V.w
theorem Gro.cut {V0 V:Vw} {n:Nat} (h:Gro V0 V) (hlt:∀k,V0.D k->k<n) (hb:∀k b,V.D k->V.L k->blkOf (V.p k)=some b->b<V.w.heap.size):Gro V0 (V.cut n):=by
 obtain⟨W,h⟩:=h;exact⟨W,⟨h.os,h.tape,h.output,λb=>⟨λhx=> .inl ((h.bad b).1 hx),λhx=>hx.elim (h.bad b).2 fun⟨k,hk,hd,hl,he⟩=> .inr ⟨h.new k hd hl (λhd0=>by have:=hlt k hd0; omega) b he,hb k b hd hl he⟩⟩,h.size,λk hk=>⟨h.D k hk,hlt k hk⟩,h.c,h.p,h.pp,h.L,h.mv,h.blk,λk hk hl hn b hb=>h.new k hk.1 hl hn b hb⟩⟩
theorem Gro.ver {V0 V:Vw} {ks:List Nat} {nv:Nat->Nat} (h:Gro V0 V) (hv:∀k,k∈ks->V0.D k->V0.c k<nv k):Gro V0 (V.ver ks nv):=by
 obtain⟨W,h⟩:=h;refine⟨W,⟨h.os,h.tape,h.output,h.bad,h.size,h.D,λk hk=> ?_,λk hk he=> ?_,h.pp,h.L,h.mv,h.blk,h.new⟩⟩
 · simp only[Vw.ver];split
   · rename_i hm; have:=hv k hm hk; omega
   · exact h.c k hk
 · simp only[Vw.ver]at he ⊢;split at he
   · rename_i hm; have:=hv k hm hk; omega
   · exact h.p k hk he
theorem Aee {l:List SV} (hw:Wfs l):∀(xs:List (Nat×SV)),leT l xs->WfTs xs
 |[],_=>trivial
 |(i,y)::r,h=>by
  simp only[leT]at h;refine⟨AgT y _ h.1 ?_,Aee hw r h.2⟩;rw[List.getD_eq_getElem?_getD]
  cases hc:l[i]? with
  |none=>simp[Wf]
  |some c=>simpa using Wfs.all.1 hw c (Amm hc)
theorem Aef {l:List HB} (hw:WfH l):∀(xs:List (Nat×HB)),leH l xs->WfHs xs
 |[],_=>trivial
 |(i,y)::r,h=>by
  simp only[leH]at h;refine⟨Ajl h.1 ?_,Aef hw r h.2⟩;rw[List.getD_eq_getElem?_getD]
  cases hc:l[i]? with
  |none=>simp[WfHB]
  |some c=>simpa using hw i c hc
theorem Aiq {V:Vw} {heap:List HB} {n:Nat} (hH:Heap V (λk=>heap[k]?)) (hlt:∀k,V.D k->k<heap.length) {x:SV} {v:Value} (hx:VR V x v):
 VR (V.frz (λk=>heap[k]?) (List.range' n (heap.length-n))) (th1 n heap x) v:=by
 have mono:∀y,VR V y v->VR (V.frz (λk=>heap[k]?) (List.range' n (heap.length-n))) y v:=λy h=>VR.mono (AbE V _ _ []).stays _ _ h;unfold th1;split
 · rename_i k c;split
   · rename_i hn;refine Aez hH (λ_ _ _=>rfl) (λj hj=> ?_) hx;have hx':=hx;simp only[VR]at hx';have:=hlt k hx'.1;simp only[ids1,Am3]at hj;subst hj;rw[List.mem_range'_1]; omega
   · exact mono _ hx
 · exact mono _ hx
theorem AfN {V:Vw} {heap:List HB} {n:Nat} (hH:Heap V (λk=>heap[k]?)) (hlt:∀k,V.D k->k<heap.length):∀ {cs:List SV} {vs:List Value},VRs V cs vs->
 VRs (V.frz (λk=>heap[k]?) (List.range' n (heap.length-n))) (cs.map (th1 n heap)) vs
 |[],vs,h=>by simpa only[List.map_nil,VRs]using h
 |c::cs,vs,h=>by
  simp only[VRs]at h;obtain⟨v,r,rfl,h1,h2⟩:=h;simp only[AmQ,VRs];exact⟨v,r,rfl,Aiq hH hlt h1,AfN hH hlt h2⟩
theorem Alf {V:Vw} {heap:List HB} {n:Nat} (hH:Heap V (λk=>heap[k]?)) (hlt:∀k,V.D k->k<heap.length) {x:SV} {v:Value} (hx:VR V x v):
 VR (V.frz (λk=>heap[k]?) (List.range' n (heap.length-n))) (th n heap x) v:=by
 unfold th;split
 · simp only[VR]at hx ⊢;obtain⟨vs,rfl,h1,h2⟩:=hx;exact⟨vs,rfl,h1,AfN hH hlt h2⟩
 · exact Aiq hH hlt hx
theorem Aip {V:Vw} {heap:List HB} {n:Nat} (hH:Heap V (λk=>heap[k]?)) (hlt:∀k,V.D k->k<heap.length):∀ {cs:List SV} {vs:List Value},VRs V cs vs->
 VRs (V.frz (λk=>heap[k]?) (List.range' n (heap.length-n))) (cs.map (th n heap)) vs
 |[],vs,h=>by simpa only[List.map_nil,VRs]using h
 |c::cs,vs,h=>by
  simp only[VRs]at h;obtain⟨v,r,rfl,h1,h2⟩:=h;simp only[AmQ,VRs];exact⟨v,r,rfl,Alf hH hlt h1,Aip hH hlt h2⟩
theorem Akh {n:Nat} {heap:List HB} (h:WfH heap) {x:SV} (hx:Wf x):Wf (th1 n heap x):=by
 unfold th1;split
 · split
   · exact AfM h hx
   · exact hx
 · exact hx
theorem th1s_wf {n:Nat} {heap:List HB} (h:WfH heap):∀ {cs:List SV},Wfs cs->Wfs (cs.map (th1 n heap))
 |[],_=>by simp[Wfs]
 |c::cs,hx=>by
  simp only[Wfs]at hx;simp only[AmQ,Wfs];exact⟨Akh h hx.1,th1s_wf h hx.2⟩
theorem Alu {n:Nat} {heap:List HB} (h:WfH heap) {x:SV} (hx:Wf x):Wf (th n heap x):=by
 unfold th;split
 · simp only[Wf]at hx ⊢; exact th1s_wf h hx
 · exact Akh h hx
theorem settle_wf {n:Nat} {s:St} (hw:StWf s):StWf (settle n s):=by
 refine⟨Wfs.all.2 λc hc=> ?_,λk hb hk=> ?_⟩
 · simp only[settle,AmU]at hc;obtain⟨x,hx,rfl⟩:=hc;exact Alu hw.hp (Wfs.all.1 hw.tm x hx)
 · simp only[settle,List.getElem?_map]at hk
   cases hj:(frzH s.heap (List.range' n (s.heap.length-n)))[k]? with
   |none=>simp[hj]at hk
   |some h0=>
    simp only[hj,AlM,AlC]at hk
    subst hk
    have:=Ajo hw.hp _ k h0 hj
    cases h0<;>simp only[hbTh]<;>first|exact this|(simp only[WfHB]at this ⊢; exact th1s_wf hw.hp this)
theorem settle_rep {V:Vw} {a:Act} {s:St} {n:Nat} (hr:StRep V a s):∃V',Gro V V'/\V'.w=V.w/\StRep V' a (settle n s):=by
 have hH:=Abt hr.hp (List.range' n (s.heap.length-n));refine⟨V.frz (λk=>s.heap[k]?) (List.range' n (s.heap.length-n)),⟨[],AbE V _ _ []⟩,rfl,⟨Aip hr.hp hr.lt hr.tm,⟨λk hk=> ?_,hH.lt,hH.bd,hH.nb,hH.inj⟩,λk hk=> ?_,hr.df⟩⟩
 · obtain⟨hb,h1,h2⟩:=hH.rep k hk;refine⟨hbTh n s.heap hb,?_,?_⟩
   · simp only[settle,List.getElem?_map,AbQ];rw[h1]; rfl
   · cases hb with
     |box cells t=>
      obtain⟨hb0,k1,k2⟩:=hr.hp.rep k hk
      have e:hb0= .box cells t:=by
       rw[k1]at h1;split at h1
       · simp only[AlM,AlC]at h1
         cases hb0<;>simp only[hbFrz]at h1<;>first|exact h1|cases h1
       · simpa using h1
      subst e
      obtain⟨_,b,vs,hp,hh,hone,hrs⟩:=k2
      exact⟨h2.1,b,vs,hp,hh,hone,AfN hr.hp hr.lt hrs⟩
     |row e t c xs=>exact h2
     |froz e c xs=>exact h2
     |mp kt g e c xs=>exact h2
     |hrow t c n i x f=>exact h2
     |gone=>exact h2
 · have:=hr.lt k hk;simpa[settle,Aa9]using this
theorem Aji {c:Code} {ws:List Nat} {body:St->(Exit->St->Prop)->Prop}
 (hbody:∀(s:St) (Q:Exit->St->Prop),body s Q->∀ {V0 V:Vw} {a:Act},Gro V0 V->StRep V a s->StWf s->c.wp P (Post V0 Q) a V.w)
 {X:Type} {pre:X->Prop} {mk:X->List (Nat×SV)} {hp:X->List (Nat×HB)} {ks kp:List Nat} {mu:X->Nat} {s:St} {Q:Exit->St->Prop} (h:Aks ws body X pre mk hp ks kp mu s Q)
 {V0 V:Vw} {a:Act} (hg:Gro V0 V) (hr:StRep V a s) (hw:StWf s):(Code.loop c).wp P (Post V0 Q) a V.w:=by
 replace h:=Aho h;simp only[Aih]at h;have hback:∀ {s':St} {x:X},Aeg ws ks kp s s' (∃y,Adr ks kp s s' (mk y) (hp y) (pre y) [nLt (mu y) (mu x)])->Aej ws ks kp s s' X pre mk hp λy=>mu y<mu x:=λh=>AdN h;simp only[Aej]at hback;generalize hnv:(λk=>curV s.heap k+1)=nv at h hback;generalize hrk:rvKs s.heap ks kp=rk at h hback;obtain⟨⟨x0,hx0,hk0,ht0,hh0⟩,hbel,hround⟩:=h;have hver:∀k,k∈rk->V.D k->V.c k<nv k:=λk hk hd=>by
  rw[←hrk]at hk;unfold rvKs AjS at hk;obtain⟨_,hs⟩:=List.mem_filter.1 hk;rw[←hnv];simp only[curV]
  cases hc:curOf s.heap k with
  |none=>simp[hc]at hs
  |some p=>
   obtain⟨e,d,xs⟩:=p
   have:=(curOf_rep hr.hp hd rfl hc).1
   simp only; omega
 have key:∀(n:Nat) (x:X),mu x<n->pre x->WfTs (mk x)->WfHs (hp x)->∀(V1:Vw) (a1:Act),Gro V V1->StRep V1 a1 (headOf (dropOf (keepOf ws kp) 0 s.tmps) rk nv s (mk x) (hp x))->StWf (headOf (dropOf (keepOf ws kp) 0 s.tmps) rk nv s (mk x) (hp x))->
  Code.rounds P c (Post V0 Q) n a1 V1.w:=by
  intro n
  induction n with
  |zero=>intro x hx; omega
  |succ n ih=>
   intro x hlt hpre hwt hwh V1 a1 hg1 hr1 hw1
   rw[rounds_succ]
   have hb:=hround x hpre hwt hwh
   refine wp_mono (hbody _ _ hb (V0:=V) hg1 hr1 hw1) λe a' w'=> ?_
   rintro⟨V',s',rfl,hg',hr',hw',hq⟩
   cases e with
   |normal=>
    rw[St.force_eq]at hq
    obtain⟨V2,g2,e2,r2⟩:=settle_rep (n:=s.heap.length) hr'
    have w2:=settle_wf (n:=s.heap.length) hw'
    rw[←e2]
    obtain⟨hm,hmh,y,hy,hpy,hly,hlh,hmu⟩:=hback hq
    obtain⟨h1,h2⟩:=head_rep (ws:=dropOf (keepOf ws kp) 0 s.tmps) (s:=s) r2 w2 ((keysOf_eq _).symm.trans (natsEq_eq hpy)) (mask_of_same hm (remap_len ..)) hmh hly hlh (hbel y).1 (hbel y).2
    have wT:=Ab8 (s:=settle s.heap.length s') (ks:=rk) (nv:=nv) (AeT nv (settle s.heap.length s').heap) w2
    exact ih y (by omega) hy (Acf _ (Aee wT.tm _ hly)) (Ach _ (Aef wT.hp _ hlh)) ((V2.ver rk nv).cut s.heap.length) a' (((hg'.trans g2).ver hver).cut (λk hk=>hr.lt k hk) r2.hp.lt) h1 h2
   |exit id=>exact⟨V',s',rfl,hg.trans hg',hr',hw',hq⟩
   |goto l=>exact⟨V',s',rfl,hg.trans hg',hr',hw',hq⟩
   |ret=>exact⟨V',s',rfl,hg.trans hg',hr',hw',hq⟩
   |panic ch=>exact⟨V',s',rfl,hg.trans hg',hr',hw',hq⟩
   |outgrown=>exact⟨V',s',rfl,hg.trans hg',hr',hw',hq⟩
 obtain⟨h1,h2⟩:=head_rep (ws:=dropOf (keepOf ws kp) 0 s.tmps) (s:=s) hr hw ((keysOf_eq _).symm.trans (natsEq_eq hk0)) rfl (by rw[AlZ (by simp[remap,mapHs_len])]) ht0 hh0 (hbel x0).1 (hbel x0).2;have wT:=Ab8 (s:=s) (ks:=rk) (nv:=nv) (AeT nv s.heap) hw;exact wp_loop_rounds (mu x0+1) (key _ x0 (Nat.lt_succ_self _) hx0 (Acf _ (Aee wT.tm _ ht0)) (Ach _ (Aef wT.hp _ hh0)) ((V.ver rk nv).cut s.heap.length) a (((Gro.refl V).ver hver).cut (λk hk=>hr.lt k hk) hr.hp.lt) h1 h2)
theorem Alc {s:St} {V:Vw} {a:Act} (hr:StRep V a s) (ks:List Nat):∀k,k∈AjS s.heap ks->V.D k->V.c k<curV s.heap k+1:=λk hk hd=>by
 unfold AjS at hk;obtain⟨_,hs⟩:=List.mem_filter.1 hk;simp only[curV]
 cases hc:curOf s.heap k with
 |none=>simp[hc]at hs
 |some p=>
  obtain⟨e,d,xs⟩:=p
  have:=(curOf_rep hr.hp hd rfl hc).1
  simp only; omega
theorem Ajq {c c2:Code} {ws:List Nat} {body:St->(Exit->St->Prop)->Prop} {K:St->(Exit->St->Prop)->Prop}
 (hbody:∀(s:St) (Q:Exit->St->Prop),body s Q->∀ {V0 V:Vw} {a:Act},Gro V0 V->StRep V a s->StWf s->c.wp P (Post V0 Q) a V.w)
 (hK:∀(s:St) (Q:Exit->St->Prop),K s Q->∀ {V0 V:Vw} {a:Act},Gro V0 V->StRep V a s->StWf s->c2.wp P (Post V0 Q) a V.w)
 {X:Type} {pre:X->Prop} {mk:X->List (Nat×SV)} {hp:X->List (Nat×HB)} {ks kp:List Nat} {s:St} {Q:Exit->St->Prop} (h:Akt ws body X pre mk hp ks kp s (λs'=>K s' Q) Q)
 {V0 V:Vw} {a:Act} (hg:Gro V0 V) (hr:StRep V a s) (hw:StWf s):(Code.seq c c2).wp P (Post V0 Q) a V.w:=by
 replace h:=Ahp h;simp only[Aih]at h;have hback:∀ {s':St},Aeg ws ks kp s s' (∃y,Adr ks kp s s' (mk y) (hp y) (pre y) [])->Aej ws ks kp s s' X pre mk hp λ_=>True:=λh=>AdN h;simp only[Aej]at hback;have hver:=Alc hr (ks.filter λk=> !kp.contains (1000000+k));generalize hnv:(λk=>curV s.heap k+1)=nv at h hback;have hver':∀k,k∈rvKs s.heap ks kp->V.D k->V.c k<nv k:=λk hk hd=>by rw[←hnv]; exact hver k hk hd
 generalize rvKs s.heap ks kp=rk at h hback hver';obtain⟨hbel,hb,hk⟩:=h;refine wp_seq (wp_mono (hbody _ _ hb (V0:=V) (Gro.refl V) hr hw) λe a' w'=> ?_);rintro⟨V',s',rfl,hg',hr',hw',hq⟩
 cases e with
 |normal=>
  rw[St.force_eq]at hq
  obtain⟨V2,g2,e2,r2⟩:=settle_rep (n:=s.heap.length) hr'
  have w2:=settle_wf (n:=s.heap.length) hw'
  rw[←e2]
  obtain⟨hm,hmh,y,hy,hpy,hly,hlh,_⟩:=hback hq
  obtain⟨h1,h2⟩:=head_rep (ws:=dropOf (keepOf ws kp) 0 s.tmps) (s:=s) r2 w2 ((keysOf_eq _).symm.trans (natsEq_eq hpy)) (mask_of_same hm (remap_len ..)) hmh hly hlh (hbel y).1 (hbel y).2
  have wT:=Ab8 (s:=settle s.heap.length s') (ks:=rk) (nv:=nv) (AeT nv (settle s.heap.length s').heap) w2
  have hk':=hk y hy (Acf _ (Aee wT.tm _ hly)) (Ach _ (Aef wT.hp _ hlh))
  exact hK _ _ hk' (V:=(V2.ver rk nv).cut s.heap.length) (hg.trans (((hg'.trans g2).ver hver').cut (λk hk=>hr.lt k hk) r2.hp.lt)) h1 h2
 |exit id=>exact⟨V',s',rfl,hg.trans hg',hr',hw',hq⟩
 |goto l=>exact⟨V',s',rfl,hg.trans hg',hr',hw',hq⟩
 |ret=>exact⟨V',s',rfl,hg.trans hg',hr',hw',hq⟩
 |panic ch=>exact⟨V',s',rfl,hg.trans hg',hr',hw',hq⟩
 |outgrown=>exact⟨V',s',rfl,hg.trans hg',hr',hw',hq⟩
theorem ghostAt_sound {V:Vw} {a:Act} {s:St} (t:Nat) (e:List Sh) (ty:TypeId) (hr:StRep V a s) (hw:StWf s):∃V',Gro V V'/\V'.w=V.w/\StRep V' a (Ad0 t e ty s)/\StWf (Ad0 t e ty s):=by
 have key:∀ {u:SV},s.tmps.getD t .undef=u->(∀v,VR V u v->∃b,v= .slice b 0 0)->u≠.undef->
  ∃V',Gro V V'/\V'.w=V.w/\StRep V' a ⟨s.tmps.set t (.own s.heap.length 0),s.heap++[.row e ty 0 []]⟩/\StWf ⟨s.tmps.set t (.own s.heap.length 0),s.heap++[.row e ty 0 []]⟩:=by
  intro u hu hn hne;have hlt:t<s.tmps.length:=by
   rcases AmZ t s.tmps.length with h|h
   · exact h
   · rw[List.getD_eq_getElem?_getD,List.getElem?_eq_none h]at hu; exact(hne hu.symm).elim
  have hx:s.tmps[t]? =some u:=by rw[List.getElem?_eq_getElem hlt,←hu,List.getD_eq_getElem?_getD,List.getElem?_eq_getElem hlt]; rfl
  obtain⟨v,hv,hrv⟩:=hr.tm.get t u hx;obtain⟨b,rfl⟩:=hn v hrv;have hnd:¬V.D s.heap.length:=λh=>Nat.lt_irrefl _ (hr.lt _ h);obtain⟨hg,hH⟩:=row_new (H':=λk=>(s.heap++[HB.row e ty 0 []])[k]?) hr.hp hnd (w':=V.w) (v':= .slice b 0 0) rfl rfl rfl (AlT _) (λ_ _=>rfl) (λc hc=>by cases b<;>simp[blkOf]at hc)
   (e:=e) (t:=ty) (xs':=[]) (us':=[]) ⟨by simp,.inl ⟨rfl,b,rfl⟩⟩ (by simp[RepRow]) (by simp) (λj hj=>List.getElem?_append_left (hr.lt j hj))
  refine⟨_,⟨[],hg⟩,rfl,⟨?_,hH,λk hk=> ?_,hr.df⟩,⟨Wfs.all.2 λc hc=> ?_,λk hb hk=> ?_⟩⟩
  · have h1 := VRs.mono hg.stays _ _ hr.tm;have h2 := h1.set t (x := .own s.heap.length 0) (u := .slice b 0 0) (by simp only [VR]; exact ⟨.inr rfl, by simp, .inl ⟨_, _, _, rfl⟩, λ_ => by simp [Vw.newR]⟩);have e : a.tmps.toList.set t (.slice b 0 0) = a.tmps.toList := by
     rw[List.getElem?_eq_some_iff]at hv;obtain⟨hl,he⟩:=hv;rw[←he];exact List.set_getElem_self _
    rwa [e]at h2
  · simp only[AlF,AlJ];rcases hk with hk|hk
    · have:=hr.lt k hk; omega
    · omega
  · rcases Amw hc with hc|rfl
    · exact Wfs.all.1 hw.tm c hc
    · simp[Wf]
  · rcases AmZ k s.heap.length with h|h
    · rw[List.getElem?_append_left h]at hk; exact hw.hp k hb hk
    · rw[List.getElem?_append_right h]at hk
      cases hk':k-s.heap.length with
      |zero=>rw[hk']at hk; simp at hk; subst hk; simp[WfHB,maxLen]
      |succ j=>rw[hk']at hk; simp at hk
 unfold Ad0;split
 · rename_i hu;exact key hu (λv hv=>by simp only[VR]at hv; exact⟨_,hv⟩) (by simp)
 · rename_i hu;exact key hu (λv hv=>by simp only[VR]at hv; exact hv) (by simp)
 · exact⟨V,Gro.refl V,rfl,hr,hw⟩
theorem ghostBox_sound {V:Vw} {a:Act} {s:St} (t i:Nat) (e:List Sh) (ty:TypeId) (hr:StRep V a s) (hw:StWf s):∃V',Gro V V'/\V'.w=V.w/\StRep V' a (Ade t i e ty s)/\StWf (Ade t i e ty s):=by
 unfold Ade;split
 · rename_i k off ht;split
   · rename_i cells bt hk;split
     · rename_i hu;have hkl : k < s.heap.length := (List.getElem?_eq_some_iff.1 hk).1;have hnd : ¬ V.D s.heap.length := λh => Nat.lt_irrefl _ (hr.lt _ h);obtain ⟨hg, hH⟩ := row_new (H' := λk => (s.heap ++ [HB.row e ty 0 []])[k]?) hr.hp hnd (w' := V.w) (v' := .slice none 0 0) rfl rfl rfl (AlT _) (λ_ _ => rfl) (λc hc => by simp [blkOf] at hc)
        (e:=e) (t:=ty) (xs':=[]) (us':=[]) ⟨by simp,.inl ⟨rfl,none,rfl⟩⟩ (by simp[RepRow]) (by simp) (λj hj=>List.getElem?_append_left (hr.lt j hj))
       refine⟨_,⟨[],hg⟩,rfl,⟨VRs.mono hg.stays _ _ hr.tm,⟨λj hj=> ?_,hH.lt,hH.bd,hH.nb,hH.inj⟩,λj hj=> ?_,hr.df⟩,⟨hw.tm,λj hb hj=> ?_⟩⟩
       · obtain⟨hb,h1,h2⟩:=hH.rep j hj;by_cases hjk:j=k
         · subst hjk;have e1:(s.heap++[HB.row e ty 0 []])[j]? =some (.box cells bt):=by rw[List.getElem?_append_left hkl]; exact hk
           rw[e1]at h1;injection h1 with h1;subst h1;obtain⟨q1,b,vs,q2,q3,q4,q5⟩:=h2;refine⟨.box (cells.set i (.own s.heap.length 0)) bt,?_,q1,b,vs,q2,q3,q4,?_⟩
           · rw[List.getElem?_append_left (by simpa using hkl),List.getElem?_set_self hkl]
           · have hne:cells.getD i .undef≠.undef:=by rw[hu]; simp
             have hlt:i<cells.length:=by
              rcases AmZ i cells.length with h|h
              · exact h
              · rw[List.getD_eq_getElem?_getD,List.getElem?_eq_none h]at hne; exact(hne rfl).elim
             have hx:cells[i]? =some .nils:=by rw[List.getElem?_eq_getElem hlt,←hu,List.getD_eq_getElem?_getD,List.getElem?_eq_getElem hlt]; rfl
             obtain⟨v,hv,hrv⟩:=q5.get i _ hx;simp only[VR]at hrv;subst hrv;have h2:=q5.set i (x:= .own s.heap.length 0) (u:= .slice none 0 0) (by simp only[VR]; exact⟨.inr rfl,by simp,.inl ⟨_,_,_,rfl⟩,λ_=>by simp[Vw.newR]⟩);have e2:vs.set i (.slice none 0 0)=vs:=by
              rw[List.getElem?_eq_some_iff]at hv;obtain⟨hl,he⟩:=hv;rw[←he];exact List.set_getElem_self _
             rwa [e2]at h2
         · refine⟨hb,?_,h2⟩;rw[←h1];rcases AmZ j s.heap.length with h|h
           · rw[List.getElem?_append_left (by simpa using h),List.getElem?_append_left h,List.getElem?_set_ne (λe=>hjk e.symm)]
           · rw[List.getElem?_append_right (by simpa using h),List.getElem?_append_right h,Am0]
       · simp only[AlF,AlJ,Am0];rcases hj with hj|hj
         · have:=hr.lt j hj; omega
         · omega
       · have hc:=hw.hp _ _ hk;simp only[WfHB]at hc;rcases AmZ j s.heap.length with h|h
         · rw[List.getElem?_append_left (by simpa using h),List.getElem?_set]at hj;by_cases hkj:k=j
           · rw [if_pos hkj] at hj;have hj' : some (HB.box (cells.set i (.own s.heap.length 0)) bt) = some hb := by
              first|exact hj|(rw[if_pos hkl]at hj; exact hj)|simpa[hkl]using hj
             injection hj' with hj';subst hj';simp only[WfHB];refine Wfs.all.2 λc hc'=> ?_;rcases Amw hc' with hc'|rfl
             · exact Wfs.all.1 hc c hc'
             · simp[Wf]
           · rw[if_neg hkj]at hj; exact hw.hp j hb hj
         · rw[List.getElem?_append_right (by simpa using h)]at hj;rw[Am0]at hj
           cases hk':j-s.heap.length with
           |zero=>rw[hk']at hj; simp at hj; subst hj; simp[WfHB,maxLen]
           |succ j=>rw[hk']at hj; simp at hj
     · exact⟨V,Gro.refl V,rfl,hr,hw⟩
   · exact⟨V,Gro.refl V,rfl,hr,hw⟩
 · exact⟨V,Gro.refl V,rfl,hr,hw⟩
theorem markAt_sound {V:Vw} {a:Act} {s:St} (t:Nat) (hr:StRep V a s) (hw:StWf s):StRep V a (Agy t s)/\StWf (Agy t s):=by
  unfold Agy;split
  · rename_i k c hu;split
    · rename_i e ty d xs hk;split
      · rename_i hcd;subst hcd;constructor
        · refine hr.recast λx v hx hv=> ?_;have hx':x= .own k c:=by
            rw[List.getD_eq_getElem?_getD,hx]at hu; exact hu
          subst hx';have hv':=hv;simp only[VR]at hv ⊢;refine⟨hv,?_⟩;obtain⟨hb,h1,h2⟩:=hr.hp.rep k hv.1;rw[hk]at h1;injection h1 with h1; subst h1;obtain⟨_,hc,n,us,hown,hn,_⟩:=h2;obtain⟨a',cap,hp,_⟩:=hown.slice;exact⟨a',cap,by rw[hv.2.2.2 hc.symm,hp,hn]⟩
        · exact⟨Wfs.all.2 λc' hc'=>by
            rcases Amw hc' with hc'|rfl
            · exact Wfs.all.1 hw.tm c' hc'
            · simp[Wf],hw.hp⟩
      · exact⟨hr,hw⟩
    · exact⟨hr,hw⟩
  · exact⟨hr,hw⟩
theorem ann_sound:∀(A:LoopAnn) {V:Vw} {a:Act} {s:St} (hr:StRep V a s) (hw:StWf s),∃V',Gro V V'/\V'.w=V.w/\StRep V' a (A.res s).2/\StWf (A.res s).2
 | .on g,V,a,s,hr,hw=>by simp only[LoopAnn.res]; exact ann_sound (g s) hr hw
 | .ghost t e ty r,V,a,s,hr,hw=>by
  simp only[LoopAnn.res];obtain⟨V',h1,h2,h3,h4⟩:=ghostAt_sound t e ty hr hw;obtain⟨V'',k1,k2,k3,k4⟩:=ann_sound r h3 h4;exact⟨V'',h1.trans k1,k2.trans h2,k3,k4⟩
 | .ghostB t i e ty r,V,a,s,hr,hw=>by
  simp only[LoopAnn.res];obtain⟨V',h1,h2,h3,h4⟩:=ghostBox_sound t i e ty hr hw;obtain⟨V'',k1,k2,k3,k4⟩:=ann_sound r h3 h4;exact⟨V'',h1.trans k1,k2.trans h2,k3,k4⟩
 | .mark t r,V,a,s,hr,hw=>by
  simp only[LoopAnn.res];obtain⟨h3,h4⟩:=markAt_sound t hr hw;exact ann_sound r h3 h4
 | .settle r,V,a,s,hr,hw=>by
  simp only[LoopAnn.res];obtain⟨V',h1,h2,h3⟩:=settle_rep (n:=0) hr;obtain⟨V'',k1,k2,k3,k4⟩:=ann_sound r h3 (settle_wf hw);exact⟨V'',h1.trans k1,k2.trans h2,k3,k4⟩
 | .settleN n r,V,a,s,hr,hw=>by
  simp only[LoopAnn.res];obtain⟨V',h1,h2,h3⟩:=settle_rep (n:=n) hr;obtain⟨V'',k1,k2,k3,k4⟩:=ann_sound r h3 (settle_wf hw);exact⟨V'',h1.trans k1,k2.trans h2,k3,k4⟩
 | .unroll n,V,a,s,hr,hw=>⟨V,Gro.refl V,rfl,hr,hw⟩
 | .hand h,V,a,s,hr,hw=>⟨V,Gro.refl V,rfl,hr,hw⟩
 | .cut X pre mk hp ks kp,V,a,s,hr,hw=>⟨V,Gro.refl V,rfl,hr,hw⟩
 | .inv X pre mk hp ks kp mu,V,a,s,hr,hw=>⟨V,Gro.refl V,rfl,hr,hw⟩
theorem Abe (hG:∀f ct,G f=some ct->SoundCt P f ct) {inl:Inl} (hI:AcO P inl) {wr:Bool} {A:Nat->LoopAnn} {draw:Inl->Array Oper->St->(St->Prop)->Prop} (hD:Ac6 P draw):
 ∀(c:Code) (s:St) (Q:Exit->St->Prop),Abd P G wr A draw inl c s Q->∀ {V0 V:Vw} {a:Act},Gro V0 V->StRep V a s->StWf s->c.wp P (Post V0 Q) a V.w
 | .skip,s,Q,h,V0,V,a,hg,hr,hw=>wp_skip ⟨V,s,rfl,hg,hr,hw,h⟩
 | .region id ops d,s,Q,h,V0,V,a,hg,hr,hw=>by
  simp only[Abd,St.force_eq]at h
  cases d with
  |true=>
   simp only[if_true]at h
   refine wp_mono (hD inl hI id ops s _ h hg hr hw) λe a' w'=> ?_
   rintro⟨V',s',rfl,hg',hr',hw',rfl,hq⟩
   exact⟨V',s',rfl,hg',hr',hw',hq⟩
  |false=>
   simp only[AlW,if_false]at h
   split at h
   · rename_i l o3 o4 he
     refine wp_region_list ?_
     rw[Aju he]
     exact Ab0 hG hI [o3,o4] l h hg hr hw λa' V' s' hg' hr' hw' hK=>Af2 hK hg' hr' hw' λa2 V2 s2 hg2 hr2 hw2 hK2=>⟨V2,s2,rfl,hg2,hr2,hw2,hK2⟩
   · exact wp_region_list (AiI hG hI _ h hg hr hw λa' V' s' hg' hr' hw' hK=>⟨V',s',rfl,hg',hr',hw',hK⟩)
 | .seq x y,s,Q,h,V0,V,a,hg,hr,hw=>by
  simp only[Abd]at h;split at h
  · rename_i s1 he;obtain⟨V1,g1,e1,r1,w1⟩:=ann_sound (A ((nameOf y).getD 0+1000000)) hr hw;rw[he]at r1 w1;rw[←e1];exact Ajq (λs Q h=>Abe hG hI hD x s Q h) (λs Q h=>Abe hG hI hD y s Q h) h (hg.trans g1) r1 w1
  · rename_i l s1 hne he;obtain⟨V1,g1,e1,r1,w1⟩:=ann_sound (A ((nameOf y).getD 0+1000000)) hr hw;rw[he]at r1 w1;rw[←e1];replace hg:=hg.trans g1;refine wp_seq (wp_mono (Abe hG hI hD x s1 _ h (V0:=V1) (Gro.refl V1) r1 w1) λe a' w'=> ?_);rintro⟨V',s',rfl,hg',hr',hw',hq⟩
    cases e with
    |normal=>
     obtain⟨V2,g2,e2,r2,w2⟩:=ann_sound (A ((nameOf y).getD 0+2000000)) hr' hw'
     simp only at hq
     rw[←e2]
     exact Abe hG hI hD y _ Q hq ((hg.trans hg').trans g2) r2 w2
    |exit id=>exact⟨V',s',rfl,hg.trans hg',hr',hw',hq⟩
    |goto l=>exact⟨V',s',rfl,hg.trans hg',hr',hw',hq⟩
    |ret=>exact⟨V',s',rfl,hg.trans hg',hr',hw',hq⟩
    |panic ch=>exact⟨V',s',rfl,hg.trans hg',hr',hw',hq⟩
    |outgrown=>exact⟨V',s',rfl,hg.trans hg',hr',hw',hq⟩
 | .cond c x y,s,Q,h,V0,V,a,hg,hr,hw=>by
  simp only[Abd]at h;have hc:=hr.ev c;split at h
  · rename_i t he;rw[he]at hc;simp only[VR]at hc
    cases t with
    |true=>exact wp_cond_true hc (Abe hG hI hD x s Q (by simpa using h) hg hr hw)
    |false=>exact wp_cond_false hc (Abe hG hI hD y s Q (by simpa using h) hg hr hw)
  · rename_i t he;rw[he]at hc;simp only[VR]at hc;exact wp_cond_split hc (λht=>Abe hG hI hD x _ Q ((Cn_iff.1 h).1 ht) hg (hr.know he ht) hw.know) (λht=>Abe hG hI hD y _ Q ((Cn_iff.1 h).2 ht) hg (hr.know he ht) hw.know)
  · rename_i xs he;rw[he]at hc;simp only[VR]at hc;obtain⟨b,hb,hx⟩:=hc;exact wp_cond_split hb (λht=>Abe hG hI hD x s Q (h.1 (hx ht)) hg hr hw) (λ_=>Abe hG hI hD y s Q h.2 hg hr hw)
  · exact h.elim
 | .block id c,s,Q,h,V0,V,a,hg,hr,hw=>by
  simp only[Abd]at h;refine wp_block (wp_mono (Abe hG hI hD c s _ h hg hr hw) λe a' w'=> ?_);rintro⟨V',s',rfl,hg',hr',hw',hq⟩
  cases e with
  |exit j=>
   simp only[Exit.inBlock]
   split
   · rename_i hj
     simp only[hj,if_true]at hq
     exact⟨V',s',rfl,hg',hr',hw',hq⟩
   · rename_i hj
     simp only[hj,if_false]at hq
     exact⟨V',s',rfl,hg',hr',hw',hq⟩
  |normal=>exact⟨V',s',rfl,hg',hr',hw',hq⟩
  |goto l=>exact⟨V',s',rfl,hg',hr',hw',hq⟩
  |ret=>exact⟨V',s',rfl,hg',hr',hw',hq⟩
  |panic ch=>exact⟨V',s',rfl,hg',hr',hw',hq⟩
  |outgrown=>exact⟨V',s',rfl,hg',hr',hw',hq⟩
 | .loop c,s,Q,h,V0,V,a,hg,hr,hw=>by
  simp only[Abd]at h;obtain⟨V1,g1,e1,r1,w1⟩:=ann_sound (A ((nameOf c).getD 0)) hr hw;rw[←e1];split at h
  · rename_i n s1 he;rw [he] at r1 w1;have key : ∀ (n : Nat) (s : St), AdR (Abd P G wr A draw inl c) n s Q -> ∀ {V : Vw} {a : Act}, Gro V0 V -> StRep V a s -> StWf s -> Code.rounds P c (Post V0 Q) n a V.w := by
     intro n
     induction n with
     |zero=>intro s h; exact h.elim
     |succ n ih=>
      intro s h V a hg hr hw
      simp only[AdR]at h
      rw[rounds_succ]
      refine wp_mono (Abe hG hI hD c s _ h (V0:=V) (Gro.refl V) hr hw) λe a' w'=> ?_
      rintro⟨V',s',rfl,hg',hr',hw',hq⟩
      cases e with
      |normal=>exact ih s' hq (hg.trans hg') hr' hw'
      |exit id=>exact⟨V',s',rfl,hg.trans hg',hr',hw',hq⟩
      |goto l=>exact⟨V',s',rfl,hg.trans hg',hr',hw',hq⟩
      |ret=>exact⟨V',s',rfl,hg.trans hg',hr',hw',hq⟩
      |panic ch=>exact⟨V',s',rfl,hg.trans hg',hr',hw',hq⟩
      |outgrown=>exact⟨V',s',rfl,hg.trans hg',hr',hw',hq⟩
    exact wp_loop_rounds n (key n s1 h (hg.trans g1) r1 w1)
  · rename_i s1 he;rw[he]at r1 w1;exact Aji (λs Q h=>Abe hG hI hD c s Q h) h (hg.trans g1) r1 w1
  · rename_i hd s1 he;rw[he]at r1 w1;simp only[St.force_eq]at h;exact hd.snd h (hg.trans g1) r1 w1
  · exact h.elim
 | .exit id,s,Q,h,V0,V,a,hg,hr,hw=>wp_exit ⟨V,s,rfl,hg,hr,hw,h⟩
 | .ret,s,Q,h,V0,V,a,hg,hr,hw=>wp_ret ⟨V,s,rfl,hg,hr,hw,h⟩
 | .rangeFunc _ _ _ _,s,Q,h,V0,V,a,hg,hr,hw=>by simp[Abd]at h
 | .scope c,s,Q,h,V0,V,a,hg,hr,hw=>by
  simp only[Abd]at h;refine wp_scope_straight (wp_mono (Abe hG hI hD c s _ h (V0:=V0) hg hr hw) λe a' w'=> ?_);rintro⟨V',s',rfl,hg',hr',hw',hq⟩
  cases e with
  |normal=>exact⟨V',s',rfl,hg',hr',hw',hq⟩
  |exit id=>exact⟨V',s',rfl,hg',hr',hw',hq⟩
  |goto l=>exact hq.elim
  |ret=>exact⟨V',s',rfl,hg',hr',hw',hq⟩
  |panic ch=>exact⟨V',s',rfl,hg',hr',hw',hq⟩
  |outgrown=>exact⟨V',s',rfl,hg',hr',hw',hq⟩
 | .label _,s,Q,h,V0,V,a,hg,hr,hw=>wp_label ⟨V,s,rfl,hg,hr,hw,h⟩
 | .goto _,s,Q,h,V0,V,a,hg,hr,hw=>by simp[Abd]at h
 | .refuse _,s,Q,h,V0,V,a,hg,hr,hw=>by simp[Abd]at h
def Ae9 (tmps:Array Value) (r:ResultVar):Sem Value:=
 match r with
 | .tmp t=>pure (tmps.getD t Go.undef)
 | .cell x t=>do loadVar t (←asAddr (tmps.getD x Go.undef))
theorem res_sound {s:St} {V:Vw} {a:Act} (hr:StRep V a s) (hw:StWf s):∀(rs:List ResultVar) (xs:List SV),rs.mapM (resOf P s)=some xs->
 ∃vs,(rs.mapM (Ae9 a.tmps)).run P V.w= .ok vs V.w/\VRs V xs vs/\Wfs xs
 |[],xs,h=>by
  simp only[List.mapM_nil,Option.pure_def,AlC]at h;subst h;exact⟨[],by simp[Sem.run_pure],by simp[VRs],by simp[Wfs]⟩
 |r::rs,xs,h=>by
  simp only[List.mapM_cons,Option.bind_eq_bind,Option.pure_def]at h
  cases hx:resOf P s r with
  |none=>simp[hx]at h
  |some x=>
   cases hxs:rs.mapM (resOf P s)with
   |none=>simp[hx,hxs]at h
   |some ys=>
    simp only[hx,hxs,AmG,AlC]at h
    subst h
    obtain⟨vs,h1,h2,h3⟩:=res_sound hr hw rs ys hxs
    have one:∃v,(Ae9 a.tmps r).run P V.w= .ok v V.w/\VR V x v/\Wf x:=by
     cases r with
     |tmp t=>
      simp only[resOf,AlC]at hx
      subst hx
      exact⟨_,by simp only[Ae9,Sem.run_pure]; rfl,hr.ev (.tmp t),hw.ev (.tmp t)⟩
     |cell c t=>
      simp only[resOf]at hx
      have hc:=hr.ev (.tmp c)
      simp only[St.ev,Act.eval]at hc
      split at hx
      · rename_i k off he
        rw[he]at hc
        simp only[VR]at hc
        obtain⟨hd,b,hp,hv⟩:=hc
        split at hx
        · rename_i cells ty hk
          obtain⟨us,hb,hone,hus⟩:=hr.hp.box hd hk hp
          have hcc:VRc V cells b 0:=VRc.of_block hb hone cells 0 (by simpa using hus)
          obtain⟨z,hz,hrz⟩:=run_loadVar_at (w:=V.w) rfl hx hcc
          rw[AmK]at hz
          refine⟨z,?_,hrz,AcI hx (by have:=hw.hp k _ hk; simpa only[WfHB]using this)⟩
          simp only[Ae9,hv,asAddr,Sem.run_bind,Sem.run_pure,Result.andThen_ok,hz]
        · cases hx
      · cases hx
    obtain⟨v,h4,h5,h6⟩:=one
    refine⟨v::vs,?_,by simp only[VRs]; exact⟨v,vs,rfl,h5,h2⟩,by simp only[Wfs]; exact⟨h6,h3⟩⟩
    simp only[List.mapM_cons,Sem.run_bind,h4,h1,Result.andThen_ok,Sem.run_pure]
theorem resSV_sound {s:St} {V:Vw} {a:Act} (hr:StRep V a s) (hw:StWf s) {fn:Func} {x:SV} (h:Ag5 P s fn.results.toList=some x):
 ∃v,(results fn a.tmps).run P V.w= .ok v V.w/\VR V x v/\Wf x:=by
 unfold Ag5 at h;have key:∀vs,(fn.results.toList.mapM (Ae9 a.tmps)).run P V.w= .ok vs V.w->
  (results fn a.tmps).run P V.w= .ok (if h:vs.toArray.size=1 then vs.toArray[0]else .tuple vs.toArray) V.w:=by
  intro vs hv;have e:results fn a.tmps=(do let vs←fn.results.mapM (Ae9 a.tmps); pure (if h:vs.size=1 then vs[0]else .tuple vs)):=rfl;rw[e,Array.mapM_eq_mapM_toList];simp only[Sem.run_bind,Sem.run_map,hv,Result.andThen_ok,Sem.run_pure]
 split at h
 · rename_i y hm;injection h with h; subst h;obtain⟨vs,h1,h2,h3⟩:=res_sound hr hw _ _ hm;simp only[VRs]at h2;obtain⟨v,r,rfl,h4,rfl⟩:=h2;simp only[Wfs]at h3;exact⟨v,by rw[key _ h1]; simp,h4,h3.1⟩
 · rename_i l hne hm;injection h with h; subst h;obtain⟨vs,h1,h2,h3⟩:=res_sound hr hw _ _ hm;have hl:=h2.len;refine⟨.tuple vs.toArray,?_,?_,by simpa only[Wf]using h3⟩
   · rw[key _ h1,dif_neg];intro h1';simp at h1'
     cases l with
     |nil=>simp at hl; subst hl; simp at h1'
     |cons y t=>
      cases t with
      |nil=>exact hne y rfl
      |cons z t=>simp at hl; omega
   · simp only[VR]; exact⟨vs,rfl,h2⟩
 · cases h
theorem call_sound (hG:∀f ct,G f=some ct->SoundCt P f ct) {wr:FuncId->Bool} {A:FuncId->Nat->LoopAnn} {draw:Bool->Inl->Array Oper->St->(St->Prop)->Prop} (hD:∀b,Ac6 P (draw b)):
 ∀n,AcO P (Ad7 P G wr A draw n)
 |0=>λf args heap K h=>h.elim
 |n+1=>λf args heap K h hwa hwh V vals hv hH hlt=>by
  simp only[Ad7]at h
  cases hf:P.funcs[f]? with
  |none=>simp[hf]at h
  |some fn=>
   simp only[hf]at h
   cases hb:fn.body with
   |none=>simp[hb]at h
   |some c=>
    simp only[hb]at h
    split at h
    · exact h.elim
    · rename_i hname
      have hname':(fn.name== "runtime.NumGoroutine")=false:=by simpa using hname
      refine⟨?_,?_⟩
      · simp only[callFunc,Sem.run_bind,run_program,Result.andThen_ok,hf]
        simp[hname',hb]
      · refine calls_of_wp hf hb ?_
        have hrep:StRep V {tmps:=vals.toArray++Array.replicate (fn.ntmps-vals.toArray.size) Go.undef,defers:=[]} ⟨args++List.replicate (fn.ntmps-args.length) .undef,heap⟩:=by
         refine⟨?_,hH,hlt,rfl⟩;have hl:=hv.len;simp only[Array.toList_append,Array.toList_replicate,Ana,hl];refine hv.append (VRs.of_get (by simp) λi d u hd hu=> ?_);rw[List.getElem?_replicate]at hd hu;split at hd
         · rename_i hi;rw[if_pos hi]at hu;injection hd with hd; injection hu with hu; subst hd; subst hu;simp[VR]
         · cases hd
        have hwf:StWf ⟨args++List.replicate (fn.ntmps-args.length) .undef,heap⟩:=by
         refine⟨Wfs.all.2 λd hd=> ?_,hwh⟩;simp only[AlY,AmO]at hd;rcases hd with hd|⟨_,rfl⟩
         · exact Wfs.all.1 hwa d hd
         · simp[Wf]
        refine wp_mono (Abe hG (call_sound hG hD n) (hD (wr f)) c _ _ h (V0:=V) (Gro.refl V) hrep hwf) λe a' w'=> ?_
        rintro⟨V',s',rfl,hg',hr',hw',hq⟩
        have fin:(match Ag5 P s' fn.results.toList with|some x=>K x s'.heap|none=>False)->∃v,(results fn a'.tmps).run P V'.w= .ok v V'.w/\
         ∃v_1 V'_1 sv heap',Ending.returned v= .returned v_1/\V'.w=V'_1.w/\K sv heap'/\Wf sv/\WfH heap'/\VR V'_1 sv v_1/\Gro V V'_1/\Heap V'_1 (λk=>heap'[k]?)/\(∀k,V'_1.D k->k<heap'.length):=by
         intro hres;split at hres
         · rename_i x hx;obtain⟨v,h1,h2,h3⟩:=resSV_sound hr' hw' hx;exact⟨v,h1,v,V',x,s'.heap,rfl,rfl,hres,h3,hw'.hp,h2,hg',hr'.hp,hr'.lt⟩
         · exact hres.elim
        cases e with
        |normal=>exact⟨hr'.df,fin hq⟩
        |ret=>exact⟨hr'.df,fin hq⟩
        |exit id=>exact hq.elim
        |goto l=>exact hq.elim
        |panic ch=>exact hq.elim
        |outgrown=>exact hq.elim
end Go.Sx

