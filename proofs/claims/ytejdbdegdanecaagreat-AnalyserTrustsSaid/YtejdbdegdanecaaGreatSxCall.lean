import Derived.Test.YtejdbdegdanecaaGreatSxPart
set_option linter.unusedVariables false
set_option linter.unusedSimpArgs false
namespace Go.Sx
open Go.RowKit
variable {P:Program}
mutual
theorem Akg:∀(s:Sh) (x:SV) (c:C),toC s x=some c->Wf x->WfC s c
 | .int k,x,c,h,hv=>by
  simp only[toC]at h
  cases x<;>simp only[toC1]at h<;>first|(cases h; done)|skip
  all_goals
   split at h
   · rename_i hk
     injection h with h; subst h; subst hk
     simpa only[WfC,Wf,C.int]using hv
   · cases h
 | .bool,x,c,h,hv=>by simp only[WfC]
 | .str,x,c,h,hv=>by
  simp only[toC]at h
  cases x<;>simp only[toC1]at h<;>first|(cases h; done)|skip
  all_goals
   injection h with h; subst h
   simpa only[WfC,Wf,C.str]using hv
 | .sl e,x,c,h,hv=>by
  cases x with
  |nils=>
   simp only[toC]at h
   injection h with h; subst h
   simp only[WfC,C.list]
   exact⟨by simp[maxLen],λx hx=>by simp at hx⟩
  |emp=>
   simp only[toC]at h
   injection h with h; subst h
   simp only[WfC,C.list]
   exact⟨by simp[maxLen],λx hx=>by simp at hx⟩
  |sl f xs=>
   simp only[toC]at h
   split at h
   · rename_i hs
     injection h with h; subst h
     rw[shEqs_eq e f hs]
     simpa only[Wf,WfC,C.list]using hv
   · cases h
  |slc f xs=>
   simp only[toC]at h
   split at h
   · rename_i hs
     injection h with h; subst h
     rw[shEqs_eq e f hs]
     simpa only[Wf,WfC,C.list]using hv
   · cases h
  |slit n sz cs=>
   simp only[toC]at h
   split at h
   · rename_i hs
     cases hr:toRows (toCs e) n cs with
     |none=>simp[hr]at h
     |some xs=>
      simp only[hr,AlM]at h
      injection h with h; subst h
      simp only[Wf]at hv
      simp only[WfC,C.list]
      exact⟨by rw[Abw _ n cs xs hr]; have:=hv.1; simp[maxLen]; omega,AcX e n cs xs (Acd e) hr hv.2⟩
   · cases h
  |_=>simp[toC]at h
theorem Acd:∀(e:List Sh) (cs:List SV) (ys:List C) (rest:List SV),toCs e cs=some (ys,rest)->Wfs cs->WfCs e ys/\Wfs rest
 |[],cs,ys,rest,h,hc=>by
  simp only[toCs]at h;injection h with h; injection h with h1 h2; subst h1; subst h2;exact⟨by simp only[WfCs],hc⟩
 |s::r,cs,ys,rest,h,hc=>by
  cases cs with
  |nil=>simp[toCs]at h
  |cons x cs=>
   simp only[toCs]at h
   split at h
   · rename_i z zs rest' h1 h2
     injection h with h; injection h with h3 h4; subst h3; subst h4
     simp only[Wfs]at hc
     have hrec:=Acd r cs zs rest' h2 hc.2
     simp only[WfCs]
     exact⟨⟨by simp,Akg s x z h1 hc.1,hrec.1⟩,hrec.2⟩
   · cases h
theorem AcX (e:List Sh):∀(n:Nat) (cs:List SV) (xs:List (List C)),
 (∀(cs:List SV) (ys:List C) (rest:List SV),toCs e cs=some (ys,rest)->Wfs cs->WfCs e ys/\Wfs rest)->
 toRows (toCs e) n cs=some xs->Wfs cs->∀x∈xs,WfCs e x
 |0,_,xs,_,h,_=>by
  simp only[toRows]at h;injection h with h; subst h; simp
 |n+1,cs,xs,hg,h,hc=>by
  simp only[toRows]at h;split at h
  · rename_i x rest h1
    cases hr:toRows (toCs e) n rest with
    |none=>simp[hr]at h
    |some ys=>
     simp only[hr,AlM]at h
     injection h with h; subst h
     have h2:=hg cs x rest h1 hc
     intro y hy
     rcases Amd.1 hy with rfl|hy
     · exact h2.1
     · exact AcX e n rest ys hg hr h2.2 y hy
  · cases h
end
theorem toCs_vals (V:Vw):∀(e:List Sh) (cs:List SV) (ys:List C) (rest:List SV) (us:List Value),toCs e cs=some (ys,rest)->VRs V cs us->VRs V (ofCs e ys) (us.take e.length)/\VRs V rest (us.drop e.length)
 |[],cs,ys,rest,us,h,hc=>by
  simp only[toCs]at h;injection h with h; injection h with h1 h2; subst h1; subst h2;exact⟨by simp[ofCs,VRs],by simpa using hc⟩
 |s::r,cs,ys,rest,us,h,hc=>by
  cases cs with
  |nil=>simp[toCs]at h
  |cons x cs=>
   simp only[toCs]at h
   split at h
   · rename_i z zs rest' h1 h2
     injection h with h; injection h with h3 h4; subst h3; subst h4
     simp only[VRs]at hc
     obtain⟨v,t,rfl,hv,ht⟩:=hc
     have hrec:=toCs_vals V r cs zs rest' t h2 ht
     simp only[ofCs,Al4,AmD,Al9,List.take_succ_cons,List.drop_succ_cons,VRs]
     exact⟨⟨v,_,rfl,(Adi V s z v).2 (AdT V s x z v h1 hv),hrec.1⟩,hrec.2⟩
   · cases h
theorem VRc_vals {V:Vw}:∀ {cs:List SV} {b o:Nat},VRc V cs b o->∃us,VRs V cs us/\us.length=cs.length/\∀i u,us[i]? =some u->V.w.cell? ⟨b,o+i,none⟩=some u/\u.oneCell'=true
 |[],b,o,_=>⟨[],by simp[VRs],rfl,λi u h=>by simp at h⟩
 |c::cs,b,o,h=>by
  simp only[VRc]at h;obtain⟨⟨u,h1,h2,h3⟩,h4⟩:=h;obtain⟨us,h5,hl,h6⟩:=VRc_vals h4;refine⟨u::us,by simp only[VRs]; exact⟨u,us,rfl,h3,h5⟩,by simp[hl],λi w hw=> ?_⟩
  cases i with
  |zero=>simp at hw; subst hw; exact⟨h1,h2⟩
  |succ i=>
   have:=h6 i w (by simpa using hw)
   rw[show o+(i+1)=o+1+i by omega]; exact this
theorem AfJ {V:Vw} {b:Nat}:∀ {cs:List SV} {us:List Value} {o:Nat},VRs V cs us->(∀i u,us[i]? =some u->V.w.cell? ⟨b,o+i,none⟩=some u/\u.oneCell'=true)->VRc V cs b o
 |[],us,o,_,_=>by simp only[VRc]
 |c::cs,us,o,h,hu=>by
  simp only[VRs]at h;obtain⟨v,r,rfl,h1,h2⟩:=h;simp only[VRc];refine⟨⟨v,(hu 0 v rfl).1,(hu 0 v rfl).2,h1⟩,AfJ h2 λi u hi=> ?_⟩;have:=hu (i+1) u (by simpa using hi);rw[show o+1+i=o+(i+1) by omega]; exact this
theorem AcY {V:Vw} {H:Nat->Option HB} (hH:Heap V H) {p:Bool×List Sh} {x:SV} {ys:List C} {v:Value} (h:AdU p x=some ys) (hv:VR V x v):VR V (Abg p ys) v:=by
 obtain⟨g,e⟩:=p;unfold AdU at h;by_cases hp:Ae2 (g,e)=true
 · rw[if_pos hp]at h
   match g,e,hp with
   |false,s::t::r,_=>
    split at h
    · rename_i cs
      split at h
      · rename_i zs hz
        injection h with h; subst h
        simp only[VR,Abg]at hv ⊢
        obtain⟨b,o,rfl,hb,hc⟩:=hv
        obtain⟨us,hus,hul,hui⟩:=VRc_vals hc
        have h2:=(toCs_vals V (t::r) cs zs [] us hz hus).1
        refine⟨b,o,rfl,hb,AfJ h2 λi u hi=>hui i u ?_⟩
        rw[List.getElem?_take]at hi
        split at hi
        · exact hi
        · cases hi
      · cases h
    · cases h
 rw[if_neg hp]at h;have hofr:Abg (g,e) ys=(match g with|true=> .agg (ofCs e ys)|false=>(ofCs e ys).headD .any):=by
  match g,e,hp with
  |true,_,_=>rfl
  |false,[],_=>rfl
  |false,[_],_=>rfl
  |false,_::_::_,hp=>exact absurd rfl hp
 rw[hofr];unfold Ahr at h
 cases hc:svCells x with
 |none=>simp[hc]at h
 |some cs=>
  simp only[hc]at h
  split at h
  · rename_i hg
    split at h
    · rename_i zs hz
      injection h with h; subst h
      cases x with
      |agg ds=>
       simp only[svCells]at hc
       injection hc with hc; subst hc
       simp only[Ahb]at hg; subst hg
       simp only[VR]at hv
       obtain⟨us,rfl,h1,hr⟩:=hv
       have h2:=(toCs_vals V e ds zs [] us hz hr)
       have h3:us.drop e.length=[]:=by simpa[VRs]using h2.2
       have h4:us.take e.length=us:=AlZ (by simpa using h3)
       rw[h4]at h2
       simp only[VR]
       exact⟨us,rfl,h1,h2.1⟩
      |any=>simp[svCells]at hc
      |undef=>simp[svCells]at hc
      |tup ds=>simp[svCells]at hc
      |_=>
       simp only[svCells]at hc
       injection hc with hc; subst hc
       simp only[Ahb]at hg; subst hg
       cases e with
       |nil=>simp[toCs]at hz
       |cons s r=>
        simp only[toCs]at hz
        split at hz
        · rename_i z zs' rest h1 h2
          cases r with
          |nil=>
           simp only[toCs]at h2
           injection h2 with h2; injection h2 with h3 h4; subst h3; subst h4
           injection hz with hz; injection hz with h5 h6; subst h5
           simp only[ofCs,Al4]
           exact(Adi V s z v).2 (AdT V s _ z v h1 hv)
          |cons s' r'=>simp[toCs]at h2
        · cases hz
    · cases h
  · cases h
theorem Ahq {p:Bool×List Sh} {x:SV} {ys:List C} (h:AdU p x=some ys) (hw:Wf x):Wf (Abg p ys):=by
 obtain⟨g,e⟩:=p;unfold AdU at h;by_cases hp:Ae2 (g,e)=true
 · rw[if_pos hp]at h
   match g,e,hp with
   |false,s::t::r,_=>
    split at h
    · rename_i cs
      split at h
      · rename_i zs hz
        injection h with h; subst h
        simp only[Wf,Abg]at hw ⊢
        exact Adp (t::r) zs (Acd (t::r) cs zs [] hz hw).1
      · cases h
    · cases h
 rw[if_neg hp]at h;have hofr:Abg (g,e) ys=(match g with|true=> .agg (ofCs e ys)|false=>(ofCs e ys).headD .any):=by
  match g,e,hp with
  |true,_,_=>rfl
  |false,[],_=>rfl
  |false,[_],_=>rfl
  |false,_::_::_,hp=>exact absurd rfl hp
 rw[hofr];unfold Ahr at h
 cases hc:svCells x with
 |none=>simp[hc]at h
 |some cs=>
  have hcs:Wfs cs:=by
   cases x<;>simp only[svCells]at hc<;>first|(cases hc; done)|(injection hc with hc; subst hc; first|(simpa only[Wf]using hw)|(simp only[Wfs]; exact⟨hw,trivial⟩))
  simp only[hc]at h
  split at h
  · split at h
    · rename_i zs hz
      injection h with h; subst h
      have h2:=Adp e zs (Acd e cs zs [] hz hcs).1
      cases g
      · show Wf ((ofCs e zs).headD .any)
        cases he:ofCs e zs with
        |nil=>simp[Wf]
        |cons d ds=>rw[he]at h2; simp only[Wfs]at h2; exact h2.1
      · simpa only[Wf]using h2
    · cases h
  · cases h
theorem AbR {V:Vw} {H:Nat->Option HB} (hH:Heap V H):∀(ps:List (Bool×List Sh)) (xs:List SV) (args:List (List C)) (vs:List Value),Abq ps xs=some args->VRs V xs vs->VRs V (ofRess ps args) vs
 |[],xs,args,vs,h,hv=>by
  cases xs with
  |nil=>simp only[VRs]at hv; subst hv; simp[ofRess,VRs]
  |cons x xs=>simp[Abq]at h
 |p::ps,xs,args,vs,h,hv=>by
  cases xs with
  |nil=>simp[Abq]at h
  |cons x xs=>
   simp only[Abq]at h
   split at h
   · rename_i y ys h1 h2
     injection h with h; subst h
     simp only[VRs]at hv
     obtain⟨v,t,rfl,hv1,hv2⟩:=hv
     simp only[ofRess,Al4,AmD,VRs]
     exact⟨v,t,rfl,AcY hH h1 hv1,AbR hH ps xs ys t h2 hv2⟩
   · cases h
theorem Abp:∀(ps:List (Bool×List Sh)) (xs:List SV) (args:List (List C)),Abq ps xs=some args->Wfs xs->Wfs (ofRess ps args)
 |[],xs,args,h,hv=>by simp[ofRess,Wfs]
 |p::ps,xs,args,h,hv=>by
  cases xs with
  |nil=>simp[Abq]at h
  |cons x xs=>
   simp only[Abq]at h
   split at h
   · rename_i y ys h1 h2
     injection h with h; subst h
     simp only[Wfs]at hv
     simp only[ofRess,Al4,AmD,Wfs]
     exact⟨Ahq h1 hv.1,Abp ps xs ys h2 hv.2⟩
   · cases h
def Runs (P:Program) (f:FuncId) (args:Array Value) (w:World) (R:Value->World->Prop):Prop:=
 ((callFunc f args).run P w= .ok (.enter f args) w/\Calls P f args w (λe w'=>∃v,e= .returned v/\R v w'))∨
 ∃v w',(callFunc f args).run P w= .ok (.value v) w'/\R v w'
structure AjD (b:Nat) (w w':World):Prop where
 os:w'.os=w.os
 tape:w'.tape=w.tape
 output:w'.output=w.output
 size:w.heap.size<=w'.heap.size
 blk:∀c,c<w.heap.size->c≠b->w'.heap[c]? =w.heap[c]?
structure SoundCt (P:Program) (f:FuncId) (ct:Ct):Prop where
 wf:∀args,Wfs (ofRess ct.aps args)->ct.pre args->Wfs (ofRess ct.ars (ct.out args))
 runs:ct.bx=none->ct.ow=none->ct.fr=none->∀(V:Vw) (args:List (List C)) (vals:List Value),(∀k b,V.D k->V.L k->blkOf (V.p k)=some b->b<V.w.heap.size)->(∀b,V.bad b->b<V.w.heap.size)->
  Wfs (ofRess ct.ps args)->ct.pre args->VRs V (ofRess ct.ps args) vals->
  Runs P f vals.toArray V.w λv w'=>Below V.w.heap.size V.w w'/\VR {V with w:=w'} (ct.sv args) v
 runsB:∀t e,ct.bx=some (t,e)->∀(V:Vw) (args:List (List C)) (vals:List Value) (b:Nat) (us:List Value),(∀k b,V.D k->V.L k->blkOf (V.p k)=some b->b<V.w.heap.size)->(∀b,V.bad b->b<V.w.heap.size)->
  ¬V.ok b->V.w.heap[b]? =some (.cells us.toArray t (0,0))->(∀u∈us,u.oneCell'=true)->VRs V (ofCs e (args.headD [])) us->
  Wfs (ofRess ((true,e)::ct.ps) args)->ct.pre args->VRs V (ofRess ct.ps args.tail) vals->
  Runs P f (.pointer (some ⟨b,0,none⟩)::vals).toArray V.w λv w'=>AjD b V.w w'/\
   (∃us':List Value,w'.heap[b]? =some (.cells us'.toArray t (0,0))/\(∀u∈us',u.oneCell'=true)/\VRs {V with w:=w'} (ofCs e ((ct.out args).headD [])) us')/\VR {V with w:=w'} (ct.sv args) v
 runsO:∀t e r,ct.bx=none->ct.ow=some (t,e,r)->∀(V:Vw) (xs:List (List C)) (args:List (List C)) (vals:List Value) (v:Value) (us:List Value),(∀k b,V.D k->V.L k->blkOf (V.p k)=some b->b<V.w.heap.size)->(∀b,V.bad b->b<V.w.heap.size)->
  (∀b,blkOf v=some b->b<V.w.heap.size/\¬V.ok b)->OwnRow V.w t e.length v xs.length us->RepRow V.w V.ok e xs us->
  Wfs (ofRess ct.aps ([.l xs]::args))->ct.pre ([.l xs]::args)->VRs V (ofRess ct.ps args) vals->
  Runs P f (v::vals).toArray V.w λr' w'=>∃v' us',r'=(bif r then v' else .tuple #[])/\(r=false->v'=v)/\w'.os=V.w.os/\w'.tape=V.w.tape/\w'.output=V.w.output/\V.w.heap.size<=w'.heap.size/\
   (∀b,b<V.w.heap.size->blkOf v≠some b->w'.heap[b]? =V.w.heap[b]?)/\(∀b,blkOf v'=some b->(blkOf v=some b∨V.w.heap.size<=b)/\b<w'.heap.size)/\
   OwnRow w' t e.length v' ((((ct.out ([.l xs]::args)).headD []).headD default).list).length us'/\RepRow V.w V.ok e (((ct.out ([.l xs]::args)).headD []).headD default).list us'
 runsF:∀t e,ct.bx=none->ct.ow=none->ct.fr=some (t,e)->∀(V:Vw) (args:List (List C)) (vals:List Value),(∀k b,V.D k->V.L k->blkOf (V.p k)=some b->b<V.w.heap.size)->(∀b,V.bad b->b<V.w.heap.size)->
  Wfs (ofRess ct.ps args)->ct.pre args->VRs V (ofRess ct.ps args) vals->
  Runs P f vals.toArray V.w λv w'=>Below V.w.heap.size V.w w'/\(match ct.fm with
   |none=>∃us',(∀b,blkOf v=some b->V.w.heap.size<=b/\b<w'.heap.size)/\
    OwnRow w' t e.length v ((((ct.out args).headD []).headD default).list).length us'/\RepRow V.w V.ok e (((ct.out args).headD []).headD default).list us'
   |some (.mp kt g ks)=>∃b es clock,v= .map (some b)/\V.w.heap.size<=b/\b<w'.heap.size/\w'.heap[b]? =some (.map es clock)/\EntsRep V.w V.ok kt g e ((ks args).zip (((ct.out args).headD []).headD default).list) es.toList
   |some .bx=>∃b us,v= .pointer (some ⟨b,0,none⟩)/\V.w.heap.size<=b/\b<w'.heap.size/\w'.heap[b]? =some (.cells us.toArray t (0,0))/\(∀u∈us,u.oneCell'=true)/\RepVs w' (λc=>Vw.ok {V with w:=w'} c/\c≠b) e ((((ct.out args).headD []).headD default).list.headD []) us)
theorem SoundCt.svWf {P:Program} {f:FuncId} {ct:Ct} (h:SoundCt P f ct) (h0:ct.bx=none->ct.ow=none/\ct.fr=none) {args:List (List C)} (ha:Wfs (ofRess ct.aps args)) (hp:ct.pre args):Wf (ct.sv args):=by
 have h1:=h.wf args ha hp;have h2:Wfs (ofRess ct.rs (ct.outs args)):=by
  unfold Ct.ars at h1;unfold Ct.outs
  cases hb:ct.bx with
  |none=>simpa only[hb,(h0 hb).1,(h0 hb).2]using h1
  |some te=>simp only[hb,ofRess,Wfs]at h1 ⊢; exact h1.2
 unfold Ct.sv;split
 · rename_i x hx; rw[hx]at h2; simp only[Wfs]at h2; exact h2.1
 · simpa only[Wf]using h2
end Go.Sx

