import Derived.Test.YtejdbdegdanecaaGreatSxUse
import Derived.WalkKit
import Derived.ProofKit
import Derived.OpenShut
import Derived.ShutString
import Derived.ChangeOld
import Derived.Below
set_option linter.unusedVariables false
set_option linter.unusedSimpArgs false
namespace Go.Sx
open Go.RowKit Go.WideShapes
variable {P:Program} {H:Type} {enc:TypeId×Value->H}
def shF (P:Program) (rec:TypeId->Option (List Sh)):List Field->Nat->Option (List Sh)
 |[],_=>some []
 |f::r,off=>
  match rec f.type with
  |some e=>if f.offset=off/\P.cellsOf f.type=e.length then(shF P rec r (off+e.length)).map (e++ ·)else none
  |none=>none
def shT (P:Program):Nat->TypeId->Option (List Sh)
 |0,_=>none
 |n+1,t=>
  match P.underlying t with
  |some .bool=>some [.bool]
  |some (.int k)=>some [.int k]
  |some .string=>some [.str]
  |some (.slice e)=>(match shT P n e with
   |some s=>if s.length=P.cellsOf e/\0<s.length then some [.sl s]else none
   |none=>none)
  |some (.struct fs)=>(match shF P (shT P n) fs.toList 0 with
   |some s=>if s.length=P.cellsOf t then some s else none
   |none=>none)
  |_=>none
theorem AdD {w:World} {ok:Nat->Prop} {s:Sh} {d:C} {u:Value} (h1:u.oneCell'=true) (h2:RepC w ok s d u):RepVs w ok [s] [d] [u]:=⟨u,[],rfl,h1,h2,rfl⟩
def okIn (w:World) (b:Nat):Prop:=b<w.heap.size
theorem Ad9 {w:World} {ok:Nat->Prop}:∀ {e f:List Sh} {xs ys:List C} {us vs:List Value},xs.length=e.length->RepVs w ok e xs us->RepVs w ok f ys vs->RepVs w ok (e++f) (xs++ys) (us++vs)
 |[],f,xs,ys,us,vs,hl,h1,h2=>by
  obtain rfl:xs=[]:=Am2.1 (by simpa using hl);simp only[RepVs]at h1;subst h1; exact h2
 |s::e,f,[],ys,us,vs,hl,h1,h2=>by simp at hl
 |s::e,f,x::xs,ys,us,vs,hl,h1,h2=>by
  simp only[RepVs,Al4,AmD]at h1;obtain⟨u,t,rfl,hu,hr,ht⟩:=h1;simp only[Anu,RepVs,Al4,AmD];exact⟨u,t++vs,rfl,hu,hr,Ad9 (by simpa using hl) ht h2⟩
theorem Aew:∀ {e f:List Sh} {xs ys:List C},xs.length=e.length->WfCs e xs->WfCs f ys->WfCs (e++f) (xs++ys)
 |[],f,xs,ys,hl,h1,h2=>by
  obtain rfl:xs=[]:=Am2.1 (by simpa using hl);exact h2
 |s::e,f,[],ys,hl,h1,h2=>by simp at hl
 |s::e,f,x::xs,ys,hl,h1,h2=>by
  simp only[WfCs,Al4,AmD,Anu]at h1 ⊢;exact⟨by simp,h1.2.1,Aew (by simpa using hl) h1.2.2 h2⟩
theorem AhB {w:World} {ok:Nat->Prop} {b:Nat}:∀ {e:List Sh} {xs:List C} {us:List Value} {o:Nat},RepVs w ok e xs us->(∀j,j<us.length->w.cell? ⟨b,o+j,none⟩=us[j]?)->RepCs w ok e xs b o
 |[],_,_,_,_,_=>by simp only[RepCs]
 |s::e,xs,us,o,h,hc=>by
  simp only[RepVs]at h;obtain⟨u,t,rfl,h1,h2,h3⟩:=h;simp only[RepCs];refine⟨⟨u,by have:=hc 0 (by simp); simpa using this,h1,h2⟩,AhB h3 λj hj=> ?_⟩;have:=hc (j+1) (by simp; omega);rw[show o+1+j=o+(j+1) by omega];simpa using this
theorem cells_get {w:World} {base:Nat} {a:Addr} {n:Nat} {vs:List Value} (h:w.cells? base a n=some vs):vs.length=n/\∀j,j<n->w.cell? (a.add j)=vs[j]? :=by
 unfold World.cells? at h;split at h
 · have hl:=mapM_some_length h;exact⟨by simpa using hl,λj hj=>mapM_some_get h j j (by simp[hj])⟩
 · cases h
theorem Ajj {k:IntKind} {n:Int} (h:(Lit.int k n).wf=true):InR k n:=by
 cases k<;>simp[Lit.wf,IntKind.min,IntKind.max,IntKind.bits,IntKind.signed]at h<;>simp only[InR]<;>omega
theorem shF_data {w:World} {rec:TypeId->Option (List Sh)} {cs:List Value}:∀(fs:List Field) (off:Nat) (s:List Sh),shF P rec fs off=some s->off+s.length=cs.length->
 (∀(f:Field) (e:List Sh),f∈fs->rec f.type=some e->∃ds:List C,ds.length=e.length/\WfCs e ds/\RepVs w (okIn w) e ds ((cs.drop f.offset).take (P.cellsOf f.type)))->
 ∃ds:List C,ds.length=s.length/\WfCs s ds/\RepVs w (okIn w) s ds (cs.drop off)
 |[],off,s,h,hl,_=>by
  simp only[shF]at h;injection h with h; subst h;refine⟨[],rfl,by simp only[WfCs],?_⟩;simp only[RepVs];simp at hl;rw[List.drop_eq_nil_iff]; omega
 |f::r,off,s,h,hl,hr=>by
  simp only[shF]at h;split at h
  · rename_i e he;split at h
    · rename_i hc;obtain⟨hoff,hsz⟩:=hc;rw[Option.map_eq_some_iff]at h;obtain⟨s',hs',rfl⟩:=h;simp only[AlF]at hl;obtain⟨d1,l1,w1,r1⟩:=hr f e (by simp) he;obtain⟨d2,l2,w2,r2⟩:=shF_data r _ s' hs' (by omega) λg e' hg he'=>hr g e' (by simp[hg]) he';refine⟨d1++d2,by simp[l1,l2],Aew l1 w1 w2,?_⟩;have:=Ad9 l1 r1 r2;rw[hoff,hsz,←Anv,List.take_append_drop]at this;exact this
    · cases h
  · cases h
theorem trod_data {w:World} {spare:Nat->Bool} {held:Bool}:∀(n:Nat) (t:TypeId) (e:List Sh) (fuel:Nat) (cs:List Value) (x:DataW H×List MemPlace),shT P n t=some e->
    DataW.trod enc P w 0 spare held fuel t cs=some x->∃ds:List C,ds.length=e.length/\WfCs e ds/\RepVs w (okIn w) e ds cs
  |0,_,_,_,_,_,h,_=>by simp[shT]at h
  |n+1,t,e,fuel,cs,x,h,hx=>by
    simp only[shT]at h;split at h
    · rename_i hu;injection h with h; subst h;obtain⟨b,rfl,_⟩:=DataW.trod_bool hu hx;exact⟨[.b b],rfl,by simp[WfCs,WfC],AdD rfl (by simp only[RepC,C.bool])⟩
    · rename_i k hu;injection h with h; subst h;obtain⟨m,rfl,_,hw⟩:=DataW.trod_int hu hx;exact⟨[.i m],rfl,by simp[WfCs,WfC,C.int,Ajj hw],AdD rfl (by simp only[RepC,C.int])⟩
    · rename_i hu;injection h with h; subst h;obtain⟨s,rfl,_,hw⟩:=DataW.trod_string hu hx;exact⟨[.s s],rfl,by simp[WfCs,WfC,C.str,hw],AdD rfl (by simp only[RepC,C.str])⟩
    · rename_i el hu;split at h
      · rename_i s hs;split at h
        · rename_i hc;obtain⟨hsz,hpos⟩:=hc;injection h with h; subst h;rcases DataW.trod_slice hu hx with⟨rfl,_⟩|⟨a,len,cap,elems,rest,m,rfl,rfl,_,_,hlc,hcap,hlen,hel,_,_⟩
          · exact⟨[.l []],rfl,by simp[WfCs,WfC,C.list],AdD rfl (by simp only[RepC,C.list]; exact⟨none,0,0,rfl,AlT _,Nat.zero_le _,rfl,.inl rfl⟩)⟩
          · have each:∀i,i<len->∃ds:List C,WfCs s ds/\∃vs,RepVs w (okIn w) s ds vs/\vs.length=s.length/\∀j,j<s.length->w.cell? (a.add (i*s.length)|>.add j)=vs[j]? :=by
              intro i hi;have h1:=hel i hi;rw[List.getElem?_eq_getElem (by omega),Option.bind_eq_some_iff]at h1;obtain⟨vs,hvs,h2⟩:=h1;rw[←hsz]at hvs;obtain⟨h3,h4⟩:=cells_get hvs;obtain⟨ds,_,hw,hr⟩:=trod_data n el s m vs _ hs h2;exact⟨ds,hw,vs,hr,h3,h4⟩
            have all:∀m,m<=len->∃xs:List (List C),xs.length=m/\(∀x∈xs,WfCs s x)/\∀i,i<m->∃vs,RepVs w (okIn w) s (xs.getD i []) vs/\vs.length=s.length/\∀j,j<s.length->w.cell? (a.add (i*s.length)|>.add j)=vs[j]? :=by
              intro m
              induction m with
              |zero=>intro _; exact⟨[],rfl,by simp,λi hi=>by omega⟩
              |succ m ih=>
                intro hm
                obtain⟨xs,hl,hw,hr⟩:=ih (by omega)
                obtain⟨ds,hwd,vs,hvs⟩:=each m (by omega)
                refine⟨xs++[ds],by simp[hl],λx hx=> ?_,λi hi=> ?_⟩
                · rcases AlY.1 hx with hx|hx
                  · exact hw x hx
                  · simp at hx; subst hx; exact hwd
                · by_cases him:i=m
                  · subst him
                    refine⟨vs,?_,hvs.2⟩
                    simp only[List.getD_eq_getElem?_getD]
                    rw[List.getElem?_append_right (by omega)]
                    simp[hl]; exact hvs.1
                  · obtain⟨us,hus⟩:=hr i (by omega)
                    refine⟨us,?_,hus.2⟩
                    have h1:=hus.1
                    simp only[List.getD_eq_getElem?_getD]at h1 ⊢
                    rw[List.getElem?_append_left (by omega)]; exact h1
            obtain⟨xs,hl,hw,hr⟩:=all len (AlT _);refine⟨[.l xs],rfl,?_,?_⟩
            · simp only[WfCs,WfC,Al4,C.list,AmD];exact⟨by simp,⟨by omega,hw⟩,trivial⟩
            · simp only[RepVs,Al4,AmD,RepC,C.list];refine⟨_,[],rfl,rfl,⟨some a,len,cap,rfl,hlc,hcap,hl.symm,?_⟩,rfl⟩;by_cases h0:len=0
              · exact .inl h0
              · refine .inr ?_;obtain⟨vs,_,hvl,hc0⟩:=hr 0 (by omega);have h00:=hc0 0 (by omega);rw[List.getElem?_eq_getElem (by omega)]at h00;obtain⟨b,o,spot⟩:=a;have hspot:spot=none:=by
                  rw[show((⟨b,o,spot⟩:Addr).add (0*s.length)).add 0=⟨b,o,spot⟩ by simp[Addr.add]]at h00;exact World.cell?_spot h00
                subst hspot;rw[add_mk,add_mk]at h00;refine⟨b,o,rfl,World.block_lt_of_cell? _ _ h00,λi hi=> ?_⟩;obtain⟨vs,hv1,hv2,hv3⟩:=hr i hi;refine AhB hv1 λj hj=> ?_;have:=hv3 j (by omega);rw[add_mk,add_mk]at this;exact this
        · cases h
      · cases h
    · rename_i fs hu;split at h
      · rename_i s hs;split at h
        · rename_i hsz;injection h with h; subst h;obtain⟨xs,m,rfl,_,hl,hxl,hf⟩:=DataW.trod_struct hu hx;have:=shF_data (P:=P) (w:=w) (cs:=cs) fs.toList 0 s hs (by omega) λf e' hfm he'=>by
            obtain⟨i,hi⟩:=List.mem_iff_getElem?.1 hfm;have h1:=hf i f (by simpa using hi);have hlt:i<xs.length:=by
              have:=(List.getElem?_eq_some_iff.1 hi).1;simp at this; omega
            rw[List.getElem?_eq_getElem hlt]at h1;exact trod_data n f.type e' m _ _ he' h1
          simpa using this
        · cases h
      · cases h
    · cases h
def V0 (w:World):Vw:= {w:=w,D:=λ_=>False,L:=λ_=>False,c:=λ_=>0,p:=λ_=>Go.undef,bad:=λ_=>False}
theorem AlB (w:World) (b:Nat) (h:okIn w b):(V0 w).ok b/\(V0 w).w.heap[b]? =w.heap[b]? :=⟨⟨h,λh=>h.elim,λ_ h=>h.elim⟩,rfl⟩
theorem repVs_vrs {w:World}:∀ {e:List Sh} {ds:List C} {us:List Value},RepVs w (okIn w) e ds us->(∀u∈us,u.oneCell'=true)/\VRs (V0 w) (ofCs e ds) us
 |[],ds,us,h=>by simp only[RepVs]at h; subst h; simp[ofCs,VRs]
 |s::e,ds,us,h=>by
  simp only[RepVs]at h;obtain⟨u,t,rfl,h1,h2,h3⟩:=h;obtain⟨h4,h5⟩:=repVs_vrs h3;refine⟨λv hv=> ?_,?_⟩
  · rcases Amd.1 hv with rfl|hv
    · exact h1
    · exact h4 v hv
  · simp only[ofCs,VRs];exact⟨u,t,rfl,(Adi _ _ _ _).2 (RepC.mono (AlB w) _ _ _ h2),h5⟩
theorem Ahn:∀ {e:List Sh} {ds:List C},WfCs e ds->Wfs (ofCs e ds)
 |[],_,_=>by simp[ofCs,Wfs]
 |s::e,ds,h=>by
  simp only[WfCs]at h;simp only[ofCs,Wfs];exact⟨(AjA _ _).2 h.2.1,Ahn h.2.2⟩
theorem open_arg {w:World} {spare:Nat->Bool} {held:Bool} {r:Reach} {base n:Nat} {t:TypeId} {g:Bool} {e:List Sh} {v:Value} {d:DataW H} {p:List MemPlace} (hs:shT P n t=some e) (hg:agTy P t=some g)
 (hok:Value.okWide P w r base t v) (h:DataW.Trod enc P w 0 spare held t v d p):∃ds:List C,Wf (Abg (g,e) ds)/\VR (V0 w) (Abg (g,e) ds) v:=by
 obtain⟨fuel,h⟩:=h;obtain⟨ds,hl,hw,hr⟩:=trod_data n t e fuel _ _ hs h;obtain⟨h1,h2⟩:=repVs_vrs hr;have h3:=Ahn hw;refine⟨ds,?_⟩
 cases g with
 |true=>
  have hv:∃cs,v= .agg cs:=by
   unfold agTy at hg;unfold Value.okWide at hok;split at hg<;>first|(cases hg; done)|skip
   · rename_i hu; rw[hu]at hok; obtain⟨cs,rfl,_⟩:=hok; exact⟨cs,rfl⟩
   · rename_i hu; rw[hu]at hok; obtain⟨cs,rfl,_⟩:=hok; exact⟨cs,rfl⟩
  obtain⟨cs,rfl⟩:=hv
  simp only[Abg,Wf,VR]
  exact⟨h3,cs.toList,by simp,by simpa[Value.cells]using h1,by simpa[Value.cells]using h2⟩
 |false=>
  have he:∃s,e=[s]/\v.cells= #[v]:=by
   cases n with
   |zero=>simp[shT]at hs
   |succ n=>
    unfold agTy at hg
    simp only[shT]at hs
    split at hs
    · rename_i hu; injection hs with hs; obtain⟨b,rfl⟩:=okWide_bool hu hok; exact⟨_,hs.symm,rfl⟩
    · rename_i hu; injection hs with hs; obtain⟨b,rfl⟩:=okWide_int hu hok; exact⟨_,hs.symm,rfl⟩
    · rename_i hu; injection hs with hs; obtain⟨b,rfl⟩:=okWide_string hu hok; exact⟨_,hs.symm,rfl⟩
    · rename_i hu
      split at hs
      · split at hs
        · injection hs with hs; obtain⟨a,l,c,rfl⟩:=okWide_slice hu hok; exact⟨_,hs.symm,rfl⟩
        · cases hs
      · cases hs
    · rename_i hu; simp[hu]at hg
    · cases hs
  obtain⟨s,rfl,hv⟩:=he
  rw[hv]at h2
  simp only[ofCs,VRs,Wfs,Abg,Al4]at h2 h3 ⊢
  obtain⟨u,t',heq,hu,_⟩:=h2
  simp at heq
  obtain⟨rfl,_⟩:=heq
  exact⟨h3.1,hu⟩
theorem Ajg {G:Nat->Option Ct} (hm:P.follows .mixedOrders=true) (hG:∀f ct,G f=some ct->SoundCt P f ct) {wr:FuncId->Bool} {A:FuncId->Nat->LoopAnn} {n:Nat} {f:FuncId} {svs:List SV}
 (h:vcF P G wr A n f svs [] λsv _=>AhS sv) (hw:Wfs svs) {w:World} {vals:List Value} (hv:VRs (V0 w) svs vals):
 Calls P f vals.toArray w λe w'=>e= .returned (.bool true)/\Below w.heap.size w w':=by
 obtain⟨_,h2⟩:=call_sound hG (λb=>draw_sound hG hm b) n f svs [] _ h hw (λk c hk=>by simp at hk) (V0 w) vals hv ⟨λk hk=>hk.elim,λk b hk=>hk.elim,λb hb=>hb.elim,λk b hk=>hk.elim,λk k' b hk=>hk.elim⟩ (λk hk=>hk.elim);refine h2.mono λe w' ⟨v,V',sv,heap',he,hw',hK,hws,_,hvr,hg,hH,_⟩=> ?_;subst he; subst hw';obtain⟨W,hg⟩:=hg;refine⟨?_,⟨hg.os,hg.tape,hg.output,hg.size,λb hb=>hg.blk b hb λk _ hk=>hk.elim⟩⟩;unfold AhS at hK;split at hK
 · simp only[VR]at hvr; rw[hvr,hK]
 · simp only[VR]at hvr; rw[hvr,hK]
 · exact hK.elim
end Go.Sx

