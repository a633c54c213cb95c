import Derived.Test.YtejdbdegdanecaaGreatSxOwn
set_option linter.unusedVariables false
set_option linter.unusedSimpArgs false
namespace Go.Sx
open Go.RowKit
variable {P:Program}
theorem slitRows_rep {V:Vw} {m sz:Nat} {cs:List SV} {e:List Sh} {xs:List (List C)} {b o:Nat} (h:Ack m sz cs=some (e,xs)) (hc:VRc V cs b o):
 e.length=sz/\xs.length=m/\∀i,i<m->RepCs V.w V.ok e (xs.getD i []) b (o+i*e.length):=by
 unfold Ack at h;split at h
 · rename_i e' he;split at h
   · rename_i hl
     cases hr:toRows (toCs e') m cs with
     |none=>simp[hr]at h
     |some ys=>
      simp only[hr,AlM,AlC,AlH]at h
      obtain⟨rfl,rfl⟩:=h
      exact⟨hl,Abw _ m cs ys hr,AdS V e' m cs ys b o (AfK V e') hr hc⟩
   · cases h
 · cases h
theorem AeB {m sz:Nat} {cs:List SV} {e:List Sh} {xs:List (List C)} (h:Ack m sz cs=some (e,xs)) (hw:Wfs cs):∀x∈xs,WfCs e x:=by
 unfold Ack at h;split at h
 · rename_i e' he;split at h
   · rename_i hl
     cases hr:toRows (toCs e') m cs with
     |none=>simp[hr]at h
     |some ys=>
      simp only[hr,AlM,AlC,AlH]at h
      obtain⟨rfl,rfl⟩:=h
      exact AcX e' m cs ys (Acd e') hr hw
   · cases h
 · cases h
theorem Ahy {V:Vw} {t:TypeId} {x i r:SV} {u v:Value} {c:Q} (h:sIdx P t x i=some (c,r)) (hc:c.h) (hx:VR V x u) (hi:VR V i v):
 ∃z,(Instr.indexAt t u v).run P V.w= .ok z V.w/\VR V r z:=by
 unfold sIdx at h;split at h
 · cases h
 · rename_i k n l hn;rw[numOf_VR hn hi];split at h
   · rename_i elem hu;split at h
     · rename_i size e xs hs;split at h
       · rename_i hl;simp only[AlC,AlH]at h;obtain⟨rfl,rfl⟩:=h;simp only[VR,RepC,C.list]at hx;obtain⟨a,m,cap,rfl,h1,h2,rfl,h4⟩:=hx;obtain⟨hc0,hc1⟩:=hc;simp only[iLen]at hc1;rcases h4 with h4|⟨b,o,rfl,hb,hr⟩
         · omega
         · refine⟨.pointer (some ⟨b,o+n.toNat*size,none⟩),?_,?_⟩
           · simp only[Instr.indexAt,asIntOf,Sem.run_bind,Sem.run_pure,Result.andThen_ok,Aa4 hu,if_pos (And.intro hc0 hc1),run_size hs,add_mk]
           · simp only[VR];exact⟨b,_,rfl,hb,Aev V e _ b _ (by rw[←hl]; exact hr n.toNat (by omega))⟩
       · cases h
     · rename_i size m sz cs hs;split at h
       · rename_i hsz;subst hsz;simp only[VR]at hx;obtain⟨a,cap,rfl,h1,h2,h3,b,o,rfl,hb,hr⟩:=hx;split at h
         · split at h
           · rename_i hlt;simp only[AlC,AlH]at h;obtain⟨rfl,rfl⟩:=h;refine⟨.pointer (some ⟨b,o+n.toNat*sz,none⟩),?_,?_⟩
             · simp only[Instr.indexAt,asIntOf,Sem.run_bind,Sem.run_pure,Result.andThen_ok,Aa4 hu,if_pos hlt,run_size hs,add_mk]
             · simp only[VR];exact⟨b,_,rfl,hb,hr.drop _⟩
           · cases h
         · split at h
           · rename_i e xs hsr;simp only[AlC,AlH]at h;obtain⟨rfl,rfl⟩:=h;obtain⟨q1,q2,q3⟩:=slitRows_rep hsr hr;refine⟨.pointer (some ⟨b,o+n.toNat*sz,none⟩),?_,?_⟩
             · simp only[Instr.indexAt,asIntOf,Sem.run_bind,Sem.run_pure,Result.andThen_ok,Aa4 hu,if_pos hc,run_size hs,add_mk]
             · simp only[VR];exact⟨b,_,rfl,hb,Aev V e _ b _ (by rw[←q1]; exact q3 n.toNat (by have:=hc.1; have:=hc.2; omega))⟩
           · cases h
       · cases h
     · cases h
   · rename_i m elem hu;split at h
     · rename_i size kk off hs;split at h
       · split at h
         · rename_i hlt;simp only[AlC,AlH]at h;obtain⟨rfl,rfl⟩:=h;simp only[VR]at hx;obtain⟨hd,b,hp,rfl⟩:=hx;refine⟨.pointer (some ⟨b,off+n.toNat*size,none⟩),?_,?_⟩
           · simp only[Instr.indexAt,asIntOf,Instr.sureAddr,Sem.run_bind,Sem.run_pure,Result.andThen_ok,Aa4 hu,if_pos hlt,run_size hs,add_mk]
           · simp only[VR];exact⟨hd,b,hp,rfl⟩
         · cases h
       · cases h
     · rename_i size cs hs;split at h
       · split at h
         · rename_i hlt;simp only[AlC,AlH]at h;obtain⟨rfl,rfl⟩:=h;simp only[VR]at hx;obtain⟨b,o,rfl,hb,hr⟩:=hx;refine⟨.pointer (some ⟨b,o+n.toNat*size,none⟩),?_,?_⟩
           · simp only[Instr.indexAt,asIntOf,Instr.sureAddr,Sem.run_bind,Sem.run_pure,Result.andThen_ok,Aa4 hu,if_pos hlt,run_size hs,add_mk]
           · simp only[VR];exact⟨b,_,rfl,hb,hr.drop _⟩
         · cases h
       · cases h
     · cases h
   · cases h
theorem sFieldAddr_run {V:Vw} {t:TypeId} {f:Nat} {x r:SV} {u:Value} (h:AcA P t f x=some r) (hx:VR V x u) (w:World):
 ∃z,(Instr.fieldAt t u f).run P w= .ok z w/\VR V r z:=by
 unfold AcA at h
 cases hf:sField P t f with
 |none=>simp[hf]at h
 |some fd=>
  simp only[hf]at h
  cases hs:szTy P fd.type with
  |none=>simp[hs]at h
  |some n=>
   simp only[hs]at h
   split at h
   · cases h
   · rename_i hn
     unfold sField at hf
     split at hf
     · rename_i fs hu
       split at h
       · rename_i k off
         injection h with h; subst h
         simp only[VR]at hx
         obtain⟨hd,b,hp,rfl⟩:=hx
         refine⟨.pointer (some ⟨b,off+fd.offset,none⟩),?_,?_⟩
         · simp only[Instr.fieldAt,Instr.sureAddr,fieldPlace,Sem.run_bind,Sem.run_pure,Result.andThen_ok,Aa4 hu,hf,run_size hs,if_neg hn,add_mk]
         · simp only[VR]
           exact⟨hd,b,hp,rfl⟩
       · rename_i cs
         injection h with h; subst h
         simp only[VR]at hx
         obtain⟨b,o,rfl,hb,hr⟩:=hx
         refine⟨.pointer (some ⟨b,o+fd.offset,none⟩),?_,?_⟩
         · simp only[Instr.fieldAt,Instr.sureAddr,fieldPlace,Sem.run_bind,Sem.run_pure,Result.andThen_ok,Aa4 hu,hf,run_size hs,if_neg hn,add_mk]
         · simp only[VR]
           exact⟨b,_,rfl,hb,hr.drop _⟩
       · rename_i k c sz i off
         injection h with h; subst h
         simp only[VR]at hx
         obtain⟨hd,hc,⟨g,o,rfl⟩,he⟩:=hx
         refine⟨.pointer (some ⟨g,o+fd.offset,none⟩),?_,?_⟩
         · simp only[Instr.fieldAt,Instr.sureAddr,fieldPlace,Sem.run_bind,Sem.run_pure,Result.andThen_ok,Aa4 hu,hf,run_size hs,if_neg hn,add_mk]
         · simp only[VR]
           refine⟨hd,hc,⟨_,_,rfl⟩,λh=> ?_⟩
           obtain⟨b,m,cap,h1,h2,h3,h4⟩:=he h
           refine⟨b,m,cap,h1,h2,h3,?_⟩
           injection h4 with h4; injection h4 with h4; injection h4 with h4 h5 _
           rw[h4,h5,Ami]
       · cases h
     · cases hf
theorem Ahh {α:Type} (xs:List α) (l h:Option Int) (hb:geB l h xs.length):(cutRows xs l h).length=(h.getD xs.length).toNat- (l.getD 0).toNat:=by
 cases l<;>cases h<;>simp[cutRows,geB]at* <;>omega
theorem Ahi (xs:List (List C)) (l h:Option Int) (hb:geB l h xs.length) (i:Nat) (hi:i<(h.getD xs.length).toNat- (l.getD 0).toNat):
 (cutRows xs l h).getD i []=xs.getD ((l.getD 0).toNat+i) []:=by
 cases l<;>cases h<;>simp only[cutRows,geB,Amj,Anl,AmM,List.getD_eq_getElem?_getD]at*
 · simp
 · rw[List.getElem?_take,if_pos (by simp at hi; omega)]; simp
 · rw[List.getElem?_drop]
 · rw[List.getElem?_drop,List.getElem?_take,if_pos (by omega)]
theorem Abf {n:Int} {k:IntKind} {y:Nat} {code:BoundsCode} (h0:0<=n) (h1:n<=y) (w:World):(Instr.sliceBound (.int k n) y code).run P w= .ok n.toNat w:=by
 simp only[Instr.sliceBound,asIntOf,Sem.run_bind,Sem.run_pure,Result.andThen_ok,if_pos (And.intro h0 h1)]
theorem Abh {V:Vw} {lo hi:Option SV} {l h:Option Int} {vl vh:Option Value} (hl:Abx lo=some l) (hh:Abx hi=some h)
 (hvl:∀x,lo=some x->∃v,vl=some v/\VR V x v) (hnl:lo=none->vl=none) (hvh:∀x,hi=some x->∃v,vh=some v/\VR V x v) (hnh:hi=none->vh=none)
 {len cap:Nat} (hb:geB l h len) (hcap:len<=cap) (w:World):
 (Instr.sliceBounds true len cap vl vh none).run P w= .ok ((l.getD 0).toNat,(h.getD len).toNat,cap) w:=by
 have hH:∀(hv:Value) (x:SV) (n:Int),hi=some x->h=some n->vh=some hv->∃k,hv= .int k n:=by
  intro hv x n e1 e2 e3;subst e1; subst e2;simp only[Abx]at hh
  cases hn:numOf x with
  |none=>simp[hn]at hh
  |some q=>
   obtain⟨k,m,b⟩:=q
   simp only[hn,AlM,AlC]at hh
   subst hh
   obtain⟨v,hv',hr⟩:=hvh x rfl
   rw[hv']at e3; injection e3 with e3; subst e3
   exact⟨k,numOf_VR hn hr⟩
 have hL:∀(hv:Value) (x:SV) (n:Int),lo=some x->l=some n->vl=some hv->∃k,hv= .int k n:=by
  intro hv x n e1 e2 e3;subst e1; subst e2;simp only[Abx]at hl
  cases hn:numOf x with
  |none=>simp[hn]at hl
  |some q=>
   obtain⟨k,m,b⟩:=q
   simp only[hn,AlM,AlC]at hl
   subst hl
   obtain⟨v,hv',hr⟩:=hvl x rfl
   rw[hv']at e3; injection e3 with e3; subst e3
   exact⟨k,numOf_VR hn hr⟩
 cases hi with
 |none=>
  have e1:=hnh rfl
  simp only[Abx,AlC]at hh
  subst e1; subst hh
  cases lo with
  |none=>
   have e2:=hnl rfl
   simp only[Abx,AlC]at hl
   subst e2; subst hl
   simp[Instr.sliceBounds,Sem.run_pure]
  |some x=>
   obtain⟨v,e2,hr⟩:=hvl x rfl
   cases l with
   |none=>simp only[Abx]at hl; cases hn:numOf x<;>simp[hn]at hl
   |some n=>
    obtain⟨k,rfl⟩:=hL v x n rfl rfl e2
    subst e2
    simp only[geB]at hb
    simp only[Instr.sliceBounds,Sem.run_bind,Sem.run_pure,Result.andThen_ok,Abf hb.1 hb.2]
    simp
 |some y=>
  obtain⟨vy,e1,hry⟩:=hvh y rfl
  cases h with
  |none=>simp only[Abx]at hh; cases hn:numOf y<;>simp[hn]at hh
  |some m=>
   obtain⟨k,rfl⟩:=hH vy y m rfl rfl e1
   subst e1
   cases lo with
   |none=>
    have e2:=hnl rfl
    simp only[Abx,AlC]at hl
    subst e2; subst hl
    simp only[geB]at hb
    have h2:m<=(cap:Int):=by omega
    simp only[Instr.sliceBounds,Sem.run_bind,Sem.run_pure,Result.andThen_ok,Abf hb.1 h2]
    simp
   |some x=>
    obtain⟨v,e2,hr⟩:=hvl x rfl
    cases l with
    |none=>simp only[Abx]at hl; cases hn:numOf x<;>simp[hn]at hl
    |some n=>
     obtain⟨k',rfl⟩:=hL v x n rfl rfl e2
     subst e2
     simp only[geB]at hb
     have h2:m<=(cap:Int):=by omega
     have h3:n<=(m.toNat:Int):=by omega
     simp only[Instr.sliceBounds,Sem.run_bind,Sem.run_pure,Result.andThen_ok,Abf (by omega:0<=m) h2,Abf hb.1 h3]
     simp
theorem Ahf {V:Vw} {e:List Sh} {xs:List (List C)} {a:Option Addr} {n cap:Nat} {l h:Option Int} (h1:n<=cap) (h2:cap<=maxLen) (h3:n=xs.length)
 (h4:n=0∨∃b o,a=some ⟨b,o,none⟩/\V.ok b/\∀i,i<n->RepCs V.w V.ok e (xs.getD i []) b (o+i*e.length)) (hb:geB l h n):
 VR V (.sl e (cutRows xs l h)) (.slice (if cap=(l.getD 0).toNat then a else a.map (·.add ((l.getD 0).toNat*e.length))) ((h.getD n).toNat- (l.getD 0).toNat) (cap- (l.getD 0).toNat)):=by
 subst h3;have hlen:=Ahh xs l h hb;have hh:(h.getD xs.length).toNat<=xs.length:=by cases l<;>cases h<;>simp[geB]at* <;>omega
 simp only[VR,RepC,C.list];refine⟨_,_,_,rfl,by omega,by omega,hlen.symm,?_⟩;by_cases h0:(h.getD xs.length).toNat- (l.getD 0).toNat=0
 · exact .inl h0
 · rcases h4 with h4|⟨b,o,ha,hok,hr⟩
   · omega
   · refine .inr ⟨b,o+(l.getD 0).toNat*e.length,?_,hok,λi hi=> ?_⟩
     · rw[if_neg (by omega),ha]; simp[add_mk]
     · rw[Ahi xs l h hb i hi,Ami,←Amz];exact hr _ (by omega)
theorem sSlice_run {V:Vw} {t:TypeId} {x r:SV} {lo hi:Option SV} {u:Value} {vl vh:Option Value} {c:Q} (h:Ae8 P t x lo hi=some (c,r)) (hc:c.h) (hx:VR V x u)
 (hvl:∀x,lo=some x->∃v,vl=some v/\VR V x v) (hnl:lo=none->vl=none) (hvh:∀x,hi=some x->∃v,vh=some v/\VR V x v) (hnh:hi=none->vh=none):
 ∃z,(Instr.sliceAt t u vl vh none).run P V.w= .ok z V.w/\VR V r z:=by
 unfold Ae8 at h;split at h
 · rename_i l hh elem hl hhh hu;split at h
   · rename_i size e xs hs;split at h
     · rename_i he;simp only[AlC,AlH]at h;obtain⟨rfl,rfl⟩:=h;simp only[VR,RepC,C.list]at hx;obtain⟨a,n,cap,rfl,h1,h2,h3,h4⟩:=hx;have hb:geB l hh n:=by rw[h3]; exact hc
       refine⟨_,?_,Ahf h1 h2 h3 h4 hb⟩;simp only[Instr.sliceAt,Instr.slice,Sem.run_bind,Aa4 hu,Result.andThen_ok,Abh hl hhh hvl hnl hvh hnh hb h1,run_size hs,Sem.run_pure,he]
     · cases h
   · rename_i size m sz cs hs;split at h
     · rename_i hsz;subst hsz;split at h
       · rename_i e xs hsr;simp only[AlC,AlH]at h;obtain⟨rfl,rfl⟩:=h;simp only[VR]at hx;obtain⟨a,cap,rfl,h1,h2,h3,b,o,rfl,hok,hr⟩:=hx;obtain⟨q1,q2,q3⟩:=slitRows_rep hsr hr;have hb:geB l hh m:=by rw[←q2]; exact hc
         refine⟨_,?_,Ahf (xs:=xs) h1 h2 q2.symm (.inr ⟨b,o,rfl,hok,q3⟩) hb⟩;simp only[Instr.sliceAt,Instr.slice,Sem.run_bind,Aa4 hu,Result.andThen_ok,Abh hl hhh hvl hnl hvh hnh hb h1,run_size hs,Sem.run_pure,q1]
       · cases h
     · cases h
   · cases h
 · cases h
end Go.Sx

