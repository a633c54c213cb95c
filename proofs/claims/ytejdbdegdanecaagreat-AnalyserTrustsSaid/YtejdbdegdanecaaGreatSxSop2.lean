import Derived.Test.YtejdbdegdanecaaGreatSxLit
set_option linter.unusedVariables false
set_option linter.unusedSimpArgs false
namespace Go.Sx
open Go.RowKit
variable {P:Program} {G:Nat->Option Ct} {o:Oper} {a:Act} {V:Vw} {H:Nat->Option HB} {ev:Operand->SV}
theorem okIf_inv {r:Option (Q×SV)} {heap heap':List HB} {hyp chk:Q} {sv:SV} {R W:List Nat} (h:okIf r heap= .ok hyp chk sv heap' R W):r=some (chk,sv)/\heap'=heap/\R=[]/\W=[]/\hyp=none:=by
 unfold okIf at h;split at h
 · simp only[OpR.ok.injEq]at h;obtain⟨rfl,rfl,rfl,rfl,rfl,rfl⟩:=h;exact⟨rfl,rfl,rfl,rfl,rfl⟩
 · cases h
theorem okPlain_inv {r:Option SV} {heap heap':List HB} {hyp chk:Q} {sv:SV} {R0 R W:List Nat} (h:Acw r heap R0= .ok hyp chk sv heap' R W):r=some sv/\heap'=heap/\R=R0/\W=[]/\hyp=none/\chk=none:=by
 unfold Acw at h;split at h
 · simp only[OpR.ok.injEq]at h;obtain⟨rfl,rfl,rfl,rfl,rfl,rfl⟩:=h;exact⟨rfl,rfl,rfl,rfl,rfl,rfl⟩
 · cases h
theorem AfG {V:Vw} {w':World} (h:Below V.w.heap.size V.w w'):Grow V {V with w:=w'} []:=
 Aeh h.os h.tape h.output h.size λb hb _=>h.block b hb
theorem Afa {V:Vw} {w':World} {k b:Nat} {off:Nat} (hp:V.p k= .pointer (some ⟨b,off,none⟩)) (hd:V.D k) (hL:V.L k) (h:AjD b V.w w'):Grow V {V with w:=w'} [k]:=
 Aeh h.os h.tape h.output h.size λc hc hk=>h.blk c hc λhcb=>hk k (by simp) hd hL (by rw[hp,hcb]; rfl)
theorem Aia {V:Vw} {w':World} {H H':Nat->Option HB} {k b:Nat} (hH:Heap V H) (hp:V.p k= .pointer (some ⟨b,0,none⟩)) (hd:V.D k) (hL:V.L k) (h:AjD b V.w w') {cells:List SV} {us:List Value} {t:TypeId}
 (hb:w'.heap[b]? =some (.cells us.toArray t (0,0))) (h1:∀u∈us,u.oneCell'=true) (hr:VRs {V with w:=w'} cells us) (hk:H' k=some (.box cells t)) (ho:∀j,V.D j->j≠k->H' j=H j):Heap {V with w:=w'} H':=by
 have hg:=Afa hp hd hL h;refine⟨λj hj=> ?_,λj c hj hl hc=>Amg (hH.lt j c hj hl hc) h.size,λc hc=>Amg (hH.bd c hc) h.size,hH.nb,hH.inj⟩;by_cases hjk:j=k
 · subst hjk;exact⟨_,hk,hL,b,us,hp,hb,h1,hr⟩
 · obtain⟨hb',h2,h3⟩:=hH.rep j hj;refine⟨hb',by rw[ho j hj hjk]; exact h2,HBRep.mono hg.stays hj rfl (λh=>h) (λc hl hc=>h.blk c (hH.lt j c hj hl hc) λhcb=>hjk (hH.inj j k c hj hl hd hL hc (by rw[hp,hcb]; rfl))) h3⟩
theorem Agk {f:FuncId} {ct:Ct} {oo:TypeId×List Sh×Bool} (hs:SoundCt P f ct) (hbx:ct.bx=none) (how:ct.ow=some oo) {es:List SV} {vs:List Value} {heap heap':List HB} {hyp chk:Q} {sv:SV} {R W:List Nat}
    (h:Ahz ct oo es heap= .ok hyp chk sv heap' R W) (hchk:chk.h) (hvals:VRs V es vs) (hwargs:Wfs es) (hH:Heap V H) (hag:∀k,k∈R->V.D k->H k=heap[k]?) (hhw:WfH heap)
    (hex:(execOp a.eval o).run P V.w=(callFunc f vs.toArray).run P V.w):Ab6 P o a V sv (newH heap heap' W H) W heap.length heap'.length:=by
  obtain⟨t,e,r⟩:=oo;unfold Ahz at h;split at h
  · rename_i k c rest;split at h
    · rename_i e' ty d xs hk;split at h
      · rename_i hc;obtain⟨hcd,hse,rfl,hni⟩:=hc;have hee:=shEqs_eq _ _ hse;simp only at hee;subst hee;split at h
        · rename_i args hargs;simp only[OpR.ok.injEq]at h;obtain⟨rfl,rfl,rfl,rfl,rfl,rfl⟩:=h;simp only[VRs]at hvals;obtain⟨v0,vr,rfl,hv0,hvr⟩:=hvals;simp only[Wfs]at hwargs;generalize hids:rest.flatMap idsOf=ids at hag hni;have hni':k∉ids:=by simpa using hni
          have hag':∀j,j∈ids->V.D j->H j=heap[j]? :=λj hj hd=>hag j (by simp[hj]) hd;simp only[VR]at hv0;obtain⟨hd,_,_,hv⟩:=hv0;have hHk:H k=some (.row e' ty d xs):=by rw[hag k (by simp) hd,hk]
          have hk1:k<heap.length:=(List.getElem?_eq_some_iff.1 hk).1;have hH1:=Abt hH ids;have hg1:=AbE V H ids ids;obtain⟨hb,e1,hrepk⟩:=hH1.rep k hd;have e2:(if k∈ids then(H k).map hbFrz else H k)=some (.row e' ty d xs):=by rw[if_neg hni']; exact hHk
          rw[e2]at e1;injection e1 with e1; subst e1;obtain⟨hL,hck,n,us,hown,hn,hrow⟩:=hrepk;subst hn;have hv':v0=V.p k:=hv (hcd.trans hck.symm);have hth:=Ab1 hH hag' (cs:=rest) (λj hj=>by rw[hids]at hj; exact hj) hvr;have hwx:xs.length<=maxLen/\∀x∈xs,WfCs e' x:=hhw k _ hk;have hwr:Wfs (ofRess ct.ps args):=Abp _ _ _ hargs (AbD hhw hwargs.2);have hwfs:Wfs (ofRess ct.aps ([.l xs]::args)):=by
            simp only[Ct.aps,hbx,how,ofRess,Al4,AmD,Wfs,Abg,ofCs,ofC,C.list,Wf];exact⟨hwx,hwr⟩
          have hokb:∀b,blkOf v0=some b->b<(V.frz H ids).w.heap.size/\¬(V.frz H ids).ok b:=λb hb=>by
            rw[hv']at hb;exact⟨hH1.lt k b hd hL hb,λhok=>hok.2.2 k hd hL hb⟩
          have hrun := hs.runsO ty e' r hbx how (V.frz H ids) xs args vr v0 us hH1.lt hH1.bd hokb (by rw [hv']; exact hown) hrow hwfs hchk (AbR hH1 _ _ _ _ hargs hth);have fin : ∀ (r' : Value) (w' : World), (∃ v' us', r' = (bif r then v' else .tuple #[]) /\ (r = false -> v' = v0) /\ w'.os = (V.frz H ids).w.os /\ w'.tape = (V.frz H ids).w.tape /\ w'.output = (V.frz H ids).w.output /\ (V.frz H ids).w.heap.size <= w'.heap.size /\
                (∀b,b<(V.frz H ids).w.heap.size->blkOf v0≠some b->w'.heap[b]? =(V.frz H ids).w.heap[b]?)/\(∀b,blkOf v'=some b->(blkOf v0=some b∨(V.frz H ids).w.heap.size<=b)/\b<w'.heap.size)/\
                OwnRow w' ty e'.length v' ((((ct.out ([.l xs]::args)).headD []).headD default).list).length us'/\RepRow (V.frz H ids).w (V.frz H ids).ok e' (((ct.out ([.l xs]::args)).headD []).headD default).list us')->
              ∃V',V'.w=w'/\Grow V V' (k::ids)/\VR V' (bif r then .own k (c+1)else .tup []) r'/\Heap V' (newH heap ((frzH heap ids).set k (.row e' ty (bif r then c+1 else c) (((ct.out ([.l xs]::args)).headD []).headD default).list)) (k::ids) H)/\
                ∀j,V'.D j↔V.D j∨(heap.length<=j/\j<((frzH heap ids).set k (.row e' ty (bif r then c+1 else c) (((ct.out ([.l xs]::args)).headD []).headD default).list)).length):=by
            rintro r' w' ⟨v',us',q1,q2,q3,q4,q5,q6,q7,q8,q9,q10⟩;obtain⟨hg2,hH2⟩:=row_step (H':=newH heap ((frzH heap ids).set k (.row e' ty (bif r then c+1 else c) (((ct.out ([.l xs]::args)).headD []).headD default).list)) (k::ids) H) hH1 hd hL
              (by obtain⟨a,cap,h,_⟩:=hown.slice; exact⟨a,_,cap,h⟩) (w':=w') (v':=v') (c':=bif r then c+1 else c) q3 q4 q5 q6
              (by have:(V.frz H ids).c k=d:=hck
                  rw[this]; cases r<;>simp<;>omega)
              (λhc=>by
                have h0:(V.frz H ids).c k=d:=hck;rw[h0]at hc
                cases r with
                |true=>simp at hc; omega
                |false=>exact(q2 rfl).trans hv')
              (λb hb hne=>q7 b hb (by rw[hv']; exact hne)) (λb hb=>by have:=q8 b hb; rw[hv']at this; exact this) q9 q10
              (by unfold newH; rw[if_pos (.inl (by simp))]; simp[Aa9,hk1])
              (λj hj hne=>by
                unfold newH;by_cases hji:j∈ids
                · rw[if_pos (.inl (by simp[hji])),if_pos hji,List.getElem?_set_ne (λh=>hne h.symm),AbQ,if_pos hji,hag' j hji hj]
                · rw[if_neg,if_neg hji];rintro(h|h)
                  · simp at h; exact h.elim hne hji
                  · simp[Aa9]at h; omega)
            refine⟨_,rfl,(hg1.mono λj hj=>by simp[hj]).trans hg2 λj hj _=>by simp at hj; simp[hj],?_,hH2,λj=>⟨.inl,λh=>h.elim id (λh=>by simp[Aa9]at h; omega)⟩⟩;subst q1
            cases r with
            |true=>
              simp only[cond_true,VR]
              refine⟨hd,by simp[Vw.upd],.inl ?_,λ_=>by simp[Vw.upd]⟩
              obtain⟨a,cap,h,_⟩:=q9.slice
              exact⟨a,_,cap,h⟩
            |false=>simp only[cond_false,VR]; exact⟨[],rfl,by simp only[VRs]⟩
          intro K Q hK;unfold Oper.wp;rw[hex];rcases hrun with⟨h1,h2⟩|⟨v,w',h1,h2⟩
          · have h1':(callFunc f (v0::vr).toArray).run P V.w= .ok (.enter f (v0::vr).toArray) V.w:=h1;rw[h1'];refine h2.mono λe w' ⟨v,he,hb⟩=> ?_;subst he;obtain⟨V',hw,g1,g2,g3,g4⟩:=fin v w' hb;subst hw;exact hK v V' g1 g2 g3 g4
          · have h1':(callFunc f (v0::vr).toArray).run P V.w= .ok (.value v) w':=h1;rw[h1'];obtain⟨V',hw,g1,g2,g3,g4⟩:=fin v w' h2;subst hw;exact hK v V' g1 g2 g3 g4
        · cases h
      · cases h
    · cases h
  · cases h
theorem AjC {w w':World} {ok ok':Nat->Prop} {s:Sh} (hs:noSl1 s=true) {c:C} {v:Value} (h:RepC w ok s c v):RepC w' ok' s c v:=by
 cases s with
 |sl e=>simp[noSl1]at hs
 |int k=>simpa only[RepC]using h
 |bool=>simpa only[RepC]using h
 |str=>simpa only[RepC]using h
theorem Ad5 {w w':World} {ok ok':Nat->Prop}:∀ {e:List Sh},e.all noSl1=true->∀ {cs:List C} {us:List Value},RepVs w ok e cs us->RepVs w' ok' e cs us
 |[],_,_,_,h=>h
 |s::r,he,cs,us,h=>by
  simp only[Anb,AlG]at he;obtain⟨u,t,h1,h2,h3,h4⟩:=h;exact⟨u,t,h1,h2,AjC he.1 h3,Ad5 he.2 h4⟩
theorem Ael {w w':World} {ok ok':Nat->Prop} {kt:IntKind} {g:Bool} {e:List Sh} (he:e.all noSl1=true):∀ {xs:List (Int×List C)} {ms:List MapEntry},EntsRep w ok kt g e xs ms->EntsRep w' ok' kt g e xs ms
 |[],_,h=>h
 |_::r,_,⟨m,t,h1,⟨hk,us,hr,hv⟩,h2⟩=>⟨m,t,h1,⟨hk,us,Ad5 he hr,hv⟩,Ael he h2⟩
theorem Adq {w w':World} {ok ok':Nat->Prop} {e:List Sh} (he:e.all noSl1=true):∀ {xs:List (List C)} {us:List Value},RepRow w ok e xs us->RepRow w' ok' e xs us
 |[],_,h=>h
 |_::r,_,⟨h,t,h1,h2,h3⟩=>⟨h,t,h1,Ad5 he h2,Adq he h3⟩
theorem Agl {f:FuncId} {ct:Ct} {t:TypeId} {e:List Sh} (hs:SoundCt P f ct) (hbx:ct.bx=none) (how:ct.ow=none) (hfr:ct.fr=some (t,e)) {es:List SV} {vs:List Value} {heap:List HB} {args:List (List C)}
 (hargs:Abq ct.ps (es.map (thaw heap))=some args) (hchk:ct.pre args) (hvals:VRs V es vs) (hwargs:Wfs es) (hH:Heap V H) (hag:∀k,k∈es.flatMap idsOf->V.D k->H k=heap[k]?) (hhw:WfH heap)
 (hn:∀k,heap.length<=k->k<(frzH heap (es.flatMap idsOf)++[ct.frHB t e args]).length->¬V.D k)
 (hex:(execOp a.eval o).run P V.w=(callFunc f vs.toArray).run P V.w):
 Ab6 P o a V (ct.frSV heap.length) (newH heap (frzH heap (es.flatMap idsOf)++[ct.frHB t e args]) (es.flatMap idsOf) H) (es.flatMap idsOf) heap.length (frzH heap (es.flatMap idsOf)++[ct.frHB t e args]).length:=by
 generalize hids:es.flatMap idsOf=ids at hag hn;have hH1:=Abt hH ids;have hg1:=AbE V H ids ids;have hvals1:=Ab1 hH hag (cs:=es) (λk hk=>by rw[hids]at hk; exact hk) hvals;have hwfs:Wfs (ofRess ct.ps args):=Abp _ _ _ hargs (AbD hhw hwargs);have hrun:=hs.runsF t e hbx how hfr (V.frz H ids) args _ hH1.lt hH1.bd hwfs hchk (AbR hH1 _ _ _ _ hargs hvals1);have hnew:¬V.D heap.length:=hn heap.length (AlT _) (by simp[Aa9]);have hold:∀j,V.D j->newH heap (frzH heap ids++[ct.frHB t e args]) ids H j=(if j∈ids then(H j).map hbFrz else H j):=λj hj=>by
  have hjl:¬(heap.length<=j/\j<(frzH heap ids++[ct.frHB t e args]).length):=λh=>hn j h.1 h.2 hj;unfold newH;by_cases hji:j∈ids
  · rw [if_pos (.inl hji), if_pos hji];have hjlt : j < heap.length := by
     rcases AmZ j heap.length with h|h
     · exact h
     · have e0:=hag j hji hj;obtain⟨hb0,e1,_⟩:=hH.rep j hj;rw[e0,List.getElem?_eq_none h]at e1; cases e1
    rw[List.getElem?_append_left (by rw[Aa9]; exact hjlt),AbQ,if_pos hji,hag j hji hj]
  · rw[if_neg (by rintro(h|h)<;>first|exact hji h|exact hjl h),if_neg hji]
 have hat:newH heap (frzH heap ids++[ct.frHB t e args]) ids H heap.length=some (ct.frHB t e args):=by
  unfold newH; rw[if_pos (.inr (by simp[Aa9]))]; simp[←Aa9 ids heap]
 have hDD:∀(w':World) (v:Value) (j:Nat),((V.frz H ids).newR heap.length w' v).D j↔V.D j∨(heap.length<=j/\j<(frzH heap ids++[ct.frHB t e args]).length):=λw' v j=>by
  simp only[Vw.newR,Vw.frz,AlF,AlJ,Aa9];constructor
  · rintro(h|h)
    · exact .inl h
    · exact .inr (by omega)
  · rintro(h|h)
    · exact .inl h
    · exact .inr (by omega)
 have fin:∀(v:Value) (w':World),(Below V.w.heap.size V.w w'/\(match ct.fm with
  |none=>∃us',(∀b,blkOf v=some b->V.w.heap.size<=b/\b<w'.heap.size)/\
   OwnRow w' t e.length v ((((ct.out args).headD []).headD default).list).length us'/\RepRow (V.frz H ids).w (V.frz H ids).ok e (((ct.out args).headD []).headD default).list us'
  |some (.mp kt g ks)=>∃b es clock,v= .map (some b)/\V.w.heap.size<=b/\b<w'.heap.size/\w'.heap[b]? =some (.map es clock)/\EntsRep (V.frz H ids).w (V.frz H ids).ok kt g e ((ks args).zip (((ct.out args).headD []).headD default).list) es.toList
  |some .bx=>∃b us,v= .pointer (some ⟨b,0,none⟩)/\V.w.heap.size<=b/\b<w'.heap.size/\w'.heap[b]? =some (.cells us.toArray t (0,0))/\(∀u∈us,u.oneCell'=true)/\RepVs w' (λc=>Vw.ok {V.frz H ids with w:=w'} c/\c≠b) e ((((ct.out args).headD []).headD default).list.headD []) us))->
  ∃V',V'.w=w'/\Grow V V' ids/\VR V' (ct.frSV heap.length) v/\Heap V' (newH heap (frzH heap ids++[ct.frHB t e args]) ids H)/\
   ∀j,V'.D j↔V.D j∨(heap.length<=j/\j<(frzH heap ids++[ct.frHB t e args]).length):=by
  rintro v w' ⟨hb,hm⟩;have hat2:=hat;unfold Ct.frHB at hat2;split at hm
  · rename_i hfm;obtain ⟨us', q1, q2, q3⟩ := hm;rw [hfm] at hat2;obtain ⟨hg2, hH2⟩ := row_new (V := V.frz H ids) (H' := newH heap (frzH heap ids ++ [ct.frHB t e args]) ids H) hH1 (n := heap.length) hnew (w' := w') (v' := v) hb.os hb.tape hb.output hb.size
     (λb hlt=>hb.block b hlt) q1 q2 q3 (by unfold Ct.frHB; rw[hfm]; exact hat2) (λj hj=>hold j hj)
    refine⟨_,rfl,hg1.trans (hg2.mono λj hj=>by simp at hj) λj hj _=>hj,?_,hH2,hDD w' v⟩;simp only[Ct.frSV,hfm,isBx,cond_false,VR];refine⟨.inr rfl,by simp,.inl ?_,λ_=>by simp[Vw.newR]⟩;obtain⟨a,cap,h,_⟩:=q2.slice;exact⟨a,_,cap,h⟩
  · rename_i kt g ks hfm;obtain ⟨b, es', clock, rfl, b1, b2, b3, b4⟩ := hm;rw [hfm] at hat2;have hok : ∀ c, (V.frz H ids).ok c -> ((V.frz H ids).newR heap.length w' (.map (some b))).ok c /\ w'.heap[c]? = (V.frz H ids).w.heap[c]? := λc hc => ⟨⟨Amg hc.1 hb.size, hc.2.1, λk hk hl he => by
     simp only[Vw.newR]at he;split at he
     · simp only[blkOf]at he;injection he with he;have:=hc.1;have hsz:(V.frz H ids).w.heap.size=V.w.heap.size:=rfl;omega
     · rename_i hne;exact hc.2.2 k (hk.elim id λh=>(hne h).elim) (hl.elim id λh=>(hne h).elim) he⟩,hb.block c hc.1⟩
    obtain⟨hg2,hH2⟩:=hb_new (V:=V.frz H ids) (H':=newH heap (frzH heap ids++[ct.frHB t e args]) ids H) hH1 (n:=heap.length) hnew (w':=w') (v':= .map (some b)) hb.os hb.tape hb.output hb.size
     (λb hlt=>hb.block b hlt) (λc hc=>by simp only[blkOf]at hc; injection hc with hc; subst hc; exact⟨b1,b2⟩) (hb:= .mp kt g e 0 ((ks args).zip (((ct.out args).headD []).headD default).list))
     ⟨.inr rfl,by simp[Vw.newR],b,es',clock,by simp[Vw.newR],b3,EntsRep.mono hok _ _ b4⟩ (by unfold Ct.frHB; rw[hfm]; exact hat2) (λj hj=>hold j hj)
    refine⟨_,rfl,hg1.trans (hg2.mono λj hj=>by simp at hj) λj hj _=>hj,?_,hH2,hDD w' _⟩;simp only[Ct.frSV,hfm,isBx,cond_false,VR];exact⟨.inr rfl,by simp,.inr ⟨_,rfl⟩,λ_=>by simp[Vw.newR]⟩
  · rename_i hfm;obtain ⟨b, us, rfl, b1, b2, b3, b4, b5⟩ := hm;rw [hfm] at hat2;have hok : ∀ c, (Vw.ok { V.frz H ids with w := w' } c /\ c ≠ b) -> ((V.frz H ids).newR heap.length w' (.pointer (some ⟨b, 0, none⟩))).ok c /\ w'.heap[c]? = w'.heap[c]? := λc hc => ⟨⟨hc.1.1, hc.1.2.1, λk hk hl he => by
     simp only[Vw.newR]at he;split at he
     · simp only[blkOf]at he;injection he with he;exact hc.2 he.symm
     · rename_i hne;exact hc.1.2.2 k (hk.elim id λh=>(hne h).elim) (hl.elim id λh=>(hne h).elim) he⟩,rfl⟩
    obtain⟨hg2,hH2⟩:=hb_new (V:=V.frz H ids) (H':=newH heap (frzH heap ids++[ct.frHB t e args]) ids H) hH1 (n:=heap.length) hnew (w':=w') (v':= .pointer (some ⟨b,0,none⟩)) hb.os hb.tape hb.output hb.size
     (λb hlt=>hb.block b hlt) (λc hc=>by simp only[blkOf]at hc; injection hc with hc; subst hc; exact⟨b1,b2⟩) (hb:= .box (ofCs e ((((ct.out args).headD []).headD default).list.headD [])) t)
     ⟨.inr rfl,b,us,by simp[Vw.newR],b3,b4,Acu (RepVs.mono hok _ _ _ b5)⟩ (by unfold Ct.frHB; rw[hfm]; exact hat2) (λj hj=>hold j hj)
    refine⟨_,rfl,hg1.trans (hg2.mono λj hj=>by simp at hj) λj hj _=>hj,?_,hH2,hDD w' _⟩;simp only[Ct.frSV,hfm,isBx,cond_true,VR];exact⟨.inr rfl,b,by simp[Vw.newR],rfl⟩
 intro K Q hK;unfold Oper.wp;rw[hex];rcases hrun with⟨h1,h2⟩|⟨v,w',h1,h2⟩
 · have h1':(callFunc f vs.toArray).run P V.w= .ok (.enter f vs.toArray) V.w:=h1;rw[h1'];refine h2.mono λe w' ⟨v,he,hb⟩=> ?_;subst he;obtain⟨V',hw,g1,g2,g3,g4⟩:=fin v w' hb;subst hw;exact hK v V' g1 g2 g3 g4
 · have h1':(callFunc f vs.toArray).run P V.w= .ok (.value v) w':=h1;rw[h1'];obtain⟨V',hw,g1,g2,g3,g4⟩:=fin v w' h2;subst hw;exact hK v V' g1 g2 g3 g4
theorem AfR {f:FuncId} {ct:Ct} {t:TypeId} {e:List Sh} (hs:SoundCt P f ct) (hbx:ct.bx=none) (how:ct.ow=none) (hfr:ct.fr=some (t,e)) (hfl:e.all noSl1=true) (hnb:isBx ct.fm=false) {es:List SV} {vs:List Value} {heap:List HB} {args:List (List C)}
 (hargs:Abq ct.ps (es.map (thaw heap))=some args) (hchk:ct.pre args) (hvals:VRs V es vs) (hwargs:Wfs es) (hH:Heap V H) (hag:∀k,k∈es.flatMap idsOf->V.D k->H k=heap[k]?) (hhw:WfH heap)
 (hn:∀k,heap.length<=k->k<(heap++[ct.frHB t e args]).length->¬V.D k)
 (hex:(execOp a.eval o).run P V.w=(callFunc f vs.toArray).run P V.w):
 Ab6 P o a V (.own heap.length 0) (newH heap (heap++[ct.frHB t e args]) [] H) [] heap.length (heap++[ct.frHB t e args]).length:=by
 have hH1:=Abt hH (es.flatMap idsOf);have hvals1:=Ab1 hH hag (cs:=es) (λk hk=>hk) hvals;have hwfs:Wfs (ofRess ct.ps args):=Abp _ _ _ hargs (AbD hhw hwargs);have hrun:=hs.runsF t e hbx how hfr (V.frz H (es.flatMap idsOf)) args _ hH1.lt hH1.bd hwfs hchk (AbR hH1 _ _ _ _ hargs hvals1);have hnew:¬V.D heap.length:=hn heap.length (AlT _) (by simp);have hold:∀j,V.D j->newH heap (heap++[ct.frHB t e args]) [] H j=H j:=λj hj=>by
  unfold newH;rw[if_neg];rintro(h|h)
  · simp at h
  · exact hn j h.1 h.2 hj
 have hat:newH heap (heap++[ct.frHB t e args]) [] H heap.length=some (ct.frHB t e args):=by
  unfold newH; rw[if_pos (.inr (by simp))]; simp
 have hDD:∀(w':World) (v:Value) (j:Nat),(V.newR heap.length w' v).D j↔V.D j∨(heap.length<=j/\j<(heap++[ct.frHB t e args]).length):=λw' v j=>by
  simp only[Vw.newR,AlF,AlJ];constructor
  · rintro(h|h)
    · exact .inl h
    · exact .inr (by omega)
  · rintro(h|h)
    · exact .inl h
    · exact .inr (by omega)
 have fin:∀(v:Value) (w':World),(Below V.w.heap.size V.w w'/\(match ct.fm with
  |none=>∃us',(∀b,blkOf v=some b->V.w.heap.size<=b/\b<w'.heap.size)/\
   OwnRow w' t e.length v ((((ct.out args).headD []).headD default).list).length us'/\RepRow (V.frz H (es.flatMap idsOf)).w (V.frz H (es.flatMap idsOf)).ok e (((ct.out args).headD []).headD default).list us'
  |some (.mp kt g ks)=>∃b es' clock,v= .map (some b)/\V.w.heap.size<=b/\b<w'.heap.size/\w'.heap[b]? =some (.map es' clock)/\EntsRep (V.frz H (es.flatMap idsOf)).w (V.frz H (es.flatMap idsOf)).ok kt g e ((ks args).zip (((ct.out args).headD []).headD default).list) es'.toList
  |some .bx=>∃b us,v= .pointer (some ⟨b,0,none⟩)/\V.w.heap.size<=b/\b<w'.heap.size/\w'.heap[b]? =some (.cells us.toArray t (0,0))/\(∀u∈us,u.oneCell'=true)/\RepVs w' (λc=>Vw.ok {V.frz H (es.flatMap idsOf)with w:=w'} c/\c≠b) e ((((ct.out args).headD []).headD default).list.headD []) us))->
  ∃V',V'.w=w'/\Grow V V' []/\VR V' (.own heap.length 0) v/\Heap V' (newH heap (heap++[ct.frHB t e args]) [] H)/\
   ∀j,V'.D j↔V.D j∨(heap.length<=j/\j<(heap++[ct.frHB t e args]).length):=by
  rintro v w' ⟨hb,hm⟩;have hat2:=hat;unfold Ct.frHB at hat2;split at hm
  · rename_i hfm;obtain ⟨us', q1, q2, q3⟩ := hm;rw [hfm] at hat2;obtain ⟨hg2, hH2⟩ := row_new (V := V) (H' := newH heap (heap ++ [ct.frHB t e args]) [] H) hH (n := heap.length) hnew (w' := w') (v' := v) hb.os hb.tape hb.output hb.size
     (λb hlt=>hb.block b hlt) q1 q2 (Adq hfl q3) (by unfold Ct.frHB; rw[hfm]; exact hat2) (λj hj=>hold j hj)
    refine⟨_,rfl,hg2,?_,hH2,hDD w' v⟩;simp only[VR];refine⟨.inr rfl,by simp,.inl ?_,λ_=>by simp[Vw.newR]⟩;obtain⟨a,cap,h,_⟩:=q2.slice;exact⟨a,_,cap,h⟩
  · rename_i kt g ks hfm;obtain ⟨b, es', clock, rfl, b1, b2, b3, b4⟩ := hm;rw [hfm] at hat2;obtain ⟨hg2, hH2⟩ := hb_new (V := V) (H' := newH heap (heap ++ [ct.frHB t e args]) [] H) hH (n := heap.length) hnew (w' := w') (v' := .map (some b)) hb.os hb.tape hb.output hb.size
     (λb hlt=>hb.block b hlt) (λc hc=>by simp only[blkOf]at hc; injection hc with hc; subst hc; exact⟨b1,b2⟩) (hb:= .mp kt g e 0 ((ks args).zip (((ct.out args).headD []).headD default).list))
     ⟨.inr rfl,by simp[Vw.newR],b,es',clock,by simp[Vw.newR],b3,Ael hfl b4⟩ (by unfold Ct.frHB; rw[hfm]; exact hat2) (λj hj=>hold j hj)
    refine⟨_,rfl,hg2,?_,hH2,hDD w' _⟩;simp only[VR];exact⟨.inr rfl,by simp,.inr ⟨_,rfl⟩,λ_=>by simp[Vw.newR]⟩
  · rename_i hfm;rw[hfm]at hnb; cases hnb
 intro K Q hK;unfold Oper.wp;rw[hex];rcases hrun with⟨h1,h2⟩|⟨v,w',h1,h2⟩
 · have h1':(callFunc f vs.toArray).run P V.w= .ok (.enter f vs.toArray) V.w:=h1;rw[h1'];refine h2.mono λe w' ⟨v,he,hb⟩=> ?_;subst he;obtain⟨V',hw,g1,g2,g3,g4⟩:=fin v w' hb;subst hw;exact hK v V' g1 g2 g3 g4
 · have h1':(callFunc f vs.toArray).run P V.w= .ok (.value v) w':=h1;rw[h1'];obtain⟨V',hw,g1,g2,g3,g4⟩:=fin v w' h2;subst hw;exact hK v V' g1 g2 g3 g4
theorem Ah0 {V V':Vw}:∀ {e:List Sh} {cs:List C} {us:List Value},e.all noSl1=true->VRs V (ofCs e cs) us->VRs V' (ofCs e cs) us
 |[],_,us,_,h=>by simpa only[ofCs,VRs]using h
 |s::r,cs,us,hn,h=>by
  simp only[Anb,AlG]at hn;simp only[ofCs,VRs]at h ⊢;obtain⟨v,t,rfl,h1,h2⟩:=h;refine⟨v,t,rfl,?_,Ah0 hn.2 h2⟩
  cases s<;>simp only[noSl1]at hn<;>first|(simpa only[ofC,VR]using h1)|(simp at hn)
theorem Ala {V V':Vw} {p:Bool×List Sh} {cs:List C} {v:Value} (hn:p.2.all noSl1=true) (hp:Ae2 p=false) (h:VR V (Abg p cs) v):VR V' (Abg p cs) v:=by
 obtain⟨g,e⟩:=p
 cases g with
 |true=>
  simp only[Abg,VR]at h ⊢
  obtain⟨us,h1,h2,h3⟩:=h
  exact⟨us,h1,h2,Ah0 hn h3⟩
 |false=>
  cases e with
  |nil=>simp only[Abg,ofCs,List.headD_nil,VR]
  |cons s r=>
   cases r with
   |cons t r=>exact absurd hp (by simp[Ae2])
   |nil=>
   simp only[Abg,ofCs,Al4]at h ⊢
   simp only[Anb,AlG]at hn
   cases s<;>simp only[noSl1]at hn<;>first|(simpa only[ofC,VR]using h)|(simp at hn)
theorem AcN {V V':Vw}:∀ {rs:List (Bool×List Sh)} {cs:List (List C)} {us:List Value},noSl rs=true->VRs V (ofRess rs cs) us->VRs V' (ofRess rs cs) us
 |[],_,us,_,h=>by simpa only[ofRess,VRs]using h
 |p::r,cs,us,hn,h=>by
  simp only[noSl,Anb,AlG]at hn;simp only[ofRess,VRs]at h ⊢;obtain⟨v,t,rfl,h1,h2⟩:=h;exact⟨v,t,rfl,Ala hn.1.1 (by simpa using hn.1.2) h1,AcN (by simp only[noSl]; exact hn.2) h2⟩
theorem Aku {V V':Vw} {ct:Ct} {args:List (List C)} {v:Value} (hn:noSl ct.rs=true) (h:VR V (ct.sv args) v):VR V' (ct.sv args) v:=by
 unfold Ct.sv at h ⊢
 cases hr:ofRess ct.rs (ct.outs args)with
 |nil=>
  rw[hr]at h
  simp only[VR,VRs]at h ⊢
  exact h
 |cons x l=>
  rw[hr]at h
  cases l with
  |nil=>
   simp only at h ⊢
   have h1:VRs V (ofRess ct.rs (ct.outs args)) [v]:=by rw[hr]; simp only[VRs]; exact⟨v,[],rfl,h,rfl⟩
   have h2:=AcN (V':=V') hn h1
   rw[hr]at h2
   simp only[VRs]at h2
   obtain⟨v',r,he,h3,_⟩:=h2
   injection he with he _
   subst he; exact h3
  |cons y l=>
   simp only[VR]at h ⊢
   obtain⟨vs,he,h1⟩:=h
   rw[←hr]at h1 ⊢
   exact⟨vs,he,AcN hn h1⟩
theorem Ag0 (hG:∀f ct,G f=some ct->SoundCt P f ct) {c:Call} {f:FuncId} {heap heap':List HB} {hyp chk:Q} {sv:SV} {R W:List Nat} (ho:o.op= .call c) {x0:Operand} {caps:List SV} {us:List Value} (hf:c.callee= .value x0) (hfv:a.eval x0= .func (.func f) #[] us.toArray) (hcr:VRs V caps us) (hcw:Wfs caps)
 (h:AjN G f (c.args.toList.map ev++caps) heap= .ok hyp chk sv heap' R W) (hchk:chk.h) (hx:∀x∈c.args.toList,VR V (ev x) (a.eval x)) (hw:∀x∈c.args.toList,Wf (ev x)) (hH:Heap V H)
 (hag:∀k,k∈R->V.D k->H k=heap[k]?) (hhw:WfH heap) (hn:∀k,heap.length<=k->k<heap'.length->¬V.D k):
 Ab6 P o a V sv (newH heap heap' W H) W heap.length heap'.length:=by
 have hvals:VRs V (c.args.toList.map ev++caps) (c.args.toList.map a.eval++us):=(VRs.map ev a.eval _ hx).append hcr;have hwargs:Wfs (c.args.toList.map ev++caps):=Wfs.all.2 λy hy=>by
  rcases AlY.1 hy with hy|hy
  · obtain⟨x,hx,rfl⟩:=AmU.1 hy;exact hw x hx
  · exact Wfs.all.1 hcw y hy
 have hex:(execOp a.eval o).run P V.w=(callFunc f (c.args.toList.map a.eval++us).toArray).run P V.w:=by
  simp only[execOp,ho,resolve,hf,hfv,Deferred.ofValue,Sem.run_bind,Sem.run_pure,Result.andThen_ok,invoke];have e:c.args.map a.eval=(c.args.toList.map a.eval).toArray:=by rw[←Array.toList_map,AlV]
  congr 2;rw[e]; simp
 generalize c.args.toList.map ev++caps=es at h hvals hwargs;generalize c.args.toList.map a.eval++us=vs at hvals hex;unfold AjN at h;split at h
 · rename_i ct hct;have hs:=hG f ct hct;split at h
   · rename_i hbx;split at h;rotate_left
     · rename_i oo how;exact Agk hs hbx how h hchk hvals hwargs hH hag hhw hex
     rename_i how;split at h;rotate_left
     · rename_i tt ee hfr;split at h
       · rename_i args hargs;split at h
         · rename_i hfl;simp only[OpR.ok.injEq]at h;obtain⟨rfl,rfl,rfl,rfl,rfl,rfl⟩:=h;rw[AlG,Ams]at hfl;exact AfR hs hbx how hfr hfl.1 hfl.2 hargs hchk hvals hwargs hH hag hhw hn hex
         · simp only[OpR.ok.injEq]at h;obtain⟨rfl,rfl,rfl,rfl,rfl,rfl⟩:=h;exact Agl hs hbx how hfr hargs hchk hvals hwargs hH hag hhw hn hex
       · cases h
     rename_i hfr;split at h
     · rename_i args hargs;split at h
       · rename_i hns;simp only [OpR.ok.injEq] at h;obtain ⟨rfl, rfl, rfl, rfl, rfl, rfl⟩ := h;have hH1 := Abt hH (es.flatMap idsOf);have hvals1 := Ab1 hH hag (cs := es) (λk hk => hk) hvals;have hwfs : Wfs (ofRess ct.ps args) := Abp _ _ _ hargs (AbD hhw hwargs);have hrun := hs.runs hbx how hfr (V.frz H (es.flatMap idsOf)) args _ hH1.lt hH1.bd hwfs hchk (AbR hH1 _ _ _ _ hargs hvals1);have fin : ∀ w' v, Below V.w.heap.size V.w w' -> VR { V.frz H (es.flatMap idsOf) with w := w' } (ct.sv args) v -> Grow V { V with w := w' } [] /\ VR { V with w := w' } (ct.sv args) v /\ Heap { V with w := w' } (newH heap heap [] H) := λw' v hb hv => by
          have hg2:Grow V {V with w:=w'} []:=AfG hb;exact⟨hg2,Aku hns hv,(hH.grow hg2 (λ_ h=>h) (λ_ _=>rfl) (λ_ _ h=>h)).congr λk hk=>AcZ heap H k⟩
         intro K Q hK;unfold Oper.wp;rw[hex];rcases hrun with⟨h1,h2⟩|⟨v,w',h1,h2,h3⟩
         · have h1':(callFunc f vs.toArray).run P V.w= .ok (.enter f vs.toArray) V.w:=h1;rw[h1'];refine h2.mono λe w' ⟨v,he,hb,hv⟩=> ?_;subst he;obtain⟨g1,g2,g3⟩:=fin w' v hb hv;exact hK v _ g1 g2 g3 λk=>⟨.inl,λh=>h.elim id (λh=>by omega)⟩
         · have h1':(callFunc f vs.toArray).run P V.w= .ok (.value v) w':=h1;rw[h1'];obtain⟨g1,g2,g3⟩:=fin w' v h2 h3;exact hK v _ g1 g2 g3 λk=>⟨.inl,λh=>h.elim id (λh=>by omega)⟩
       simp only[OpR.ok.injEq]at h;obtain⟨rfl,rfl,rfl,rfl,rfl,rfl⟩:=h;have hH1:=Abt hH (es.flatMap idsOf);have hg1:=AbE V H (es.flatMap idsOf) (es.flatMap idsOf);have hvals1:=Ab1 hH hag (cs:=es) (λk hk=>hk) hvals;have hwfs:Wfs (ofRess ct.ps args):=Abp _ _ _ hargs (AbD hhw hwargs);have hrun:=hs.runs hbx how hfr (V.frz H (es.flatMap idsOf)) args _ hH1.lt hH1.bd hwfs hchk (AbR hH1 _ _ _ _ hargs hvals1);have fin:∀w',Below V.w.heap.size V.w w'->Grow V {V.frz H (es.flatMap idsOf)with w:=w'} (es.flatMap idsOf)/\Heap {V.frz H (es.flatMap idsOf)with w:=w'} (newH heap (frzH heap (es.flatMap idsOf)) (es.flatMap idsOf) H):=λw' hb=>by
        have hg2:Grow (V.frz H (es.flatMap idsOf)) {V.frz H (es.flatMap idsOf)with w:=w'} []:=AfG (V:=V.frz H (es.flatMap idsOf)) hb;exact⟨hg1.trans hg2 λk hk _=>by simp at hk,(hH1.grow hg2 (λ_ h=>h) (λ_ _=>rfl) (λ_ _ h=>h)).congr λk hk=>AhV hag hk⟩
       intro K Q hK;unfold Oper.wp;rw[hex];rcases hrun with⟨h1,h2⟩|⟨v,w',h1,h2,h3⟩
       · have h1':(callFunc f vs.toArray).run P V.w= .ok (.enter f vs.toArray) V.w:=h1;rw[h1'];refine h2.mono λe w' ⟨v,he,hb,hv⟩=> ?_;subst he;obtain⟨g1,g2⟩:=fin w' hb;exact hK v _ g1 hv g2 λk=>⟨.inl,λh=>h.elim id (λh=>by rw[Aa9]at h; omega)⟩
       · have h1':(callFunc f vs.toArray).run P V.w= .ok (.value v) w':=h1;rw[h1'];obtain⟨g1,g2⟩:=fin w' h2;exact hK v _ g1 h3 g2 λk=>⟨.inl,λh=>h.elim id (λh=>by rw[Aa9]at h; omega)⟩
     · cases h
   · rename_i t e hbx;split at h
     · rename_i k rest;split at h
       · rename_i cells ty hk;split at h
         · rename_i hty;subst hty;split at h
           · rename_i args hargs;simp only[OpR.ok.injEq]at h;obtain⟨rfl,rfl,rfl,rfl,rfl,rfl⟩:=h;simp only[VRs]at hvals;obtain⟨v0,vr,rfl,hv0,hvr⟩:=hvals;simp only[VR]at hv0;obtain⟨hd,b,hp,rfl⟩:=hv0;have hHk:H k=some (.box cells ty):=by rw[hag k (by simp) hd,hk]
             obtain⟨us,hbl,hone,hrep⟩:=hH.box hd hHk hp;have hL:=hH.boxL hd hHk;generalize hids:(SV.agg cells::rest).flatMap idsOf=ids at hag;have hag':∀j,j∈ids->V.D j->H j=heap[j]? :=λj hj hd=>hag j (by simp[hj]) hd;have hwc:Wfs cells:=by have:=hhw k _ hk; simpa only[WfHB]using this
             simp only[Wfs]at hwargs;have hwfs:Wfs (ofRess ((true,e)::ct.ps) args):=Abp _ _ _ hargs (AbD hhw (by simp only[Wfs,Wf]; exact⟨hwc,hwargs.2⟩));have hH1:=Abt hH ids;have hg1:=AbE V H ids ids;have hL1:(V.frz H ids).L k:=⟨hL,λh=>by rw[hHk]at h; simp[AfZ]at h⟩
             have hHk1:(if k∈ids then(H k).map hbFrz else H k)=some (.box cells ty):=by rw[hHk]; split<;>rfl
             have hth:=Ab1 hH hag' (cs:=SV.agg cells::rest) (vs:= .agg us.toArray::vr) (λj hj=>by rw[hids]at hj; exact hj) (by simp only[VRs,VR]; exact⟨_,_,rfl,⟨us,rfl,hone,hrep⟩,hvr⟩);have hrr:=AbR hH1 _ _ _ (.agg us.toArray::vr) hargs hth;simp only[ofRess,VRs,Abg,VR]at hrr;obtain⟨v1,vr1,heq,⟨us1,rfl,hone1,hrep1⟩,hrest⟩:=hrr;obtain⟨heq1,rfl⟩:=List.cons.inj heq;obtain rfl:us=us1:=by injection heq1 with heq1; simpa using heq1
             have hok:¬(V.frz H ids).ok b:=λhok=>hok.2.2 k hd hL1 (by show blkOf (V.p k)=_; rw[hp]; rfl);have hrun:=hs.runsB ty e hbx (V.frz H ids) args vr b us hH1.lt hH1.bd hok hbl hone hrep1 hwfs hchk hrest;have hk1:k<heap.length:=(List.getElem?_eq_some_iff.1 hk).1;have fin:∀(w':World),AjD b V.w w'->(∃us':List Value,w'.heap[b]? =some (.cells us'.toArray ty (0,0))/\(∀u∈us',u.oneCell'=true)/\VRs {V.frz H ids with w:=w'} (ofCs e ((ct.out args).headD [])) us')->
              Grow V {V.frz H ids with w:=w'} (k::ids)/\Heap {V.frz H ids with w:=w'} (newH heap ((frzH heap ids).set k (ct.hb ty e args)) (k::ids) H)/\∀j,Vw.D {V.frz H ids with w:=w'} j↔V.D j∨(heap.length<=j/\j<((frzH heap ids).set k (ct.hb ty e args)).length):=by
              intro w' ho' ⟨us',hb',hone',hr'⟩;refine⟨(hg1.mono λj hj=>by simp[hj]).trans (Afa (V:=V.frz H ids) hp hd hL1 ho') λj hj _=>by simp at hj; simp[hj],Aia (V:=V.frz H ids) hH1 hp hd hL1 ho' hb' hone' hr' ?_ λj hj hjk=> ?_,λj=>⟨.inl,λh=>h.elim id (λh=>by simp[Aa9]at h; omega)⟩⟩
              · unfold newH; rw[if_pos (.inl (by simp))]; simp[Aa9,hk1,Ct.hb]
              · unfold newH;by_cases hji:j∈ids
                · rw[if_pos (.inl (by simp[hji])),if_pos hji,List.getElem?_set_ne (λh=>hjk h.symm),AbQ,if_pos hji,hag' j hji hj]
                · rw[if_neg,if_neg hji];rintro(h|h)
                  · simp at h; exact h.elim hjk hji
                  · simp[Aa9]at h; omega
             intro K Q hK;unfold Oper.wp;rw[hex];rcases hrun with⟨h1,h2⟩|⟨v,w',h1,h2,h3,h4⟩
             · have h1':(callFunc f (.pointer (some ⟨b,0,none⟩)::vr).toArray).run P V.w= .ok (.enter f (.pointer (some ⟨b,0,none⟩)::vr).toArray) V.w:=h1;rw[h1'];refine h2.mono λe w' ⟨v,he,hb,hv,hv'⟩=> ?_;subst he;obtain⟨g1,g2,g3⟩:=fin w' hb hv;exact hK v _ g1 hv' g2 g3
             · have h1':(callFunc f (.pointer (some ⟨b,0,none⟩)::vr).toArray).run P V.w= .ok (.value v) w':=h1;rw[h1'];obtain⟨g1,g2,g3⟩:=fin w' h2 h3;exact hK v _ g1 h4 g2 g3
           · cases h
         · cases h
       · cases h
     · cases h
 · cases h
theorem AbB {t e:TypeId} (hu:P.underlying t=some (.slice e)) (b:Option Addr) (n cap:Nat) (ty:TypeId) (cs:Array Bool) (w:World):(builtin .len #[t] ty cs #[.slice b n cap]).run P w= .ok (.value (.int .i64 n)) w:=by
 simp[builtin,Builtin.len_,Aa4 hu,Sem.run_pure,goInt]
theorem Ah8 {t:TypeId} (hu:P.underlying t=some .string) (s:ByteArray) (ty:TypeId) (cs:Array Bool) (w:World):(builtin .len #[t] ty cs #[.string s]).run P w= .ok (.value (.int .i64 s.size)) w:=by
 simp[builtin,Builtin.len_,Aa4 hu,Sem.run_pure,goInt]
theorem unl_rep {x:SV} {v:Value} (h:VR V x v):VR V (unl x) v:=by
 unfold unl;split
 · simp only[VR]at h ⊢; exact h.1
 · exact h
theorem sLen_run {t:TypeId} {heap:List HB} {x r:SV} {u:Value} {hyp:Q} {R:List Nat} (h:sLen P t heap x=some (hyp,r,R)) (hx:VR V x u) (hH:Heap V H) (hag:∀k,k∈R->V.D k->H k=heap[k]?) (ty:TypeId) (cs:Array Bool):
 ∃z,(builtin .len #[t] ty cs #[u]).run P V.w= .ok (.value z) V.w/\VR V r z:=by
 unfold sLen at h;split at h
 · rename_i e xs hu;simp only[AlC,AlH]at h;obtain⟨_,rfl,rfl⟩:=h;simp only[VR,RepC,C.list]at hx;obtain⟨b,n,cap,rfl,_,_,rfl,_⟩:=hx;exact⟨_,AbB hu _ _ _ _ _ _,by simp only[VR]⟩
 · rename_i n sz cs' hu;simp only[AlC,AlH]at h;obtain⟨_,rfl,rfl⟩:=h;simp only[VR]at hx;obtain⟨b,cap,rfl,_⟩:=hx;exact⟨_,AbB hu _ _ _ _ _ _,by simp only[VR]⟩
 · rename_i hu;simp only[AlC,AlH]at h;obtain⟨_,rfl,rfl⟩:=h;simp only[VR]at hx;subst hx;exact⟨_,AbB hu _ _ _ _ _ _,by simp only[VR]; rfl⟩
 · rename_i hu;simp only[AlC,AlH]at h;obtain⟨_,rfl,rfl⟩:=h;simp only[VR]at hx;obtain⟨b,rfl⟩:=hx;exact⟨_,AbB hu _ _ _ _ _ _,by simp only[VR]; rfl⟩
 · rename_i k c hu;split at h
   · rename_i e d xs hk;split at h
     · rename_i hcd;simp only[AlC,AlH]at h;obtain⟨_,rfl,rfl⟩:=h;simp only[VR]at hx;obtain⟨hd,_,_,hv⟩:=hx;obtain⟨hck,b,n,cap,hp,hn⟩:=curOf_rep hH hd (hag k (by simp) hd) hk;subst hn;rw[hv (by rw[hck]; exact hcd),hp];exact⟨_,AbB hu _ _ _ _ _ _,by simp only[VR]⟩
     · cases h
   · cases h
 · rename_i s hu;simp only[AlC,AlH]at h;obtain⟨_,rfl,rfl⟩:=h;simp only[VR]at hx;subst hx;exact⟨_,Ah8 hu _ _ _ _,by simp only[VR]⟩
 · cases h
theorem Acv {heap heap':List HB} {R W:List Nat} {sv:SV} (h1:heap'=heap) (h2:W=[]) (h:Ab6 P o a V sv (newH heap heap [] H) [] heap.length heap.length):Ab6 P o a V sv (newH heap heap' W H) W heap.length heap'.length:=by
 subst h1; subst h2; exact h
theorem Agc (hG:∀f ct,G f=some ct->SoundCt P f ct) {wr:Bool} {heap heap':List HB} {hyp chk:Q} {sv:SV} {R W:List Nat} (h:sop P G wr o ev heap= .ok hyp chk sv heap' R W) (hchk:chk.h)
 (hx:∀x∈o.op.operands,VR V (ev x) (a.eval x)) (hw:∀x∈o.op.operands,Wf (ev x)) (hH:Heap V H)
 (hag:∀k,k∈R∨k∈W->V.D k->H k=heap[k]?) (hn:∀k,heap.length<=k->k<heap'.length->¬V.D k) (hhw:WfH heap):
 Ab6 P o a V sv (newH heap heap' W H) W heap.length heap'.length:=by
 unfold sop at h
 cases ho:o.op<;>simp only[ho,Op.operands]at h hx hw<;>first|(cases h; done)|skip
 case move x=>
  simp only[OpR.ok.injEq]at h
  obtain⟨rfl,rfl,rfl,rfl,rfl,rfl⟩:=h
  exact Aa5 (by simp only[execOp,ho,Sem.run_pure]) (hx x (by simp)) hH
 case assign x=>
  simp only[OpR.ok.injEq]at h
  obtain⟨rfl,rfl,rfl,rfl,rfl,rfl⟩:=h
  exact Aa5 (by simp only[execOp,ho,Sem.run_pure]) (hx x (by simp)) hH
 case pick c x y=>
  obtain⟨h1,h2,h3,h4,_⟩:=okPlain_inv h
  obtain⟨q,hq,hr⟩:=sPick_run h1 (hx c (by simp)) (hx x (by simp)) (hx y (by simp))
  refine Acv (R:=R) h2 h4 (Aa5 ?_ hr hH)
  simp only[execOp,ho,hq,asBool,Sem.run_bind,Sem.run_pure,Result.andThen_ok]
 case alloc t=>exact Agp ho h hH hn
 case box t x=>
  split at h
  · exact Ag1 ho h (hx x (by simp)) hH
  · exact Ah6 ho h (hx x (by simp)) hH hn
 case build t parts=>
  split at h
  · rename_i cs hcs
    simp only[OpR.ok.injEq]at h
    obtain⟨rfl,rfl,rfl,rfl,rfl,rfl⟩:=h
    obtain⟨z,hz,hr⟩:=sBuild_run (a:=a) hcs (λq hq=>hx q.2 (by simp only[List.mem_toArray]; exact AmU.2 ⟨q,hq,rfl⟩)) hH
    exact Aa5 (by simp only[execOp,ho]; exact AbK hz) hr hH
  · cases h
 case buildSlice t len parts=>
  split at h
  · rename_i n cs hcs
    split at h
    · exact AeE ho hcs h (λq hq=>hx q.2 (by simp only[List.mem_toArray]; exact AmU.2 ⟨q,hq,rfl⟩)) hH hn
    · simp only[OpR.ok.injEq]at h
      obtain⟨rfl,rfl,rfl,rfl,rfl,rfl⟩:=h
      exact AdX ho hcs (λq hq=>hx q.2 (by simp only[List.mem_toArray]; exact AmU.2 ⟨q,hq,rfl⟩)) hH
  · cases h
 case load t x=>exact AgZ ho h hchk (hx x (by simp)) hH λk hk=>hag k (.inl hk)
 case store t x y=>exact Agf ho h hchk (hx x (by simp)) (hx y (by simp)) hH λk hk=>hag k (.inr hk)
 case makeMap t r=>
  cases r with
  |none=>exact AeZ ho h hH hn
  |some r=>cases h
 case lookup t x i ck=>
  obtain⟨e1,e2,z,hz,hr⟩:=sLookup_run h (hx x (by simp)) (hx i (by simp)) hH λk hk=>hag k (.inl hk)
  exact Acv (R:=R) e1 e2 (Aa5 (by simp only[execOp,ho]; exact AbK hz) hr hH)
 case mapUpdate t x i y=>exact AcP (.inl ho) h (hx x (by simp)) (hx i (by simp)) (hx y (by simp)) hH λk hk=>hag k (.inr hk)
 case insert t x i y=>exact AcP (.inr ho) h (hx x (by simp)) (hx i (by simp)) (hx y (by simp)) hH λk hk=>hag k (.inr hk)
 case makeSlice t x y=>
  split at h
  · exact Agh ho h hchk (hx x (by simp)) (hx y (by simp)) hH hn
  · exact AgY ho h hchk (hx x (by simp)) (hx y (by simp)) hH hn
 case nilCheck x=>
  have hxx:=hx x (by simp)
  split at h
  · rename_i k off he
    simp only[OpR.ok.injEq]at h
    obtain⟨rfl,rfl,rfl,rfl,rfl,rfl⟩:=h
    rw[he]at hxx
    have hxx':=hxx
    simp only[VR]at hxx'
    obtain⟨_,b,_,hv⟩:=hxx'
    refine Aa5 (v:=a.eval x) ?_ hxx hH
    simp only[execOp,ho,hv]
    rfl
  · rename_i cs he
    simp only[OpR.ok.injEq]at h
    obtain⟨rfl,rfl,rfl,rfl,rfl,rfl⟩:=h
    rw[he]at hxx
    have hxx':=hxx
    simp only[VR]at hxx'
    obtain⟨b,off,hv,_⟩:=hxx'
    refine Aa5 (v:=a.eval x) ?_ hxx hH
    simp only[execOp,ho,hv]
    rfl
  · rename_i k c sz i off he
    simp only[OpR.ok.injEq]at h
    obtain⟨rfl,rfl,rfl,rfl,rfl,rfl⟩:=h
    rw[he]at hxx
    have hxx':=hxx
    simp only[VR]at hxx'
    obtain⟨_,_,⟨g,o,hv⟩,_⟩:=hxx'
    refine Aa5 (v:=a.eval x) ?_ hxx hH
    simp only[execOp,ho,hv]
    rfl
  · cases h
 case binOp op t x y ty=>
  obtain⟨h1,h2,h3,h4,_⟩:=okIf_inv h
  obtain⟨z,hz,hr⟩:=sBinX_run h1 hchk (hx x (by simp)) (hx y (by simp)) x y V.w
  exact Acv (R:=R) h2 h4 (Aa5 (by simp only[execOp,ho]; exact AbK hz) hr hH)
 case unOp op t x=>
  obtain⟨h1,h2,h3,h4,_⟩:=okIf_inv h
  obtain⟨z,hz,hr⟩:=sUnX_run (P:=P) h1 hchk (hx x (by simp)) V.w
  exact Acv (R:=R) h2 h4 (Aa5 (by simp only[execOp,ho]; exact AbK hz) hr hH)
 case convert src dst x=>
  split at h
  · rename_i d hd
    obtain⟨h1,h2,h3,h4,_⟩:=okPlain_inv h
    obtain⟨z,hz,hr⟩:=sConv_run hd h1 (hx x (by simp)) (hw x (by simp)) V.w
    exact Acv (R:=R) h2 h4 (Aa5 (by simp only[execOp,ho]; exact AbK hz) hr hH)
  · cases h
 case makeFunc fn first cap=>
  cases fn<;>simp only at h<;>first|(cases h; done)|skip
  rename_i f
  split at h
  · rename_i hf
    simp only[OpR.ok.injEq]at h
    obtain⟨rfl,rfl,rfl,rfl,rfl,rfl⟩:=h
    have hf':first= #[]:=by simpa using hf
    subst hf'
    refine Aa5 (v:= .func (.func f) #[] (cap.toList.map a.eval).toArray) ?_ ?_ hH
    · simp only[execOp,ho]
      refine AbK ?_
      have:cap.map a.eval=(cap.toList.map a.eval).toArray:=by rw[←Array.toList_map,AlV]
      simp[Instr.makeFunc,Sem.run_pure,this]
    · simp only[VR]
      exact⟨_,rfl,VRs.map ev a.eval _ λx hxm=>hx x (by simp at hxm ⊢; exact hxm)⟩
  · cases h
 case slice t x lo hi mx=>
  split at h
  · rename_i hfl
    simp only[AlG]at hfl
    exact AgW ho (by simpa using hfl.1.2) h hchk (hx x (by simp)) (λy hy=>hx y (by simp[hy])) (λy hy=>hx y (by simp[hy])) hH hag
  split at h
  · rename_i y _
    split at h
    · exact Agd ho h hchk (hx x (by simp)) (hx y (by simp)) hH hag
    · exact Adw ho h hchk (hx x (by simp)) (λy hy=>hx y (by simp[hy])) (λy hy=>hx y (by simp[hy])) (λy hy=>hx y (by simp[hy])) hH hag
  · exact Adw ho h hchk (hx x (by simp)) (λy hy=>hx y (by simp[hy])) (λy hy=>hx y (by simp[hy])) (λy hy=>hx y (by simp[hy])) hH hag
 case fieldAddr t x f=>
  obtain⟨h1,h2,h3,h4,_⟩:=okPlain_inv h
  obtain⟨z,hz,hr⟩:=sFieldAddr_run h1 (hx x (by simp)) V.w
  exact Acv (R:=R) h2 h4 (Aa5 (by simp only[execOp,ho]; exact AbK hz) hr hH)
 case field t x f=>
  split at h
  · rename_i fd cs hf he
    obtain⟨h1,h2,h3,h4,_⟩:=okPlain_inv h
    have hxx:=hx x (by simp)
    rw[he]at hxx
    simp only[VR]at hxx
    obtain⟨vs,hv,hone,hr⟩:=hxx
    obtain⟨z,hz,hrz⟩:=run_part h1 hr hone V.w
    unfold sField at hf
    split at hf
    · rename_i fs hu
      refine Acv (R:=R) h2 h4 (Aa5 ?_ hrz hH)
      simp only[execOp,ho,hv]
      refine AbK ?_
      simp only[Instr.field,asAgg,Sem.run_bind,Aa4 hu,Result.andThen_ok,hf,Sem.run_pure,hz]
    · cases hf
  · cases h
 case indexAddr t x i=>
  split at h
  · rename_i q r R' hs
    simp only[OpR.ok.injEq]at h
    obtain⟨rfl,rfl,rfl,rfl,rfl,rfl⟩:=h
    obtain⟨z,hz,hr⟩:=sIdxH_run hs hchk (hx x (by simp)) (hx i (by simp)) hH (λk hk=>hag k (.inl hk))
    exact Aa5 (by simp only[execOp,ho]; exact AbK hz) hr hH
  · cases h
 case index t x i=>
  obtain⟨h1,h2,h3,h4,_⟩:=okIf_inv h
  obtain⟨z,hz,hr⟩:=sIndex_run h1 hchk (hx x (by simp)) (hx i (by simp)) V.w
  exact Acv (R:=R) h2 h4 (Aa5 (by simp only[execOp,ho]; exact AbK hz) hr hH)
 case extract x i=>
  split at h
  · rename_i cs he
    obtain⟨h1,h2,h3,h4,_⟩:=okPlain_inv h
    have hxx:=hx x (by simp)
    rw[he]at hxx
    simp only[VR]at hxx
    obtain⟨vs,hv,hr⟩:=hxx
    obtain⟨z,hz,hrz⟩:=hr.get i sv h1
    refine Acv (R:=R) h2 h4 (Aa5 ?_ hrz hH)
    simp only[execOp,ho,hv]
    refine AbK ?_
    have hz':vs.toArray[i]? =some z:=by simpa using hz
    simp only[Instr.extract,hz',Sem.run_pure]
  · cases h
 case call c=>
  split at h
  · rename_i hcal
    split at h
    · rename_i x t hargs htys
      split at h
      · rename_i kk cc xs he
        split at h
        · rename_i elem hu
          simp only[OpR.ok.injEq]at h
          obtain⟨rfl,rfl,rfl,rfl,rfl,rfl⟩:=h
          have hargs':c.args= #[x]:=by rw[←AlV (xs:=c.args),hargs]
          have htys':c.argTypes= #[t]:=by rw[←AlV (xs:=c.argTypes),htys]
          have hxv:=hx x (by simp[Call.operands,hcal,hargs'])
          rw[he]at hxv
          simp only[VR]at hxv
          obtain⟨_,b,m,hval⟩:=hxv
          refine Aa5 (v:= .int .i64 xs.length) ?_ (by simp only[VR]) hH
          simp only[execOp,ho,resolve,hcal,Sem.run_bind,Sem.run_pure,Result.andThen_ok,invoke]
          rw[htys']
          rw[hargs']
          rw[show Array.map a.eval #[x]= #[a.eval x]from by simp,hval]
          exact AbB hu _ _ _ _ _ _
        · cases h
      · rename_i kk vv szz lo nn he
        split at h
        · rename_i elem e ty d xs hu hk
          split at h
          · rename_i hcd
            simp only[OpR.ok.injEq]at h
            obtain⟨rfl,rfl,rfl,rfl,rfl,rfl⟩:=h
            have hargs':c.args= #[x]:=by rw[←AlV (xs:=c.args),hargs]
            have htys':c.argTypes= #[t]:=by rw[←AlV (xs:=c.argTypes),htys]
            have hxv:=hx x (by simp[Call.operands,hcal,hargs'])
            rw[he]at hxv
            simp only[VR]at hxv
            obtain⟨hd,_,_,hvv⟩:=hxv
            obtain⟨hb,q1,q2⟩:=hH.rep kk hd
            rw[hag kk (.inl (by simp)) hd,hk]at q1
            injection q1 with q1
            subst q1
            obtain⟨a0,N,cap,hp,_,g1,_,hval⟩:=hvv (by rw[q2.2.1]; exact hcd)
            refine Aa5 (v:= .int .i64 nn) ?_ (by simp only[VR]) hH
            simp only[execOp,ho,resolve,hcal,Sem.run_bind,Sem.run_pure,Result.andThen_ok,invoke]
            rw[htys']
            rw[hargs']
            rw[show Array.map a.eval #[x]= #[a.eval x]from by simp,hval]
            have:=AbB (P:=P) hu (if cap=(lo.getD 0).toNat then a0 else a0.map (·.add ((lo.getD 0).toNat*szz))) nn.toNat (cap- (lo.getD 0).toNat) o.type (c.args.map fun| .const _=>true|_=>false) V.w
            rw[show((nn.toNat:Nat):Int)=nn by omega,hargs']at this
            exact this
          · cases h
        · cases h
      · split at h
        · rename_i hy r R' hl
          simp only[OpR.ok.injEq]at h
          obtain⟨rfl,rfl,rfl,rfl,rfl,rfl⟩:=h
          have hargs':c.args= #[x]:=by rw[←AlV (xs:=c.args),hargs]
          have htys':c.argTypes= #[t]:=by rw[←AlV (xs:=c.argTypes),htys]
          obtain⟨z,hz,hr⟩:=sLen_run hl (hx x (by simp[Call.operands,hcal,hargs'])) hH (λk hk=>hag k (.inl hk)) o.type (c.args.map fun| .const _=>true|_=>false)
          refine Aa5 ?_ hr hH
          simp only[execOp,ho,resolve,hcal,Sem.run_bind,Sem.run_pure,Result.andThen_ok,invoke]
          rw[htys']
          rw[hargs']at hz ⊢
          rw[show Array.map a.eval #[x]= #[a.eval x]from by simp]
          exact hz
        · cases h
    · cases h
  · rename_i hcal
    split at h
    · rename_i s x t t' hargs htys
      split at h
      · rename_i htt
        subst htt
        have hargs':c.args= #[s,x]:=by rw[←AlV (xs:=c.args),hargs]
        have htys':c.argTypes= #[t,t]:=by rw[←AlV (xs:=c.argTypes),htys]
        obtain⟨v',V',h1,h2,h3,h4,h5⟩:=sAppend_run (ty:=o.type) h hchk (unl_rep (hx s (by simp[Call.operands,hcal,hargs']))) (hx x (by simp[Call.operands,hcal,hargs'])) hH hag hn
        intro K Q hK
        unfold Oper.wp
        have hrun:(execOp a.eval o).run P V.w= .ok (.value v') V'.w:=by
         simp only[execOp,ho,resolve,hcal,Sem.run_bind,Sem.run_pure,Result.andThen_ok,invoke];rw[htys',hargs',show Array.map a.eval #[s,x]= #[a.eval s,a.eval x]from by simp];simp only[builtin,Sem.run_bind,h1,Result.andThen_ok,Sem.run_pure]
        rw[hrun]
        exact hK v' V' h2 h3 h4 h5
      · have hargs':c.args= #[s,x]:=by rw[←AlV (xs:=c.args),hargs]
        have htys':c.argTypes= #[t,t']:=by rw[←AlV (xs:=c.argTypes),htys]
        obtain⟨v',V',h1,h2,h3,h4,h5⟩:=sAppendZ_run (ty:=o.type) h hchk (unl_rep (hx s (by simp[Call.operands,hcal,hargs']))) (hx x (by simp[Call.operands,hcal,hargs'])) hH hag hn
        intro K Q hK
        unfold Oper.wp
        have hrun:(execOp a.eval o).run P V.w= .ok (.value v') V'.w:=by
         simp only[execOp,ho,resolve,hcal,Sem.run_bind,Sem.run_pure,Result.andThen_ok,invoke];rw[htys',hargs',show Array.map a.eval #[s,x]= #[a.eval s,a.eval x]from by simp];simp only[builtin,Sem.run_bind,h1,Result.andThen_ok,Sem.run_pure]
        rw[hrun]
        exact hK v' V' h2 h3 h4 h5
    · cases h
  · rename_i hcal
    split at h
    · rename_i x t hargs htys
      split at h
      · rename_i el hxe hu
        simp only[OpR.ok.injEq]at h
        obtain⟨rfl,rfl,rfl,rfl,rfl,rfl⟩:=h
        have hargs':c.args= #[x]:=by rw[←AlV (xs:=c.args),hargs]
        have htys':c.argTypes= #[t]:=by rw[←AlV (xs:=c.argTypes),htys]
        have hv:=hx x (by simp[Call.operands,hcal,hargs'])
        rw[hxe]at hv
        simp only[VR]at hv
        refine Aa5 (v:= .int .i64 0) ?_ (by simp only[VR]) hH
        simp only[execOp,ho,resolve,hcal,Sem.run_bind,Sem.run_pure,Result.andThen_ok,invoke]
        rw[htys',hargs',show Array.map a.eval #[x]= #[a.eval x]from by simp,hv]
        simp[builtin,Builtin.cap_,run_underlying hu,goInt]
      · cases h
    · cases h
  · rename_i b hb hb2 hb3 hcal
    split at h
    · rename_i x y hargs
      obtain⟨h1,h2,h3,h4,_⟩:=okPlain_inv h
      have hargs':c.args= #[x,y]:=by rw[←AlV (xs:=c.args),hargs]
      obtain⟨z,hz,hr⟩:=sMin_run (P:=P) h1 (hx x (by simp[Call.operands,hcal,hargs'])) (hx y (by simp[Call.operands,hcal,hargs'])) c.argTypes o.type (c.args.map fun| .const _=>true|_=>false) V.w
      refine Acv (R:=R) h2 h4 (Aa5 ?_ hr hH)
      simp only[execOp,ho,resolve,hcal,Sem.run_bind,Sem.run_pure,Result.andThen_ok,invoke]
      rw[hargs']at hz ⊢
      rw[show Array.map a.eval #[x,y]= #[a.eval x,a.eval y]from by simp]
      exact hz
    · cases h
  · rename_i x0 hcal
    split at h
    · rename_i f caps hev
      have h0:=hx x0 (by simp[Call.operands,hcal])
      have hw0:=hw x0 (by simp[Call.operands,hcal])
      rw[hev]at h0 hw0
      simp only[VR]at h0
      simp only[Wf]at hw0
      obtain⟨us,hfv,hcr⟩:=h0
      exact Ag0 hG ho hcal hfv hcr hw0 h hchk (λx hxm=>hx x (by simp[Call.operands,hcal]; exact .inr (by simpa using hxm))) (λx hxm=>hw x (by simp[Call.operands,hcal]; exact .inr (by simpa using hxm))) hH (λk hk=>hag k (.inl hk)) hhw hn
    · cases h
  · cases h
end Go.Sx

