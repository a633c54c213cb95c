import Derived.Test.YtejdbdegdanecaaGreatSxDraw
set_option linter.unusedVariables false
set_option linter.unusedSimpArgs false
namespace Go.Sx
open Go.RowKit
variable {P:Program} {G:Nat->Option Ct}
theorem maskOf_bit {ms:List Nat}:∀(es:List Edge) (s:Nat) (b:Nat),(es.foldl (λs e=>if Region.binds .any e then s|||2 ^ e.on|||ms.getD e.on 0 else s) s).testBit b=true->
 s.testBit b=true∨∃e∈es,Region.binds .any e=true/\(e.on=b∨(ms.getD e.on 0).testBit b=true)
 |[],s,b,h=> .inl h
 |e::es,s,b,h=>by
  simp only[List.foldl_cons]at h;rcases maskOf_bit es _ b h with h|⟨e',he',h⟩
  · split at h
    · rename_i hb;simp only[Nat.testBit_or,Bool.or_eq_true]at h;rcases h with(h|h)|h
      · exact .inl h
      · refine .inr ⟨e,by simp,hb,.inl ?_⟩;rw[Nat.testBit_two_pow]at h;simpa using h
      · exact .inr ⟨e,by simp,hb,.inr h⟩
    · exact .inl h
  · exact .inr ⟨e',by simp[he'],h⟩
theorem AeI:∀(l:List Oper) (ms:List Nat) (i:Nat),i<ms.length->(Ace l ms).getD i 0=ms.getD i 0
 |[],ms,i,h=>rfl
 |o::r,ms,i,h=>by
  simp only[Ace];rw[AeI r _ i (by simp; omega)];simp[List.getD_eq_getElem?_getD,List.getElem?_append_left h]
theorem AhF:∀(l:List Oper) (ms:List Nat) (j:Nat) (o:Oper),l[j]? =some o->(∀e∈o.after.toList,Region.binds .any e=true->e.on<ms.length+j)->
 (Ace l ms).getD (ms.length+j) 0=Agw (Ace l ms) o.after.toList
 |[],ms,j,o,h,_=>by simp at h
 |p::r,ms,0,o,h,he=>by
  simp at h; subst h;simp only[Ace,AmC]at he ⊢;rw[AeI r _ ms.length (by simp)];simp only[List.getD_eq_getElem?_getD,List.getElem?_append_right (AlT _),Nat.sub_self,List.getElem?_cons_zero,Amj];have key:∀(es:List Edge) (s:Nat),(∀e∈es,Region.binds .any e=true->e.on<ms.length)->
   es.foldl (λs e=>if Region.binds .any e then s|||2 ^ e.on|||ms.getD e.on 0 else s) s=
   es.foldl (λs e=>if Region.binds .any e then s|||2 ^ e.on|||(Ace r (ms++[Agw ms p.after.toList])).getD e.on 0 else s) s:=by
   intro es
   induction es with
   |nil=>intro s _; rfl
   |cons e es ih=>
    intro s hes
    simp only[List.foldl_cons]
    rw[ih _ λe' he'=>hes e' (by simp[he'])]
    congr 1
    split
    · rename_i hb
      have hlt:=hes e (by simp) hb
      rw[AeI r _ e.on (by simp; omega)]
      simp[List.getD_eq_getElem?_getD,List.getElem?_append_left hlt]
    · rfl
  exact key _ 0 he
 |p::r,ms,j+1,o,h,he=>by
  simp only[Ace];have:=AhF r (ms++[Agw ms p.after.toList]) j o (by simpa using h) (by simpa[Ami,Amh 1 j]using he);simpa[Ami,Amh 1 j]using this
theorem Ada:∀(l:List Oper) (i j:Nat) (o:Oper),Ab5 l i=true->l[j]? =some o->∀e∈o.after.toList,Region.binds .any e=true->e.on<i+j
 |[],i,j,o,_,h=>by simp at h
 |p::r,i,0,o,hk,h=>by
  simp at h; subst h;simp only[Ab5,AlG,Al6]at hk;intro e he hb;have:=hk.1 e he;simp only[hb,Amq,Bool.false_or,AlE]at this;omega
 |p::r,i,j+1,o,hk,h=>by
  simp only[Ab5,AlG]at hk;have:=Ada r (i+1) j o hk.2 (by simpa using h);intro e he hb;have:=this e he hb;omega
theorem before_step {l:List Oper} (hk:Ab5 l 0=true) {j:Nat} {o:Oper} (ho:l[j]? =some o) {b:Nat} (h:((Ace l []).getD j 0).testBit b=true):
 ∃e∈o.after.toList,Region.binds .any e=true/\e.on<j/\(e.on=b∨((Ace l []).getD e.on 0).testBit b=true):=by
 have hed:=Ada l 0 j o hk ho;have h1:=AhF l [] j o ho (by simpa using hed);simp only[AmX,AmK]at h1;rw[h1]at h;unfold Agw at h;rcases maskOf_bit _ _ b h with h|⟨e,he,hb,h⟩
 · simp at h
 · exact⟨e,he,hb,by have:=hed e he hb; omega,h⟩
def AeX (l:List Oper) (listed:Nat->Prop):Prop:=∀j o,l[j]? =some o->listed j->∀e∈o.after.toList,Region.binds .any e=true->listed e.on
theorem AcM {l:List Oper} (hk:Ab5 l 0=true) {listed:Nat->Prop} (hc:AeX l listed):∀(j:Nat) (o:Oper),l[j]? =some o->(∀e∈o.after.toList,Region.binds .any e=true->listed e.on)->∀b,((Ace l []).getD j 0).testBit b=true->listed b:=by
 intro j
 induction j using Nat.strongRecOn with
 |ind j ih=>
  intro o ho hl b hb
  obtain⟨e,he,hbn,hlt,h⟩:=before_step hk ho hb
  have hle:=hl e he hbn
  rcases h with rfl|h
  · exact hle
  · have hj:j<l.length:=(List.getElem?_eq_some_iff.1 ho).1
    have ho':l[e.on]? =some l[e.on]:=List.getElem?_eq_getElem (by omega)
    exact ih e.on hlt _ ho' (hc e.on _ ho' hle) b h
structure Step where
 o:Oper
 s:St
 run:Bool
 sv:SV
 heap:List HB
 R:List Nat
 W:List Nat
structure Sim (s t:St):Prop where
 heap:t.heap=s.heap
 len:t.tmps.length=s.tmps.length
 tm:∀(i:Nat) (x:SV),t.tmps[i]? =some x->∃y,s.tmps[i]? =some y/\∀(V:Vw) (v:Value),VR V y v->VR V x v
theorem Sim.refl (s:St):Sim s s:=⟨rfl,rfl,λ_ x h=>⟨x,h,λ_ _ h=>h⟩⟩
structure Aek (P:Program) (G:Nat->Option Ct) (wr:Bool) (ops:List Oper) (st:Step):Prop where
 wf:StWf st.s
 guard:match guardOf ops st.s st.o.guard with| .run=>st.run=true| .skip=>st.run=false|_=>False
 go:st.run=true->∃hyp chk,sop P G wr st.o st.s.ev st.s.heap= .ok hyp chk st.sv st.heap st.R st.W/\chk.h
 no:st.run=false->st.sv= .undef/\st.heap=st.s.heap/\st.R=[]/\st.W=[]
 frame:Frame st.s.heap st.heap st.W
def Acj:St->List Step->St->Prop
 |s,[],s'=>s'=s
 |s,st::r,s'=>Sim s st.s/\Acj (St.put ⟨st.s.tmps,st.heap⟩ st.o.dst st.sv) r s'
def Step.rw (st:Step):List Nat×List Nat:=(st.R,st.W++AcD st.s.heap.length st.heap.length)
theorem AfD {ops:List Oper} {s:St} {g:Option (Nat×Bool)} {t:Tmp} {b want:Bool} (h:guardOf ops s g= .ask t b want) (c:Bool):
 guardOf ops (s.put (some t) (.blit c)) g=if c==want then .run else .skip:=by
 unfold guardOf at h ⊢
 cases g with
 |none=>cases h
 |some g=>
  obtain⟨j,w⟩:=g
  simp only at h ⊢
  cases ht:(ops[j]?).bind (·.dst)with
  |none=>simp[ht]at h
  |some t'=>
   simp only[ht]at h ⊢
   cases hx:s.tmps[t']? with
   |none=>simp[hx]at h
   |some x=>
    simp only[hx]at h
    cases x<;>simp only at h<;>try (cases h; done)
    · injection h with h1 h2 h3
      subst h1; subst h2; subst h3
      have hlt:t'<s.tmps.length:=(List.getElem?_eq_some_iff.1 hx).1
      simp only[St.put,putT,List.getElem?_set,if_pos,hlt]
    · split at h<;>cases h
theorem Af1 {ops:List Oper} {s:St} {g:Option (Nat×Bool)} {t:Tmp} {b want:Bool} (h:guardOf ops s g= .ask t b want):s.tmps[t]? =some (.bool b):=by
 unfold guardOf at h
 cases g with
 |none=>cases h
 |some g=>
  obtain⟨j,w⟩:=g
  simp only at h
  cases ht:(ops[j]?).bind (·.dst)with
  |none=>simp[ht]at h
  |some t'=>
   simp only[ht]at h
   cases hx:s.tmps[t']? with
   |none=>simp[hx]at h
   |some x=>
    simp only[hx]at h
    cases x<;>simp only at h<;>try (cases h; done)
    · injection h with h1 h2 h3
      subst h1; subst h2; exact hx
    · split at h<;>cases h
theorem Aht {s:St} {t:Tmp} {b:Bool} (h:s.tmps[t]? =some (.bool b)):Sim s (s.put (some t) (.blit b)):=by
 refine⟨rfl,by simp[St.put,putT],λi x hx=> ?_⟩;simp only[St.put,putT,List.getElem?_set]at hx;split at hx
 · rename_i hij;split at hx
   · injection hx with hx; subst hx; subst hij;exact⟨_,h,λV v hv=>by simpa only[VR]using hv⟩
   · cases hx
 · exact⟨x,hx,λ_ _ h=>h⟩
def Alb (P:Program) (G:Nat->Option Ct) (wr:Bool) (inl:Inl) (ops:List Oper) (ms:List Nat) (K:St->Prop) (n:Nat) (s:St):List Oper->Prop
 |[]=>K s
 |o::r=>∃s1 f args,Sim s s1/\StWf s1/\guardOf ops s1 o.guard= .run/\AfB G o s1=some (f,args)/\Ad3 ms ops.length n=true/\
  inl f args s1.heap λsv heap=>vcD P G wr inl ops ms r (n+1) (St.put ⟨s1.tmps,heap⟩ o.dst sv) [] K
theorem vcD_steps (hG:∀f ct,G f=some ct->SoundCt P f ct) {wr:Bool} {inl:Inl} {ops:List Oper} {ms:List Nat} {K:St->Prop} {n:Nat}:∀(l:List Oper) (s:St) (acc:List (List Nat×List Nat)),vcD P G wr inl ops ms l n s acc K->StWf s->
    ∃steps s' r,l=steps.map (·.o)++r/\(∀st∈steps,Aek P G wr ops st)/\Acj s steps s'/\okRW ms (acc++steps.map Step.rw) n=true/\StWf s'/\Alb P G wr inl ops ms K (n+acc.length+steps.length) s' r
  |[],s,acc,h,hw=>by
    simp only[vcD]at h;split at h
    · rename_i hk;exact⟨[],s,[],rfl,by simp,rfl,by simpa using hk,hw,h⟩
    · exact h.elim
  |o::r,s,acc,h,hw=>by
    simp only[vcD]at h;have run:∀(s1:St),Sim s s1->StWf s1->guardOf ops s1 o.guard= .run->
        (match AfB G o s1 with
        |some (f,args)=>if(okRW ms acc n&&Ad3 ms ops.length (n+acc.length))=true then inl f args s1.heap λsv heap=>vcD P G wr inl ops ms r (n+acc.length+1) (St.put ⟨s1.tmps,heap⟩ o.dst sv) [] K else False
        |none=>
          match sop P G wr o s1.ev s1.heap with
          | .ok none none sv heap R W=>vcD P G wr inl ops ms r n (St.put ⟨s1.tmps,heap⟩ o.dst sv) (acc++[(R,W++AcD s1.heap.length heap.length)]) K
          | .ok none (some chk) sv heap R W=>chk/\vcD P G wr inl ops ms r n (St.put ⟨s1.tmps,heap⟩ o.dst sv) (acc++[(R,W++AcD s1.heap.length heap.length)]) K
          | .ok (some hyp) none sv heap R W=>hyp->vcD P G wr inl ops ms r n (St.put ⟨s1.tmps,heap⟩ o.dst sv) (acc++[(R,W++AcD s1.heap.length heap.length)]) K
          | .ok (some hyp) (some chk) sv heap R W=>chk/\(hyp->vcD P G wr inl ops ms r n (St.put ⟨s1.tmps,heap⟩ o.dst sv) (acc++[(R,W++AcD s1.heap.length heap.length)]) K)
          | .fail=>False)->
        ∃steps s' r',o::r=steps.map (·.o)++r'/\(∀st∈steps,Aek P G wr ops st)/\Acj s steps s'/\okRW ms (acc++steps.map Step.rw) n=true/\StWf s'/\Alb P G wr inl ops ms K (n+acc.length+steps.length) s' r':=by
      intro s1 hsim hw1 hgd h;split at h
      · rename_i f args hin;split at h
        · rename_i hk;simp only[AlG]at hk;exact⟨[],s,o::r,rfl,by simp,rfl,by simpa using hk.1,hw,s1,f,args,hsim,hw1,hgd,hin,by simpa using hk.2,by simpa using h⟩
        · exact h.elim
      · obtain ⟨hyp, chk, sv, heap', R, W, hop, hc, hK⟩ : ∃ hyp chk sv heap' R W, sop P G wr o s1.ev s1.heap = .ok hyp chk sv heap' R W /\ chk.h /\
            (hyp.h->vcD P G wr inl ops ms r n (St.put ⟨s1.tmps,heap'⟩ o.dst sv) (acc++[(R,W++AcD s1.heap.length heap'.length)]) K):=by
          split at h
          · exact⟨_,_,_,_,_,_,by assumption,trivial,λ_=>h⟩
          · exact⟨_,_,_,_,_,_,by assumption,h.1,λ_=>h.2⟩
          · exact⟨_,_,_,_,_,_,by assumption,trivial,h⟩
          · exact⟨_,_,_,_,_,_,by assumption,h.1,h.2⟩
          · exact h.elim
        have hwf:=Ait hG hop hc (λx _=>hw1.ev x) hw1.hp;obtain⟨steps,s',r',h1,h2,h3,h4,h5,h6⟩:=vcD_steps hG r _ _ (hK hwf.1) (hw1.put hwf.2.1 hwf.2.2.wf);refine⟨⟨o,s1,true,sv,heap',R,W⟩::steps,s',r',by simp[h1],λst hst=> ?_,⟨hsim,h3⟩,by simpa[Step.rw]using h4,h5,?_⟩
        · rcases Amd.1 hst with rfl|hst
          · exact⟨hw1,by simp only[hgd],λ_=>⟨hyp,chk,hop,hc⟩,λh=>by(cases h),hwf.2.2⟩
          · exact h2 st hst
        · have e:n+acc.length+(steps.length+1)=n+(acc.length+1)+steps.length:=by omega
          simp only[AlF,AlJ]at h6;simp only[Al9,e];exact h6
    have skip:∀(s1:St),Sim s s1->StWf s1->guardOf ops s1 o.guard= .skip->vcD P G wr inl ops ms r n (s1.put o.dst .undef) (acc++[([],[])]) K->
        ∃steps s' r',o::r=steps.map (·.o)++r'/\(∀st∈steps,Aek P G wr ops st)/\Acj s steps s'/\okRW ms (acc++steps.map Step.rw) n=true/\StWf s'/\Alb P G wr inl ops ms K (n+acc.length+steps.length) s' r':=by
      intro s1 hsim hw1 hgd h;obtain⟨steps,s',r',h1,h2,h3,h4,h5,h6⟩:=vcD_steps hG r _ _ h (StWf.put (heap:=s1.heap) (x:= .undef) hw1 (by simp[Wf]) hw1.hp);refine⟨⟨o,s1,false,.undef,s1.heap,[],[]⟩::steps,s',r',by simp[h1],λst hst=> ?_,⟨hsim,h3⟩,by simpa[Step.rw,AcD]using h4,h5,?_⟩
      · rcases Amd.1 hst with rfl|hst
        · exact⟨hw1,by simp only[hgd],λh=>by(cases h),λ_=>⟨rfl,rfl,rfl,rfl⟩,Frame.refl hw1.hp _⟩
        · exact h2 st hst
      · have e:n+acc.length+(steps.length+1)=n+(acc.length+1)+steps.length:=by omega
        simp only[AlF,AlJ]at h6;simp only[Al9,e];exact h6
    split at h
    · rename_i hgd; exact run s (Sim.refl s) hw hgd h
    · rename_i hgd; exact skip s (Sim.refl s) hw hgd h
    · rename_i t b want hgd;have htm:=Af1 hgd;by_cases hb:b=want
      · subst hb;refine run _ (Aht htm) (StWf.put (heap:=s.heap) (x:= .blit b) hw (by simp[Wf]) hw.hp) ?_ ((Cw_iff.1 h).1 rfl);rw[AfD hgd]; simp
      · have hb':b= !want:=by cases b<;>cases want<;>simp_all
        have hsim:=Aht htm;rw[hb']at hsim;refine skip _ hsim (StWf.put (heap:=s.heap) (x:= .blit (!want)) hw (by simp[Wf]) hw.hp) ?_ ((Cw_iff.1 h).2 hb');rw[AfD hgd]; cases want<;>simp
    · exact h.elim
end Go.Sx

