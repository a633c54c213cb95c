import Derived.Test.YtejdbdegdanecaaGreatSxAny
import Derived.Orders
set_option linter.unusedVariables false
set_option linter.unusedSimpArgs false
namespace Go.Sx
open Go.RowKit
variable {P:Program} {G:Nat->Option Ct}
theorem Agt (ms:List Nat) (i j:Nat):Ab4 ms i j=Ab4 ms j i:=by
 unfold Ab4;by_cases h:i<j
 · rw[if_pos h,if_neg (by omega),if_pos h]
 · by_cases h':j<i
   · rw[if_neg h,if_pos h',if_pos h']
   · rw[if_neg h,if_neg h',if_neg h',if_neg h]
theorem AfT {l:List Oper} (hk:Ab5 l 0=true) {S:Nat->Bool} (hc:AeX l (λj=>S j=true)) {i j:Nat} {oi oj:Oper} (hi:l[i]? =some oi) (hj:l[j]? =some oj)
 (hun:S i=false) (hed:∀e∈oi.after.toList,Region.binds .any e=true->S e.on=true) (ho:Ab4 (Ace l []) i j=true):S j=decide (j<i):=by
 unfold Ab4 at ho;split at ho
 · rename_i hij
   cases hs:S j with
   |false=>simp; omega
   |true=>
    have:=AcM hk hc j oj hj (hc j oj hj hs) i ho
    simp[hun]at this
 · split at ho
   · rename_i hji;have:=AcM hk hc i oi hi hed j ho;rw[this]; simp[hji]
   · cases ho
theorem meet_of {a b:List Nat} {k:Nat} (ha:k∈a) (hb:k∈b):meet a b=true:=by
 unfold meet; rw[List.any_eq_true]; exact⟨k,ha,by simpa using hb⟩
theorem AlA {V:Vw} {a:Act} {s:St} (hl:a.tmps.size=s.tmps.length) (x:Operand) (h:∀t,x= .tmp t->∀c,s.tmps[t]? =some c->∃v,a.tmps.toList[t]? =some v/\VR V c v):VR V (s.ev x) (a.eval x):=by
 cases x with
 |tmp t=>
  simp only[St.ev,Act.eval]
  have e:a.tmps.getD t Go.undef=a.tmps.toList.getD t Go.undef:=by simp[List.getD_eq_getElem?_getD]
  rw[e,List.getD_eq_getElem?_getD,List.getD_eq_getElem?_getD]
  cases hc:s.tmps[t]? with
  |none=>
   have:a.tmps.toList[t]? =none:=by rw[List.getElem?_eq_none_iff]at hc ⊢; simp; omega
   rw[this]; simp[VR]
  |some c=>
   obtain⟨v,hv,hr⟩:=h t rfl c hc
   rw[hv]; exact hr
 |const v=>exact AfH V v
 |global g=>simp[St.ev,VR]
 |func f=>simp only[St.ev,Act.eval,VR]; exact⟨[],rfl,by simp[VRs]⟩
theorem Aj6 {ops:Array Oper} {V:Vw} {a:Act} {s:St} {o:Oper}
 (h:∀t,(∃j w,o.guard=some (j,w)/\(ops.toList[j]?).bind (·.dst)=some t)->∀c,s.tmps[t]? =some c->∃v,a.tmps.toList[t]? =some v/\VR V c v):
 match guardOf ops.toList s o.guard with
 | .run=>Region.wanted o (yielded ops a.tmps)=true
 | .skip=>Region.wanted o (yielded ops a.tmps)=false
 |_=>True:=by
 unfold guardOf
 cases hg:o.guard with
 |none=>simp[Region.wanted,hg]
 |some g=>
  obtain⟨j,want⟩:=g
  simp only
  cases ht:(ops.toList[j]?).bind (·.dst)with
  |none=>trivial
  |some t=>
   simp only
   cases hx:s.tmps[t]? with
   |none=>trivial
   |some x=>
    obtain⟨v,hv',hv⟩:=h t ⟨j,want,hg,ht⟩ x hx
    have hy:yielded ops a.tmps j=(match v with| .bool b=>some b|_=>none):=by
     unfold yielded;have e1:(ops[j]?).bind (·.dst)=some t:=by simpa using ht
     have e2:a.tmps[t]? =some v:=by simpa using hv'
     simp only[e1,AmG,e2]
     cases v<;>rfl
    cases x<;>simp only<;>try trivial
    · simp only[VR]at hv
      subst hv
      simp[Region.wanted,hg,hy,Go.undef]
    · simp only[VR]at hv
      subst hv
      rename_i b
      cases b<;>cases want<;>simp[Region.wanted,hg,hy]
structure Setup (P:Program) (G:Nat->Option Ct) (wr:Bool) (ops:Array Oper) (n:Nat) (s:St) (steps:List Step) (s':St):Prop where
 ed:Ab5 ops.toList 0=true
 ds:Aib ops.toList=true
 lk:Acx ops.toList (Ace ops.toList []) ops.toList 0=true
 map:∀(i:Nat) (st:Step),steps[i]? =some st->ops.toList[n+i]? =some st.o
 ok:∀st∈steps,Aek P G wr ops.toList st
 ch:Acj s steps s'
 rw:okRW (Ace ops.toList []) (steps.map Step.rw) n=true
structure AInv (ops:Array Oper) (n:Nat) (s:St) (steps:List Step) (V0 V:Vw) (a:Act) (S:Nat->Bool):Prop where
 g:Gro V0 V
 cl:AeX ops.toList (λj=>S j=true)
 lo:∀j,j<n->S j=true
 len:a.tmps.size=s.tmps.length
 tm:∀t y,t<s.tmps.length->Acz S t steps n s.tmps[t]? =some y->∃v,a.tmps.toList[t]? =some v/\VR V y v
 hp:Heap V (λk=>Ado S k steps n s.heap[k]?)
 D:∀k,V.D k->k<s.heap.length∨∃j st,steps[j]? =some st/\S (n+j)=true/\st.s.heap.length<=k/\k<st.heap.length
 df:a.defers=[]
section
variable {wr:Bool} {ops:Array Oper} {n:Nat} {s s':St} {steps:List Step}
theorem Setup.oper (h:Setup P G wr ops n s steps s') {i:Nat} {st:Step} (hi:steps[i]? =some st):ops.toList[n+i]? =some st.o:=h.map i st hi
theorem Setup.rwOrd (h:Setup P G wr ops n s steps s') {i j:Nat} {st st':Step} (hij:i≠j) (hi:steps[i]? =some st) (hj:steps[j]? =some st') {k:Nat} (hk:k∈st.rw.1∨k∈st.rw.2) (hk':k∈st'.rw.2):
 Ab4 (Ace ops.toList []) (n+i) (n+j)=true:=by
 have gi:(steps.map Step.rw)[i]? =some st.rw:=by simp[hi]
 have gj:(steps.map Step.rw)[j]? =some st'.rw:=by simp[hj]
 rcases Nat.lt_or_gt_of_ne hij with hlt|hlt
 · have:=Ag6 _ n i j _ _ h.rw gi gj hlt (by rcases hk with hk|hk<;>simp[meet_of hk hk']);exact this
 · have:=Ag6 _ n j i _ _ h.rw gj gi hlt (by rcases hk with hk|hk<;>simp[meet_of hk' hk]);rw[Agt]; exact this
theorem Ak5 (h:Setup P G wr ops n s steps s') {V0 V:Vw} {a:Act} {S:Nat->Bool} (hI:AInv ops n s steps V0 V a S) {i:Nat} {st:Step} (hi:steps[i]? =some st) (hun:S (n+i)=false)
 (hed:∀e∈st.o.after.toList,Region.binds .any e=true->S e.on=true) {t:Tmp} (ht:t∈looks ops.toList st.o) {c:SV} (hc:st.s.tmps[t]? =some c):∃v,a.tmps.toList[t]? =some v/\VR V c v:=by
 have ho:=h.oper hi;obtain⟨y,hy,hs⟩:=chain_tmp_at steps n s s' i st c h.ch hi hc;have hlt:t<s.tmps.length:=by
  have h1:st.s.tmps.length=s.tmps.length:=(chain_tlen steps s s' h.ch).2 i st hi;have h2:t<st.s.tmps.length:=(List.getElem?_eq_some_iff.1 hc).1;rw[←h1]; exact h2
 have e:Acz (λj=>decide (j<n+i)) t steps n s.tmps[t]? =Acz S t steps n s.tmps[t]? :=Adl steps n _ λj st' hj hd=>by
  have hoj:=h.oper hj;have hord:=Afb ops.toList 0 (n+i) st.o h.lk ho t ht (n+j) st'.o hoj hd;simp only[AmK]at hord ⊢;exact(AfT h.ed hI.cl ho hoj hun hed hord).symm
 rw[e]at hy;obtain⟨v,hv,hr⟩:=hI.tm t y hlt hy;exact⟨v,hv,hs V v hr⟩
def Sadd (S:Nat->Bool) (i:Nat) (j:Nat):Bool:=S j||(j==i)
theorem Ad4 {S:Nat->Bool} {i j:Nat} (h:j≠i):Sadd S i j=S j:=by simp[Sadd,h]
theorem Af6 {S:Nat->Bool} {i:Nat}:Sadd S i i=true:=by simp[Sadd]
theorem AhT (h:Setup P G wr ops n s steps s') {V0 V:Vw} {a:Act} {S:Nat->Bool} (hI:AInv ops n s steps V0 V a S) {i:Nat} {st:Step} (hi:steps[i]? =some st) (hun:S (n+i)=false)
    (hed:∀e∈st.o.after.toList,Region.binds .any e=true->S e.on=true) {V':Vw} {v:Value} (hg:Grow V V' st.W) (hv:VR V' st.sv v)
    (hH:Heap V' (newH st.s.heap st.heap st.W (λk=>Ado S k steps n s.heap[k]?))) (hD:∀k,V'.D k↔V.D k∨(st.s.heap.length<=k/\k<st.heap.length)):
    AInv ops n s steps V0 V' (a.put st.o.dst v) (Sadd S (n+i)):=by
  have ho:=h.oper hi;have hcl:AeX ops.toList (λj=>Sadd S (n+i) j=true):=λj o hj hl e he hb=>by
    by_cases hji:j=n+i
    · subst hji;rw[ho]at hj; injection hj with hj; subst hj;have:=hed e he hb;simp[Sadd,this]
    · have hl':S j=true:=by simpa[Sadd,hji]using hl
      have:=hI.cl j o hj hl' e he hb;simp only at this;simp[Sadd,this]
  refine⟨hI.g.trans ⟨_,hg⟩,hcl,λj hj=>by simp[Sadd,hI.lo j hj],?_,?_,?_,?_,?_⟩
  · cases st.o.dst<;>simp[Act.put,hI.len]
  · intro t y ht hy;by_cases hd:st.o.dst=some t
    · have e:Acz (Sadd S (n+i)) t steps n s.tmps[t]? =some st.sv:=Ae4 steps n _ i st hi Af6 hd λj st' hj hd' hij=>by
        have:=AhE ops.toList (n+i) (n+j) st.o st'.o t h.ds ho (h.oper hj) hd hd';omega
      rw[e]at hy; injection hy with hy; subst hy;refine⟨v,?_,hv⟩;rw[hd];have:t<a.tmps.toList.length:=by simp; have:=hI.len; omega
      simp only[Act.put,Array.set!_eq_setIfInBounds,Array.toList_setIfInBounds];rw[List.getElem?_set_self (by simpa using this)]
    · have e:Acz (Sadd S (n+i)) t steps n s.tmps[t]? =Acz S t steps n s.tmps[t]? :=Adl steps n _ λj st' hj hd'=>by
        refine Ad4 λhji=> ?_;obtain rfl:j=i:=by omega
        rw[hi]at hj; injection hj with hj; subst hj; exact hd hd'
      rw[e]at hy;obtain⟨u,hu,hr⟩:=hI.tm t y ht hy;refine⟨u,?_,VR.mono hg.stays _ _ hr⟩
      cases hdd:st.o.dst with
      |none=>simpa[Act.put]using hu
      |some d=>
        have hne:d≠t:=λhh=>hd (by rw[hdd,hh])
        simp only[Act.put,Array.set!_eq_setIfInBounds,Array.toList_setIfInBounds]
        rw[List.getElem?_set_ne hne]; exact hu
  · refine hH.congr λk hk=> ?_;unfold newH;split
    · rename_i hkw;have hkm:k∈st.rw.2:=by
        simp only[Step.rw,AlY,AdY];exact hkw
      exact AfC steps n _ i st hi Af6 (by simpa using hkm) λj st' hj hc hij=>by
        rw[Ad4 (by omega)];have hord:=h.rwOrd (i:=i) (j:=j) (by omega) hi hj (.inr hkm) (by simpa using hc);have:=AfT h.ed hI.cl ho (h.oper hj) hun hed hord;rw[this]; simp; omega
    · rename_i hkw;exact Adn steps n _ λj st' hj hc=>by
        refine Ad4 λhji=> ?_;obtain rfl:j=i:=by omega
        rw[hi]at hj; injection hj with hj; subst hj;have:k∈st.rw.2:=by simpa using hc
        simp only[Step.rw,AlY,AdY]at this;exact hkw this
  · intro k hk;rcases(hD k).1 hk with hk|hk
    · rcases hI.D k hk with hk|⟨j,st',hj,hs,hk⟩
      · exact .inl hk
      · exact .inr ⟨j,st',hj,by simp[Sadd,hs],hk⟩
    · exact .inr ⟨i,st,hi,Af6,hk⟩
  · cases st.o.dst<;>simpa[Act.put]using hI.df
theorem Akc (hG:∀f ct,G f=some ct->SoundCt P f ct) (h:Setup P G wr ops n s steps s') {V0 V:Vw} {a:Act} {S:Nat->Bool} (hI:AInv ops n s steps V0 V a S) {i:Nat} {st:Step} (hi:steps[i]? =some st) (hun:S (n+i)=false)
 (hed:∀e∈st.o.after.toList,Region.binds .any e=true->S e.on=true) {Q:Exit->Act->World->Prop} {K:Act->World->Prop}
 (hK:∀a' V',AInv ops n s steps V0 V' a' (Sadd S (n+i))->K a' V'.w):wpOp P ops Q (n+i) K a V.w:=by
 have ho:=h.oper hi;have ho':ops[n+i]? =some st.o:=by simpa using ho
 have hm:=Amm hi;have hst:=h.ok st hm;unfold wpOp;simp only[ho'];have hlook:∀t,t∈looks ops.toList st.o->∀c,st.s.tmps[t]? =some c->∃v,a.tmps.toList[t]? =some v/\VR V c v:=λt ht c hc=>Ak5 h hI hi hun hed ht hc;have hgd:=Aj6 (ops:=ops) (V:=V) (a:=a) (s:=st.s) (o:=st.o) λt ⟨j,w,hg,ht⟩ c hc=>hlook t (by
  unfold looks;simp only[hg,ht,AlY,Option.toList_some,Am3,or_true]) c hc
 have hg:=hst.guard
 cases hr:st.run with
 |true=>
  have hw:Region.wanted st.o (yielded ops a.tmps)=true:=by
   cases hgu:guardOf ops.toList st.s st.o.guard<;>simp only[hgu,hr]at hg hgd
   · exact hgd
   · cases hg
  rw[if_pos hw]
  obtain⟨hyp,chk,hop,hc⟩:=hst.go hr
  refine .inl ?_
  have hlen:a.tmps.size=st.s.tmps.length:=by rw[(chain_tlen steps s s' h.ch).2 i st hi]; exact hI.len
  have hl:=Agc (a:=a) hG hop hc
   (λx hx=>AlA hlen x λt hxt c hc'=>hlook t (by
    unfold looks;simp only[AlY,List.mem_filterMap];exact .inl ⟨x,by simpa using hx,by rw[hxt]⟩) c hc')
   (λx _=>hst.wf.ev x) hI.hp
   (λk hk hd=>by
    have hk':k∈st.rw.1∨k∈st.rw.2:=by
     rcases hk with hk|hk
     · exact .inl hk
     · exact .inr (by simp only[Step.rw,AlY]; exact .inl hk)
    rw[AdM (G:=G) (P:=P) (wr:=wr) (ops:=ops.toList) (k:=k) steps n s s' i st h.ch h.ok hi];refine Adn steps n _ λj st' hj hc'=> ?_;by_cases hij:i=j
    · subst hij; rw[hun]; simp
    · exact AfT h.ed hI.cl ho (h.oper hj) hun hed (h.rwOrd hij hi hj hk' (by simpa using hc')))
   (λk hk1 hk2 hd=>by
    obtain⟨_,hcl⟩:=chain_len (G:=G) (P:=P) (wr:=wr) (ops:=ops.toList) steps s s' h.ch h.ok;have h1:=hcl i st hi;rcases hI.D k hd with hk|⟨j,st',hj,hs,hk⟩
    · omega
    · have hij:i≠j:=by rintro rfl; rw[hun]at hs; cases hs
      rcases Nat.lt_or_gt_of_ne hij with hlt|hlt
      · have:=h1.2.2 j st' hj hlt; omega
      · have:=(hcl j st' hj).2.2 i st hi hlt; omega) hst.wf.hp
  exact hl K Q λv V' hg hv hH hD=>hK _ V' (AhT h hI hi hun hed hg hv hH hD)
 |false=>
  have hw:Region.wanted st.o (yielded ops a.tmps)=false:=by
   cases hgu:guardOf ops.toList st.s st.o.guard<;>simp only[hgu,hr]at hg hgd
   · cases hg
   · exact hgd
  rw[if_neg (by rw[hw]; simp)]
  obtain⟨h1,h2,h3,h4⟩:=hst.no hr
  refine hK _ V (AhT h hI hi hun hed (Grow.refl V _) (by rw[h1]; simp[VR]) ?_ λk=> ?_)
  · rw[h2,h4]
    exact hI.hp.congr λk _=>AcZ _ _ _
  · rw[h2]; exact⟨.inl,λhh=>hh.elim id λhh=>by omega⟩
def left (S:Nat->Bool):Nat->Nat
 |0=>0
 |n+1=>left S n+if S n then 0 else 1
theorem Afz {S S':Nat->Bool}:∀n,(∀j,j<n->S j=S' j)->left S n=left S' n
 |0,_=>rfl
 |n+1,h=>by simp only[left]; rw[Afz n λj hj=>h j (by omega),h n (by omega)]
theorem AfY {S:Nat->Bool} {i:Nat} (hs:S i=false):∀n,i<n->left (Sadd S i) n+1=left S n
 |0,h=>by omega
 |n+1,h=>by
  simp only[left];by_cases hin:i=n
  · subst hin;rw[Afz (S:=Sadd S i) (S':=S) i λj hj=>Ad4 (by omega),Af6,hs]; simp
  · have:=AfY hs n (by omega);rw[Ad4 (j:=n) (by omega)];omega
theorem AeS {S:Nat->Bool}:∀n,left S n=0->∀j,j<n->S j=true
 |0,_,j,hj=>by omega
 |n+1,h,j,hj=>by
  simp only[left]at h;by_cases hjn:j=n
  · subst hjn; cases hs:S j with
    |true=>rfl
    |false=>rw[hs]at h; simp at h
  · exact AeS n (by omega) j (by omega)
theorem AhX (h:Setup P G wr ops n s steps s') {V0 V:Vw} {a:Act} {S:Nat->Bool} (hI:AInv ops n s steps V0 V a S) (hall:∀j,j<n+steps.length->S j=true):StRep V a s':=by
 have hS:∀j,j<steps.length->S (n+j)=true:=λj hj=>hall (n+j) (by omega);have htl:=(chain_tlen steps s s' h.ch).1;refine⟨VRs.of_get (by simp[hI.len,htl]) λt x v hx hv=> ?_,?_,λk hk=> ?_,hI.df⟩
 · obtain⟨y,hy,hs⟩:=chain_tmp (S:=S) steps n s s' x h.ch hS hx;have hlt:t<s.tmps.length:=by have:=(List.getElem?_eq_some_iff.1 hx).1; omega
   obtain⟨u,hu,hr⟩:=hI.tm t y hlt hy;rw[hv]at hu; injection hu with hu; subst hu;exact hs V v hr
 · exact hI.hp.congr λk _=>AfF (G:=G) (P:=P) (wr:=wr) (ops:=ops.toList) steps n s s' h.ch h.ok hS
 · obtain⟨h1,h2⟩:=chain_len (G:=G) (P:=P) (wr:=wr) (ops:=ops.toList) steps s s' h.ch h.ok;rcases hI.D k hk with hk|⟨j,st,hj,_,hk⟩
   · omega
   · have:=(h2 j st hj).2.1; omega
theorem barrier_at {ms:List Nat} {N b:Nat} (h:Ad3 ms N b=true):b<N/\(∀j,j<b->(ms.getD b 0).testBit j=true)/\∀j,b<j->j<N->(ms.getD j 0).testBit b=true:=by
 unfold Ad3 at h;simp only[AlG,AlE,Al6,List.mem_range]at h;exact⟨h.1.1,h.1.2,λj h1 h2=>by have:=h.2 j h2; simpa[h1]using this⟩
def Shut (ops:Array Oper) (m:Nat):Prop:=m=ops.size∨Ad3 (Ace ops.toList []) ops.toList.length m=true
theorem ready_lt {ops:Array Oper} {listed:Array Bool} {m i:Nat} (hk:Ab5 ops.toList 0=true) (hs:Shut ops m) (hcl:AeX ops.toList (λj=>listed.getD j false=true)) (hhi:∀j,m<=j->listed.getD j false=false)
 (hi:i∈Region.ready .any ops listed):i<m∨(i=m/\∀j,j<m->listed.getD j false=true):=by
 obtain⟨h0,o,ho,hed⟩:=mem_ready.1 hi;have hlt:i<ops.size:=(Array.getElem?_eq_some_iff.1 ho).1;rcases AmZ i m with h|h
 · exact .inl h
 · rcases hs with rfl|hb
   · omega
   · obtain⟨b1,b2,b3⟩:=barrier_at hb;have hl:=AcM hk hcl i o (by simpa using ho) (λe he hbd=>hed e (by simpa using he) hbd);rcases AmZ m i with h1|h1
     · have:=hl m (b3 i h1 (by simpa using hlt));rw[hhi m (AlT _)]at this; cases this
     · have e:i=m:=by omega
       subst e;exact .inr ⟨rfl,λj hj=>hl j (b2 j hj)⟩
theorem Ags {ops:Array Oper} {listed:Array Bool} (hsz:listed.size=ops.size) (hk:Ab5 ops.toList 0=true):∀(j:Nat),j<ops.size->listed.getD j false=false->Region.ready .any ops listed≠[]:=by
 intro j
 induction j using Nat.strongRecOn with
 |ind j ih=>
  intro hj hs hr
  have ho:ops[j]? =some ops[j]:=Array.getElem?_eq_getElem hj
  have:j∈Region.ready .any ops listed:=mem_ready.2 ⟨by
   simp only[AmA,Array.getElem?_eq_getElem (show j<listed.size by omega),Amj]at hs ⊢
   exact hs,_,ho,λe he hb=>by
    have hlt:=Ada ops.toList 0 j ops[j] hk (by simp) e (by simpa using he) hb
    cases hse:listed.getD e.on false with
    |true=>rfl
    |false=>exact(ih e.on (by omega) (by omega) hse hr).elim⟩
  rw[hr]at this; cases this
theorem Adv {ops:Array Oper} {listed:Array Bool} {i:Nat} (hsz:listed.size=ops.size) (hlt:i<ops.size):(λj=>(listed.setIfInBounds i true).getD j false)=Sadd (λj=>listed.getD j false) i:=by
 funext j;by_cases hji:j=i
 · subst hji;simp[Sadd,AmA,hsz,hlt]
 · simp only[Ad4 hji];exact getD_set_ne false (Ne.symm hji)
theorem Ajx (hG:∀f ct,G f=some ct->SoundCt P f ct) (h:Setup P G wr ops n s steps s') (hm:n+steps.length<=ops.size) (hs:Shut ops (n+steps.length)) {V0:Vw} {Q:Exit->Act->World->Prop}
    (hQ:∀fuel (listed:Array Bool) V' a',listed.size=ops.size->(∀j,listed.getD j false=decide (j<n+steps.length))->AeX ops.toList (λj=>listed.getD j false=true)->Gro V0 V'->StRep V' a' s'->left (λj=>listed.getD j false) ops.size<=fuel->wpAny P .any ops Q fuel listed a' V'.w):
    ∀(fuel:Nat) (listed:Array Bool) (V:Vw) (a:Act),listed.size=ops.size->AInv ops n s steps V0 V a (λj=>listed.getD j false)->(∀j,n+steps.length<=j->listed.getD j false=false)->
      left (λj=>listed.getD j false) ops.size<=fuel->wpAny P .any ops Q fuel listed a V.w:=by
  intro fuel
  induction fuel with
  |zero=>
    intro listed V a hsz hI hhi hf
    have hall:=AeS ops.size (by omega:left (λj=>listed.getD j false) ops.size=0)
    refine hQ 0 listed V a hsz (λj=> ?_) hI.cl hI.g (AhX h hI λj hj=>hall j (by omega)) hf
    rcases AmZ j (n+steps.length)with hj|hj
    · rw[hall j (by omega)]; simp[hj]
    · rw[hhi j hj]; simp; omega
  |succ fuel ih=>
    intro listed V a hsz hI hhi hf
    by_cases hall:∀j,j<n+steps.length->listed.getD j false=true
    · refine hQ (fuel+1) listed V a hsz (λj=> ?_) hI.cl hI.g (AhX h hI hall) hf
      rcases AmZ j (n+steps.length)with hj|hj
      · rw[hall j hj]; simp[hj]
      · rw[hhi j hj]; simp; omega
    · have hex:∃j,j<n+steps.length/\listed.getD j false=false:=by
        refine Anp λhne=>hall λj hj=> ?_
        cases hb:listed.getD j false with
        |true=>rfl
        |false=>exact(hne ⟨j,hj,hb⟩).elim
      refine⟨λhr=> ?_,λi hi=> ?_⟩
      · obtain⟨j,hj,hb⟩:=hex
        exact(Ags hsz h.ed j (by omega) hb hr).elim
      · obtain⟨h0,o,ho,hed⟩:=mem_ready.1 hi
        have hlt:i<ops.size:=(Array.getElem?_eq_some_iff.1 ho).1
        have hun:listed.getD i false=false:=by
          simp only[AmA,Array.getElem?_eq_getElem (show i<listed.size by omega),Amj]at h0 ⊢;exact h0
        have him:i<n+steps.length:=by
          rcases ready_lt h.ed hs hI.cl hhi hi with h1|⟨_,h1⟩
          · exact h1
          · exact(hall h1).elim
        have hin:n<=i:=by
          rcases AmZ i n with h1|h1
          · have:=hI.lo i h1;rw[hun]at this; cases this
          · exact h1
        have hst:steps[i-n]? =some steps[i-n]:=List.getElem?_eq_getElem (by omega)
        have hso:=h.oper hst
        rw[show n+(i-n)=i by omega]at hso
        have hso':o=steps[i-n].o:=by
          have:ops.toList[i]? =some o:=by simpa using ho
          rw[hso]at this; injection this with this; exact this.symm
        have key:=Akc hG h hI hst (Q:=Q) (K:=wpAny P .any ops Q fuel (listed.setIfInBounds i true)) (by rw[show n+(i-n)=i by omega]; exact hun) (by rw[←hso']; intro e he hb; exact hed e (by simpa using he) hb)
          λa' V' hI'=>by
            rw[show n+(i-n)=i by omega]at hI';refine ih _ V' a' (by simp[hsz]) (by rw[Adv hsz hlt]; exact hI') (λj hj=> ?_) ?_
            · rw[getD_set_ne false (by omega)]; exact hhi j hj
            · rw[Adv hsz hlt];have:=AfY (S:=λj=>listed.getD j false) hun ops.size hlt;omega
        rwa [show n+(i-n)=i by omega]at key
end
theorem Akd (hG:∀f ct,G f=some ct->SoundCt P f ct) {inl:Inl} (hI:AcO P inl) {wr:Bool} {ops:Array Oper} {K:St->Prop} (hed:Ab5 ops.toList 0=true) (hds:Aib ops.toList=true) (hlk:Acx ops.toList (Ace ops.toList []) ops.toList 0=true)
    {V0:Vw} {Q:Exit->Act->World->Prop} (hQ:∀a' V' s',Gro V0 V'->StRep V' a' s'->StWf s'->K s'->Q .normal a' V'.w):∀(N n:Nat),ops.size-n<=N->n<=ops.size->∀(s:St),vcD P G wr inl ops.toList (Ace ops.toList []) (ops.toList.drop n) n s [] K->StWf s->
      ∀(fuel:Nat) (listed:Array Bool) (V:Vw) (a:Act),listed.size=ops.size->(∀j,listed.getD j false=decide (j<n))->AeX ops.toList (λj=>listed.getD j false=true)->Gro V0 V->StRep V a s->
        left (λj=>listed.getD j false) ops.size<=fuel->wpAny P .any ops Q fuel listed a V.w:=by
  intro N
  induction N with
  |zero=>
    intro n hN hn s h hw fuel listed V a hsz hl hcl hg hr hf
    have e:n=ops.size:=by omega
    subst e
    rw[show ops.toList.drop ops.size=[] by simp]at h
    simp only[vcD]at h
    split at h
    · have hrd:Region.ready .any ops listed=[]:=by
        rw[List.eq_nil_iff_forall_not_mem];intro j hj;obtain⟨h0,o,ho,_⟩:=mem_ready.1 hj;have hlt:j<ops.size:=(Array.getElem?_eq_some_iff.1 ho).1;have:=hl j;simp only[AmA,Array.getElem?_eq_getElem (show j<listed.size by omega),Amj]at this h0;rw[h0]at this; simp at this; omega
      have hq:=hQ a V s hg hr hw h
      cases fuel with
      |zero=>exact⟨hrd,hq⟩
      |succ fuel=>exact⟨λ_=>hq,λi hi=>by rw[hrd]at hi; cases hi⟩
    · exact h.elim
  |succ N ih=>
    intro n hN hn s h hw fuel listed V a hsz hl hcl hg hr hf
    obtain⟨steps,s',r,h1,h2,h3,h4,h5,h6⟩:=vcD_steps hG _ _ _ h hw
    simp only[AmX,AmC,List.nil_append]at h4 h6
    have hlen:ops.size-n=steps.length+r.length:=by have:=congrArg List.length h1; simpa using this
    have hset:Setup P G wr ops n s steps s':=⟨hed,hds,hlk,λi st hi=>by
      have:=congrArg (λl=>l[i]?) h1;simp only[List.getElem?_drop]at this;rw[this,List.getElem?_append_left (by simp; exact(List.getElem?_eq_some_iff.1 hi).1)];simp[hi],h2,h3,h4⟩
    have hz:AInv ops n s steps V0 V a (λj=>listed.getD j false):=by
      have hno:∀j,listed.getD (n+j) false=false:=λj=>by rw[hl]; simp
      refine⟨hg,hcl,λj hj=>by rw[hl]; simpa using hj,?_,λt y ht hy=> ?_,?_,λk hk=> .inl (hr.lt k hk),hr.df⟩
      · have:=hr.tm.len; simpa using this
      · rw[Ac7 steps n _ λj _ _ _=>hno j]at hy;exact hr.tm.get t y hy
      · exact hr.hp.congr λk _=>Adc steps n _ λj _ _ _=>hno j
    have hdrop:ops.toList.drop (n+steps.length)=r:=by
      rw[←Anv,h1];simp
    cases r with
    |nil=>
      have hm:n+steps.length=ops.size:=by simp at hlen; omega
      refine Ajx hG hset (by omega) (.inl hm) (V0:=V0) ?_ fuel listed V a hsz hz (λj hj=>by rw[hl]; simp; omega) hf
      intro fuel' listed' V' a' hsz' hl' hcl' hg' hr' hf'
      have hrd:Region.ready .any ops listed'=[]:=by
        rw[List.eq_nil_iff_forall_not_mem];intro j hj;obtain⟨h0,o,ho,_⟩:=mem_ready.1 hj;have hlt:j<ops.size:=(Array.getElem?_eq_some_iff.1 ho).1;have:=hl' j;simp only[AmA,Array.getElem?_eq_getElem (show j<listed'.size by omega),Amj]at this h0;rw[h0]at this; simp at this; omega
      have hq:=hQ a' V' s' hg' hr' h5 h6
      cases fuel' with
      |zero=>exact⟨hrd,hq⟩
      |succ fuel'=>exact⟨λ_=>hq,λi hi=>by rw[hrd]at hi; cases hi⟩
    |cons o r=>
      obtain⟨s1,f,args,hsim,hw1,hgd,hin,hbar,hinl⟩:=h6
      have hm:n+steps.length<ops.size:=by simp at hlen; omega
      refine Ajx hG hset (by omega) (.inr hbar) (V0:=V0) ?_ fuel listed V a hsz hz (λj hj=>by rw[hl]; simp; omega) hf
      intro fuel' listed' V' a' hsz' hl' hcl' hg' hr' hf'
      have hon:ops.toList[n+steps.length]? =some o:=by
        have:(ops.toList.drop (n+steps.length))[0]? =some o:=by rw[hdrop]; rfl
        simpa[List.getElem?_drop]using this
      have hun:listed'.getD (n+steps.length) false=false:=by rw[hl']; simp
      have hr1:StRep V' a' s1:=by
        refine⟨VRs.of_get ?_ λi x v hx hv=> ?_,by rw[hsim.heap]; exact hr'.hp,λk hk=>by rw[hsim.heap]; exact hr'.lt k hk,hr'.df⟩
        · rw[hsim.len]; exact hr'.tm.len
        · obtain⟨y,hy,hs⟩:=hsim.tm i x hx;obtain⟨u,hu,hru⟩:=hr'.tm.get i y hy;rw[hv]at hu; injection hu with hu; subst hu;exact hs V' v hru
      cases fuel' with
      |zero=>
        have:=AeS ops.size (by omega:left (λj=>listed'.getD j false) ops.size=0) (n+steps.length) hm
        rw[hun]at this; cases this
      |succ fuel'=>
        refine⟨λhrd=>(Ags hsz' hed _ hm hun hrd).elim,λi hi=> ?_⟩
        have him:i=n+steps.length:=by
          rcases ready_lt hed (.inr hbar) hcl' (λj hj=>by rw[hl']; simp; omega) hi with h7|⟨h7,_⟩
          · obtain⟨h0,o',ho',_⟩:=mem_ready.1 hi;have hlt:i<ops.size:=(Array.getElem?_eq_some_iff.1 ho').1;have:=hl' i;simp only[AmA,Array.getElem?_eq_getElem (show i<listed'.size by omega),Amj]at this h0;rw[h0]at this; simp at this; omega
          · exact h7
        subst him
        unfold wpOp
        have hon':ops[n+steps.length]? =some o:=by simpa using hon
        simp only[hon']
        have hwd:=AdL (ops:=ops) hr1 (o:=o)
        rw[hgd]at hwd
        rw[if_pos hwd]
        refine .inl ?_
        have hrun:Aex P G wr inl o s1 λs2=>vcD P G wr inl ops.toList (Ace ops.toList []) r (n+steps.length+1) s2 [] K:=by
          unfold Aex;rw[hin];exact hinl
        refine Agq hG hI hrun hr1 hw1 _ _ λa2 V2 s2 hg2 hr2 hw2 hK2=> ?_
        refine ih (n+steps.length+1) (by omega) (by omega) s2 (by rw[←Anv,hdrop]; exact hK2) hw2 fuel' _ V2 a2 (by simp[hsz']) (λj=> ?_) ?_ (hg'.trans hg2) hr2 ?_
        · have:=congrFun (Adv (listed:=listed') hsz' hm) j
          rw[this]
          simp only[Sadd,hl']
          rcases Nat.lt_trichotomy j (n+steps.length)with hj|hj|hj
          · have e1:decide (j<n+steps.length)=true:=by simpa using hj
            have e2:decide (j<n+steps.length+1)=true:=by simp; omega
            rw[e1,e2]; rfl
          · subst hj
            simp
          · have e1:decide (j<n+steps.length)=false:=by simp; omega
            have e2:decide (j<n+steps.length+1)=false:=by simp; omega
            have e3:(j==n+steps.length)=false:=by simp; omega
            rw[e1,e2,e3]; rfl
        · have hpt:∀j,(listed'.setIfInBounds (n+steps.length) true).getD j false=Sadd (λj=>listed'.getD j false) (n+steps.length) j:=λj=>congrFun (Adv hsz' hm) j
          intro j o' hj hlj e he hb
          rw[hpt]at hlj ⊢
          by_cases hji:j=n+steps.length
          · subst hji
            have hlt:=Ada ops.toList 0 _ o' hed hj e he hb
            simp only[Sadd,hl']
            simp; omega
          · have hl2:listed'.getD j false=true:=by simpa[Sadd,hji]using hlj
            have:=hcl' j o' hj hl2 e he hb
            simp only at this
            simp only[Sadd,this,Bool.true_or]
        · rw[Adv hsz' hm]
          have:=AfY (S:=λj=>listed'.getD j false) hun ops.size hm
          omega
def Vw.drew (V:Vw):Vw:= {V with w:= {V.w with drawn:=V.w.drawn+1}}
theorem Vw.drew_grow (V:Vw):Grow V V.drew []:=Aeh rfl rfl rfl (AlT _) λ_ _ _=>rfl
theorem Heap.drew {V:Vw} {H:Nat->Option HB} (h:Heap V H):Heap V.drew H:=
 ⟨λk hk=>by
  obtain⟨hb,h1,h2⟩:=h.rep k hk;exact⟨hb,h1,HBRep.mono V.drew_grow.stays hk rfl (λh=>h) (λ_ _ _=>rfl) h2⟩,h.lt,h.bd,h.nb,h.inj⟩
theorem draw_sound (hG:∀f ct,G f=some ct->SoundCt P f ct) (hm:P.follows .mixedOrders=true) (wr:Bool):Ac6 P (Af7 P G wr):=by
 intro inl hI id ops s K h V0 V a hg hr hw;unfold Af7 at h;split at h
 · rename_i hk;simp only [AlG] at hk;refine wp_region_any hm ?_;have hz : ∀ j, (Array.replicate ops.size false).getD j false = false := by
    intro j;simp only[AmA]
    cases hj:(Array.replicate ops.size false)[j]? with
    |none=>rfl
    |some b=>
     obtain⟨_,hj⟩:=Array.getElem?_eq_some_iff.1 hj
     simp at hj; subst hj; rfl
   have hr':StRep V.drew a s:=⟨VRs.mono V.drew_grow.stays _ _ hr.tm,hr.hp.drew,hr.lt,hr.df⟩
   refine Akd hG hI hk.1.1 hk.1.2 hk.2 (V0:=V0) (K:=K) (λa' V' s' hg' hr' hw' hK=>⟨V',s',rfl,hg',hr',hw',rfl,hK⟩) ops.size 0 (by omega) (by omega) s (by simpa using h) hw ops.size _ V.drew a (by simp)
    (λj=>by rw[hz]; simp) (λj o _ hh=>by simp only at hh; rw[hz]at hh; cases hh) (hg.trans ⟨_,V.drew_grow⟩) hr' ?_
   have e:(λj=>(Array.replicate ops.size false).getD j false)=λ_=>false:=funext hz;rw[e];have:∀n,left (λ_=>false) n=n:=λn=>by induction n with|zero=>rfl|succ n ih=>simp[left,ih]
   rw[this]; omega
 · exact h.elim
theorem draw_pure (hG:∀f ct,G f=some ct->SoundCt P f ct) (wr:Bool):AdP (Af7 P G wr):=by
  intro inl hI ops s K h hw;unfold Af7 at h;split at h
  · have key:∀(N:Nat) (l:List Oper) (n:Nat) (s:St),l.length<=N->vcD P G wr inl ops.toList (Ace ops.toList []) l n s [] K->StWf s->∃s',K s'/\StWf s':=by
      intro N
      induction N with
      |zero=>
        intro l n s hl h hw
        have:l=[]:=AmH (by omega)
        subst this
        simp only[vcD]at h
        split at h
        · exact⟨s,h,hw⟩
        · exact h.elim
      |succ N ih=>
        intro l n s hl h hw
        obtain⟨steps,s',r,h1,h2,h3,h4,h5,h6⟩:=vcD_steps hG _ _ _ h hw
        cases r with
        |nil=>exact⟨s',h6,h5⟩
        |cons o r=>
          obtain⟨s1,f,args,hsim,hw1,hgd,hin,hbar,hinl⟩:=h6
          have hrun:Aex P G wr inl o s1 λs2=>vcD P G wr inl ops.toList (Ace ops.toList []) r (n+([]:List (List Nat×List Nat)).length+steps.length+1) s2 [] K:=by
            unfold Aex;rw[hin];exact hinl
          obtain⟨s2,hk,hw2⟩:=run_pure hG hI hrun hw1
          refine ih r _ s2 ?_ hk hw2
          have:=congrArg List.length h1
          simp at this; omega
    exact key _ _ _ s (AlT _) h hw
  · exact h.elim
end Go.Sx

