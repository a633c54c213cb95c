import Derived.Test.YtejdbdegdanecaaGreatSxDrawS
set_option linter.unusedVariables false
set_option linter.unusedSimpArgs false
namespace Go.Sx
open Go.RowKit
variable {P:Program} {G:Nat->Option Ct}
def Ado (S:Nat->Bool) (k:Nat):List Step->Nat->Option HB->Option HB
 |[],_,acc=>acc
 |st::r,i,acc=>Ado S k r (i+1) (if S i&&st.rw.2.contains k then st.heap[k]? else acc)
def Acz (S:Nat->Bool) (t:Tmp):List Step->Nat->Option SV->Option SV
 |[],_,acc=>acc
 |st::r,i,acc=>Acz S t r (i+1) (if S i&&(st.o.dst==some t)then some st.sv else acc)
theorem Adn {S S':Nat->Bool} {k:Nat}:∀(l:List Step) (i:Nat) (acc:Option HB),(∀j st,l[j]? =some st->st.rw.2.contains k=true->S (i+j)=S' (i+j))->Ado S k l i acc=Ado S' k l i acc
 |[],_,_,_=>rfl
 |st::r,i,acc,h=>by
  simp only[Ado];have e:(S i&&st.rw.2.contains k)=(S' i&&st.rw.2.contains k):=by
   cases hc:st.rw.2.contains k with
   |false=>simp
   |true=>have:=h 0 st rfl hc; simp only[AmC]at this; rw[this]
  rw[e];exact Adn r (i+1) _ λj st' hj hc=>by have:=h (j+1) st' (by simpa using hj) hc; simpa[Ami,Amh 1 j]using this
theorem Adl {S S':Nat->Bool} {t:Tmp}:∀(l:List Step) (i:Nat) (acc:Option SV),(∀j st,l[j]? =some st->st.o.dst=some t->S (i+j)=S' (i+j))->Acz S t l i acc=Acz S' t l i acc
 |[],_,_,_=>rfl
 |st::r,i,acc,h=>by
  simp only[Acz];have e:(S i&&(st.o.dst==some t))=(S' i&&(st.o.dst==some t)):=by
   cases hc:(st.o.dst==some t)with
   |false=>simp
   |true=>have:=h 0 st rfl (by simpa using hc); simp only[AmC]at this; rw[this]
  rw[e];exact Adl r (i+1) _ λj st' hj hc=>by have:=h (j+1) st' (by simpa using hj) hc; simpa[Ami,Amh 1 j]using this
theorem Adc {S:Nat->Bool} {k:Nat}:∀(l:List Step) (i:Nat) (acc:Option HB),(∀j st,l[j]? =some st->st.rw.2.contains k=true->S (i+j)=false)->Ado S k l i acc=acc
 |[],_,_,_=>rfl
 |st::r,i,acc,h=>by
  simp only[Ado];have e:(S i&&st.rw.2.contains k)=false:=by
   cases hc:st.rw.2.contains k with
   |false=>simp
   |true=>have:=h 0 st rfl hc; simp only[AmC]at this; rw[this]; rfl
  rw[e];exact Adc r (i+1) _ λj st' hj hc=>by have:=h (j+1) st' (by simpa using hj) hc; simpa[Ami,Amh 1 j]using this
theorem Ac7 {S:Nat->Bool} {t:Tmp}:∀(l:List Step) (i:Nat) (acc:Option SV),(∀j st,l[j]? =some st->st.o.dst=some t->S (i+j)=false)->Acz S t l i acc=acc
 |[],_,_,_=>rfl
 |st::r,i,acc,h=>by
  simp only[Acz];have e:(S i&&(st.o.dst==some t))=false:=by
   cases hc:(st.o.dst==some t)with
   |false=>simp
   |true=>have:=h 0 st rfl (by simpa using hc); simp only[AmC]at this; rw[this]; rfl
  rw[e];exact Ac7 r (i+1) _ λj st' hj hc=>by have:=h (j+1) st' (by simpa using hj) hc; simpa[Ami,Amh 1 j]using this
theorem AfC {S:Nat->Bool} {k:Nat}:∀(l:List Step) (n:Nat) (acc:Option HB) (i:Nat) (st:Step),l[i]? =some st->S (n+i)=true->st.rw.2.contains k=true->
 (∀j st',l[j]? =some st'->st'.rw.2.contains k=true->i<j->S (n+j)=false)->Ado S k l n acc=st.heap[k]?
 |[],_,_,i,st,h,_,_,_=>by simp at h
 |p::r,n,acc,0,st,h,hs,hc,hl=>by
  simp at h; subst h;simp only[Ado,AmC]at hs ⊢;rw[hs,hc];exact Adc r (n+1) _ λj st' hj hc'=>by have:=hl (j+1) st' (by simpa using hj) hc' (by omega); simpa[Ami,Amh 1 j]using this
 |p::r,n,acc,i+1,st,h,hs,hc,hl=>by
  simp only[Ado];exact AfC r (n+1) _ i st (by simpa using h) (by simpa[Ami,Amh 1 i]using hs) hc λj st' hj hc' hij=>by
   have:=hl (j+1) st' (by simpa using hj) hc' (by omega); simpa[Ami,Amh 1 j]using this
theorem Ae4 {S:Nat->Bool} {t:Tmp}:∀(l:List Step) (n:Nat) (acc:Option SV) (i:Nat) (st:Step),l[i]? =some st->S (n+i)=true->st.o.dst=some t->
 (∀j st',l[j]? =some st'->st'.o.dst=some t->i<j->S (n+j)=false)->Acz S t l n acc=some st.sv
 |[],_,_,i,st,h,_,_,_=>by simp at h
 |p::r,n,acc,0,st,h,hs,hc,hl=>by
  simp at h; subst h;simp only[Acz,AmC]at hs ⊢;rw[hs,show(p.o.dst==some t)=true by simpa using hc];exact Ac7 r (n+1) _ λj st' hj hc'=>by have:=hl (j+1) st' (by simpa using hj) hc' (by omega); simpa[Ami,Amh 1 j]using this
 |p::r,n,acc,i+1,st,h,hs,hc,hl=>by
  simp only[Acz];exact Ae4 r (n+1) _ i st (by simpa using h) (by simpa[Ami,Amh 1 i]using hs) hc λj st' hj hc' hij=>by
   have:=hl (j+1) st' (by simpa using hj) hc' (by omega); simpa[Ami,Amh 1 j]using this
theorem AdY {n m k:Nat}:k∈AcD n m↔n<=k/\k<m:=by
 unfold AcD; rw[List.mem_range'_1]; omega
theorem Agb {wr:Bool} {ops:List Oper} {st:Step} (h:Aek P G wr ops st) (k:Nat):st.heap[k]? =if st.rw.2.contains k then st.heap[k]? else st.s.heap[k]? :=by
 split
 · rfl
 · rename_i hc;have hc' : k ∉ st.W /\ ¬ (st.s.heap.length <= k /\ k < st.heap.length) := by
    simp only[Step.rw,List.contains_iff_mem,AlY,AdY,not_or]at hc;exact hc
   by_cases hk:k<st.s.heap.length
   · exact h.frame.same k hk hc'.1
   · rw[List.getElem?_eq_none (by omega),List.getElem?_eq_none (by omega)]
theorem AfF {wr:Bool} {ops:List Oper} {k:Nat} {S:Nat->Bool}:∀(l:List Step) (n:Nat) (s s':St),Acj s l s'->(∀st∈l,Aek P G wr ops st)->(∀j,j<l.length->S (n+j)=true)->s'.heap[k]? =Ado S k l n s.heap[k]?
 |[],n,s,s',h,_,_=>by simp only[Acj]at h; subst h; rfl
 |st::r,n,s,s',h,hok,hS=>by
  simp only[Acj]at h;obtain⟨hsim,hch⟩:=h;have hS0:=hS 0 (by simp);simp only[AmC]at hS0;simp only[Ado,hS0,AlR];rw[AfF r (n+1) _ s' hch (λst' h'=>hok st' (by simp[h'])) λj hj=>by have:=hS (j+1) (by simp; omega); simpa[Ami,Amh 1 j]using this];congr 1;simp only[St.put];have h1:=Agb (hok st (by simp)) k;have h2:st.s.heap=s.heap:=hsim.heap;rw[h2]at h1;split at h1
  · rename_i hc; rw[if_pos hc]
  · rename_i hc; rw[if_neg hc]; exact h1
theorem AdM {wr:Bool} {ops:List Oper} {k:Nat}:∀(l:List Step) (n:Nat) (s s':St) (i:Nat) (st:Step),Acj s l s'->(∀st∈l,Aek P G wr ops st)->l[i]? =some st->
 st.s.heap[k]? =Ado (λj=>decide (j<n+i)) k l n s.heap[k]?
 |[],n,s,s',i,st,_,_,h=>by simp at h
 |p::r,n,s,s',0,st,hch,hok,h=>by
  simp at h; subst h;simp only[Acj]at hch;rw[hch.1.heap,Adc (p::r) n _ λj st' hj hc=>by simp]
 |p::r,n,s,s',i+1,st,hch,hok,h=>by
  simp only[Acj]at hch;obtain⟨hsim,hch⟩:=hch;have:=AdM (k:=k) r (n+1) _ s' i st hch (λst' h'=>hok st' (by simp[h'])) (by simpa using h);rw[this];have e1:decide (n<n+(i+1))=true:=by simp
  simp only[Ado,e1,AlR];rw[show n+1+i=n+(i+1) by omega];congr 1;simp only[St.put];have h1:=Agb (hok p (by simp)) k;have h2:p.s.heap=s.heap:=hsim.heap;rw[h2]at h1;split at h1
  · rename_i hc; rw[if_pos hc]
  · rename_i hc; rw[if_neg hc]; exact h1
theorem chain_len {wr:Bool} {ops:List Oper}:∀(l:List Step) (s s':St),Acj s l s'->(∀st∈l,Aek P G wr ops st)->s.heap.length<=s'.heap.length/\∀(i:Nat) (st:Step),l[i]? =some st->s.heap.length<=st.s.heap.length/\st.heap.length<=s'.heap.length/\∀(j:Nat) (st':Step),l[j]? =some st'->i<j->st.heap.length<=st'.s.heap.length
 |[],s,s',h,_=>by simp only[Acj]at h; subst h; simp
 |p::r,s,s',h,hok=>by
  simp only[Acj]at h;obtain⟨hsim,hch⟩:=h;obtain⟨h1,h2⟩:=chain_len r _ s' hch λst' h'=>hok st' (by simp[h']);simp only[St.put]at h1 h2;have hp:=(hok p (by simp)).frame.len;have he:p.s.heap.length=s.heap.length:=by rw[hsim.heap]
  refine⟨by omega,λi st hi=> ?_⟩
  cases i with
  |zero=>
   simp at hi; subst hi
   refine⟨by omega,by omega,λj st' hj hij=> ?_⟩
   cases j with
   |zero=>omega
   |succ j=>exact(h2 j st' (by simpa using hj)).1
  |succ i=>
   obtain⟨h3,h4,h5⟩:=h2 i st (by simpa using hi)
   refine⟨by omega,h4,λj st' hj hij=> ?_⟩
   cases j with
   |zero=>omega
   |succ j=>exact h5 j st' (by simpa using hj) (by omega)
theorem chain_tlen:∀(l:List Step) (s s':St),Acj s l s'->s'.tmps.length=s.tmps.length/\∀(i:Nat) (st:Step),l[i]? =some st->st.s.tmps.length=s.tmps.length
 |[],s,s',h=>by simp only[Acj]at h; subst h; simp
 |p::r,s,s',h=>by
  simp only[Acj]at h;obtain⟨hsim,hch⟩:=h;obtain⟨h1,h2⟩:=chain_tlen r _ s' hch;simp only[St.put,AjW]at h1 h2;have:=hsim.len;refine⟨by omega,λi st hi=> ?_⟩
  cases i with
  |zero=>simp at hi; subst hi; omega
  |succ i=>have:=h2 i st (by simpa using hi); omega
def Says (y x:SV):Prop:=∀(V:Vw) (v:Value),VR V y v->VR V x v
theorem put_says {s st:St} {d:Option Tmp} {sv:SV} {heap:List HB} {t:Tmp} {x:SV} (hsim:Sim s st) (h:(St.put ⟨st.tmps,heap⟩ d sv).tmps[t]? =some x):
 ∃y,(if d==some t then some sv else s.tmps[t]?)=some y/\Says y x:=by
 cases d with
 |none=>
  simp only[St.put,putT]at h
  obtain⟨y,hy,hs⟩:=hsim.tm t x h
  exact⟨y,by simpa using hy,hs⟩
 |some d=>
  simp only[St.put,putT,List.getElem?_set]at h
  by_cases hd:d=t
  · subst hd
    simp only[if_pos]at h
    split at h
    · injection h with h; subst h; exact⟨sv,by simp,λ_ _ h=>h⟩
    · cases h
  · rw[if_neg hd]at h
    obtain⟨y,hy,hs⟩:=hsim.tm t x h
    exact⟨y,by simp[hd,hy],hs⟩
theorem tfold_mono {S:Nat->Bool} {t:Tmp}:∀(l:List Step) (n:Nat) (a b:Option SV) (x:SV),Acz S t l n a=some x->(∀y,a=some y->∃z,b=some z/\Says z y)->∃z,Acz S t l n b=some z/\Says z x
 |[],n,a,b,x,h,hab=>hab x h
 |p::r,n,a,b,x,h,hab=>by
  simp only[Acz]at h ⊢;refine tfold_mono r (n+1) _ _ x h λy hy=> ?_;split at hy
  · rename_i hc; rw[if_pos hc]; exact⟨y,hy,λ_ _ h=>h⟩
  · rename_i hc; rw[if_neg hc]; exact hab y hy
theorem chain_tmp {t:Tmp} {S:Nat->Bool}:∀(l:List Step) (n:Nat) (s s':St) (x:SV),Acj s l s'->(∀j,j<l.length->S (n+j)=true)->s'.tmps[t]? =some x->∃y,Acz S t l n s.tmps[t]? =some y/\Says y x
 |[],n,s,s',x,h,_,hx=>by simp only[Acj]at h; subst h; exact⟨x,hx,λ_ _ h=>h⟩
 |p::r,n,s,s',x,h,hS,hx=>by
  simp only[Acj]at h;obtain⟨hsim,hch⟩:=h;have hS0:=hS 0 (by simp);simp only[AmC]at hS0;obtain⟨y,hy,hs⟩:=chain_tmp (S:=S) r (n+1) _ s' x hch (λj hj=>by have:=hS (j+1) (by simp; omega); simpa[Ami,Amh 1 j]using this) hx;obtain⟨z,hz,hs'⟩:=tfold_mono r (n+1) _ (if S n&&(p.o.dst==some t)then some p.sv else s.tmps[t]?) y hy λu hu=>by
   obtain⟨w,hw,hsw⟩:=put_says hsim hu;exact⟨w,by rw[hS0,AlR]; exact hw,hsw⟩
  exact⟨z,hz,λV v hv=>hs V v (hs' V v hv)⟩
theorem chain_tmp_at {t:Tmp}:∀(l:List Step) (n:Nat) (s s':St) (i:Nat) (st:Step) (x:SV),Acj s l s'->l[i]? =some st->st.s.tmps[t]? =some x->
 ∃y,Acz (λj=>decide (j<n+i)) t l n s.tmps[t]? =some y/\Says y x
 |[],n,s,s',i,st,x,_,h,_=>by simp at h
 |p::r,n,s,s',0,st,x,hch,h,hx=>by
  simp at h; subst h;simp only[Acj]at hch;obtain⟨y,hy,hs⟩:=hch.1.tm t x hx;exact⟨y,by rw[Ac7 (p::r) n _ λj st' hj hc=>by simp]; exact hy,hs⟩
 |p::r,n,s,s',i+1,st,x,hch,h,hx=>by
  simp only[Acj]at hch;obtain⟨hsim,hch⟩:=hch;obtain⟨y,hy,hs⟩:=chain_tmp_at r (n+1) _ s' i st x hch (by simpa using h) hx;rw[show n+1+i=n+(i+1) by omega]at hy;obtain⟨z,hz,hs'⟩:=tfold_mono r (n+1) _ (if decide (n<n+(i+1))&&(p.o.dst==some t)then some p.sv else s.tmps[t]?) y hy λu hu=>by
   obtain⟨w,hw,hsw⟩:=put_says hsim hu;exact⟨w,by simpa using hw,hsw⟩
  exact⟨z,hz,λV v hv=>hs V v (hs' V v hv)⟩
theorem Akl {ms:List Nat} {t:Tmp} {i:Nat}:∀(l:List Oper) (n j:Nat) (p:Oper),Acx.okW ms t i l n=true->l[j]? =some p->p.dst=some t->Ab4 ms i (n+j)=true
 |[],n,j,p,_,h,_=>by simp at h
 |q::r,n,0,p,hk,h,hd=>by
  simp at h; subst h;simp only[Acx.okW,AlG,hd,beq_self_eq_true,Amq,Bool.false_or]at hk;exact hk.1
 |q::r,n,j+1,p,hk,h,hd=>by
  simp only[Acx.okW,AlG]at hk;have:=Akl r (n+1) j p hk.2 (by simpa using h) hd;simpa[Ami,Amh 1 j]using this
theorem Afb {ops:List Oper} {ms:List Nat}:∀(l:List Oper) (n i:Nat) (o:Oper),Acx ops ms l n=true->l[i]? =some o->∀t∈looks ops o,∀j p,ops[j]? =some p->p.dst=some t->Ab4 ms (n+i) j=true
 |[],n,i,o,_,h=>by simp at h
 |q::r,n,0,o,hk,h=>by
  simp at h; subst h;simp only[Acx,AlG,Al6]at hk;intro t ht j p hp hd;have:=Akl ops 0 j p (hk.1 t ht) hp hd;simpa using this
 |q::r,n,i+1,o,hk,h=>by
  simp only[Acx,AlG]at hk;have:=Afb r (n+1) i o hk.2 (by simpa using h);intro t ht j p hp hd;have:=this t ht j p hp hd;simpa[Ami,Amh 1 i]using this
theorem AhE:∀(l:List Oper) (i j:Nat) (o p:Oper) (t:Tmp),Aib l=true->l[i]? =some o->l[j]? =some p->o.dst=some t->p.dst=some t->i=j
 |[],i,j,o,p,t,_,h,_,_,_=>by simp at h
 |q::r,i,j,o,p,t,hk,hi,hj,ho,hp=>by
  simp only[Aib,AlG]at hk
  cases i with
  |zero=>
   simp at hi; subst hi
   cases j with
   |zero=>rfl
   |succ j=>
    simp only[ho,Al6]at hk
    have hm:=Amm (show r[j]? =some p by simpa using hj)
    have:=hk.1 p hm
    simp[hp]at this
  |succ i=>
   cases j with
   |zero=>
    simp at hj; subst hj
    simp only[hp,Al6]at hk
    have hm:=Amm (show r[i]? =some o by simpa using hi)
    have:=hk.1 o hm
    simp[ho]at this
   |succ j=>rw[AhE r i j o p t hk.2 (by simpa using hi) (by simpa using hj) ho hp]
theorem Agv {ms:List Nat} {p:List Nat×List Nat} {i:Nat}:∀(l:List (List Nat×List Nat)) (n j:Nat) (q:List Nat×List Nat),okRW.go ms p i l n=true->l[j]? =some q->(meet p.2 q.2||meet p.1 q.2||meet p.2 q.1)=true->Ab4 ms i (n+j)=true
 |[],n,j,q,_,h,_=>by simp at h
 |a::r,n,0,q,hk,h,hm=>by
  simp at h; subst h;simp only[okRW.go,AlG,hm,Amq,Bool.false_or]at hk;exact hk.1
 |a::r,n,j+1,q,hk,h,hm=>by
  simp only[okRW.go,AlG]at hk;have:=Agv r (n+1) j q hk.2 (by simpa using h) hm;simpa[Ami,Amh 1 j]using this
theorem Ag6 {ms:List Nat}:∀(l:List (List Nat×List Nat)) (n i j:Nat) (p q:List Nat×List Nat),okRW ms l n=true->l[i]? =some p->l[j]? =some q->i<j->(meet p.2 q.2||meet p.1 q.2||meet p.2 q.1)=true->Ab4 ms (n+i) (n+j)=true
 |[],n,i,j,p,q,_,h,_,_,_=>by simp at h
 |a::r,n,i,j,p,q,hk,hi,hj,hij,hm=>by
  simp only[okRW,AlG]at hk
  cases j with
  |zero=>omega
  |succ j=>
   cases i with
   |zero=>
    simp at hi; subst hi
    have:=Agv r (n+1) j q hk.1 (by simpa using hj) hm
    simpa[Ami,Amh 1 j]using this
   |succ i=>
    have:=Ag6 r (n+1) i j p q hk.2 (by simpa using hi) (by simpa using hj) (by omega) hm
    simpa[Ami,Amh 1 j,Amh 1 i]using this
end Go.Sx

