import Derived.Test.YtejdbdegdanecaaGreatSxSound2
import Derived.Deep.AppendSrc
import Derived.Laws.OwnMore
import Derived.ArgAppend
set_option linter.unusedVariables false
set_option linter.unusedSimpArgs false
namespace Go.Sx
open Go.RowKit
variable {P:Program}
theorem AbC {V:Vw}:∀ {e:List Sh} {cs:List C} {us:List Value},VRs V (ofCs e cs) us->(∀u∈us,u.oneCell'=true)->RepVs V.w V.ok e cs us
 |[],_,us,h,_=>by simpa only[ofCs,VRs,RepVs]using h
 |s::r,cs,us,h,h1=>by
  simp only[ofCs,VRs]at h;obtain⟨v,t,rfl,h2,h3⟩:=h;simp only[RepVs];exact⟨v,t,rfl,h1 v (by simp),(Adi V s _ v).1 h2,AbC h3 λu hu=>h1 u (by simp[hu])⟩
theorem Acu {V:Vw}:∀ {e:List Sh} {cs:List C} {us:List Value},RepVs V.w V.ok e cs us->VRs V (ofCs e cs) us
 |[],_,us,h=>by simpa only[ofCs,VRs,RepVs]using h
 |s::r,cs,us,h=>by
  simp only[RepVs]at h;obtain⟨v,t,rfl,_,h2,h3⟩:=h;simp only[ofCs,VRs];exact⟨v,t,rfl,(Adi V s _ v).2 h2,Acu h3⟩
theorem RepRow.set {w:World} {ok:Nat->Prop} {e:List Sh} {y:List C} {m:List Value}:∀ {xs:List (List C)} {us:List Value} {i:Nat},RepRow w ok e xs us->i<xs.length->RepVs w ok e y m->
 RepRow w ok e (xs.set i y) (us.take (i*e.length)++m++us.drop ((i+1)*e.length))
 |[],_,i,_,hi,_=>by simp at hi
 |x::r,us,i,h,hi,hm=>by
  simp only[RepRow]at h;obtain⟨a,t,rfl,h1,h2⟩:=h;have hl:=h1.len
  cases i with
  |zero=>
   simp only[Ama,RepRow,Nat.zero_mul,List.take_zero,List.nil_append,AmK,AnA]
   exact⟨m,t,by rw[←hl,List.drop_left],hm,h2⟩
  |succ i=>
   simp only[Amu,RepRow]
   refine⟨a,_,?_,h1,RepRow.set h2 (by simpa using hi) hm⟩
   have e1:(a++t).take ((i+1)*e.length)=a++t.take (i*e.length):=by
    rw[show(i+1)*e.length=a.length+i*e.length by rw[hl,Amz,AnA,Amh],List.take_length_add_append]
   have e2:(a++t).drop ((i+1+1)*e.length)=t.drop ((i+1)*e.length):=by
    rw[show(i+1+1)*e.length=a.length+(i+1)*e.length by rw[hl,Amz (i+1),AnA,Amh],List.drop_length_add_append]
   rw[e1,e2]
   simp[Amn]
theorem AgV {α:Type} (cur ws:List α) (p off sz q:Nat) (h1:off+ws.length<=sz) (h2:p+sz<=q) (h3:q<=cur.length):
 (cur.take (p+off)++ws++cur.drop (p+off+ws.length)).take q=
 (cur.take q).take p++((((cur.take q).drop p).take sz).take off++ws++(((cur.take q).drop p).take sz).drop (off+ws.length))++(cur.take q).drop (p+sz):=by
 have e1:cur.take (p+off)=(cur.take q).take p++(((cur.take q).drop p).take sz).take off:=by
  rw[Anz,Anz,Anx (by omega),Anx (by omega),List.take_add,List.drop_take,Anz,Anx (by omega)]
 have e2:(cur.drop (p+off+ws.length)).take (q- (p+off+ws.length))=(((cur.take q).drop p).take sz).drop (off+ws.length)++(cur.take q).drop (p+sz):=by
  have a1:(cur.drop (p+off+ws.length)).take (q- (p+off+ws.length))=(cur.take q).drop (p+off+ws.length):=by rw[List.drop_take]
  have a2:((cur.take q).drop p)=((cur.take q).drop p).take sz++(cur.take q).drop (p+sz):=by
   rw[←Anv,List.take_append_drop]
  have a3:(cur.take q).drop (p+off+ws.length)=((cur.take q).drop p).drop (off+ws.length):=by rw[Anv]; congr 1; omega
  rw[a1,a3]
  conv=>lhs; rw[a2]
  rw[List.drop_append_of_le_length];simp; omega
 rw[Amn,List.take_append,List.take_append];have l1:(cur.take (p+off)).length=p+off:=by simp; omega
 rw[AlZ (by omega:(cur.take (p+off)).length<=q),l1,AlZ (by omega:ws.length<=q- (p+off)),show q- (p+off)-ws.length=q- (p+off+ws.length) by omega,e2,e1];simp only[Amn]
def Vw.upd (V:Vw) (k:Nat) (w:World) (v:Value) (c:Nat):Vw:= {V with w:=w,p:=λj=>if j=k then v else V.p j,c:=λj=>if j=k then c else V.c j}
theorem row_step {V:Vw} {H H':Nat->Option HB} (hH:Heap V H) {k:Nat} (hk:V.D k) (hL:V.L k) (hs:∃a n m,V.p k= .slice a n m) {w':World} {v':Value} {c':Nat}
 (os:w'.os=V.w.os) (tape:w'.tape=V.w.tape) (output:w'.output=V.w.output) (size:V.w.heap.size<=w'.heap.size) (hc:V.c k<=c') (hp:c'=V.c k->v'=V.p k)
 (blk:∀b,b<V.w.heap.size->blkOf (V.p k)≠some b->w'.heap[b]? =V.w.heap[b]?) (hmv:∀b,blkOf v'=some b->(blkOf (V.p k)=some b∨V.w.heap.size<=b)/\b<w'.heap.size)
 {e:List Sh} {t:TypeId} {xs':List (List C)} {us':List Value} (hown:OwnRow w' t e.length v' xs'.length us') (hr:RepRow V.w V.ok e xs' us') (hk':H' k=some (.row e t c' xs')) (ho:∀j,V.D j->j≠k->H' j=H j):
 Grow V (V.upd k w' v' c') [k]/\Heap (V.upd k w' v' c') H':=by
 have hg:Grow V (V.upd k w' v' c') [k]:=by
  refine⟨os,tape,output,Ahk rfl,size,λ_ h=>h,λj hj=> ?_,λj hj he=> ?_,λj a hj he=> ?_,λ_ _ h=>h,λj hj hl b hb=> ?_,λb hb hne=>blk b hb λhe=>hne k (by simp) hk hL he,λ_ h _ h'=>(h' h).elim⟩
  · simp only[Vw.upd]; split
    · rename_i h; subst h; exact hc
    · exact AlT _
  · simp only[Vw.upd]at he ⊢; split
    · rename_i h; subst h; rw[if_pos rfl]at he; exact hp he
    · rfl
  · simp only[Vw.upd]; split
    · rename_i h; subst h; obtain⟨_,_,_,hs⟩:=hs; rw[hs]at he; cases he
    · exact he
  · simp only[Vw.upd]at hb; split at hb
    · rename_i h; subst h; exact(hmv b hb).1
    · exact .inl hb
 have old:∀ {j b},V.D j->V.L j->j≠k->blkOf (V.p j)=some b->b<V.w.heap.size/\blkOf (V.p k)≠some b:=λ{j b} hj hl hne hb=>⟨hH.lt j b hj hl hb,λhe=>hne (hH.inj j k b hj hl hk hL hb he)⟩
 refine⟨hg,⟨λj hj=> ?_,λj b hj hl hb=> ?_,λb hb=>Amg (hH.bd b hb) size,λj b hj hl hb=> ?_,λi j b hi hil hj hjl hib hjb=> ?_⟩⟩
 · by_cases he:j=k
   · subst he;refine⟨_,hk',hL,by simp[Vw.upd],xs'.length,us',by simpa[Vw.upd]using hown,rfl,RepRow.mono hg.stays.ok e _ _ hr⟩
   · obtain⟨hb',h2,h3⟩:=hH.rep j hj;refine⟨hb',by rw[ho j hj he]; exact h2,h3.mono hg.stays hj (by simp[Vw.upd,he]) (λh=>h) λb hl hb=> ?_⟩;exact blk b (old hj hl he hb).1 (old hj hl he hb).2
 · simp only[Vw.upd]at hb; split at hb
   · exact(hmv b hb).2
   · exact Amg (hH.lt j b hj hl hb) size
 · simp only[Vw.upd]at hb; split at hb
   · rcases(hmv b hb).1 with h|h
     · exact hH.nb k b hk hL h
     · intro hbad; have:=hH.bd b hbad; omega
   · exact hH.nb j b hj hl hb
 · simp only[Vw.upd]at hib hjb;by_cases h1:i=k<;>by_cases h2:j=k
   · omega
   · rw[if_pos h1]at hib; rw[if_neg h2]at hjb;have:=old hj hjl h2 hjb;rcases(hmv b hib).1 with h|h
     · exact(this.2 h).elim
     · omega
   · rw[if_neg h1]at hib; rw[if_pos h2]at hjb;have:=old hi hil h1 hib;rcases(hmv b hjb).1 with h|h
     · exact(this.2 h).elim
     · omega
   · rw[if_neg h1]at hib; rw[if_neg h2]at hjb;exact hH.inj i j b hi hil hj hjl hib hjb
def Vw.newR (V:Vw) (n:Nat) (w:World) (v:Value):Vw:= {w:=w,D:=λk=>V.D k∨k=n,L:=λk=>V.L k∨k=n,c:=λk=>if k=n then 0 else V.c k,p:=λk=>if k=n then v else V.p k,bad:=V.bad}
theorem row_new {V:Vw} {H H':Nat->Option HB} (hH:Heap V H) {n:Nat} (hn:¬V.D n) {w':World} {v':Value}
 (os:w'.os=V.w.os) (tape:w'.tape=V.w.tape) (output:w'.output=V.w.output) (size:V.w.heap.size<=w'.heap.size)
 (blk:∀b,b<V.w.heap.size->w'.heap[b]? =V.w.heap[b]?) (hmv:∀b,blkOf v'=some b->V.w.heap.size<=b/\b<w'.heap.size)
 {e:List Sh} {t:TypeId} {xs':List (List C)} {us':List Value} (hown:OwnRow w' t e.length v' xs'.length us') (hr:RepRow V.w V.ok e xs' us') (hn':H' n=some (.row e t 0 xs')) (ho:∀j,V.D j->H' j=H j):
 Grow V (V.newR n w' v') []/\Heap (V.newR n w' v') H':=by
 have hg:Grow V (V.newR n w' v') []:=by
  refine⟨os,tape,output,Ahk rfl,size,λ_ h=> .inl h,λj hj=> ?_,λj hj he=> ?_,λj a hj he=> ?_,λj hj hl=>hl.elim id λh=>by subst h; exact(hn hj).elim,λj hj hl b hb=> ?_,λb hb _=>blk b hb,λj hj hl hj' b hb=> ?_⟩
  · simp only[Vw.newR]; rw[if_neg (by rintro rfl; exact hn hj)]; exact AlT _
  · simp only[Vw.newR]; rw[if_neg (by rintro rfl; exact hn hj)]
  · simp only[Vw.newR]; rw[if_neg (by rintro rfl; exact hn hj)]; exact he
  · simp only[Vw.newR]at hb; rw[if_neg (by rintro rfl; exact hn hj)]at hb; exact .inl hb
  · have:j=n:=hj.elim (λh=>(hj' h).elim) id;subst this;simp only[Vw.newR,if_pos]at hb;exact(hmv b hb).1
 have old:∀ {k},(V.newR n w' v').D k->(V.newR n w' v').L k->k≠n->V.D k/\V.L k:=λhk hl he=>⟨hk.elim id λh=>(he h).elim,hl.elim id λh=>(he h).elim⟩
 refine⟨hg,⟨λj hj=> ?_,λj b hj hl hb=> ?_,λb hb=>Amg (hH.bd b hb) size,λj b hj hl hb=> ?_,λi j b hi hil hj hjl hib hjb=> ?_⟩⟩
 · by_cases he:j=n
   · subst he;exact⟨_,hn',.inr rfl,by simp[Vw.newR],xs'.length,us',by simpa[Vw.newR]using hown,rfl,RepRow.mono hg.stays.ok e _ _ hr⟩
   · have hd:V.D j:=hj.elim id λh=>(he h).elim;obtain⟨hb',h2,h3⟩:=hH.rep j hd;exact⟨hb',by rw[ho j hd]; exact h2,h3.mono hg.stays hd (by simp[Vw.newR,he]) .inl λb hl hb=>blk b (hH.lt j b hd hl hb)⟩
 · simp only[Vw.newR]at hb; split at hb
   · exact(hmv b hb).2
   · rename_i he;exact Amg (hH.lt j b (old hj hl he).1 (old hj hl he).2 hb) size
 · simp only[Vw.newR]at hb; split at hb
   · intro hbad; have:=hH.bd b hbad; have:=(hmv b hb).1; omega
   · rename_i he;exact hH.nb j b (old hj hl he).1 (old hj hl he).2 hb
 · simp only[Vw.newR]at hib hjb;by_cases h1:i=n<;>by_cases h2:j=n
   · omega
   · rw[if_pos h1]at hib; rw[if_neg h2]at hjb;have:=hH.lt j b (old hj hjl h2).1 (old hj hjl h2).2 hjb;have:=(hmv b hib).1; omega
   · rw[if_neg h1]at hib; rw[if_pos h2]at hjb;have:=hH.lt i b (old hi hil h1).1 (old hi hil h1).2 hib;have:=(hmv b hjb).1; omega
   · rw[if_neg h1]at hib; rw[if_neg h2]at hjb;exact hH.inj i j b (old hi hil h1).1 (old hi hil h1).2 (old hj hjl h2).1 (old hj hjl h2).2 hib hjb
theorem OwnRow.of_owns {w:World} {base:Nat} {t:TypeId} {sz n:Nat} {v:Value} {us:List Value} (h:w.ownsRow base t sz v n us):OwnRow w t sz v n us:=by
 refine⟨h.1,?_⟩;rcases h.2 with⟨rfl,rfl⟩|⟨g,cap,cur,rfl,_,hh,h1,h2,h3,h4⟩
 · exact .inl ⟨rfl,none,rfl⟩
 · by_cases hc:cap=0
   · subst hc;obtain rfl:n=0:=by omega
     exact .inl ⟨rfl,_,rfl⟩
   · exact .inr ⟨g,cap,cur,rfl,by omega,hh,h1,h2,h3,h4⟩
theorem AfS {w:World} {base:Nat} {t:TypeId} {sz n:Nat} {v:Value} {us:List Value} (h:w.ownsRow base t sz v n us) {b:Nat} (hb:blkOf v=some b):base<=b/\b<w.heap.size:=by
 rcases h.2 with⟨rfl,_⟩|⟨g,cap,cur,rfl,h0,hh,_⟩
 · cases hb
 · simp only[blkOf]at hb;split at hb
   · cases hb
   · injection hb with hb; subst hb;exact⟨h0,(Array.getElem?_eq_some_iff.1 hh).1⟩
theorem run_append {V:Vw} {t e:TypeId} {i:TypeInfo} {z:Value} {sz by_:Nat} (ht:P.underlying t=some (.slice e)) (hi:P.info? e=some i) (hz:i.zero=some z) (hsize:i.size=sz) (hby:i.bytes=by_) (hzs:z.cells.size=sz) (hsz:0<sz) (hb0:0<by_)
    {v:Value} {n:Nat} {us:List Value} (hown:OwnRow V.w e sz v n us) {x:Value} {m:Nat} {news:List Value}
    (hx:(∃c,x= .slice none 0 c/\m=0/\news=[])∨∃a c,x= .slice (some a) m c/\news.length=m*sz/\(∀j u,news[j]? =some u->V.w.cell? (a.add j)=some u)/\∀u∈news,u.oneCell'=true)
    (hroom:(n+m)*by_<=140737488355328) (ty:TypeId):
    ∃v' w',(Builtin.append_ #[t,t] ty #[v,x]).run P V.w= .ok v' w'/\OwnRow w' e sz v' (n+m) (us++news)/\w'.os=V.w.os/\w'.tape=V.w.tape/\w'.output=V.w.output/\V.w.heap.size<=w'.heap.size/\
      (∀b,b<V.w.heap.size->blkOf v≠some b->w'.heap[b]? =V.w.heap[b]?)/\∀b,blkOf v'=some b->(blkOf v=some b∨V.w.heap.size<=b)/\b<w'.heap.size:=by
  have hmax:n+m<=maxLen:=by
    have:n+m<=(n+m)*by_:=Nat.le_mul_of_pos_right _ hb0;simp only[maxLen]; omega
  have same:∀b,blkOf v=some b->(blkOf v=some b∨V.w.heap.size<=b)/\b<V.w.heap.size:=λb hb=>⟨.inl hb,by
    rcases hown.2 with⟨_,a,rfl⟩|⟨g,cap,cur,rfl,h0,hh,_⟩
    · cases a<;>simp[blkOf]at hb
    · simp only[blkOf]at hb;split at hb
      · cases hb
      · injection hb with hb; subst hb;exact(Array.getElem?_eq_some_iff.1 hh).1⟩
  rcases hx with⟨_,rfl,rfl,rfl⟩|⟨a,c,rfl,hl,hc,h1⟩
  · refine⟨v,V.w,?_,by simpa using hown,rfl,rfl,rfl,AlT _,λ_ _ _=>rfl,same⟩;obtain⟨a,cap,rfl,h1,_⟩:=hown.slice
    cases a with
    |none=>simp[Builtin.append_,run_underlying ht,sizeOf,typeInfo,hi,Builtin.lenOf,Builtin.firstCells,h1,storeCells]
    |some a=>simp[Builtin.append_,run_underlying ht,sizeOf,typeInfo,hi,Builtin.lenOf,Builtin.firstCells,h1,storeCells]
  · have grow : ∀ (b : Addr) (cap : Nat), v = .slice (some b) n cap -> (∀ j u, us[j]? = some u -> V.w.cell? (b.add j) = some u) -> cap < n + m ->
        ∃v' w',(Builtin.append_ #[t,t] ty #[v,.slice (some a) m c]).run P V.w= .ok v' w'/\OwnRow w' e sz v' (n+m) (us++news)/\w'.os=V.w.os/\w'.tape=V.w.tape/\w'.output=V.w.output/\V.w.heap.size<=w'.heap.size/\
          (∀b,b<V.w.heap.size->blkOf v≠some b->w'.heap[b]? =V.w.heap[b]?)/\∀b,blkOf v'=some b->(blkOf v=some b∨V.w.heap.size<=b)/\b<w'.heap.size:=by
      intro b cap hv hcells hlt;subst hv;obtain⟨v',w',h2,h3,h4⟩:=run_append_arg_grows (P:=P) V.w t ty e i z sz by_ ht hi hz hsize hby hzs hsz b n cap us hown.1 hcells a m c news hl hc hlt hmax hroom;exact⟨v',w',h2,OwnRow.of_owns h3,h4.os,h4.tape,h4.output,h4.size,λb hb _=>h4.block b hb (by simp),λb hb=>⟨.inr (AfS h3 hb).1,(AfS h3 hb).2⟩⟩
    rcases hown.2 with⟨rfl,b,rfl⟩|⟨g,cap,cur,rfl,h0,hh,hn,hm,hcs,htake⟩
    · cases b with
      |none=>
        have hus:us=[]:=by have:=hown.1; simpa using this
        subst hus
        obtain⟨v',w',h2,h3,h4,_⟩:=run_append_own (P:=P) V.w V.w.heap.size t ty e i z sz by_ ht hi hz hsize hby hzs hsz (.slice none 0 0) 0 [] (World.ownsRow_nil V.w _ e sz) a m c news hl hc h1 hmax hroom (AlT _)
        exact⟨v',w',h2,OwnRow.of_owns h3,h4.os,h4.tape,h4.output,h4.size,λb hb _=>h4.block b hb (by simp[Value.ownBlock]),λb hb=>⟨.inr (AfS h3 hb).1,(AfS h3 hb).2⟩⟩
      |some b=>
        by_cases hm0:m=0
        · subst hm0
          have hnews:news=[]:=by simpa using hl
          subst hnews
          refine⟨_,V.w,?_,by simpa using hown,rfl,rfl,rfl,AlT _,λ_ _ _=>rfl,same⟩
          have hfc:=run_firstCells_some (P:=P) V.w i.size 0 a 0 c [] (by simp) (by simp)
          simp[Builtin.append_,run_underlying ht,sizeOf,typeInfo,hi,Builtin.lenOf,hfc,storeCells]
        · have hus:us=[]:=by have:=hown.1; simpa using this
          exact grow b 0 rfl (by rw[hus]; simp) (by omega)
    · by_cases hfit:n+m<=cap
      · have hown':V.w.ownsRow 0 e sz (.slice (some ⟨g,0,none⟩) n cap) n us:=⟨hown.1,.inr ⟨g,cap,cur,rfl,Nat.zero_le _,hh,hn,hm,hcs,htake⟩⟩
        obtain⟨w',h2,h3,h4⟩:=run_append_fits (P:=P) V.w 0 t ty e i sz ht hi hsize g n cap us hown' a m c news hl hc h1 hfit;have hbk:∀k:Nat,blkOf (Value.slice (some ⟨g,0,none⟩) k cap)=some g:=λk=>by simp only[blkOf]; rw[if_neg (by omega)]
        refine⟨_,w',h2,OwnRow.of_owns h3,h4.os,h4.tape,h4.output,h4.size,λb hb hne=>h4.block b hb ?_,λb hb=> ?_⟩
        · intro he; injection he with he; subst he; exact hne (hbk n)
        · rw[hbk]at hb; injection hb with hb; subst hb;exact⟨.inl (hbk n),Amg (Array.getElem?_eq_some_iff.1 hh).1 h4.size⟩
      · refine grow ⟨g,0,none⟩ cap rfl (λj u hu=> ?_) (by omega);rw[add_mk,AmK];exact hown.cells h0 j u hu
theorem run_append_full {V:Vw} {t e:TypeId} {i:TypeInfo} {z:Value} {sz by_:Nat} (ht:P.underlying t=some (.slice e)) (hi:P.info? e=some i) (hz:i.zero=some z) (hsize:i.size=sz) (hby:i.bytes=by_) (hzs:z.cells.size=sz)
 {base:Option Addr} {n:Nat} {us:List Value} (hlo:us.length=n*sz) (hb:∀b,base=some b->∀(j:Nat) u,us[j]? =some u->V.w.cell? (b.add j)=some u) (hnb:base=none->n=0)
 {a:Addr} {m c:Nat} {news:List Value} (hl:news.length=m*sz) (hc:∀(j:Nat) u,news[j]? =some u->V.w.cell? (a.add j)=some u) (h1:∀u∈news,u.oneCell'=true) (hm:0<m)
 (hmax:n+m<=maxLen) (hroom:(n+m)*by_<=140737488355328) (ty:TypeId):
 ∃v' w',(Builtin.append_ #[t,t] ty #[.slice base n n,.slice (some a) m c]).run P V.w= .ok v' w'/\OwnRow w' e sz v' (n+m) (us++news)/\w'.os=V.w.os/\w'.tape=V.w.tape/\w'.output=V.w.output/\V.w.heap.size<=w'.heap.size/\
  (∀b,b<V.w.heap.size->w'.heap[b]? =V.w.heap[b]?)/\∀b,blkOf v'=some b->V.w.heap.size<=b/\b<w'.heap.size:=by
 subst hsize;subst hby
 have hlen:(us++news).length=(n+m)*i.size:=by rw[AlF,hlo,hl,Amz]
 have hge:=grownCap_ge V.w (n+m) n e;have hcm:grownCap V.w (n+m) n e<=maxLen:=grownCap_le_maxLen V.w (n+m) n e hmax;have hsrc:Src P i.size t (.slice (some a) m c) m news V.w:=⟨.inl ⟨e,ht⟩,λw'=>by simp[Builtin.lenOf,Sem.run_pure],run_firstCells_some (P:=P) V.w i.size m a m c news hl hc,run_firstCells_some (P:=P) V.w.drew i.size m a m c news hl (by simpa using hc),hl,h1⟩
 have hold:(Builtin.firstCells i.size n (.slice base n n)).run P V.w.drew= .ok us.toArray V.w.drew:=by
  cases base with
  |none=>
   obtain rfl:=hnb rfl
   have:us=[]:=by simpa using hlo
   subst this
   simp[Builtin.firstCells,Sem.run_pure]
  |some b=>exact run_firstCells_some (P:=P) V.w.drew i.size n b n n us hlo (by simpa using hb b rfl)
 have hr:=run_append_grow_src (P:=P) V.w t t ty e i z ht hi hz base n n us hold (.slice (some a) m c) m news hsrc (by omega) (by simp only[maxLen]at hmax; omega) (growslice_fits (by omega) hroom);refine⟨_,_,hr,⟨hlen,.inr ⟨V.w.heap.size,_,_,rfl,by omega,heap_alloc_new V.w.drew _,hge,hcm,?_,?_⟩⟩,rfl,rfl,rfl,by simp,λb hb=>(by first|exact heap_alloc_old V.w.drew _ hb|exact heap_alloc_old V.w.drew _ b hb),λb hb=> ?_⟩
 · simp only[Array.size_append,Ana,size_zeroCells,hzs,hlen,←Amz];congr 1;omega
 · simp only[Array.toList_append];rw[←hlen];exact List.take_left
 · simp only[blkOf]at hb;split at hb
   · cases hb
   · injection hb with hb; subst hb;exact⟨AlT _,by simp⟩
theorem href_at {V:Vw} {H:Nat->Option HB} (hH:Heap V H) {k c d n:Nat} {i i0:Int} {u:Value} {x:SV} {f:Nat->Value} {t:TypeId} (hx:VR V (.rref k c 1 i 0) u) (hk:H k=some (.hrow t d n i0 x f)) (hcd:c=d) (hi0:i=i0):
 ∃b cap cur us,V.D k/\V.L k/\V.c k=d/\V.p k= .slice (some ⟨b,0,none⟩) n cap/\0<=i/\i.toNat<n/\u= .pointer (some ⟨b,i.toNat,none⟩)/\0<cap/\V.w.heap[b]? =some (.cells cur t (0,0))/\
  n<=cap/\cap<=maxLen/\cur.size=cap/\cur.toList.take n=us/\us.length=n/\(∀u∈us,u.oneCell'=true)/\(∀j,j<n->((j:Int)=i->∀u,us[j]? =some u->VR V x u)/\((j:Int)≠i->us[j]? =some (f j)))/\∀(j:Nat) (u:Value),us[j]? =some u->V.w.cell? ⟨b,j,none⟩=some u:=by
 subst hi0;simp only[VR]at hx;obtain⟨hd,_,_,hv⟩:=hx;obtain⟨hb,h1,h2⟩:=hH.rep k hd;rw[hk]at h1;injection h1 with h1; subst h1;obtain⟨hL,hc,us,hown,hone,hr⟩:=h2;obtain⟨b,n',cap,hp,h0,hi,hu⟩:=hv (by rw[hc]; exact hcd);obtain⟨a,cap',hp',_⟩:=hown.slice;rw[hp]at hp';injection hp' with ha hnn hcc;subst hnn;rw[hp]at hown;rcases hown.2 with⟨h0n,_⟩|⟨g,cap2,cur,hv2,hc0,hh,q1,q2,q3,q4⟩
 · omega
 · injection hv2 with hg _ hcc2;injection hg with hg; injection hg with hg _ _;subst hg; subst hcc2;rw[Nat.mul_one]at q3 q4;exact⟨b,cap,cur,us,hd,hL,hc,hp,h0,by omega,by rw[hu]; simp,hc0,hh,q1,q2,q3,q4,by have:=hown.1; omega,hone,hr,hown.cells hc0⟩
theorem rref_at {V:Vw} {H:Nat->Option HB} (hH:Heap V H) {k c sz off d:Nat} {i:Int} {u:Value} {e:List Sh} {t:TypeId} {xs:List (List C)} (hx:VR V (.rref k c sz i off) u) (hk:H k=some (.row e t d xs)) (hcd:c=d):
 ∃b n cap cur us,V.D k/\V.L k/\V.c k=d/\V.p k= .slice (some ⟨b,0,none⟩) n cap/\n=xs.length/\0<=i/\i.toNat<xs.length/\u= .pointer (some ⟨b,i.toNat*sz+off,none⟩)/\0<cap/\V.w.heap[b]? =some (.cells cur t (0,0))/\
  n<=cap/\cap<=maxLen/\cur.size=cap*e.length/\cur.toList.take (n*e.length)=us/\us.length=n*e.length/\RepRow V.w V.ok e xs us/\∀(j:Nat) (u:Value),us[j]? =some u->V.w.cell? ⟨b,j,none⟩=some u:=by
 simp only[VR]at hx;obtain⟨hd,_,_,hv⟩:=hx;obtain⟨hb,h1,h2⟩:=hH.rep k hd;rw[hk]at h1;injection h1 with h1; subst h1;obtain⟨hL,hc,n,us,hown,hn,hr⟩:=h2;obtain⟨b,n',cap,hp,h0,hi,hu⟩:=hv (by rw[hc]; exact hcd);obtain⟨a,cap',hp',_⟩:=hown.slice;rw[hp]at hp';injection hp' with ha hnn hcc;subst hnn;rw[hp]at hown;rcases hown.2 with⟨h0n,_⟩|⟨g,cap2,cur,hv2,hc0,hh,q1,q2,q3,q4⟩
 · omega
 · injection hv2 with hg _ hcc2;injection hg with hg; injection hg with hg _ _;subst hg; subst hcc2;exact⟨b,n',cap,cur,us,hd,hL,hc,hp,hn,h0,by omega,hu,hc0,hh,q1,q2,q3,q4,hown.1,hr,hown.cells hc0⟩
end Go.Sx

