import Derived.Test.YtejdbdegdanecaaGreatSxDrawn
import Derived.KernelRfl
set_option linter.unusedVariables false
set_option linter.unusedSimpArgs false
namespace Go.Sx
open Go.RowKit
variable {P:Program} {G:Nat->Option Ct}
def dP:List C->List C->Option (List Prop)
 |[],[]=>some []
 | .i a::xs,.i b::ys=>(dP xs ys).map ((a=b):: ·)
 | .b a::xs,.b b::ys=>(dP xs ys).map ((a=b):: ·)
 | .s a::xs,.s b::ys=>(dP xs ys).map ((a=b):: ·)
 | .l a::xs,.l b::ys=>(dP xs ys).map ((a=b):: ·)
 |_,_=>none
def dPs:List (List C)->List (List C)->Option (List Prop)
 |[],[]=>some []
 |x::xs,y::ys=>(match(if 4<x.length then some [x=y]else dP x y),dPs xs ys with|some a,some b=>some (a++b)|_,_=>none)
 |_,_=>none
theorem Alq:∀ {x y:List C} {ps:List Prop},dP x y=some ps->an ps->x=y
 |[],[],_,_,_=>rfl
 |[],_::_,_,h,_=>by simp[dP]at h
 |x::xs,[],_,h,_=>by cases x<;>simp[dP]at h
 |x::xs,y::ys,ps,h,ha=>by
  cases x<;>cases y<;>simp only[dP]at h<;>first|(cases h; done)|skip
  all_goals
   rw[Option.map_eq_some_iff]at h
   obtain⟨r,hr,rfl⟩:=h
   rw[Af4]at ha
   rw[ha.1,Alq hr ha.2]
theorem dPs_eq:∀ {x y:List (List C)} {ps:List Prop},dPs x y=some ps->an ps->x=y
 |[],[],_,_,_=>rfl
 |[],_::_,_,h,_=>by simp[dPs]at h
 |_::_,[],_,h,_=>by simp[dPs]at h
 |x::xs,y::ys,ps,h,ha=>by
  simp only[dPs]at h;split at h
  · rename_i a b h1 h2;injection h with h; subst h;rw [Abv] at ha;have e : x = y := by
     split at h1
     · injection h1 with h1; subst h1; exact ha.1
     · exact Alq h1 ha.1
    rw[e,dPs_eq h2 ha.2]
  · cases h
def oan:Option (List Prop)->Prop
 |some ps=>an ps
 |none=>False
theorem oan_dPs {x y:List (List C)} (h:oan (dPs x y)):x=y:=by
 unfold oan at h;split at h
 · rename_i ps hp; exact dPs_eq hp h
 · exact h.elim
def Gives (rs:List (Bool×List Sh)) (out:List (List C)) (sv:SV) (heap:List HB):Prop:=match Abq rs (Ab3 rs.length (AeY heap sv))with|some l=>oan (dPs l out)|none=>False
theorem Gives.eq {rs:List (Bool×List Sh)} {out:List (List C)} {sv:SV} {heap:List HB} (h:Gives rs out sv heap):Abq rs (Ab3 rs.length (AeY heap sv))=some out:=by
 unfold Gives at h;split at h
 · rename_i l hl; rw[hl,oan_dPs h]
 · exact h.elim
def GivesB (t:TypeId) (e:List Sh) (rs:List (Bool×List Sh)) (out:List (List C)) (sv:SV) (heap:List HB):Prop:=
 match(heap[0]? :Option HB)with
 |some (.box cells ty)=>(match AdU (true,e) (thaw heap (.agg cells))with|some ys=>(match(Abq rs (Ab3 rs.length (AeY heap sv)):Option (List (List C)))with|some l=>ck (Nat.beq ty t) (oan (dPs (ys::l) (out.headD []::out.tail)))|none=>False)|none=>False)
 |_=>False
theorem GivesB.eq {t:TypeId} {e:List Sh} {rs:List (Bool×List Sh)} {out:List (List C)} {sv:SV} {heap:List HB} (h:GivesB t e rs out sv heap):
 (∃cells,heap[0]? =some (.box cells t)/\AdU (true,e) (thaw heap (.agg cells))=some (out.headD []))/\Abq rs (Ab3 rs.length (AeY heap sv))=some out.tail:=by
 unfold GivesB at h;split at h
 · rename_i cells ty hh;split at h
   · rename_i ys hys;split at h
     · rename_i l hl;obtain⟨h1,h2⟩:=ck_of h;have h3:=oan_dPs h2;simp only[List.cons.injEq]at h3;obtain rfl:=AmV h1;exact⟨⟨cells,hh,by rw[hys,h3.1]⟩,by rw[hl,h3.2]⟩
     · exact h.elim
   · exact h.elim
 · exact h.elim
def arg:Nat->List (List C)->List C
 |0,l=>l.headD []
 |n+1,l=>arg n l.tail
def cel:Nat->List C->C
 |0,l=>l.headD default
 |n+1,l=>cel n l.tail
def I (a:List (List C)) (i j:Nat):Int:=(cel j (arg i a)).int
def B (a:List (List C)) (i j:Nat):Bool:=(cel j (arg i a)).bool
def S (a:List (List C)) (i j:Nat):ByteArray:=(cel j (arg i a)).str
def L (a:List (List C)) (i j:Nat):List (List C):=(cel j (arg i a)).list
def qi (k:Nat) (x:List C):Int:=(cel k x).int
def qb (k:Nat) (x:List C):Bool:=(cel k x).bool
def qs (k:Nat) (x:List C):ByteArray:=(cel k x).str
def ql (k:Nat) (x:List C):List (List C):=(cel k x).list
def tl:Nat->List C->List C
 |0,x=>x
 |n+1,x=>tl n x.tail
def Sm {α:Type} (x:α):Prop:=x=x
theorem Abc {α:Type} {x:α}:Sm x↔True:=⟨λ_=>trivial,λ_=>rfl⟩
abbrev hI:List Sh:=[.int .i64]
abbrev hII:List Sh:=[.int .i64,.int .i64]
abbrev hW:List Sh:=[.int .i32]
abbrev hB:List Sh:=[.int .u8]
abbrev hL:List Sh:=[.sl [.int .i64]]
def rb:List Nat->List C->List C
 |[],_=>[]
 |0::r,x=> .i (x.headD default).int::rb r x.tail
 |1::r,x=> .b (x.headD default).bool::rb r x.tail
 |2::r,x=> .s (x.headD default).str::rb r x.tail
 |_::r,x=> .l (x.headD default).list::rb r x.tail
def sg (k:Nat) (e:List Nat) (x:List C):List C:=rb e (tl k x)
def sga (k:Nat) (e:List Nat) (x y:List C):List C:=rb e (tl k x)++y
theorem AfI:∀ {e:List Sh} {x:List C} {k:Nat} {s:Sh},WD e x->e[k]? =some s->WfC s (cel k x)
 |[],_,_,_,_,h=>by simp at h
 |t::r,x,0,s,hw,h=>by
  simp only[List.getElem?_cons_zero,AlC]at h;subst h;simp only[WD,ofCs,Wfs]at hw;exact(AjA _ _).1 hw.1
 |t::r,x,k+1,s,hw,h=>by
  simp only[List.getElem?_cons_succ]at h;simp only[WD,ofCs,Wfs]at hw;exact AfI (e:=r) (x:=x.tail) hw.2 h
theorem WD.i {e:List Sh} {x:List C} (k:Nat) {j:IntKind} (hw:WD e x) (h:e[k]? =some (.int j):=by rfl):InR j (qi k x):=AfI hw h
theorem WD.l {e:List Sh} {x:List C} (k:Nat) {f:List Sh} (hw:WD e x) (h:e[k]? =some (.sl f):=by rfl):WL f (ql k x):=AfI hw h
theorem WD.s {e:List Sh} {x:List C} (k:Nat) (hw:WD e x) (h:e[k]? =some .str:=by rfl):AjB (qs k x):=AfI hw h
abbrev vcF (P:Program) (G:Nat->Option Ct) (wr:FuncId->Bool) (A:FuncId->Nat->LoopAnn) (n:Nat) (f:FuncId) (args:List SV) (heap:List HB) (K:SV->List HB->Prop):Prop:=
 Ad7 P G wr A (λb=>Af7 P G b) n f args heap K
theorem Aka (hm:P.follows .mixedOrders=true) (hG:∀f ct,G f=some ct->SoundCt P f ct) (wr:FuncId->Bool) (A:List (List C)->FuncId->Nat->LoopAnn) (n:Nat) (f:FuncId) (ct:Ct) (hbx:ct.bx=none) (hrs:ct.rs≠[])
 (h:∀args,Wfs (ofRess ct.ps args)->ct.pre args->vcF P G wr (A args) n f (ofRess ct.ps args) [] λsv heap=>Gives ct.rs (ct.out args) sv heap) (how:ct.ow=none:=by rfl) (hfr:ct.fr=none:=by rfl):SoundCt P f ct:=
 Ahj hG (λb=>draw_sound hG hm b) (λb=>draw_pure hG b) n f ct hbx how hfr hrs (KK:=λargs sv heap=>Gives ct.rs (ct.out args) sv heap) (λ_ _ _ h=>h.eq) h
theorem Ajt (hm:P.follows .mixedOrders=true) (hG:∀f ct,G f=some ct->SoundCt P f ct) (wr:FuncId->Bool) (A:List (List C)->FuncId->Nat->LoopAnn) (n:Nat) (f:FuncId) (ct:Ct) {t:TypeId} {e:List Sh} (hbx:ct.bx=some (t,e)) (hrs:ct.rs≠[])
 (h:∀args,Wfs (ofRess ((true,e)::ct.ps) args)->ct.pre args->vcF P G wr (A args) n f (.ref 0 0::ofRess ct.ps args.tail) [.box (ofCs e (args.headD [])) t] λsv heap=>GivesB t e ct.rs (ct.out args) sv heap):SoundCt P f ct:=
 AgP hG (λb=>draw_sound hG hm b) (λb=>draw_pure hG b) n f ct hbx hrs (KK:=λargs sv heap=>GivesB t e ct.rs (ct.out args) sv heap) (λ_ _ _ h=>h.eq) h
structure Ad6 (p:Prop):Prop where
 out:p
def look:List (Nat×Ct)->Nat->Option Ct
 |[],_=>none
 |p::r,f=>bif Nat.beq f p.1 then some p.2 else look r f
def Tb (P:Program):List (Nat×Ct)->Prop
 |[]=>True
 |p::r=>SoundCt P p.1 p.2/\Tb P r
theorem Acb {P:Program}:∀ {l:List (Nat×Ct)},Tb P l->∀f ct,look l f=some ct->SoundCt P f ct
 |[],_,_,_,h=>by cases h
 |p::r,hT,f,ct,h=>by
  simp only[look]at h
  cases hb:Nat.beq f p.1 with
  |true=>
   rw[hb]at h
   injection h with h
   have:=AmV hb
   subst this; subst h; exact hT.1
  |false=>rw[hb]at h; exact Acb hT.2 f ct h
theorem AgQ (hm:P.follows .mixedOrders=true) {tb:List (Nat×Ct)} (ht:Tb P tb) (wr:FuncId->Bool) (A:List (List C)->FuncId->Nat->LoopAnn) (n:Nat) (f:FuncId) (ct:Ct)
 (h:∀args,Ad6 (hyp (wfP.go (ofRess ct.ps args)) (ct.pre args->vcF P (look tb) wr (A args) n f (ofRess ct.ps args) [] λsv heap=>Gives ct.rs (ct.out args) sv heap)))
 (hbx:ct.bx=none:=by rfl) (hrs:ct.rs.isEmpty=false:=by rfl) (how:ct.ow=none:=by rfl) (hfr:ct.fr=none:=by rfl):SoundCt P f ct:=
 Aka hm (Acb ht) wr A n f ct hbx (by intro h; rw[h]at hrs; cases hrs) (λargs hw hp=>hyp_of (h args).out ((wfPs_iff _).2 hw) hp) how hfr
theorem Ail (hm:P.follows .mixedOrders=true) {tb:List (Nat×Ct)} (ht:Tb P tb) (wr:FuncId->Bool) (A:List (List C)->FuncId->Nat->LoopAnn) (n:Nat) (f:FuncId) (ct:Ct) {t:TypeId} {e:List Sh}
 (h:∀args,Ad6 (hyp (wfP.go (ofRess ((true,e)::ct.ps) args)) (ct.pre args->vcF P (look tb) wr (A args) n f (.ref 0 0::ofRess ct.ps args.tail) [.box (ofCs e (args.headD [])) t] λsv heap=>GivesB t e ct.rs (ct.out args) sv heap)))
 (hbx:ct.bx=some (t,e):=by rfl) (hrs:ct.rs.isEmpty=false:=by rfl):SoundCt P f ct:=
 Ajt hm (Acb ht) wr A n f ct hbx (by intro h; rw[h]at hrs; cases hrs) λargs hw hp=>hyp_of (h args).out ((wfPs_iff _).2 hw) hp
def Ah1 (t:TypeId) (e:List Sh) (out:List (List C)) (sv:SV) (heap:List HB):Prop:=
 match sv with
 | .ref k 0=>(match heap[k]? with
  |some (.box cells ty)=>(match AdU (true,e) (thaw heap (.agg cells))with|some ys=>ck (Nat.beq ty t) (oan (dPs [ys] [out.headD []]))|none=>False)
  |_=>False)
 |_=>False
theorem Aik (hm:P.follows .mixedOrders=true) {tb:List (Nat×Ct)} (ht:Tb P tb) (wr:FuncId->Bool) (A:List (List C)->FuncId->Nat->LoopAnn) (n:Nat) (f:FuncId) (ct:Ct) {t:TypeId} {e:List Sh}
 (h:∀args,Ad6 (hyp (wfP.go (ofRess ct.ps args)) (ct.pre args->vcF P (look tb) wr (A args) n f (ofRess ct.ps args) [] λsv heap=>Ah1 t e ((((ct.out args).headD []).headD default).list) sv heap)))
 (h1:∀args,∃y,(((ct.out args).headD []).headD default).list=[y])
 (hbx:ct.bx=none:=by rfl) (how:ct.ow=none:=by rfl) (hfr:ct.fr=some (t,e):=by rfl) (hfm:ct.fm=some .bx:=by rfl):SoundCt P f ct:=by
 have hG:=Acb ht;have hK:∀ {args sv heap},Ah1 t e ((((ct.out args).headD []).headD default).list) sv heap->∃k cells,sv= .ref k 0/\heap[k]? =some (.box cells t)/\AdU (true,e) (thaw heap (.agg cells))=some ((((ct.out args).headD []).headD default).list.headD []):=λ{args sv heap} h=>by
  unfold Ah1 at h;split at h
  · rename_i k;split at h
    · rename_i cells ty hk;split at h
      · rename_i ys hys;obtain⟨g1,g2⟩:=ck_of h;have g3:=oan_dPs g2;simp only[List.cons.injEq,and_true]at g3;obtain rfl:=AmV g1;exact⟨k,cells,rfl,hk,by rw[hys,g3]⟩
      · exact h.elim
    · exact h.elim
  · exact h.elim
 refine⟨λargs hwa hpre=> ?_,λ_ _ h=>by(rw[hfr]at h; cases h),λt e hb=>by(rw[hbx]at hb; cases hb),λt e r _ h=>by rw[how]at h; (cases h),λt' e' _ _ hfr' V args vals hlt hbd hwa hpre hv=> ?_⟩
 · simp only[Ct.aps,Ct.ars,hbx,how,hfr]at hwa ⊢;obtain⟨sv,heap',hk,hws,hwh⟩:=call_pure hG (λb=>draw_pure hG b) n f _ [] _ (hyp_of (h args).out ((wfPs_iff _).2 hwa) hpre) hwa (λk c hk=>by simp at hk);obtain⟨k,cells,_,hk,hys⟩:=hK hk;obtain⟨y,hy⟩:=h1 args;have h2:=hwh k _ hk;simp only[WfHB]at h2;have h3:=Aey (by rfl) hys (AfL hwh (by simp only[Wf]; exact h2));rw[hy]at h3;simp only[ofRess,Abg,Wfs,ofCs,ofC,Al4,Wf,and_true,hy];exact⟨(show 1<=maxLen by decide),λx hx=>by obtain rfl:=Am3.1 hx; exact h3⟩
 rw[hfr]at hfr';obtain⟨rfl,rfl⟩:=Prod.mk.inj (Option.some.inj hfr');let V1:Vw:= {w:=V.w,D:=λ_=>False,L:=λ_=>False,c:=λ_=>0,p:=λ_=>Go.undef,bad:=λb=>b<V.w.heap.size/\¬V.ok b}
 have hok1:∀b,V.ok b->V1.ok b/\V1.w.heap[b]? =V.w.heap[b]? :=λb hb=>⟨⟨hb.1,λhbad=>hbad.2 hb,λk hk=>hk.elim⟩,rfl⟩
 have hH1:Heap V1 (λk=>([]:List HB)[k]?):=⟨λk hk=>hk.elim,λk b hk=>hk.elim,λb hb=>hb.1,λk b hk=>hk.elim,λk k' b hk=>hk.elim⟩
 obtain⟨h1,h2⟩:=call_sound hG (λb=>draw_sound hG hm b) n f _ [] _ (hyp_of (h args).out ((wfPs_iff _).2 hwa) hpre) hwa (λk c hk=>by simp at hk) V1 vals (ofRess_data V V1 hok1 _ _ _ hv) hH1 (λk hk=>hk.elim);refine .inl ⟨h1,h2.mono λee w' ⟨v,V',sv,heap',he,hw',hk,hws,_,hvr,hg,hH,_⟩=> ?_⟩;subst he; subst hw';obtain⟨W,hg⟩:=hg;obtain⟨k,cells,rfl,hk,hys⟩:=hK hk;refine⟨v,rfl,⟨hg.os,hg.tape,hg.output,hg.size,λb hb=>hg.blk b hb λk _ hk=>hk.elim⟩,?_⟩;rw[hfm];simp only;simp only[VR]at hvr;obtain⟨hd,b,hp,rfl⟩:=hvr;have hL:=hH.boxL hd hk;obtain⟨us,hbl,hone,hrep⟩:=hH.box hd hk hp;have hth:=Aeq (heap:=heap') (ids:=idsOf (.agg cells)) hH (λ_ _ _=>rfl) (x:= .agg cells) (v:= .agg us.toArray) (λ_ h=>h) (by simp only[VR]; exact⟨us,rfl,hone,hrep⟩);have h5:=AcY (Abt hH (idsOf (.agg cells))) hys hth;simp only[Abg,VR]at h5;obtain⟨us2,heq,_,hr⟩:=h5;obtain rfl:us=us2:=by injection heq with heq; simpa using heq
 have hLf:(V'.frz (λk=>heap'[k]?) (idsOf (.agg cells))).L k:=⟨hL,λh=>by have h2:=h.2; simp only[hk,AlM,AfZ]at h2; cases h2⟩
 refine⟨b,us,rfl,hg.new k hd hL (λh=>h) b (by rw[hp]; rfl),hH.lt k b hd hL (by rw[hp]; rfl),hbl,hone,RepVs.mono (λc hc=>⟨⟨⟨hc.1,?_,?_⟩,?_⟩,rfl⟩) _ _ _ (AbC (V:=V'.frz (λk=>heap'[k]?) (idsOf (.agg cells))) hr hone)⟩
 · intro hbad;have:=hbd c hbad;exact hc.2.1 ((hg.bad c).1 ⟨this,λho=>ho.2.1 hbad⟩)
 · intro j hj hl he;exact hc.2.1 ((hg.bad c).1 ⟨hlt j c hj hl he,λho=>ho.2.2 j hj hl he⟩)
 · rintro rfl;exact hc.2.2 k hd hLf (by show blkOf (V'.p k)=_; rw[hp]; rfl)
structure Cr (P:Program) where
 f:Nat
 ct:Ct
 s:SoundCt P f ct
def tbR:List (Cr P)->List (Nat×Ct)
 |[]=>[]
 |r::l=>(r.f,r.ct)::tbR l
theorem AeA:∀(l:List (Cr P)),Tb P (tbR l)
 |[]=>trivial
 |r::l=>⟨r.s,AeA l⟩
theorem Y {p q:Prop} (h:p) (e:p=q:=by kernel_rfl):Ad6 q:=⟨e ▸ h⟩
def lp (t n:Nat) (I:Int->Prop) (kp:List Nat):LoopAnn:= .inv Int I (λz=>[(t,.int .i64 z)]) (λ_=>[]) [] kp (λz=>n-z.toNat)
def AhS:SV->Prop
 | .blit b=>b=true
 | .bool b=>b=true
 |_=>False
theorem AiG (a:Int) {b:Int} (h:0<b): -b<a.tmod b/\a.tmod b<b:=by
 have h1:=Int.tmod_lt_of_pos a h;have h2:=Int.lt_tmod_of_pos a h;exact⟨h2,h1⟩
theorem Aa8 {x y X Y:Int} (h1:0<=x) (h2:x<=X) (h3:0<=y) (h4:y<=Y):0<=x*y/\x*y<=X*Y:=
 ⟨Al1 h1 h3,AmY h2 h4 h3 (Int.le_trans h1 h2)⟩
end Go.Sx

