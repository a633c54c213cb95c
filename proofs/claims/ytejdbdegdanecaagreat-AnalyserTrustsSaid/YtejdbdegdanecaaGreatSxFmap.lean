import Derived.Test.YtejdbdegdanecaaGreatSxUse
set_option linter.unusedVariables false
set_option linter.unusedSimpArgs false
namespace Go.Sx
open Go.RowKit
variable {P:Program} {G:Nat->Option Ct}
def Ah2 (t:TypeId) (e:List Sh) (out:List (List C)) (sv:SV) (heap:List HB):Prop:=
 match sv with
 | .own k c=>(match heap[k]? with
  |some (.row e' t' c' xs)=>ck (Nat.beq t' t&&(shEqs e' e&&Nat.beq c c')) (xs=out)
  |_=>False)
 | .nils=>out=[]
 |_=>False
theorem Ajs (hm:P.follows .mixedOrders=true) (hG:∀f ct,G f=some ct->SoundCt P f ct) (wr:FuncId->Bool) (A:List (List C)->FuncId->Nat->LoopAnn) (n:Nat) (f:FuncId) (ct:Ct) {t:TypeId} {e:List Sh}
 (hbx:ct.bx=none) (how:ct.ow=none) (hfr:ct.fr=some (t,e)) (hfm:ct.fm=none) (hfl:e.all noSl1=true)
 (h:∀args,Ad6 (Wfs (ofRess ct.ps args)->ct.pre args->vcF P G wr (A args) n f (ofRess ct.ps args) [] λsv heap=>Ah2 t e ((((ct.out args).headD []).headD default).list) sv heap)):SoundCt P f ct:=by
 refine⟨λargs hwa hpre=> ?_,λ_ _ h=>by(rw[hfr]at h; cases h),λt e hb=>by(rw[hbx]at hb; cases hb),λt e r _ h=>by rw[how]at h; (cases h),λt' e' _ _ hfr' V args vals hlt hbd hwa hpre hv=> ?_⟩
 · simp only[Ct.aps,Ct.ars,hbx,how,hfr]at hwa ⊢;obtain⟨sv,heap',hK,hws,hwh⟩:=call_pure hG (λb=>draw_pure hG b) n f _ [] _ ((h args).out hwa hpre) hwa (λk c hk=>by simp at hk);simp only[ofRess,Abg,Wfs,ofCs,ofC,Al4,Wf,and_true];unfold Ah2 at hK;split at hK
   · split at hK
     · rename_i e' t' c' xs hk;obtain⟨hk',hx⟩:=ck_of hK;simp only[AlG]at hk';obtain rfl:=AmV hk'.1;obtain rfl:=shEqs_eq _ _ hk'.2.1;have hc:=AmV hk'.2.2;rw[←hx];exact hwh _ _ hk
     · exact hK.elim
   · rw[hK]; exact⟨by decide,λx hx=>by cases hx⟩
   · exact hK.elim
 rw[hfr]at hfr';obtain⟨rfl,rfl⟩:=Prod.mk.inj (Option.some.inj hfr');let V1:Vw:= {w:=V.w,D:=λ_=>False,L:=λ_=>False,c:=λ_=>0,p:=λ_=>Go.undef,bad:=λb=>b<V.w.heap.size/\¬V.ok b}
 have hok1:∀b,V.ok b->V1.ok b/\V1.w.heap[b]? =V.w.heap[b]? :=λb hb=>⟨⟨hb.1,λhbad=>hbad.2 hb,λk hk=>hk.elim⟩,rfl⟩
 have hH1:Heap V1 (λk=>([]:List HB)[k]?):=⟨λk hk=>hk.elim,λk b hk=>hk.elim,λb hb=>hb.1,λk b hk=>hk.elim,λk k' b hk=>hk.elim⟩
 obtain⟨h1,h2⟩:=call_sound hG (λb=>draw_sound hG hm b) n f _ [] _ ((h args).out hwa hpre) hwa (λk c hk=>by simp at hk) V1 vals (ofRess_data V V1 hok1 _ _ _ hv) hH1 (λk hk=>hk.elim);refine .inl ⟨h1,h2.mono λee w' ⟨v,V',sv,heap',he,hw',hK,hws,_,hvr,hg,hH,_⟩=> ?_⟩;subst he; subst hw';obtain⟨W,hg⟩:=hg;refine⟨v,rfl,⟨hg.os,hg.tape,hg.output,hg.size,λb hb=>hg.blk b hb λk _ hk=>hk.elim⟩,?_⟩;rw[hfm];simp only;unfold Ah2 at hK;split at hK
 · rename_i k c;split at hK
   · rename_i e' t' c' xs hk;obtain⟨hk',hx⟩:=ck_of hK;simp only[AlG]at hk';obtain rfl:=AmV hk'.1;obtain rfl:=shEqs_eq _ _ hk'.2.1;have hc:=AmV hk'.2.2;simp only[VR]at hvr;obtain⟨hd,_,_,hv'⟩:=hvr;obtain⟨hb,h3,h4⟩:=hH.rep k hd;rw[hk]at h3;injection h3 with h3; subst h3;obtain⟨hL,hcc,n',us,ho,hn,hr⟩:=h4;have hvp:=hv' (by rw[hcc,hc]);refine⟨us,λb hb=>⟨hg.new k hd hL (λh=>h) b (by rw[←hvp]; exact hb),hH.lt k b hd hL (by rw[←hvp]; exact hb)⟩,?_,?_⟩
     · rw[hvp,←hx,←hn]; exact ho
     · rw[←hx]; exact Adq hfl hr
   · exact hK.elim
 · simp only[VR]at hvr;subst hvr;rw[hK];exact⟨[],λb hb=>by simp[blkOf]at hb,⟨by simp,.inl ⟨rfl,none,rfl⟩⟩,rfl⟩
 · exact hK.elim
end Go.Sx

