import Derived.Test.YtejdbdegdanecaaGreatSxExt
import Derived.Lib.AppendZerosOnto
set_option linter.unusedVariables false
set_option linter.unusedSimpArgs false
namespace Go.Sx
open Go.RowKit
variable {P:Program} {G:Nat->Option Ct} {o:Oper} {a:Act} {V:Vw} {H:Nat->Option HB} {ev:Operand->SV}
theorem AhV {heap:List HB} {ids:List Nat} (hag:∀k,k∈ids->V.D k->H k=heap[k]?) {k:Nat} (hd:V.D k):
 newH heap (frzH heap ids) ids H k=(if k∈ids then(H k).map hbFrz else H k):=by
 unfold newH;by_cases hk:k∈ids
 · rw[if_pos (.inl hk),if_pos hk,AbQ,if_pos hk,hag k hk hd]
 · rw[if_neg,if_neg hk];rintro(h|h)
   · exact hk h
   · rw[Aa9]at h; omega
theorem RepRow.split' {w:World} {ok:Nat->Prop} {e:List Sh}:∀ {xs:List (List C)} {us:List Value},RepRow w ok e xs us->∀k,k<=xs.length->RepRow w ok e (xs.take k) (us.take (k*e.length))/\RepRow w ok e (xs.drop k) (us.drop (k*e.length))
 |[],us,h,k,hk=>by
  obtain rfl:k=0:=by simpa using hk
  simp only[Nat.zero_mul,List.take_zero,List.drop_zero];exact⟨rfl,h⟩
 |x::r,us,h,0,_=>by
  simp only[Nat.zero_mul,List.take_zero,List.drop_zero];exact⟨rfl,h⟩
 |x::r,us,⟨a,t,he,h1,h2⟩,k+1,hk=>by
  subst he;obtain⟨r1,r2⟩:=RepRow.split' h2 k (by simpa using hk);have hl:=h1.len;have e1:(a++t).take ((k+1)*e.length)=a++t.take (k*e.length):=by
   rw[List.take_append,AlZ (by rw[hl,Amz]; omega)];congr 2;rw[hl,Amz]; omega
  have e2:(a++t).drop ((k+1)*e.length)=t.drop (k*e.length):=by
   rw[List.drop_append,AlP (by rw[hl,Amz]; omega),List.nil_append];congr 1;rw[hl,Amz]; omega
  rw[e1,e2];exact⟨⟨a,_,rfl,h1,r1⟩,r2⟩
theorem sIdxH_run {t:TypeId} {heap:List HB} {x i r:SV} {u v:Value} {c:Q} {R:List Nat} (h:Aiz P t heap x i=some (c,r,R)) (hc:c.h) (hx:VR V x u) (hi:VR V i v) (hH:Heap V H) (hag:∀k,k∈R->V.D k->H k=heap[k]?):
 ∃z,(Instr.indexAt t u v).run P V.w= .ok z V.w/\VR V r z:=by
 unfold Aiz at h;split at h
 · rename_i k d sz lo m;have hx0:=hx;simp only[VR]at hx0;obtain⟨hd,hle,_,hv⟩:=hx0;split at h
   · rename_i kk n l elem hn hu;rw[numOf_VR hn hi];split at h
     · rename_i e ty d' xs size hk hs;split at h
       · rename_i hcd;obtain⟨hcd,hl,hsz⟩:=hcd;simp only[AlC,AlH]at h;obtain⟨rfl,rfl,rfl⟩:=h;obtain⟨hb,h1,h2⟩:=hH.rep k hd;rw[hag k (by simp) hd,hk]at h1;injection h1 with h1; subst h1;obtain⟨hL,hck,m',us,hown,hm,hr⟩:=h2;obtain⟨c0,c1⟩:=hc;obtain⟨a0,N,cap,hp,g0,g1,g2,hv'⟩:=hv (by rw[hck]; exact hcd);rcases hown.2 with⟨h0,a1,hp1⟩|⟨g,cap1,cur,hp1,h0,hh,q1,q2,q3,q4⟩
         · rw[hp]at hp1;injection hp1 with _ hN _;omega
         · rw[hp]at hp1;injection hp1 with ha hN hcap;subst ha; subst hN; subst hcap;have hne:¬cap=(lo.getD 0).toNat:=by omega
           subst hv';rw[if_neg hne];have hlt:n<((m.toNat:Nat):Int):=by omega
           refine⟨.pointer (some ⟨g,0+(lo.getD 0).toNat*sz+n.toNat*size,none⟩),?_,?_⟩
           · simp only[AlM,Addr.add_lit,Instr.indexAt,asIntOf,Sem.run_bind,Sem.run_pure,Result.andThen_ok,Aa4 hu,if_pos (And.intro c0 hlt),run_size hs,add_mk]
           · simp only[VR];have ho:offI lo n=lo.getD 0+n:=by cases lo<;>simp[offI,iAdd]
             refine⟨hd,hle,⟨_,_,rfl⟩,λ_=>⟨g,N,cap,hp,by omega,by omega,?_⟩⟩;have e1:(offI lo n).toNat=(lo.getD 0).toNat+n.toNat:=by omega
             rw[e1,hsz,Amz,AmK,AmC]
       · cases h
     · cases h
   · cases h
 · rename_i k d;have hx0:=hx;simp only[VR]at hx0;obtain⟨hd,hle,_,hv⟩:=hx0;split at h
   · rename_i kk n l elem hn hu;rw[numOf_VR hn hi];split at h
     · rename_i e ty d' xs size hk hs;split at h
       · rename_i hcd;obtain⟨hcd,hl⟩:=hcd;simp only[AlC,AlH]at h;obtain⟨rfl,rfl,rfl⟩:=h;obtain⟨hb,h1,h2⟩:=hH.rep k hd;rw[hag k (by simp) hd,hk]at h1;injection h1 with h1; subst h1;obtain⟨hL,hck,m,us,hown,hm,hr⟩:=h2;obtain⟨c0,c1⟩:=hc;simp only[iLen]at c1;have hv':=hv (by rw[hck]; exact hcd);rcases hown.2 with⟨h0,_⟩|⟨g,cap,cur,hp,h0,hh,q1,q2,q3,q4⟩
         · omega
         · rw[hp]at hv';subst hv';have hlt:n<(m:Int):=by omega
           refine⟨.pointer (some ⟨g,0+n.toNat*size,none⟩),?_,?_⟩
           · simp only[Instr.indexAt,asIntOf,Sem.run_bind,Sem.run_pure,Result.andThen_ok,Aa4 hu,if_pos (And.intro c0 hlt),run_size hs,add_mk]
           · simp only[VR];exact⟨hd,hle,⟨_,_,rfl⟩,λ_=>⟨g,m,cap,hp,c0,hlt,by rw[AmK,AmC]⟩⟩
       · cases h
     · rename_i e d' xs size hk hs;split at h
       · rename_i hcd;obtain⟨hcd,hl⟩:=hcd;simp only[AlC,AlH]at h;obtain⟨rfl,rfl,rfl⟩:=h;obtain⟨hb,h1,h2⟩:=hH.rep k hd;rw[hag k (by simp) hd,hk]at h1;injection h1 with h1; subst h1;obtain⟨hck,hr⟩:=h2;have hv':=hv (by rw[hck]; exact hcd);rw[←hv']at hr;exact Ahy (x:= .sl e xs) (i:=i) (c:=some (pIn 0 (iLen xs) n)) (by simp only[sIdx,hn,hu,hs]; rw[if_pos hl]) hc (by simpa only[VR]using hr) (by rw[←numOf_VR hn hi]; exact hi)
       · cases h
     · rename_i ty d' m i0 x0 f0 size hk hs;split at h
       · rename_i hcd;obtain⟨hcd,hl⟩:=hcd;subst hl;simp only[AlC,AlH]at h;obtain⟨rfl,rfl,rfl⟩:=h;obtain⟨hb,h1,h2⟩:=hH.rep k hd;rw[hag k (by simp) hd,hk]at h1;injection h1 with h1; subst h1;obtain⟨hL,hck,us,hown,hr⟩:=h2;obtain⟨c0,c1⟩:=hc;have hv':=hv (by rw[hck]; exact hcd);rcases hown.2 with⟨h0,_⟩|⟨g,cap,cur,hp,h0,hh,q1,q2,q3,q4⟩
         · omega
         · rw[hp]at hv';subst hv';refine⟨.pointer (some ⟨g,0+n.toNat*1,none⟩),?_,?_⟩
           · simp only[Instr.indexAt,asIntOf,Sem.run_bind,Sem.run_pure,Result.andThen_ok,Aa4 hu,if_pos (And.intro c0 c1),run_size hs,add_mk]
           · simp only[VR];exact⟨hd,hle,⟨_,_,rfl⟩,λ_=>⟨g,m,cap,hp,c0,c1,by rw[AmK,AmC]⟩⟩
       · cases h
     · cases h
   · cases h
 · cases hs:sIdx P t x i with
   |none=>simp[hs]at h
   |some p=>
    obtain⟨q,r'⟩:=p
    simp only[hs,AlM,AlC,AlH]at h
    obtain⟨rfl,rfl,rfl⟩:=h
    exact Ahy hs hc hx hi
theorem slicey_VR {x:SV} {u:Value} (h:slicey x=true) (hx:VR V x u):∃a n m,u= .slice a n m:=by
 cases x<;>simp only[slicey]at h<;>first|(cases h; done)|skip
 · simp only[VR,RepC]at hx;obtain⟨a,n,m,rfl,_⟩:=hx;exact⟨a,n,m,rfl⟩
 · simp only[VR]at hx; exact⟨_,_,_,hx⟩
 · simp only[VR]at hx;obtain⟨a,m,rfl,_⟩:=hx;exact⟨_,_,_,rfl⟩
 · simp only[VR]at hx;obtain⟨a,rfl⟩:=hx;exact⟨_,_,_,rfl⟩
theorem isZero_VR {x:Option SV} (h:AgM x=true):∃y k,x=some y/\numOf y=some (k,0,true):=by
 unfold AgM at h;split at h
 · rename_i y;split at h
   · rename_i k n hn;simp only[AlE]at h;subst h;exact⟨y,k,rfl,hn⟩
   · cases h
 · cases h
theorem Adw {t:TypeId} {x:Operand} {lo hi mx:Option Operand} {heap heap':List HB} {hyp chk:Q} {sv:SV} {R W:List Nat} (ho:o.op= .slice t x lo hi mx) (h:AdW P t heap (ev x) (lo.map ev) (hi.map ev) (mx.map ev)= .ok hyp chk sv heap' R W)
 (hchk:chk.h) (hx:VR V (ev x) (a.eval x)) (hlo:∀y,lo=some y->VR V (ev y) (a.eval y)) (hhi:∀y,hi=some y->VR V (ev y) (a.eval y)) (hmx:∀y,mx=some y->VR V (ev y) (a.eval y)) (hH:Heap V H)
 (hag:∀k,k∈R∨k∈W->V.D k->H k=heap[k]?):Ab6 P o a V sv (newH heap heap' W H) W heap.length heap'.length:=by
 have vlo:∀y,lo.map ev=some y->∃v,lo.map a.eval=some v/\VR V y v:=λy hy=>by
  cases lo with
  |none=>simp at hy
  |some q=>simp only[AlM,AlC]at hy; subst hy; exact⟨_,rfl,hlo q rfl⟩
 have vhi:∀y,hi.map ev=some y->∃v,hi.map a.eval=some v/\VR V y v:=λy hy=>by
  cases hi with
  |none=>simp at hy
  |some q=>simp only[AlM,AlC]at hy; subst hy; exact⟨_,rfl,hhi q rfl⟩
 have nlo:lo.map ev=none->lo.map a.eval=none:=λhy=>by cases lo<;>simp_all
 have nhi:hi.map ev=none->hi.map a.eval=none:=λhy=>by cases hi<;>simp_all
 unfold AdW at h;split at h
 · rename_i m hm;split at h
   · rename_i elem hu;split at h
     · rename_i hcond;simp only[AlG,Bool.or_eq_true]at hcond;obtain⟨⟨⟨⟨hsz,hsl⟩,hl0⟩,hh0⟩,hm0⟩:=hcond;simp only[OpR.ok.injEq]at h;obtain⟨rfl,rfl,rfl,rfl,rfl,rfl⟩:=h;obtain⟨u,n,cap,hu'⟩:=slicey_VR hsl hx;obtain⟨yh,kh,eyh,hnh⟩:=isZero_VR hh0;obtain⟨ym,km,eym,hnm⟩:=isZero_VR hm0;injection eym with eym;rw[←eym]at hnm;obtain⟨vh,evh,hvh⟩:=vhi yh eyh;obtain⟨q,hq⟩:∃q,mx=some q:=by cases mx with|none=>simp at hm|some q=>exact⟨q,rfl⟩
       have hvm:=hmx q hq;rw[hq]at hm;simp only[AlM,AlC]at hm;rw[hm]at hvm;have e1:=numOf_VR hnh hvh;have e2:=numOf_VR hnm hvm;obtain⟨size,hs⟩:=Option.isSome_iff_exists.1 hsz;have b0:∀(k:IntKind) (y:Nat) (c:BoundsCode),(Instr.sliceBound (.int k 0) y c).run P V.w= .ok 0 V.w:=λk y c=>Abf (n:=0) (by omega) (by omega) V.w;have elo:lo.map a.eval=none∨∃k,lo.map a.eval=some (.int k 0):=by
        rcases hl0 with hl0|hl0
        · left; exact nlo (by simpa using hl0)
        · right;obtain⟨yl,kl,eyl,hnl⟩:=isZero_VR hl0;obtain⟨vl,evl,hvl⟩:=vlo yl eyl;exact⟨kl,by rw[evl,numOf_VR hnl hvl]⟩
       have hrun:(Instr.sliceAt t (a.eval x) (lo.map a.eval) (hi.map a.eval) (mx.map a.eval)).run P V.w= .ok (.slice u 0 0) V.w:=by
        rw[hu',evh,e1,hq,AlM,e2];rcases elo with e|⟨k,e⟩<;>rw[e]
        · simp only[Instr.sliceAt,Instr.slice,Instr.sliceBounds,Sem.run_bind,Aa4 hu,Result.andThen_ok,b0,Sem.run_pure,run_size hs,Option.isSome_some,if_true]
        · simp only[Instr.sliceAt,Instr.slice,Instr.sliceBounds,Sem.run_bind,Aa4 hu,Result.andThen_ok,b0,Sem.run_pure,run_size hs,Option.isSome_some,if_true]
       exact Aa5 (by simp only[execOp,ho]; exact AbK hrun) (by simp only[VR]; exact⟨u,rfl⟩) hH
     · unfold AgX at h;split at h
       · rename_i e xs l kh k bh kk k2 bk size hev hl hhn hkn hs;split at h
         · rename_i hse;simp only [OpR.ok.injEq] at h;obtain ⟨rfl, rfl, rfl, rfl, rfl, rfl⟩ := h;obtain ⟨hgb, hkk⟩ := hchk;subst hkk;rw [hev] at hx;simp only [VR, RepC, C.list] at hx;obtain ⟨u, n, cap, hu', h1, h2, rfl, h4⟩ := hx;obtain ⟨yh, hyh, hnh⟩ : ∃ yh, hi.map ev = some yh /\ numOf yh = some (kh, k, bh) := by
            cases hq:hi.map ev with
            |none=>rw[hq]at hhn; simp at hhn
            |some yh=>rw[hq]at hhn; exact⟨yh,rfl,by simpa using hhn⟩
           obtain⟨vh,evh,hvh⟩:=vhi yh hyh;obtain⟨q,hq⟩:∃q,mx=some q:=by cases mx with|none=>simp at hm|some q=>exact⟨q,rfl⟩
           have hvm:=hmx q hq;rw[hq]at hm;simp only[AlM,AlC]at hm;rw[hm]at hvm;have e1:=numOf_VR hnh hvh;have e2:=numOf_VR hkn hvm;have hk0:0<=k/\k<=(xs.length:Int):=by
            cases l with
            |none=>exact hgb
            |some l0=>exact⟨by have:=hgb.1; have:=hgb.2.1; omega,hgb.2.2⟩
           have hm1:k<=(cap:Int):=by omega
           have hm2:k<=(k.toNat:Int):=by omega
           have b1:(Instr.sliceBound (.int kk k) cap .slice3Acap).run P V.w= .ok k.toNat V.w:=Abf hk0.1 hm1 V.w;have b2:(Instr.sliceBound (.int kh k) k.toNat .slice3B).run P V.w= .ok k.toNat V.w:=Abf hk0.1 hm2 V.w;have hsb:(Instr.sliceBounds true xs.length cap (lo.map a.eval) (hi.map a.eval) (mx.map a.eval)).run P V.w= .ok ((l.getD 0).toNat,k.toNat,k.toNat) V.w:=by
            rw[evh,e1,hq,AlM,e2]
            cases hlo0:lo.map ev with
            |none=>
             rw[hlo0]at hl
             simp only[Abx,AlC]at hl
             subst hl
             rw[nlo hlo0]
             simp only[Instr.sliceBounds,Sem.run_bind,Sem.run_pure,Result.andThen_ok,b1,b2,if_true,Anl,Int.toNat_zero]
            |some yl=>
             obtain⟨vl,evl,hvl⟩:=vlo yl hlo0
             rw[hlo0]at hl
             cases hnl:numOf yl with
             |none=>simp[Abx,hnl]at hl
             |some p3=>
              obtain⟨kl,nl,bl⟩:=p3
              simp only[Abx,hnl,AlM,AlC]at hl
              subst hl
              have e3:=numOf_VR hnl hvl
              have hg3:0<=nl/\nl<=k:=⟨hgb.1,hgb.2.1⟩
              have b3:(Instr.sliceBound (.int kl nl) k.toNat .slice3C).run P V.w= .ok nl.toNat V.w:=Abf hg3.1 (by omega) V.w
              rw[evl,e3]
              simp only[Instr.sliceBounds,Sem.run_bind,Sem.run_pure,Result.andThen_ok,b1,b2,b3,if_true,Option.isSome_some,Amj]
           have hcut:=Ahf (V:=V) (e:=e) (xs:=xs.take k.toNat) (a:=u) (n:=k.toNat) (cap:=k.toNat) (l:=l) (h:=none) (AlT _) (by omega) (by rw[AlN]; omega)
            (by
             rcases h4 with h4|⟨b,o,h5,h6,h7⟩
             · left; omega
             · right;refine⟨b,o,h5,h6,λi hi=> ?_⟩;have:=h7 i (by omega);rw[List.getD_eq_getElem?_getD,List.getElem?_take,if_pos hi,←List.getD_eq_getElem?_getD]; exact this)
            (by
             cases l with
             |none=>trivial
             |some l0=>exact⟨hgb.1,by have:=hgb.2.1; omega⟩)
           have hcc:cutRows (xs.take k.toNat) l none=cutRows xs l (some k):=by cases l<;>rfl
           rw[hcc]at hcut;simp only[Anl,AmM]at hcut;refine Aa5 (by simp only[execOp,ho]; exact AbK (by
            simp only[hu',Instr.sliceAt,Instr.slice,Sem.run_bind,Aa4 hu,Result.andThen_ok,hsb,run_size hs,Sem.run_pure];rfl)) (by
            simp only[VR]at hcut ⊢;refine⟨?_,_,_,rfl⟩;rw[hse]; exact hcut) hH
         · cases h
       · cases h
   · cases h
 · rename_i hmn;have hmx0:mx=none:=by cases mx with|none=>rfl|some q=>simp at hmn
   subst hmx0;split at h
   · rename_i k c hev;rw[hev]at hx;have hx0:=hx;simp only[VR]at hx0;obtain⟨hd,hle,_,hv⟩:=hx0;split at h
     · rename_i e d xs l hb elem hcur hl hhb hu;split at h
       · rename_i hcd;obtain ⟨hcd, hsz⟩ := hcd;simp only [OpR.ok.injEq] at h;obtain ⟨rfl, rfl, rfl, rfl, rfl, rfl⟩ := h;have hag' : ∀ j, j ∈ [k] -> V.D j -> H j = heap[j]? := λj hj hd => hag j (.inl hj) hd;have hck := (curOf_rep hH hd (hag' k (by simp) hd) hcur).1;have hdat := AfE (ids := [k]) hH (by simp) hd (hag' k (by simp) hd) hcur;have hvv := hv (by rw [hck]; exact hcd);rw [← hvv] at hdat;have hg := AbE V H [k] [k];obtain ⟨z, hz, hr⟩ := sSlice_run (V := V.frz H [k]) (x := .sl e xs) (c := some (geB l hb (iLen xs))) (r := .sl e (cutRows xs l hb)) (t := t) (lo := lo.map ev) (hi := hi.map ev) (vl := lo.map a.eval) (vh := hi.map a.eval) (P := P)
          (by simp only[Ae8,hl,hhb,hu,hsz,if_true]) hchk (by simpa only[VR]using hdat)
          (λy hy=>by obtain⟨v,h1,h2⟩:=vlo y hy; exact⟨v,h1,VR.mono hg.stays _ _ h2⟩) nlo
          (λy hy=>by obtain⟨v,h1,h2⟩:=vhi y hy; exact⟨v,h1,VR.mono hg.stays _ _ h2⟩) nhi
         intro K Q hK;unfold Oper.wp;have hrun:(execOp a.eval o).run P V.w= .ok (.value z) V.w:=by simp only[execOp,ho]; exact AbK hz
         rw[hrun];have hfr:frz1 heap k=frzH heap [k]:=rfl;rw[hfr]at hK;refine hK z (V.frz H [k]) hg hr ((Abt hH [k]).congr λj hj=>AhV hag' hj) λj=>⟨.inl,λh=>h.elim id (λh=>by rw[Aa9]at h; omega)⟩
       · cases h
     · cases h
   · rename_i hev;split at h
     · rename_i l hb elem hl hhb hu;split at h
       · rename_i hsz;simp only [OpR.ok.injEq] at h;obtain ⟨rfl, rfl, rfl, rfl, rfl, rfl⟩ := h;obtain ⟨size, hs⟩ := Option.isSome_iff_exists.1 hsz;obtain ⟨u, hu'⟩ : ∃ u, a.eval x = .slice u 0 0 := by
          rw[hev]at hx;simpa only[VR]using hx
         have h0:=hchk;have hb':geB l hb ((0:Nat):Int):=hchk;have hsb:=Abh (P:=P) hl hhb vlo nlo vhi nhi hb' (AlT 0) V.w;have z1:(l.getD 0).toNat=0:=by cases l<;>cases hb<;>simp[geB]at hb' ⊢ <;>omega
         have z2:(hb.getD ((0:Nat):Int)).toNat=0:=by cases l<;>cases hb<;>simp[geB]at hb' ⊢ <;>omega
         rw[z1,z2]at hsb;refine Aa5 (v:= .slice u 0 0) ?_ (by simp only[VR]; exact⟨u,rfl⟩) hH;simp only[execOp,ho,hu',Am1];refine AbK ?_;simp only[Instr.sliceAt,Instr.slice,Sem.run_bind,Aa4 hu,Result.andThen_ok,hsb,run_size hs,Sem.run_pure,if_true]
       · cases h
     · cases h
   · rename_i hev;split at h
     · rename_i l hb elem hl hhb hu;split at h
       · rename_i hsz;simp only [OpR.ok.injEq] at h;obtain ⟨rfl, rfl, rfl, rfl, rfl, rfl⟩ := h;obtain ⟨size, hs⟩ := Option.isSome_iff_exists.1 hsz;obtain ⟨u, hu'⟩ : ∃ u, a.eval x = .slice u 0 0 := by
          rw[hev]at hx;simp only[VR]at hx;exact⟨_,hx⟩
         have hb':geB l hb ((0:Nat):Int):=hchk;have hsb:=Abh (P:=P) hl hhb vlo nlo vhi nhi hb' (AlT 0) V.w;have z1:(l.getD 0).toNat=0:=by cases l<;>cases hb<;>simp[geB]at hb' ⊢ <;>omega
         have z2:(hb.getD ((0:Nat):Int)).toNat=0:=by cases l<;>cases hb<;>simp[geB]at hb' ⊢ <;>omega
         rw[z1,z2]at hsb;refine Aa5 (v:= .slice u 0 0) ?_ (by simp only[VR]; exact⟨u,rfl⟩) hH;simp only[execOp,ho,hu',Am1];refine AbK ?_;simp only[Instr.sliceAt,Instr.slice,Sem.run_bind,Aa4 hu,Result.andThen_ok,hsb,run_size hs,Sem.run_pure,if_true]
       · cases h
     · cases h
   · rename_i _ _ _ _;unfold okIf at h;split at h
     · rename_i c r hr;simp only[OpR.ok.injEq]at h;obtain⟨rfl,rfl,rfl,rfl,rfl,rfl⟩:=h;obtain⟨z,hz,hrz⟩:=sSlice_run (P:=P) hr hchk hx vlo nlo vhi nhi;exact Aa5 (by simp only[execOp,ho]; exact AbK hz) hrz hH
     · cases h
theorem AcG (V:Vw) {e:List Sh} {z:List Value} {zs:List C} (h:toCs e (ofVs z)=some (zs,[])) (h1:∀u∈z,u.oneCell'=true):RepVs V.w V.ok e zs z:=by
 have:=toCs_vals V e _ _ _ _ h (VRs_ofVs V z);have h2:z.drop e.length=[]:=by simpa[VRs]using this.2
 have h3:z.take e.length=z:=AlZ (by simpa using h2);rw[h3]at this;exact AbC this.1 h1
theorem RepRow.replicate {w:World} {ok:Nat->Prop} {e:List Sh} {y:List C} {m:List Value} (h:RepVs w ok e y m):∀(n:Nat),RepRow w ok e (List.replicate n y) ((List.replicate n m).flatten)
 |0=>by simp[RepRow]
 |n+1=>by
  simp only[List.replicate_succ,RepRow,List.flatten_cons];exact⟨m,_,rfl,h,RepRow.replicate h n⟩
theorem Aea {z:List Value} (n:Nat) (hz:0<z.length):(madeCells z.toArray (n*z.length)).toList=(List.replicate n z).flatten:=by
 have h:=AcB z z.length n rfl hz;have:madeCells z.toArray (n*z.length)=((List.replicate n z).flatten).toArray:=by
  rw[←h];simp[madeCells]
 rw[this]
theorem AdF {heap:List HB} {x:HB} (hn:∀k,heap.length<=k->k<(heap++[x]).length->¬V.D k):
 newH heap (heap++[x]) [] H heap.length=some x/\∀j,V.D j->newH heap (heap++[x]) [] H j=H j:=by
 constructor
 · unfold newH; rw[if_pos (.inr (by simp))]; simp
 · intro j hj;unfold newH;rw[if_neg];rintro(h|h)
   · simp at h
   · exact hn j h.1 h.2 hj
theorem AgY {t:TypeId} {x y:Operand} {heap heap':List HB} {hyp chk:Q} {sv:SV} {R W:List Nat} (ho:o.op= .makeSlice t x y) (h:Aix P t heap (ev x) (ev y)= .ok hyp chk sv heap' R W) (hchk:chk.h)
 (hx:VR V (ev x) (a.eval x)) (hy:VR V (ev y) (a.eval y)) (hH:Heap V H) (hn:∀k,heap.length<=k->k<heap'.length->¬V.D k):Ab6 P o a V sv (newH heap heap' W H) W heap.length heap'.length:=by
 unfold Aix at h;split at h
 · rename_i elem k1 l b1 k2 c b2 hu hnx hny;split at h
   · rename_i e z size by_ he hz hs hb;split at h
     · rename_i zs hzs;split at h
       · rename_i hcond;obtain⟨c1,c2,c3,c4⟩:=hcond;simp only[OpR.ok.injEq]at h;obtain⟨rfl,rfl,rfl,rfl,rfl,rfl⟩:=h;obtain⟨h0,h1,h2⟩:=hchk;simp only[Abb]at h2;unfold AbJ at hz
         cases hi:P.info? elem with
         |none=>simp[hi]at hz
         |some i=>
          cases hzv:i.zero with
          |none=>simp[hi,hzv]at hz
          |some zv=>
           simp only[hi,hzv,AmG]at hz
           split at hz
           · rename_i hone
             injection hz with hz
             have hone':∀u∈z,u.oneCell'=true:=λu hu=>by rw[←hz]at hu; exact(Al6.1 hone) u hu
             have hsz:i.size=size:=by unfold szTy at hs; simpa[hi]using hs
             have hby:i.bytes=by_:=by unfold byTy at hb; simpa[hi]using hb
             have hbc:(i.bytes:Int)*c<=281474976710656:=by rw[hby,Amo]; omega
             have hcm:c<=140737488355328:=by
              have:c*1<=c*(by_:Int):=Al0 (by omega) (by omega);omega
             have hrun:=run_make (P:=P) V.w t elem i zv hu hi hzv k1 k2 l c h0 h1 hbc (by omega)
             have hzc:zv.cells=z.toArray:=by rw[←hz]
             rw[hzc,hsz]at hrun
             have hzl:z.length=size:=c2
             have hmade:(madeCells z.toArray (c.toNat*size)).toList=(List.replicate c.toNat z).flatten:=by
              rw[←hzl]; exact Aea c.toNat (by omega)
             have hsize:(madeCells z.toArray (c.toNat*size)).size=c.toNat*size:=size_madeCells _ _
             have htk:((List.replicate c.toNat z).flatten).take (l.toNat*size)=(List.replicate l.toNat z).flatten:=by
              have:c.toNat=l.toNat+(c.toNat-l.toNat):=by omega
              rw[this,←List.replicate_append_replicate,List.flatten_append,List.take_left'];simp[Ang,Anm,Am8,hzl]
             have hrow:=RepRow.replicate (AcG V hzs hone') l.toNat
             have hown:OwnRow (V.w.alloc (.cells (madeCells z.toArray (c.toNat*size)) elem)) elem e.length (.slice (some ⟨V.w.heap.size,0,none⟩) l.toNat c.toNat) (List.replicate l.toNat zs).length ((List.replicate l.toNat z).flatten):=by
              rw[Amx,←c1];refine⟨by simp[Ang,Anm,Am8,hzl],?_⟩;by_cases hc0:c.toNat=0
              · exact .inl ⟨by omega,_,by rw[hc0,show l.toNat=0 by omega]⟩
              · exact .inr ⟨_,c.toNat,_,rfl,by omega,heap_alloc_new V.w _,by omega,by simp only[maxLen]; omega,hsize,by rw[hmade,htk]⟩
             have hnn:¬V.D heap.length:=hn _ (AlT _) (by simp)
             have hnew:=AdF (H:=H) hn
             obtain⟨hg,hH'⟩:=row_new (H':=newH heap (heap++[.row e elem 0 (List.replicate l.toNat zs)]) [] H) hH hnn (w':=V.w.alloc (.cells (madeCells z.toArray (c.toNat*size)) elem)) (v':= .slice (some ⟨V.w.heap.size,0,none⟩) l.toNat c.toNat)
              rfl rfl rfl (by rw[World.size_alloc]; omega) (λb hb=>Below.heap_alloc V.w _ b hb)
              (λb hb=>by
               simp only[blkOf]at hb;split at hb
               · cases hb
               · injection hb with hb; subst hb; rw[World.size_alloc]; omega) hown hrow hnew.1 hnew.2
             intro K Q hK
             unfold Oper.wp
             have hex:(execOp a.eval o).run P V.w= .ok (.value (.slice (some ⟨V.w.heap.size,0,none⟩) l.toNat c.toNat)) (V.w.alloc (.cells (madeCells z.toArray (c.toNat*size)) elem)):=by
              simp only[execOp,ho];refine AbK ?_;rw[show a.eval x= .int k1 l from numOf_VR hnx hx,show a.eval y= .int k2 c from numOf_VR hny hy];exact hrun
             rw[hex]
             refine hK _ (V.newR heap.length _ _) hg ?_ hH' λk=> ?_
             · simp only[VR]
               exact⟨.inr rfl,by simp,.inl ⟨_,_,_,rfl⟩,λ_=>by simp[Vw.newR]⟩
             · simp only[Vw.newR,AlF,AlJ]
               constructor
               · rintro(h|h)
                 · exact .inl h
                 · exact .inr (by omega)
               · rintro(h|h)
                 · exact .inl h
                 · exact .inr (by omega)
           · cases hz
       · cases h
     · cases h
   · cases h
 · cases h
theorem Adk (V:Vw) {e:List Sh}:∀(n:Nat) (cs:List SV) (xs:List (List C)) (us:List Value),toRows (toCs e) n cs=some xs->VRs V cs us->(∀u∈us,u.oneCell'=true)->RepRow V.w V.ok e xs (us.take (n*e.length))
 |0,cs,xs,us,h,_,_=>by
  simp only[toRows,AlC]at h;subst h; simp[RepRow]
 |n+1,cs,xs,us,h,hv,h1=>by
  simp only[toRows]at h;split at h
  · rename_i x rest hx
    cases hr:toRows (toCs e) n rest with
    |none=>simp[hr]at h
    |some ys=>
     simp only[hr,AlM,AlC]at h
     subst h
     obtain⟨h2,h3⟩:=toCs_vals V e cs x rest us hx hv
     have h4:=Adk V n rest ys _ hr h3 λu hu=>h1 u (Al3 hu)
     simp only[RepRow]
     refine⟨us.take e.length,(us.drop e.length).take (n*e.length),?_,AbC h2 λu hu=>h1 u (Al7 hu),h4⟩
     rw[Amz,AnA,Amh,List.take_add]
  · cases h
def Alt (w:World) (sz:Nat) (x:Value) (m:Nat) (news:List Value):Prop:=
 (∃c,x= .slice none 0 c/\m=0/\news=[])∨∃a c,x= .slice (some a) m c/\news.length=m*sz/\(∀j u,news[j]? =some u->w.cell? (a.add j)=some u)/\∀u∈news,u.oneCell'=true
theorem sl_src {V:Vw} {e:List Sh} {ys:List (List C)} {v:Value} (h:RepC V.w V.ok (.sl e) (.l ys) v):∃news,Alt V.w e.length v ys.length news/\RepRow V.w V.ok e ys news:=by
 simp only[RepC,C.list]at h;obtain⟨a,n,cap,rfl,_,_,hn,h4⟩:=h;subst hn;rcases h4 with h0|⟨b,o,rfl,hb,hr⟩
 · have hy:ys=[]:=by cases ys with|nil=>rfl|cons y r=>simp at h0
   subst hy;refine⟨[],?_,by simp[RepRow]⟩
   cases a with
   |none=>exact .inl ⟨cap,rfl,rfl,rfl⟩
   |some a=>exact .inr ⟨a,cap,rfl,by simp,by simp,by simp⟩
 · obtain⟨us,h5,h6⟩:=RepRow.of_cells (xs:=ys) (o:=o) hr;exact⟨us,.inr ⟨_,cap,rfl,h5.len,λj u hu=>by rw[add_mk]; exact h6 j u hu,h5.one⟩,h5⟩
theorem src_rep {e:List Sh} {heap:List HB} {x:SV} {v:Value} {ys:List (List C)} {ids rd:List Nat} (h:AcH e heap x=some (ys,ids,rd)) (hx:VR V x v) (hH:Heap V H) (hag:∀k,k∈ids∨k∈rd->V.D k->H k=heap[k]?):
 ∃news,Alt V.w e.length v ys.length news/\RepRow V.w (V.frz H ids).ok e ys news:=by
 have mono:∀ {news},RepRow V.w V.ok e ys news->RepRow V.w (V.frz H ids).ok e ys news:=λh=>RepRow.mono (λb hb=>⟨AgN hb,rfl⟩) e _ _ h;unfold AcH at h;split at h
 · rename_i m sz cs;split at h
   · rename_i hsz
     cases hr:toRows (toCs e) m (cs.map (thaw1 heap))with
     |none=>simp[hr]at h
     |some r=>
      simp only[hr,AlM,AlC,AlH]at h
      obtain⟨rfl,rfl,rfl⟩:=h
      simp only[VR]at hx
      obtain⟨a,cap,rfl,_,_,hl,b,o,rfl,hb,hc⟩:=hx
      obtain⟨vs,hvs,h1,hcell⟩:=hc.vals
      have hth:=Ads hH (λk hk hd=>hag k (.inl hk) hd) (cs:=cs) (λk hk=>hk) hvs
      have hrow:=Adk _ m _ _ _ hr hth h1
      have hlen:=hvs.len
      rw[AlZ (by rw[hlen,hl,hsz]; exact AlT _)]at hrow
      have hrl:=Abw _ m _ _ hr
      refine⟨vs,.inr ⟨_,cap,by rw[hrl],by rw[hlen,hl,hrl,hsz],λj u hu=>by rw[add_mk]; exact hcell j u hu,h1⟩,hrow⟩
   · cases h
 · rename_i f ys';split at h
   · rename_i hs;simp only[AlC,AlH]at h;obtain⟨rfl,rfl,rfl⟩:=h;have hef:=shEqs_eq e f hs;subst hef;simp only[VR]at hx;obtain⟨news,h1,h2⟩:=sl_src hx;exact⟨news,h1,mono h2⟩
   · cases h
 · rename_i k c;split at h
   · rename_i f d ys' hcur;split at h
     · rename_i hcd;simp only[AlG,AlE]at hcd;simp only[AlC,AlH]at h;obtain⟨rfl,rfl,rfl⟩:=h;have hef:=shEqs_eq e f hcd.2;subst hef;simp only[VR]at hx;obtain⟨hd,_,_,hv⟩:=hx;have hagk:=hag k (.inr (by simp)) hd;have hck:=curOf_rep hH hd hagk hcur;have hvv:=hv (by rw[hck.1]; exact hcd.1);rw[hvv];obtain⟨hb,h1,h2⟩:=hH.rep k hd;unfold curOf at hcur;rw[←hagk,h1]at hcur
       cases hb<;>simp only[AlC,AlH]at hcur<;>first|(cases hcur; done)|skip
       · obtain⟨rfl,rfl,rfl⟩:=hcur;obtain⟨hL,_,n,us,hown,hn,hr⟩:=h2;refine⟨us,?_,mono hr⟩;subst hn;rcases hown.2 with⟨h0,a,hp⟩|⟨g,cap,cur,hp,h0,_⟩
         · have hus:us=[]:=by have:=hown.1; rw[h0]at this; simpa using this
           rw[hp,hus]
           cases a with
           |none=>exact .inl ⟨0,rfl,h0,rfl⟩
           |some a=>exact .inr ⟨a,0,by rw[h0],by rw[h0]; simp,by simp,by simp⟩
         · rw[hp]at hown;refine .inr ⟨_,cap,hp,hown.1,λj u hu=> ?_,hr.one⟩;rw[add_mk,AmK];exact hown.cells h0 j u hu
       · obtain⟨rfl,rfl,rfl⟩:=hcur;obtain⟨news,h3,h4⟩:=sl_src h2.2;exact⟨news,h3,mono h4⟩
     · cases h
   · cases h
 · simp only[AlC,AlH]at h;obtain⟨rfl,rfl,rfl⟩:=h;simp only[VR]at hx;exact⟨[],.inl ⟨0,hx,rfl,rfl⟩,by simp[RepRow]⟩
 · simp only[AlC,AlH]at h;obtain⟨rfl,rfl,rfl⟩:=h;simp only[VR]at hx;obtain⟨a,rfl⟩:=hx;refine⟨[],?_,by simp[RepRow]⟩
   cases a with
   |none=>exact .inl ⟨0,rfl,rfl,rfl⟩
   |some a=>exact .inr ⟨a,0,rfl,by simp,by simp,by simp⟩
 · cases h
theorem sAppend0_run {t ty:TypeId} {heap heap':List HB} {s x:SV} {u v:Value} {hyp chk:Q} {sv:SV} {R W:List Nat} (h:Ac9 P t heap s x= .ok hyp chk sv heap' R W) (hchk:chk.h)
    (hs:VR V s u) (hx:VR V x v) (hH:Heap V H) (hag:∀k,k∈R∨k∈W->V.D k->H k=heap[k]?) (hn:∀k,heap.length<=k->k<heap'.length->¬V.D k):
    ∃v' V',(Builtin.append_ #[t,t] ty #[u,v]).run P V.w= .ok v' V'.w/\Grow V V' W/\VR V' sv v'/\Heap V' (newH heap heap' W H)/\∀k,V'.D k↔V.D k∨(heap.length<=k/\k<heap'.length):=by
  unfold Ac9 at h;split at h
  · rename_i elem hu;split at h
    · rename_i e z size by_ he hz hsz hb;split at h
      · rename_i hcond;obtain⟨c1,c2,c3,c4⟩:=hcond;unfold AbJ at hz
        cases hi:P.info? elem with
        |none=>simp[hi]at hz
        |some i=>
          cases hzv:i.zero with
          |none=>simp[hi,hzv]at hz
          |some zv=>
            simp only[hi,hzv,AmG]at hz
            split at hz
            · rename_i hone
              injection hz with hz
              have hisz:i.size=size:=by unfold szTy at hsz; simpa[hi]using hsz
              have hby:i.bytes=by_:=by unfold byTy at hb; simpa[hi]using hb
              have hzc:zv.cells.size=size:=by rw[←c2,←hz]; simp
              split at h
              · rename_i ys ids rd hsrc
                split at h
                · rename_i k c
                  split at h
                  · rename_i f ty' d xs hk
                    split at h
                    · rename_i hc
                      obtain⟨hcd,hef,hte,hni,hnr⟩:=hc
                      simp only[OpR.ok.injEq]at h
                      obtain⟨rfl,rfl,rfl,rfl,rfl,rfl⟩:=h
                      have hef':=shEqs_eq e f hef
                      subst hef'; subst hte
                      have hni':k∉ids:=by simpa using hni
                      simp only[VR]at hs
                      obtain⟨hd,_,_,hv⟩:=hs
                      have hagi:∀j,j∈ids->V.D j->H j=heap[j]? :=λj hj hd=>hag j (.inr (by simp[hj])) hd
                      have hHk:H k=some (.row e ty' d xs):=by rw[hag k (.inl (by simp)) hd,hk]
                      obtain⟨news,hsi,hrow⟩:=src_rep hsrc hx hH (λj hj hd=>hag j (hj.elim (λh=> .inr (by simp[h])) (λh=> .inl (by simp[h]))) hd)
                      have hH1:=Abt hH ids
                      have hg1:=AbE V H ids ids
                      obtain⟨hb1,h1,h2⟩:=hH1.rep k hd
                      simp only[if_neg hni',hHk,AlC]at h1
                      subst h1
                      obtain⟨hL,hck,n,us,hown,hnx,hr⟩:=h2
                      have hvv:u=V.p k:=hv (by have:V.c k=d:=hck; rw[this]; exact hcd)
                      have hown':OwnRow V.w ty' size u n us:=by rw[hvv,c1]; exact hown
                      rw[←c1]at hsi
                      simp only[Abb,iLen,AlF]at hchk
                      obtain⟨v',w',r1,r2,r3,r4,r5,r6,r7,r8⟩:=run_append (P:=P) (V:=V) hu hi hzv hisz hby hzc c3 c4 hown' hsi (by rw[hnx]; have:((xs.length+ys.length:Nat):Int)*(by_:Int)<=140737488355328:=hchk; omega) ty
                      have hkl:k<heap.length:=(List.getElem?_eq_some_iff.1 hk).1
                      obtain⟨hg2,hH2⟩:=row_step (H':=newH heap ((frzH heap ids).set k (.row e ty' (c+1) (xs++ys))) (k::ids) H) hH1 hd hL
                        (by obtain⟨a,cap,h,_⟩:=hown.slice; exact⟨a,_,cap,h⟩) (w':=w') (v':=v') (c':=c+1) r3 r4 r5 r6
                        (by rw[hck]; omega) (λh=>by rw[hck]at h; omega)
                        (λb hb hne=>r7 b hb (by rw[hvv]; exact hne)) (λb hb=>by rw[hvv]at r8; exact r8 b hb)
                        (e:=e) (t:=ty') (xs':=xs++ys) (us':=us++news) (by rw[←c1,AlF,←hnx]; exact r2) (hr.append hrow)
                        (by unfold newH; rw[if_pos (.inl (by simp))]; simp[Aa9,hkl])
                        (λj hj hne=>by
                          unfold newH;by_cases hji:j∈ids
                          · rw[if_pos (.inl (by simp[hji])),if_pos hji,List.getElem?_set_ne (λh=>hne h.symm),AbQ,if_pos hji,hagi j hji hj]
                          · rw[if_neg,if_neg hji];rintro(h|h)
                            · simp at h; exact h.elim hne hji
                            · simp[Aa9]at h; omega)
                      refine⟨v',(V.frz H ids).upd k w' v' (c+1),r1,(hg1.mono λj hj=>by simp[hj]).trans hg2 λj hj _=>by simp at hj; simp[hj],?_,hH2,λj=>⟨.inl,λh=>h.elim id (λh=>by simp[Aa9]at h; omega)⟩⟩
                      simp only[VR]
                      refine⟨hd,by simp[Vw.upd],?_,λ_=>by simp[Vw.upd]⟩
                      obtain⟨a,cap,h,_⟩:=r2.slice
                      exact .inl ⟨a,_,cap,h⟩
                    · cases h
                  · cases h
                all_goals first|(cases h; done)|skip
                all_goals
                  simp only[OpR.ok.injEq]at h
                  obtain⟨rfl,rfl,rfl,rfl,rfl,rfl⟩:=h
                  have hown0:OwnRow V.w elem size u 0 []/\blkOf u=none:=by
                    simp only[VR]at hs
                    first
                    |(subst hs; exact⟨⟨by simp,.inl ⟨rfl,_,rfl⟩⟩,rfl⟩)
                    |(obtain⟨a,rfl⟩:=hs; exact⟨⟨by simp,.inl ⟨rfl,_,rfl⟩⟩,by cases a<;>simp[blkOf]⟩)
                  have hagi:∀j,j∈ids->V.D j->H j=heap[j]? :=λj hj hd=>hag j (.inr hj) hd
                  obtain⟨news,hsi,hrow⟩:=src_rep hsrc hx hH (λj hj hd=>hag j (hj.elim (λh=> .inr h) (λh=> .inl (by simp[h]))) hd)
                  have hH1:=Abt hH ids
                  have hg1:=AbE V H ids ids
                  rw[←c1]at hsi
                  simp only[Abb,iLen]at hchk
                  obtain⟨v',w',r1,r2,r3,r4,r5,r6,r7,r8⟩:=run_append (P:=P) (V:=V) hu hi hzv hisz hby hzc c3 c4 hown0.1 hsi (by rw[AmK]; have:((ys.length:Nat):Int)*(by_:Int)<=140737488355328:=hchk; omega) ty
                  have hnn:¬V.D heap.length:=hn _ (AlT _) (by simp[Aa9])
                  obtain⟨hg2,hH2⟩:=row_new (V:=V.frz H ids) (H':=newH heap (frzH heap ids++[.row e elem 0 ys]) ids H) hH1 hnn (w':=w') (v':=v') r3 r4 r5 r6 (λb hb=>r7 b hb (by rw[hown0.2]; simp))
                    (λb hb=>by
                      obtain⟨h1,h2⟩:=r8 b hb;rw[hown0.2]at h1;exact⟨h1.elim (λh=>by cases h) id,h2⟩)
                    (e:=e) (t:=elem) (xs':=ys) (us':=news) (by rw[←c1]; simpa using r2) hrow
                    (by unfold newH; rw[if_pos (.inr (by simp[Aa9]))]; rw[List.getElem?_append_right (by rw[Aa9]; exact AlT _)]; simp[Aa9])
                    (λj hj=>by
                      unfold newH;by_cases hji:j∈ids
                      · have hjl:j<heap.length:=by
                          obtain⟨hb,h1,_⟩:=hH.rep j hj;rw[hagi j hji hj]at h1;exact(List.getElem?_eq_some_iff.1 h1).1
                        rw[if_pos (.inl hji),if_pos hji,List.getElem?_append_left (by rw[Aa9]; exact hjl),AbQ,if_pos hji,hagi j hji hj]
                      · rw[if_neg,if_neg hji];rintro(h|h)
                        · exact hji h
                        · exact hn j h.1 h.2 hj)
                  refine⟨v',(V.frz H ids).newR heap.length w' v',r1,hg1.trans hg2 λj hj _=>by simp at hj,?_,hH2,λj=> ?_⟩
                  · simp only[VR]
                    refine⟨.inr rfl,by simp,?_,λ_=>by simp[Vw.newR]⟩
                    obtain⟨a,cap,h,_⟩:=r2.slice
                    exact .inl ⟨a,_,cap,h⟩
                  · simp only[Vw.newR,Vw.frz,AlF,AlJ,Aa9]
                    constructor
                    · rintro(h|h)
                      · exact .inl h
                      · exact .inr (by omega)
                    · rintro(h|h)
                      · exact .inl h
                      · exact .inr (by omega)
              · cases h
            · cases hz
      · cases h
    · cases h
  · cases h
theorem Ago {t ty:TypeId} {heap heap':List HB} {f:List Sh} {xs:List (List C)} {x:SV} {u v:Value} {hyp chk:Q} {sv:SV} {R W:List Nat} (h:AdA P t heap f xs x= .ok hyp chk sv heap' R W) (hchk:chk.h)
    (hs:VR V (.slc f xs) u) (hx:VR V x v) (hH:Heap V H) (hag:∀k,k∈R∨k∈W->V.D k->H k=heap[k]?) (hn:∀k,heap.length<=k->k<heap'.length->¬V.D k):
    ∃v' V',(Builtin.append_ #[t,t] ty #[u,v]).run P V.w= .ok v' V'.w/\Grow V V' W/\VR V' sv v'/\Heap V' (newH heap heap' W H)/\∀k,V'.D k↔V.D k∨(heap.length<=k/\k<heap'.length):=by
  unfold AdA at h;split at h
  · rename_i elem hu;split at h
    · rename_i e z size by_ he hz hsz hb;split at h
      · rename_i hcond;obtain⟨c1,c2,c3⟩:=hcond;have hef:=shEqs_eq e f c3;subst hef;unfold AbJ at hz
        cases hi:P.info? elem with
        |none=>simp[hi]at hz
        |some i=>
          cases hzv:i.zero with
          |none=>simp[hi,hzv]at hz
          |some zv=>
            simp only[hi,hzv,AmG]at hz
            split at hz
            · rename_i hone
              injection hz with hz
              have hisz:i.size=size:=by unfold szTy at hsz; simpa[hi]using hsz
              have hby:i.bytes=by_:=by unfold byTy at hb; simpa[hi]using hb
              have hzc:zv.cells.size=size:=by rw[←c2,←hz]; simp
              split at h
              · rename_i m sz cs
                split at h
                · rename_i hm
                  split at h
                  · rename_i ys hys
                    simp only[OpR.ok.injEq]at h
                    obtain⟨rfl,rfl,rfl,rfl,rfl,rfl⟩:=h
                    have hsrc:AcH e heap (.slit m sz cs)=some (ys,cs.flatMap ids1,[]):=by
                      unfold AcH;simp only[if_pos hm.2,hys,AlM]
                    have hagi:∀j,j∈cs.flatMap ids1->V.D j->H j=heap[j]? :=λj hj hd=>hag j (.inr hj) hd
                    obtain⟨news,hsi,hrow⟩:=src_rep hsrc hx hH (λj hj hd=>hag j (hj.elim (λh=> .inr h) (λh=> .inl (by simp at h))) hd)
                    have hyl:ys.length=m:=Abw _ m _ ys hys
                    rw[hyl]at hsi
                    have hH1:=Abt hH (cs.flatMap ids1)
                    have hg1:=AbE V H (cs.flatMap ids1) (cs.flatMap ids1)
                    simp only[VR,RepC,C.list]at hs
                    obtain⟨⟨base,n,cap,rfl,q1,q2,q3,q4⟩,a',n',q5⟩:=hs
                    injection q5 with _ q6 q7
                    obtain rfl:cap=n:=by omega
                    obtain⟨hchk1,hchk2⟩:=hchk
                    simp only[Abb,pLe,iLen,AlF]at hchk1 hchk2
                    have key:∃us,RepRow V.w V.ok e xs us/\us.length=cap*size/\(∀b,base=some b->∀(j:Nat) u,us[j]? =some u->V.w.cell? (b.add j)=some u):=by
                      rcases q4 with q4|⟨b,o,rfl,_,q8⟩
                      · have:xs=[]:=AmH (by omega);subst this;exact⟨[],by simp[RepRow],by rw[q4]; simp,by simp⟩
                      · obtain⟨us,u1,u3⟩:=RepRow.of_cells (xs:=xs) (o:=o) λi hi=>q8 i (by omega);refine⟨us,u1,by rw[u1.len,←q3,c1],λb' hb' j u hj=> ?_⟩;injection hb' with hb'; subst hb';rw[add_mk]; exact u3 j u hj
                    obtain⟨us,hrow0,hul,hcells⟩:=key
                    have hnone:base=none->cap=0:=λhb=>by
                      rcases q4 with q4|⟨b,o,h5,_⟩
                      · exact q4
                      · rw[hb]at h5; cases h5
                    have hsrc2:∃ad c,v= .slice (some ad) m c/\news.length=m*size/\(∀(j:Nat) u,news[j]? =some u->V.w.cell? (ad.add j)=some u)/\∀u∈news,u.oneCell'=true:=by
                      rcases hsi with⟨_,_,h,_⟩|⟨ad,c,h1,h2,h3,h4⟩
                      · omega
                      · exact⟨ad,c,h1,by rw[c1]; exact h2,h3,h4⟩
                    obtain⟨ad,c,rfl,g2,g3,g4⟩:=hsrc2
                    obtain⟨v',w',r1,r2,r3,r4,r5,r6,r7,r8⟩:=run_append_full (P:=P) (V:=V) hu hi hzv hisz hby hzc hul hcells hnone g2 g3 g4 hm.1 (by simp only[maxLen]; omega) (by
                      have:((xs.length+ys.length:Nat):Int)*(by_:Int)<=140737488355328:=hchk1;rw[hyl,←q3]at this; omega) (c:=c) ty
                    have hnn:¬V.D heap.length:=hn _ (AlT _) (by simp[Aa9])
                    obtain⟨hg2,hH2⟩:=row_new (V:=V.frz H (cs.flatMap ids1)) (H':=newH heap (frzH heap (cs.flatMap ids1)++[.row e elem 0 (xs++ys)]) (cs.flatMap ids1) H) hH1 hnn (w':=w') (v':=v') r3 r4 r5 r6 (λb hb=>r7 b hb)
                      (λb hb=>r8 b hb)
                      (e:=e) (t:=elem) (xs':=xs++ys) (us':=us++news) (by rw[←c1,AlF,hyl,←q3]; exact r2) ((RepRow.mono (λb hb=>⟨AgN hb,rfl⟩) e _ _ hrow0).append hrow)
                      (by unfold newH; rw[if_pos (.inr (by simp[Aa9]))]; rw[List.getElem?_append_right (by rw[Aa9]; exact AlT _)]; simp[Aa9])
                      (λj hj=>by
                        unfold newH;by_cases hji:j∈cs.flatMap ids1
                        · have hjl:j<heap.length:=by
                            obtain⟨hb,h1,_⟩:=hH.rep j hj;rw[hagi j hji hj]at h1;exact(List.getElem?_eq_some_iff.1 h1).1
                          rw[if_pos (.inl hji),if_pos hji,List.getElem?_append_left (by rw[Aa9]; exact hjl),AbQ,if_pos hji,hagi j hji hj]
                        · rw[if_neg,if_neg hji];rintro(h|h)
                          · exact hji h
                          · exact hn j h.1 h.2 hj)
                    refine⟨v',(V.frz H (cs.flatMap ids1)).newR heap.length w' v',r1,hg1.trans hg2 λj hj _=>by simp at hj,?_,hH2,λj=> ?_⟩
                    · simp only[VR]
                      refine⟨.inr rfl,by simp,?_,λ_=>by simp[Vw.newR]⟩
                      obtain⟨a,cap,h,_⟩:=r2.slice
                      exact .inl ⟨a,_,cap,h⟩
                    · simp only[Vw.newR,Vw.frz,AlF,AlJ,Aa9]
                      constructor
                      · rintro(h|h)
                        · exact .inl h
                        · exact .inr (by omega)
                      · rintro(h|h)
                        · exact .inl h
                        · exact .inr (by omega)
                  · cases h
                · cases h
              · cases h
            · cases hz
      · cases h
    · cases h
  · cases h
theorem Agn {t ty:TypeId} {heap heap':List HB} {k c sz:Nat} {n:Int} {x:SV} {u v:Value} {hyp chk:Q} {sv:SV} {R W:List Nat} (h:Aet P t heap k c sz n x= .ok hyp chk sv heap' R W) (hchk:chk.h)
 (hs:VR V (.ownv k c sz none n) u) (hx:VR V x v) (hH:Heap V H) (hag:∀k,k∈R∨k∈W->V.D k->H k=heap[k]?) (hn:∀k,heap.length<=k->k<heap'.length->¬V.D k):
 ∃v' V',(Builtin.append_ #[t,t] ty #[u,v]).run P V.w= .ok v' V'.w/\Grow V V' W/\VR V' sv v'/\Heap V' (newH heap heap' W H)/\∀k,V'.D k↔V.D k∨(heap.length<=k/\k<heap'.length):=by
 unfold Aet at h;split at h
 · rename_i e ty' w xs elem hk hu;split at h
   · rename_i hcond;obtain⟨c1,c2,c3⟩:=hcond;split at h
     · rename_i hyp1 chk1 sv1 heap1 R1 W1 ha;split at h
       · rename_i hW;simp only[OpR.ok.injEq]at h;obtain⟨rfl,rfl,rfl,rfl,rfl,rfl⟩:=h;have hWk:k∈W1:=by simpa using hW
         have hkl:k<heap.length:=(List.getElem?_eq_some_iff.1 hk).1;simp only[VR,Anl]at hs;obtain⟨hd,hle,_,hv⟩:=hs;obtain⟨hb,q1,q2⟩:=hH.rep k hd;rw[hag k (.inl (by simp)) hd,hk]at q1;injection q1 with q1;subst q1;obtain⟨hL,hc,m,us,hown,hnx,hrow⟩:=q2;obtain⟨a0,N,cap,hpv,_,g1,g2,hu'⟩:=hv (by rw[hc]; exact c1);obtain⟨a1,cap1,hpv1,hn1,hn2⟩:=hown.slice;rw[hpv]at hpv1;injection hpv1 with r1 r2 r3;subst r1; subst r2; subst r3;have ha0:(if cap=(0:Int).toNat then a0 else a0.map (·.add ((0:Int).toNat*sz)))=a0:=by
          split
          · rfl
          · cases a0<;>simp[Addr.add]
         rw[ha0]at hu';have hu2:u= .slice a0 n.toNat cap:=by simpa using hu'
         have hus:us.length=N*e.length:=hown.1;have hmn:n.toNat<=N:=by omega
         have hrows:=(hrow.split' n.toNat (by omega)).1;have hm4:=AmT e.length hmn;have hown':OwnRow V.w ty' e.length u (cutRows xs none (some n)).length (us.take (n.toNat*e.length)):=by
          have hxl:(cutRows xs none (some n)).length=n.toNat:=by simp only[cutRows,AlN]; omega
          rw[hxl,hu2];refine⟨by rw[AlN,hus]; omega,?_⟩;rcases hown.2 with⟨hz,a2,hv1⟩|⟨g,cap2,cur,hv1,p1,p2,p3,p4,p5,p6⟩
          · rw[hpv]at hv1;injection hv1 with r1 r2 r3;subst r1; subst r3;exact .inl ⟨by omega,_,by rw[show n.toNat=0 by omega]⟩
          · rw[hpv]at hv1;injection hv1 with r1 r2 r3;subst r1; subst r3;exact .inr ⟨g,_,cur,rfl,p1,p2,by omega,p4,p5,by rw[←p6,Anz]; congr 1; omega⟩
         obtain⟨hg,hH'⟩:=row_step (H':=λj=>if j=k then some (.row e ty' (w+1) (cutRows xs none (some n)))else H j) hH hd hL ⟨a0,N,cap,hpv⟩ (w':=V.w) (v':=u) (c':=w+1) rfl rfl rfl (AlT _) (by omega) (by intro h; omega)
          (λ_ _ _=>rfl) (λc hc=>by
           have hc':blkOf (V.p k)=some c:=by
            rw[hpv];rw[hu2]at hc
            cases a0 with
            |none=>simp[blkOf]at hc
            |some a1=>simpa[blkOf]using hc
           exact⟨.inl hc',hH.lt k c hd hL hc'⟩) hown' (by simpa only[cutRows]using hrows) (by simp) (λj hj hne=>by simp[hne])
         have hs1:VR (V.upd k V.w u (w+1)) (.own k (w+1)) u:=by
          simp only[VR];exact⟨hd,by simp[Vw.upd],.inl ⟨a0,n.toNat,cap,hu2⟩,λ_=>by simp[Vw.upd]⟩
         have hx1:VR (V.upd k V.w u (w+1)) x v:=VR.mono hg.stays _ _ hx;obtain⟨v',V',e1,e2,e3,e4,e5⟩:=sAppend0_run (ty:=ty) ha hchk hs1 hx1 hH' (λj hj hjd=>by
          by_cases hjk:j=k
          · subst hjk; simp[hkl]
          · rw[if_neg hjk,hag j (hj.elim (λh=> .inl (by simp[h])) .inr) hjd,List.getElem?_set_ne (Ne.symm hjk)]) (λj h1 h2=>hn j (by simpa using h1) h2)
         refine⟨v',V',e1,(hg.mono (λj hj=>by simp at hj; subst hj; exact hWk)).trans e2 (λj hj _=>hj),e3,e4.congr λj hj=> ?_,λj=> ?_⟩
         · unfold newH;simp only[Am0];by_cases hjk:j=k
           · subst hjk; rw[if_pos (.inl hWk),if_pos (.inl hWk)]
           · rw[if_neg hjk]
         · rw[e5 j]; simp only[Am0]; exact Iff.rfl
       · cases h
     · cases h
   · cases h
 · cases h
theorem run_appendZ {V:Vw} {t t' e:TypeId} {i:TypeInfo} {z:Value} {sz by_:Nat} {kn k:IntKind} (ht:P.underlying t=some (.slice e)) (ht':P.underlying t'=some (.int kn)) (hi:P.info? e=some i) (hz:i.zero=some z) (hsize:i.size=sz) (hby:i.bytes=by_) (hzs:z.cells.size=sz) (hz1:∀u∈z.cells.toList,u.oneCell'=true) (hsz:0<sz) (hb0:0<by_)
 {v:Value} {n:Nat} {us:List Value} (hown:OwnRow V.w e sz v n us) {m:Nat} (hroom:(n+m)*by_<=140737488355328) (ty:TypeId):
 ∃v' w',(Builtin.append_ #[t,t'] ty #[v,.int k m]).run P V.w= .ok v' w'/\OwnRow w' e sz v' (n+m) (us++(List.replicate m z.cells.toList).flatten)/\w'.os=V.w.os/\w'.tape=V.w.tape/\w'.output=V.w.output/\V.w.heap.size<=w'.heap.size/\
  (∀b,b<V.w.heap.size->blkOf v≠some b->w'.heap[b]? =V.w.heap[b]?)/\∀b,blkOf v'=some b->(blkOf v=some b∨V.w.heap.size<=b)/\b<w'.heap.size:=by
 subst hsize;subst hby
 have hle:n+m<=(n+m)*i.bytes:=Nat.le_mul_of_pos_right _ hb0;have hmle:m*i.bytes<=(n+m)*i.bytes:=AmT _ (by omega);have hmax:n+m<=maxLen:=by simp only[maxLen]; omega
 have hw:IntKind.i64.wrap (m:Int)=m:=by rw[IntKind.wrap_i64]; omega
 have h48i:¬(281474976710656<(m:Int)*(i.bytes:Int)):=by rw[←Anh]; omega
 have hneg:¬((m:Int)<0):=by omega
 have hfl:(Builtin.zeroCells z.cells m).toList=(List.replicate m z.cells.toList).flatten:=by
  have:=AcB z.cells.toList i.size m (by simpa using hzs) hsz;simp only[AlV]at this;unfold Builtin.zeroCells;rw[hzs]at this ⊢;rw[this]
 have hll:((List.replicate m z.cells.toList).flatten).length=m*i.size:=by simp[Ang,Anm,Am8,hzs]
 have hall:∀u∈(List.replicate m z.cells.toList).flatten,u.oneCell'=true:=λu hu=>by
  simp only[List.mem_flatten,AmO]at hu;obtain⟨q,⟨_,rfl⟩,hq⟩:=hu;exact hz1 u hq
 have same:∀b,blkOf v=some b->(blkOf v=some b∨V.w.heap.size<=b)/\b<V.w.heap.size:=λb hb=>⟨.inl hb,by
  rcases hown.2 with⟨_,a,rfl⟩|⟨g,cap,cur,rfl,h0,hh,_⟩
  · cases a<;>simp[blkOf]at hb
  · simp only[blkOf]at hb;split at hb
    · cases hb
    · injection hb with hb; subst hb;exact(Array.getElem?_eq_some_iff.1 hh).1⟩
 by_cases hm0:m=0
 · subst hm0;refine⟨v,V.w,?_,by simpa using hown,rfl,rfl,rfl,AlT _,λ_ _ _=>rfl,same⟩;obtain⟨a,cap,rfl,h1,_⟩:=hown.slice
   cases a<;>simp[Builtin.append_,run_underlying ht,run_underlying ht',sizeOf,typeInfo,hi,asInt,asIntOf,IntKind.wrap_i64,h1,storeCells]
 have grow:∀(b:Option Addr) (cap:Nat),v= .slice b n cap->(∀a,b=some a->∀j u,us[j]? =some u->V.w.cell? (a.add j)=some u)->(b=none->n=0)->cap<n+m->
  ∃v' w',(Builtin.append_ #[t,t'] ty #[v,.int k m]).run P V.w= .ok v' w'/\OwnRow w' e i.size v' (n+m) (us++(List.replicate m z.cells.toList).flatten)/\w'.os=V.w.os/\w'.tape=V.w.tape/\w'.output=V.w.output/\V.w.heap.size<=w'.heap.size/\
   (∀b,b<V.w.heap.size->blkOf v≠some b->w'.heap[b]? =V.w.heap[b]?)/\∀b,blkOf v'=some b->(blkOf v=some b∨V.w.heap.size<=b)/\b<w'.heap.size:=by
  intro b cap hv hcells hnb hlt;subst hv;have hold:(Builtin.firstCells i.size n (.slice b n cap)).run P V.w.drew= .ok us.toArray V.w.drew:=by
   cases b with
   |none=>
    obtain rfl:=hnb rfl
    have:us=[]:=by have:=hown.1; simpa using this
    subst this
    simp[Builtin.firstCells,Sem.run_pure]
   |some a=>exact run_firstCells_some (P:=P) V.w.drew i.size n a n cap us hown.1 (by simpa using hcells a rfl)
  have hr:=Go.Lib.run_append_grow_zeros (P:=P) V.w t t' ty e i z k kn ht ht' hi hz b n cap us hold m (by omega) hsz hlt (by simp only[maxLen]at hmax; omega) (by omega) (growslice_fits (by omega) hroom);have hge:=grownCap_ge V.w (n+m) cap e;have hcm:grownCap V.w (n+m) cap e<=maxLen:=grownCap_le_maxLen V.w (n+m) cap e hmax;have hlen:(us++(List.replicate m z.cells.toList).flatten).length=(n+m)*i.size:=by rw[AlF,hown.1,hll,Amz]
  refine⟨_,_,hr,⟨hlen,.inr ⟨V.w.heap.size,_,_,rfl,by omega,heap_alloc_new V.w.drew _,hge,hcm,?_,?_⟩⟩,rfl,rfl,rfl,by simp,λb hb _=>(by first|exact heap_alloc_old V.w.drew _ hb|exact heap_alloc_old V.w.drew _ b hb),λb hb=> ?_⟩
  · simp only[Array.size_append,Ana,size_zeroCells,hzs,hown.1,←Amz];congr 1;omega
  · simp only[Array.toList_append,hfl];rw[←hlen];exact List.take_left
  · simp only[blkOf]at hb;split at hb
    · cases hb
    · injection hb with hb; subst hb;exact⟨.inr (AlT _),by simp⟩
 rcases hown.2 with⟨rfl,b,rfl⟩|⟨g,cap,cur,rfl,h0,hh,hn,hm,hcs,htake⟩
 · have hus:us=[]:=by have:=hown.1; simpa using this
   exact grow b 0 rfl (λa _ j u hu=>by rw[hus]at hu; simp at hu) (λ_=>rfl) (by omega)
 · by_cases hfit:n+m<=cap
   · have hsub:=AmT i.size hfit;rw[Amz]at hsub;have hst:=run_storeCells_at P g (n*i.size) e ((List.replicate m z.cells.toList).flatten) 0 cur V.w hh (by rw[hll,hcs]; omega) hall;simp only[AmC]at hst;have hbk:∀k:Nat,blkOf (Value.slice (some ⟨g,0,none⟩) k cap)=some g:=λk=>by simp only[blkOf]; rw[if_neg (by omega)]
     have hns:¬(m*i.size=0):=Nat.mul_ne_zero hm0 (by omega);refine⟨.slice (some ⟨g,0,none⟩) (n+m) cap,V.w.setRow g (cur.toList.take (n*i.size)++(List.replicate m z.cells.toList).flatten++cur.toList.drop (n*i.size+((List.replicate m z.cells.toList).flatten).length)).toArray,?_,⟨?_,.inr ⟨g,cap,_,rfl,h0,setRow_heap _ _ _ _ _ _ hh,hfit,hm,?_,?_⟩⟩,rfl,rfl,rfl,by simp,λb hb hne=>setRow_other _ _ _ _ (λe=>hne (by rw[e]; exact hbk n)),λb hb=> ?_⟩
     · generalize V.w.setRow g _=w2 at hst ⊢;simp[Builtin.append_,run_underlying ht,run_underlying ht',sizeOf,typeInfo,zeroValue,hi,hz,asInt,asIntOf,hw,hneg,hns,h48i,hfit,hfl,add_mk];rw[hst]; rfl
     · rw[AlF,hown.1,hll,Amz]
     · simp only[Ana,AlF,AlN,Amk,AmJ,hll,hcs]; omega
     · rw[htake,List.take_append_of_le_length (by simp only[AlF,hown.1,hll,Amz]; omega),AlZ (by simp only[AlF,hown.1,hll,Amz]; omega)]
     · rw[hbk]at hb; injection hb with hb; subst hb;exact⟨.inl (hbk n),by simpa using(Array.getElem?_eq_some_iff.1 hh).1⟩
   · refine grow _ cap rfl (λa ha j u hu=> ?_) (λh=>by cases h) (by omega);injection ha with ha; subst ha;rw[add_mk,AmK];exact hown.cells h0 j u hu
theorem sAppendZ_run {t t' ty:TypeId} {heap heap':List HB} {s x:SV} {u v:Value} {hyp chk:Q} {sv:SV} {R W:List Nat} (h:Adz P t t' heap s x= .ok hyp chk sv heap' R W) (hchk:chk.h)
 (hs:VR V s u) (hx:VR V x v) (hH:Heap V H) (hag:∀k,k∈R∨k∈W->V.D k->H k=heap[k]?) (hn:∀k,heap.length<=k->k<heap'.length->¬V.D k):
 ∃v' V',(Builtin.append_ #[t,t'] ty #[u,v]).run P V.w= .ok v' V'.w/\Grow V V' W/\VR V' sv v'/\Heap V' (newH heap heap' W H)/\∀k,V'.D k↔V.D k∨(heap.length<=k/\k<heap'.length):=by
 unfold Adz at h;split at h
 · rename_i elem kn kx n lx hu hu' hnx;obtain rfl:v= .int kx n:=numOf_VR hnx hx;split at h
   · rename_i e z size by_ he hz hsz hb;split at h
     · rename_i zs hzs;split at h
       · rename_i hcond;obtain⟨c1,c2,c3,c4⟩:=hcond;unfold AbJ at hz
         cases hi:P.info? elem with
         |none=>simp[hi]at hz
         |some i=>
          cases hzv:i.zero with
          |none=>simp[hi,hzv]at hz
          |some zv=>
           simp only[hi,hzv,AmG]at hz
           split at hz
           · rename_i hone
             injection hz with hz
             have hisz:i.size=size:=by unfold szTy at hsz; simpa[hi]using hsz
             have hby:i.bytes=by_:=by unfold byTy at hb; simpa[hi]using hb
             have hzc:zv.cells.size=size:=by rw[←c2,←hz]; simp
             have hone':∀u∈zv.cells.toList,u.oneCell'=true:=λu hu=>by simpa using Al6.1 hone u hu
             have hrow:=RepRow.replicate (AcG V hzs (by rw[←hz]; exact hone')) n.toNat
             rw[←hz]at hrow
             split at h
             · rename_i k c
               split at h
               · rename_i f ty' d xs hk
                 split at h
                 · rename_i hc
                   obtain⟨hcd,hef,hte⟩:=hc
                   simp only[OpR.ok.injEq]at h
                   obtain⟨rfl,rfl,rfl,rfl,rfl,rfl⟩:=h
                   have hef':=shEqs_eq e f hef
                   subst hef'; subst hte
                   simp only[VR]at hs
                   obtain⟨hd,_,_,hv⟩:=hs
                   have hHk:H k=some (.row e ty' d xs):=by rw[hag k (.inl (by simp)) hd,hk]
                   obtain⟨hb1,h1,h2⟩:=hH.rep k hd
                   rw[hHk]at h1
                   simp only[AlC]at h1
                   subst h1
                   obtain⟨hL,hck,m,us,hown,hnx',hr⟩:=h2
                   have hvv:u=V.p k:=hv (by have:V.c k=d:=hck; rw[this]; exact hcd)
                   have hown':OwnRow V.w ty' size u m us:=by rw[hvv,c1]; exact hown
                   obtain⟨h0,h48⟩:=hchk
                   simp only[pLe]at h0
                   obtain⟨q,rfl⟩:=Amf h0
                   simp only[Abb,iLen,iAdd,AmM]at h48 hrow ⊢
                   obtain⟨v',w',r1,r2,r3,r4,r5,r6,r7,r8⟩:=run_appendZ (P:=P) (V:=V) (k:=kx) hu hu' hi hzv hisz hby hzc hone' c3 c4 hown' (m:=q) (by rw[hnx']; have:((xs.length+q:Nat):Int)*(by_:Int)<=140737488355328:=(by rw[Amr]; exact h48); omega) ty
                   have hkl:k<heap.length:=(List.getElem?_eq_some_iff.1 hk).1
                   obtain⟨hg2,hH2⟩:=row_step (H':=newH heap (heap.set k (.row e ty' (c+1) (xs++List.replicate q zs))) [k] H) hH hd hL
                    (by obtain⟨a,cap,h,_⟩:=hown.slice; exact⟨a,_,cap,h⟩) (w':=w') (v':=v') (c':=c+1) r3 r4 r5 r6
                    (by rw[hck]; omega) (λh=>by rw[hck]at h; omega)
                    (λb hb hne=>r7 b hb (by rw[hvv]; exact hne)) (λb hb=>by rw[hvv]at r8; exact r8 b hb)
                    (e:=e) (t:=ty') (xs':=xs++List.replicate q zs) (us':=us++(List.replicate q zv.cells.toList).flatten) (by rw[←c1,AlF,Amx,←hnx']; exact r2) (hr.append hrow)
                    (by unfold newH; rw[if_pos (.inl (by simp))]; simp[hkl])
                    (λj hj hne=>by
                     unfold newH;rw[if_neg];rintro(h|h)
                     · simp at h; exact hne h
                     · simp at h; omega)
                   refine⟨v',V.upd k w' v' (c+1),r1,hg2,?_,hH2,λj=>⟨.inl,λh=>h.elim id (λh=>by simp at h; omega)⟩⟩
                   simp only[VR]
                   refine⟨hd,by simp[Vw.upd],?_,λ_=>by simp[Vw.upd]⟩
                   obtain⟨a,cap,h,_⟩:=r2.slice
                   exact .inl ⟨a,_,cap,h⟩
                 · cases h
               · cases h
             all_goals first|(cases h; done)|skip
             all_goals
              simp only[OpR.ok.injEq]at h
              obtain⟨rfl,rfl,rfl,rfl,rfl,rfl⟩:=h
              have hown0:OwnRow V.w elem size u 0 []/\blkOf u=none:=by
               simp only[VR]at hs
               first
               |(subst hs; exact⟨⟨by simp,.inl ⟨rfl,_,rfl⟩⟩,rfl⟩)
               |(obtain⟨a,rfl⟩:=hs; exact⟨⟨by simp,.inl ⟨rfl,_,rfl⟩⟩,by cases a<;>simp[blkOf]⟩)
              obtain⟨h0,h48⟩:=hchk
              simp only[pLe]at h0
              obtain⟨q,rfl⟩:=Amf h0
              simp only[Abb,AmM]at h48 hrow hn ⊢
              obtain⟨v',w',r1,r2,r3,r4,r5,r6,r7,r8⟩:=run_appendZ (P:=P) (V:=V) (k:=kx) hu hu' hi hzv hisz hby hzc hone' c3 c4 hown0.1 (m:=q) (by rw[AmK]; omega) ty
              have hnn:¬V.D heap.length:=hn _ (AlT _) (by simp)
              have hnew:=AdF (H:=H) hn
              obtain⟨hg2,hH2⟩:=row_new (V:=V) (H':=newH heap (heap++[.row e elem 0 (List.replicate q zs)]) [] H) hH hnn (w':=w') (v':=v') r3 r4 r5 r6 (λb hb=>r7 b hb (by rw[hown0.2]; simp))
               (λb hb=>by
                obtain⟨h1,h2⟩:=r8 b hb;rw[hown0.2]at h1;exact⟨h1.elim (λh=>by cases h) id,h2⟩)
               (e:=e) (t:=elem) (xs':=List.replicate q zs) (us':=(List.replicate q zv.cells.toList).flatten) (by rw[←c1,Amx]; simpa using r2) hrow hnew.1 hnew.2
              refine⟨v',V.newR heap.length w' v',r1,hg2,?_,hH2,λj=> ?_⟩
              · simp only[VR]
                refine⟨.inr rfl,by simp,?_,λ_=>by simp[Vw.newR]⟩
                obtain⟨a,cap,h,_⟩:=r2.slice
                exact .inl ⟨a,_,cap,h⟩
              · simp only[Vw.newR,AlF,AlJ]
                constructor
                · rintro(h|h)
                  · exact .inl h
                  · exact .inr (by omega)
                · rintro(h|h)
                  · exact .inl h
                  · exact .inr (by omega)
           · cases hz
       · cases h
     · cases h
   · cases h
 · cases h
theorem sAppend_run {t ty:TypeId} {heap heap':List HB} {s x:SV} {u v:Value} {hyp chk:Q} {sv:SV} {R W:List Nat} (h:AeF P t heap s x= .ok hyp chk sv heap' R W) (hchk:chk.h)
 (hs:VR V s u) (hx:VR V x v) (hH:Heap V H) (hag:∀k,k∈R∨k∈W->V.D k->H k=heap[k]?) (hn:∀k,heap.length<=k->k<heap'.length->¬V.D k):
 ∃v' V',(Builtin.append_ #[t,t] ty #[u,v]).run P V.w= .ok v' V'.w/\Grow V V' W/\VR V' sv v'/\Heap V' (newH heap heap' W H)/\∀k,V'.D k↔V.D k∨(heap.length<=k/\k<heap'.length):=by
 unfold AeF at h;split at h
 · exact Ago h hchk hs hx hH hag hn
 · exact Agn h hchk hs hx hH hag hn
 · exact sAppend0_run h hchk hs hx hH hag hn
end Go.Sx

