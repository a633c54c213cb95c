/- soundservicelaw: AnalyserTrusts returns true whatever the input, and leaves what came in as it was. No condition but the row's own. -/
import Derived.Test.YtejdbdegdanecaaGreatRows
import Derived.Test.YtejdbdegdanecaaGreatSxOpen
import Derived.Test.YtejdbdegdanecaaGreatN39
namespace Go.Proofs.YtejdbdegdanecaaGreat.analyserTrustsDone
open Go.ChangeShapes Go.WideShapes Go.ChangeAt Go.RowKit
open Go.Sx
set_option linter.unusedVariables false
theorem own:ownKnob Tryz.prog.godebug=none:=by kernel_rfl
theorem laidOut:laidOutB Tryz.prog=true:=by kernel_rfl
set_option maxRecDepth 100000 in
theorem lifted (os:Os) (started:os.Started) (H:Type) (enc:TypeId×Value→H):
 ReturnsInHanded {} Tryz.checked os 3 .any (Rows.analyserTrustsSpec.pre6 enc Tryz.prog Tryz.f3 Rows.analyserTrustsRow.domain false) (Rows.analyserTrustsSpec.post enc Tryz.prog Tryz.f3 false true false false):=by
 refine returnsInHanded_of_change (C:=Tryz.checked) own started (by kernel_rfl) Tryz.func3
  (ChangeSpec.witness6 (enc:=enc) (C:=Tryz.checked) false ⟨#[], #[.slice none 0 0,.int .i64 0],[]⟩ 8 (by kernel_rfl) (by kernel_rfl) (by kernel_rfl) (by kernel_rfl)) ?_
 intro W base args ds gs before hval0 hW hcnd _
 have hval:∀(j:Nat) t v,Tryz.f3.params[j]? =some t→args[j]? =some v→Value.okWide Tryz.prog W .any base t v:=hval0
 have hW':=hW
 obtain⟨p,q,hA0,hVs,rfl,hfz,hnd⟩:=hW
 have hA:DataW.TrodAll enc Tryz.prog W 0 (fun _=>true) true Tryz.f3.params.toList args.toList ds p:=hA0
 rw[Tryz.params3]at hA hval
 obtain⟨v0,vs0,d0,ds0,p0,q0,hargs,rfl,rfl,h0,r0⟩:=trodAll_cons hA
 obtain⟨v1,vs1,d1,ds1,p1,q1,rfl,rfl,rfl,h1,r1⟩:=trodAll_cons r0
 obtain⟨rfl,rfl,rfl⟩:=trodAll_nil r1
 obtain rfl:args= #[v0,v1]:=by cases args; simp_all
 obtain⟨rfl,rfl⟩:=trodVars_none hVs
 have lt0:∀x∈p0,x.block<W.heap.size:=by obtain⟨m,hm⟩:=h0; exact DataW.trod_lt m _ _ _ hm
 obtain⟨c0,w0,x0⟩:=open_arg (n:=8) (g:=false) (e:=[.sl hI]) (by kernel_rfl) (by kernel_rfl) (hval 0 22 v0 rfl rfl) h0
 have lt1:∀x∈p1,x.block<W.heap.size:=by obtain⟨m,hm⟩:=h1; exact DataW.trod_lt m _ _ _ hm
 obtain⟨c1,w1,x1⟩:=open_arg (n:=8) (g:=false) (e:=[.int .i64]) (by kernel_rfl) (by kernel_rfl) (hval 1 3 v1 rfl rfl) h1
 have hv:VRs (V0 W) (ofRess [(false,hL),(false,hI)] [c0,c1]) [v0,v1]:=⟨v0,_,rfl,x0,v1,_,rfl,x1,rfl⟩
 have hw:Wfs (ofRess [(false,hL),(false,hI)] [c0,c1]):=⟨w0,w1,trivial⟩
 clear hA0 hval0
 refine(Ajg AbT (Acb (AeA _)) (hyp_of (Go.Sx.uu3 (cel 0 c0).list (cel 0 c1).int).out ((wfPs_iff _).2 hw)) hw hv).mono fun e W' ⟨he,bel⟩=> ?_
 subst he
 exact⟨_,rfl,_,_,_,[],_,[],hW',trodAll_mk1 (shut_bool Tryz.underlying4 _),(trodAll_cons_mk (Below.trod laidOut (by kernel_rfl) (of_decide_eq_true (by kernel_rfl)) h0 bel lt0) (trodAll_cons_mk (Below.trod laidOut (by kernel_rfl) (of_decide_eq_true (by kernel_rfl)) h1 bel lt1) trodAll_mk0)),rfl,bel.frame _,fun h=>by cases h⟩
theorem j1:(mapsRowed Tryz.prog)=true:=by kernel_rfl
theorem j2:(Rows.analyserTrustsRow.inPlace==Tryz.prog.inPlace 3)=true:=by kernel_rfl
theorem j3:(Rows.analyserTrustsRow.unfollowed==Tryz.prog.unfollowed 3)=true:=by kernel_rfl
theorem j4:(Rows.analyserTrustsRow.recurses==Tryz.prog.recurses 3)=true:=by kernel_rfl
theorem j5:(Rows.analyserTrustsRow.named==Tryz.prog.varsNamed 3)=true:=by kernel_rfl
theorem j6:(Rows.analyserTrustsRow.plainKeys==Tryz.prog.plainKeys)=true:=by kernel_rfl
theorem j7:(Tryz.prog.stopsHeard)=true:=by kernel_rfl
theorem j8:(Tryz.prog.mayEnter)=true:=by kernel_rfl
theorem j9:(Rows.analyserTrustsRow.lifted==Tryz.prog.liftsFinal)=true:=by kernel_rfl
theorem ja:(Tryz.prog.make==some Rows.analyserTrustsRow.make)=true:=by kernel_rfl
theorem facts:joinedFacts Tryz.prog 3 Tryz.f3 Rows.analyserTrustsSpec Rows.analyserTrustsRow=true:=by
 unfold joinedFacts
 rw[laidOut,j1,j2,j3,j4,j5,j6,j7,j8,j9,ja]
 kernel_rfl
theorem over:Rows.analyserTrustsRow.holds Tryz.pinned (OpenSpec.ofChange Rows.analyserTrustsSpec):=
 OpenClaim.holds_of_wide 3 Tryz.f3 rfl rfl rfl rfl rfl rfl rfl ⟨rfl,rfl,rfl,rfl,rfl⟩ rfl rfl rfl rfl rfl (by kernel_rfl) Tryz.func3 facts
  (of_decide_eq_true (by kernel_rfl)) (by unfold Func.isWrapper; first|(rw[if_pos (by decide+kernel)]; kernel_rfl)|(rw[if_neg (by decide+kernel)]; exact⟨rfl,rfl⟩))
  (fun os started H enc _=>lifted os started H enc)
theorem proved:Rows.AnalyserTrustsSaid:=over
#print axioms proved
end Go.Proofs.YtejdbdegdanecaaGreat.analyserTrustsDone

