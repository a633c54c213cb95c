/- soundservicelaw: AnalyserWatches returns true whatever the input, and leaves what came in as it was. No condition but the row's own. -/
import Derived.Test.YtejdbdegdanecaaGreatRows
import Derived.Test.YtejdbdegdanecaaGreatSxOpen
import Derived.Test.YtejdbdegdanecaaGreatN39
namespace Go.Proofs.YtejdbdegdanecaaGreat.analyserWatchesDone
open Go.ChangeShapes Go.WideShapes Go.ChangeAt Go.RowKit
open Go.Sx
set_option linter.unusedVariables false
theorem own:ownKnob Tryz.prog.godebug=none:=by kernel_rfl
theorem laidOut:laidOutB Tryz.prog=true:=by kernel_rfl
set_option maxRecDepth 100000 in
theorem lifted (os:Os) (started:os.Started) (H:Type) (enc:TypeId×Value→H):
 ReturnsInHanded {} Tryz.checked os 4 .any (Rows.analyserWatchesSpec.pre6 enc Tryz.prog Tryz.f4 Rows.analyserWatchesRow.domain false) (Rows.analyserWatchesSpec.post enc Tryz.prog Tryz.f4 false true false false):=by
 refine returnsInHanded_of_change (C:=Tryz.checked) own started (by kernel_rfl) Tryz.func4
  (ChangeSpec.witness6 (enc:=enc) (C:=Tryz.checked) false ⟨#[], #[.slice none 0 0,.agg #[.int .u64 0,.slice none 0 0,.bool false],.agg #[.int .i64 0,.int .i64 0],.int .i64 0],[]⟩ 8 (by kernel_rfl) (by kernel_rfl) (by kernel_rfl) (by kernel_rfl)) ?_
 intro W base args ds gs before hval0 hW hcnd _
 have hval:∀(j:Nat) t v,Tryz.f4.params[j]? =some t→args[j]? =some v→Value.okWide Tryz.prog W .any base t v:=hval0
 have hW':=hW
 obtain⟨p,q,hA0,hVs,rfl,hfz,hnd⟩:=hW
 have hA:DataW.TrodAll enc Tryz.prog W 0 (fun _=>true) true Tryz.f4.params.toList args.toList ds p:=hA0
 rw[Tryz.params4]at hA hval
 obtain⟨v0,vs0,d0,ds0,p0,q0,hargs,rfl,rfl,h0,r0⟩:=trodAll_cons hA
 obtain⟨v1,vs1,d1,ds1,p1,q1,rfl,rfl,rfl,h1,r1⟩:=trodAll_cons r0
 obtain⟨v2,vs2,d2,ds2,p2,q2,rfl,rfl,rfl,h2,r2⟩:=trodAll_cons r1
 obtain⟨v3,vs3,d3,ds3,p3,q3,rfl,rfl,rfl,h3,r3⟩:=trodAll_cons r2
 obtain⟨rfl,rfl,rfl⟩:=trodAll_nil r3
 obtain rfl:args= #[v0,v1,v2,v3]:=by cases args; simp_all
 obtain⟨rfl,rfl⟩:=trodVars_none hVs
 have lt0:∀x∈p0,x.block<W.heap.size:=by obtain⟨m,hm⟩:=h0; exact DataW.trod_lt m _ _ _ hm
 obtain⟨c0,w0,x0⟩:=open_arg (n:=8) (g:=false) (e:=[.sl hI]) (by kernel_rfl) (by kernel_rfl) (hval 0 22 v0 rfl rfl) h0
 have lt1:∀x∈p1,x.block<W.heap.size:=by obtain⟨m,hm⟩:=h1; exact DataW.trod_lt m _ _ _ hm
 obtain⟨c1,w1,x1⟩:=open_arg (n:=8) (g:=true) (e:=hWt) (by kernel_rfl) (by kernel_rfl) (hval 1 61 v1 rfl rfl) h1
 have lt2:∀x∈p2,x.block<W.heap.size:=by obtain⟨m,hm⟩:=h2; exact DataW.trod_lt m _ _ _ hm
 obtain⟨c2,w2,x2⟩:=open_arg (n:=8) (g:=true) (e:=[.int .i64,.int .i64]) (by kernel_rfl) (by kernel_rfl) (hval 2 67 v2 rfl rfl) h2
 have lt3:∀x∈p3,x.block<W.heap.size:=by obtain⟨m,hm⟩:=h3; exact DataW.trod_lt m _ _ _ hm
 obtain⟨c3,w3,x3⟩:=open_arg (n:=8) (g:=false) (e:=[.int .i64]) (by kernel_rfl) (by kernel_rfl) (hval 3 3 v3 rfl rfl) h3
 have hv:VRs (V0 W) (ofRess [(false,hL),(true,hWt),(true,hII),(false,hI)] [c0,c1,c2,c3]) [v0,v1,v2,v3]:=⟨v0,_,rfl,x0,v1,_,rfl,x1,v2,_,rfl,x2,v3,_,rfl,x3,rfl⟩
 have hw:Wfs (ofRess [(false,hL),(true,hWt),(true,hII),(false,hI)] [c0,c1,c2,c3]):=⟨w0,w1,w2,w3,trivial⟩
 clear hA0 hval0
 refine(Aiv Aa8 (Abr (AdQ _)) (hyp_of (Go.Sx.u4 (cel 0 c0).list c1 (cel 0 c2).int (cel 1 c2).int (cel 0 c3).int).out ((wfPs_iff _).2 hw)) hw hv).mono fun e W' ⟨he,bel⟩=> ?_
 subst he
 exact⟨_,rfl,_,_,_,[],_,[],hW',trodAll_mk1 (shut_bool Tryz.underlying4 _),(trodAll_cons_mk (Below.trod laidOut (by kernel_rfl) (of_decide_eq_true (by kernel_rfl)) h0 bel lt0) (trodAll_cons_mk (Below.trod laidOut (by kernel_rfl) (of_decide_eq_true (by kernel_rfl)) h1 bel lt1) (trodAll_cons_mk (Below.trod laidOut (by kernel_rfl) (of_decide_eq_true (by kernel_rfl)) h2 bel lt2) (trodAll_cons_mk (Below.trod laidOut (by kernel_rfl) (of_decide_eq_true (by kernel_rfl)) h3 bel lt3) trodAll_mk0)))),rfl,bel.frame _,fun h=>by cases h⟩
theorem j1:(mapsRowed Tryz.prog)=true:=by kernel_rfl
theorem j2:(Rows.analyserWatchesRow.inPlace==Tryz.prog.inPlace 4)=true:=by kernel_rfl
theorem j3:(Rows.analyserWatchesRow.unfollowed==Tryz.prog.unfollowed 4)=true:=by kernel_rfl
theorem j4:(Rows.analyserWatchesRow.recurses==Tryz.prog.recurses 4)=true:=by kernel_rfl
theorem j5:(Rows.analyserWatchesRow.named==Tryz.prog.varsNamed 4)=true:=by kernel_rfl
theorem j6:(Rows.analyserWatchesRow.plainKeys==Tryz.prog.plainKeys)=true:=by kernel_rfl
theorem j7:(Tryz.prog.stopsHeard)=true:=by kernel_rfl
theorem j8:(Tryz.prog.mayEnter)=true:=by kernel_rfl
theorem j9:(Rows.analyserWatchesRow.lifted==Tryz.prog.liftsFinal)=true:=by kernel_rfl
theorem ja:(Tryz.prog.make==some Rows.analyserWatchesRow.make)=true:=by kernel_rfl
theorem facts:joinedFacts Tryz.prog 4 Tryz.f4 Rows.analyserWatchesSpec Rows.analyserWatchesRow=true:=by
 unfold joinedFacts
 rw[laidOut,j1,j2,j3,j4,j5,j6,j7,j8,j9,ja]
 kernel_rfl
theorem over:Rows.analyserWatchesRow.holds Tryz.pinned (OpenSpec.ofChange Rows.analyserWatchesSpec):=
 OpenClaim.holds_of_wide 4 Tryz.f4 rfl rfl rfl rfl rfl rfl rfl ⟨rfl,rfl,rfl,rfl,rfl⟩ rfl rfl rfl rfl rfl (by kernel_rfl) Tryz.func4 facts
  (of_decide_eq_true (by kernel_rfl)) (by unfold Func.isWrapper; first|(rw[if_pos (by decide+kernel)]; kernel_rfl)|(rw[if_neg (by decide+kernel)]; exact⟨rfl,rfl⟩))
  (fun os started H enc _=>lifted os started H enc)
theorem proved:Rows.AnalyserWatchesSaid:=over
#print axioms proved
end Go.Proofs.YtejdbdegdanecaaGreat.analyserWatchesDone

