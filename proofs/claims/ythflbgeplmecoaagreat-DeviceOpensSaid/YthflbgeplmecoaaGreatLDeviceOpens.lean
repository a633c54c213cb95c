/- soundservicelaw: DeviceOpens returns true whatever the input, and leaves what came in as it was. No condition but the row's own. -/
import Derived.Test.YthflbgeplmecoaaGreatRows
import Derived.Test.YthflbgeplmecoaaGreatSxOpen
import Derived.Test.YthflbgeplmecoaaGreatM25
namespace Go.Proofs.YthflbgeplmecoaaGreat.deviceOpensDone
open Go.ChangeShapes Go.WideShapes Go.ChangeAt Go.RowKit
open Go.Sx
set_option linter.unusedVariables false
theorem own:ownKnob Tryz.prog.godebug=none:=by kernel_rfl
theorem laidOut:laidOutB Tryz.prog=true:=by kernel_rfl
set_option maxRecDepth 100000 in
theorem lifted (os:Os) (started:os.Started) (H:Type) (enc:TypeId×Value→H):
 ReturnsInHanded {} Tryz.checked os 8 .any (Rows.deviceOpensSpec.pre6 enc Tryz.prog Tryz.f8 Rows.deviceOpensRow.domain false) (Rows.deviceOpensSpec.post enc Tryz.prog Tryz.f8 false true false false):=by
 refine returnsInHanded_of_change (C:=Tryz.checked) own started (by kernel_rfl) Tryz.func8
  (ChangeSpec.witness6 (enc:=enc) (C:=Tryz.checked) false ⟨#[], #[.agg #[.int .u64 0,.string ByteArray.empty,.int .i64 0,.int .i64 0,.int .i64 0,.int .i64 0,.int .i64 0,.slice none 0 0,.int .i64 0,.int .i64 0,.slice none 0 0,.int .i64 0,.int .i64 0,.int .i64 0,.slice none 0 0,.bool false,.int .i64 0,.int .i64 0,.int .i64 0,.int .i64 0,.int .i64 0,.int .i64 0,.int .i64 0,.int .i64 0,.int .i64 0,.int .i64 0,.int .i64 0,.int .i64 0,.slice none 0 0,.int .i64 0,.int .i64 0],.agg #[.int .u64 0,.string ByteArray.empty,.int .i64 0,.int .i64 0,.int .i64 0,.int .i64 0,.int .i64 0,.slice none 0 0],.agg #[.int .i64 0,.int .i64 0,.slice none 0 0,.int .i64 0],.agg #[.slice none 0 0],.slice none 0 0,.int .i64 0,.int .i64 0,.int .i64 0],[]⟩ 8 (by kernel_rfl) (by kernel_rfl) (by kernel_rfl) (by kernel_rfl)) ?_
 intro W base args ds gs before hval0 hW hcnd _
 have hval:∀(j:Nat) t v,Tryz.f8.params[j]? =some t→args[j]? =some v→Value.okWide Tryz.prog W .any base t v:=hval0
 have hW':=hW
 obtain⟨p,q,hA0,hVs,rfl,hfz,hnd⟩:=hW
 have hA:DataW.TrodAll enc Tryz.prog W 0 (fun _=>true) true Tryz.f8.params.toList args.toList ds p:=hA0
 rw[Tryz.params8]at hA hval
 obtain⟨v0,vs0,d0,ds0,p0,q0,hargs,rfl,rfl,h0,r0⟩:=trodAll_cons hA
 obtain⟨v1,vs1,d1,ds1,p1,q1,rfl,rfl,rfl,h1,r1⟩:=trodAll_cons r0
 obtain⟨v2,vs2,d2,ds2,p2,q2,rfl,rfl,rfl,h2,r2⟩:=trodAll_cons r1
 obtain⟨v3,vs3,d3,ds3,p3,q3,rfl,rfl,rfl,h3,r3⟩:=trodAll_cons r2
 obtain⟨v4,vs4,d4,ds4,p4,q4,rfl,rfl,rfl,h4,r4⟩:=trodAll_cons r3
 obtain⟨v5,vs5,d5,ds5,p5,q5,rfl,rfl,rfl,h5,r5⟩:=trodAll_cons r4
 obtain⟨v6,vs6,d6,ds6,p6,q6,rfl,rfl,rfl,h6,r6⟩:=trodAll_cons r5
 obtain⟨v7,vs7,d7,ds7,p7,q7,rfl,rfl,rfl,h7,r7⟩:=trodAll_cons r6
 obtain⟨rfl,rfl,rfl⟩:=trodAll_nil r7
 obtain rfl:args= #[v0,v1,v2,v3,v4,v5,v6,v7]:=by cases args; simp_all
 obtain⟨rfl,rfl⟩:=trodVars_none hVs
 have lt0:∀x∈p0,x.block<W.heap.size:=by obtain⟨m,hm⟩:=h0; exact DataW.trod_lt m _ _ _ hm
 obtain⟨c0,w0,x0⟩:=open_arg (n:=8) (g:=true) (e:=hV) (by kernel_rfl) (by kernel_rfl) (hval 0 48 v0 rfl rfl) h0
 have lt1:∀x∈p1,x.block<W.heap.size:=by obtain⟨m,hm⟩:=h1; exact DataW.trod_lt m _ _ _ hm
 obtain⟨c1,w1,x1⟩:=open_arg (n:=8) (g:=true) (e:=hD) (by kernel_rfl) (by kernel_rfl) (hval 1 27 v1 rfl rfl) h1
 have lt2:∀x∈p2,x.block<W.heap.size:=by obtain⟨m,hm⟩:=h2; exact DataW.trod_lt m _ _ _ hm
 obtain⟨c2,w2,x2⟩:=open_arg (n:=8) (g:=true) (e:=[.int .i64,.int .i64,.sl hI,.int .i64]) (by kernel_rfl) (by kernel_rfl) (hval 2 32 v2 rfl rfl) h2
 have lt3:∀x∈p3,x.block<W.heap.size:=by obtain⟨m,hm⟩:=h3; exact DataW.trod_lt m _ _ _ hm
 obtain⟨c3,w3,x3⟩:=open_arg (n:=8) (g:=true) (e:=[.sl hS]) (by kernel_rfl) (by kernel_rfl) (hval 3 35 v3 rfl rfl) h3
 have lt4:∀x∈p4,x.block<W.heap.size:=by obtain⟨m,hm⟩:=h4; exact DataW.trod_lt m _ _ _ hm
 obtain⟨c4,w4,x4⟩:=open_arg (n:=8) (g:=false) (e:=[.sl hB]) (by kernel_rfl) (by kernel_rfl) (hval 4 22 v4 rfl rfl) h4
 have lt5:∀x∈p5,x.block<W.heap.size:=by obtain⟨m,hm⟩:=h5; exact DataW.trod_lt m _ _ _ hm
 obtain⟨c5,w5,x5⟩:=open_arg (n:=8) (g:=false) (e:=[.int .i64]) (by kernel_rfl) (by kernel_rfl) (hval 5 3 v5 rfl rfl) h5
 have lt6:∀x∈p6,x.block<W.heap.size:=by obtain⟨m,hm⟩:=h6; exact DataW.trod_lt m _ _ _ hm
 obtain⟨c6,w6,x6⟩:=open_arg (n:=8) (g:=false) (e:=[.int .i64]) (by kernel_rfl) (by kernel_rfl) (hval 6 3 v6 rfl rfl) h6
 have lt7:∀x∈p7,x.block<W.heap.size:=by obtain⟨m,hm⟩:=h7; exact DataW.trod_lt m _ _ _ hm
 obtain⟨c7,w7,x7⟩:=open_arg (n:=8) (g:=false) (e:=[.int .i64]) (by kernel_rfl) (by kernel_rfl) (hval 7 2 v7 rfl rfl) h7
 have hv:VRs (V0 W) (ofRess [(true,hV),(true,hD),(true,hC),(true,[.sl hS]),(false,[.sl hB]),(false,hI),(false,hI),(false,hI)] [c0,c1,c2,c3,c4,c5,c6,c7]) [v0,v1,v2,v3,v4,v5,v6,v7]:=⟨v0,_,rfl,x0,v1,_,rfl,x1,v2,_,rfl,x2,v3,_,rfl,x3,v4,_,rfl,x4,v5,_,rfl,x5,v6,_,rfl,x6,v7,_,rfl,x7,rfl⟩
 have hw:Wfs (ofRess [(true,hV),(true,hD),(true,hC),(true,[.sl hS]),(false,[.sl hB]),(false,hI),(false,hI),(false,hI)] [c0,c1,c2,c3,c4,c5,c6,c7]):=⟨w0,w1,w2,w3,w4,w5,w6,w7,trivial⟩
 clear hA0 hval0
 refine(law_calls followsMixed (look_sound (tbR_ok _)) (hyp_of (Go.Sx.u8 c0 c1 (cel 0 c2).int (cel 1 c2).int (cel 2 c2).list (cel 3 c2).int (cel 0 c3).list (cel 0 c4).list (cel 0 c5).int (cel 0 c6).int (cel 0 c7).int).out ((wfPs_iff _).2 hw)) hw hv).mono fun e W' ⟨he,bel⟩=> ?_
 subst he
 exact⟨_,rfl,_,_,_,[],_,[],hW',trodAll_mk1 (shut_bool Tryz.underlying4 _),(trodAll_cons_mk (Below.trod laidOut (by kernel_rfl) (of_decide_eq_true (by kernel_rfl)) h0 bel lt0) (trodAll_cons_mk (Below.trod laidOut (by kernel_rfl) (of_decide_eq_true (by kernel_rfl)) h1 bel lt1) (trodAll_cons_mk (Below.trod laidOut (by kernel_rfl) (of_decide_eq_true (by kernel_rfl)) h2 bel lt2) (trodAll_cons_mk (Below.trod laidOut (by kernel_rfl) (of_decide_eq_true (by kernel_rfl)) h3 bel lt3) (trodAll_cons_mk (Below.trod laidOut (by kernel_rfl) (of_decide_eq_true (by kernel_rfl)) h4 bel lt4) (trodAll_cons_mk (Below.trod laidOut (by kernel_rfl) (of_decide_eq_true (by kernel_rfl)) h5 bel lt5) (trodAll_cons_mk (Below.trod laidOut (by kernel_rfl) (of_decide_eq_true (by kernel_rfl)) h6 bel lt6) (trodAll_cons_mk (Below.trod laidOut (by kernel_rfl) (of_decide_eq_true (by kernel_rfl)) h7 bel lt7) trodAll_mk0)))))))),rfl,bel.frame _,fun h=>by cases h⟩
theorem j1:(mapsRowed Tryz.prog)=true:=by kernel_rfl
theorem j2:(Rows.deviceOpensRow.inPlace==Tryz.prog.inPlace 8)=true:=by kernel_rfl
theorem j3:(Rows.deviceOpensRow.unfollowed==Tryz.prog.unfollowed 8)=true:=by kernel_rfl
theorem j4:(Rows.deviceOpensRow.recurses==Tryz.prog.recurses 8)=true:=by kernel_rfl
theorem j5:(Rows.deviceOpensRow.named==Tryz.prog.varsNamed 8)=true:=by kernel_rfl
theorem j6:(Rows.deviceOpensRow.plainKeys==Tryz.prog.plainKeys)=true:=by kernel_rfl
theorem j7:(Tryz.prog.stopsHeard)=true:=by kernel_rfl
theorem j8:(Tryz.prog.mayEnter)=true:=by kernel_rfl
theorem j9:(Rows.deviceOpensRow.lifted==Tryz.prog.liftsFinal)=true:=by kernel_rfl
theorem ja:(Tryz.prog.make==some Rows.deviceOpensRow.make)=true:=by kernel_rfl
theorem facts:joinedFacts Tryz.prog 8 Tryz.f8 Rows.deviceOpensSpec Rows.deviceOpensRow=true:=by
 unfold joinedFacts
 rw[laidOut,j1,j2,j3,j4,j5,j6,j7,j8,j9,ja]
 kernel_rfl
theorem over:Rows.deviceOpensRow.holds Tryz.pinned (OpenSpec.ofChange Rows.deviceOpensSpec):=
 OpenClaim.holds_of_wide 8 Tryz.f8 rfl rfl rfl rfl rfl rfl rfl ⟨rfl,rfl,rfl,rfl,rfl⟩ rfl rfl rfl rfl rfl (by kernel_rfl) Tryz.func8 facts
  (of_decide_eq_true (by kernel_rfl)) (by unfold Func.isWrapper; first|(rw[if_pos (by decide+kernel)]; kernel_rfl)|(rw[if_neg (by decide+kernel)]; exact⟨rfl,rfl⟩))
  (fun os started H enc _=>lifted os started H enc)
theorem proved:Rows.DeviceOpensSaid:=over
#print axioms proved
end Go.Proofs.YthflbgeplmecoaaGreat.deviceOpensDone

