/- soundservicelaw: PolicyDecides returns true whatever the input, and leaves what came in as it was. No condition but the row's own. -/
import Derived.Test.YtfeejcmeibfomaaRows
import Derived.Test.YtfeejcmeibfomaaSxOpen
import Derived.Test.YtfeejcmeibfomaaP31q
namespace Go.Proofs.Ytfeejcmeibfomaa.policyDecidesDone
open Go.ChangeShapes Go.WideShapes Go.ChangeAt Go.RowKit
open Go.Sx
set_option linter.unusedVariables false
theorem own : ownKnob Try.prog.godebug = none := by kernel_rfl
theorem laidOut : laidOutB Try.prog = true := by kernel_rfl
theorem tabled : Tb Try.prog tb3 := ⟨s7, ⟨s9, ⟨s10, ⟨s11, ⟨s12, ⟨s14, ⟨s15, ⟨s13, ⟨s16, ⟨s17, ⟨s18, ⟨s19, ⟨s20, trivial⟩⟩⟩⟩⟩⟩⟩⟩⟩⟩⟩⟩⟩
set_option maxRecDepth 100000 in
theorem lifted (os : Os) (started : os.Started) (H : Type) (enc : TypeId × Value → H) :
    ReturnsInHanded {} Try.checked os 3 .any (Rows.policyDecidesSpec.pre6 enc Try.prog Try.f3 Rows.policyDecidesRow.domain false) (Rows.policyDecidesSpec.post enc Try.prog Try.f3 false true false false) := by
  refine returnsInHanded_of_change (C := Try.checked) own started (by kernel_rfl) Try.func3
    (ChangeSpec.witness6 (enc := enc) (C := Try.checked) false ⟨#[], #[.slice none 0 0, .slice none 0 0, .agg #[.slice none 0 0], .slice none 0 0, .slice none 0 0], []⟩ 8 (by kernel_rfl) (by kernel_rfl) (by kernel_rfl) (by kernel_rfl)) ?_
  intro W base args ds gs before hval0 hW hcnd _
  have hval : ∀ (j : Nat) t v, Try.f3.params[j]? = some t → args[j]? = some v → Value.okWide Try.prog W .any base t v := hval0
  have hW' := hW
  obtain ⟨p, q, hA0, hV, rfl, hfz, hnd⟩ := hW
  have hA : DataW.TrodAll enc Try.prog W 0 (fun _ => true) true Try.f3.params.toList args.toList ds p := hA0
  rw [Try.params3] at hA hval
  obtain ⟨v0, vs0, d0, ds0, p0, q0, hargs, rfl, rfl, h0, r0⟩ := trodAll_cons hA
  obtain ⟨v1, vs1, d1, ds1, p1, q1, rfl, rfl, rfl, h1, r1⟩ := trodAll_cons r0
  obtain ⟨v2, vs2, d2, ds2, p2, q2, rfl, rfl, rfl, h2, r2⟩ := trodAll_cons r1
  obtain ⟨v3, vs3, d3, ds3, p3, q3, rfl, rfl, rfl, h3, r3⟩ := trodAll_cons r2
  obtain ⟨v4, vs4, d4, ds4, p4, q4, rfl, rfl, rfl, h4, r4⟩ := trodAll_cons r3
  obtain ⟨rfl, rfl, rfl⟩ := trodAll_nil r4
  obtain rfl : args = #[v0, v1, v2, v3, v4] := by cases args; simp_all
  obtain ⟨rfl, rfl⟩ := trodVars_none hV
  have lt0 : ∀ x ∈ p0, x.block < W.heap.size := by obtain ⟨m, hm⟩ := h0; exact DataW.trod_lt m _ _ _ hm
  obtain ⟨c0, w0, x0⟩ := open_arg (n := 8) (g := false) (e := [.sl [.int .i64]]) (by kernel_rfl) (by kernel_rfl) (hval 0 22 v0 rfl rfl) h0
  have lt1 : ∀ x ∈ p1, x.block < W.heap.size := by obtain ⟨m, hm⟩ := h1; exact DataW.trod_lt m _ _ _ hm
  obtain ⟨c1, w1, x1⟩ := open_arg (n := 8) (g := false) (e := [.sl [.int .i64, .str, .str, .int .i64, .sl [.int .i64, .str]]]) (by kernel_rfl) (by kernel_rfl) (hval 1 23 v1 rfl rfl) h1
  have lt2 : ∀ x ∈ p2, x.block < W.heap.size := by obtain ⟨m, hm⟩ := h2; exact DataW.trod_lt m _ _ _ hm
  obtain ⟨c2, w2, x2⟩ := open_arg (n := 8) (g := true) (e := [.sl [.str, .sl [.int .u64], .int .u64]]) (by kernel_rfl) (by kernel_rfl) (hval 2 26 v2 rfl rfl) h2
  have lt3 : ∀ x ∈ p3, x.block < W.heap.size := by obtain ⟨m, hm⟩ := h3; exact DataW.trod_lt m _ _ _ hm
  obtain ⟨c3, w3, x3⟩ := open_arg (n := 8) (g := false) (e := [.sl [.int .i64, .str, .int .i64, .bool, .int .u64]]) (by kernel_rfl) (by kernel_rfl) (hval 3 27 v3 rfl rfl) h3
  have lt4 : ∀ x ∈ p4, x.block < W.heap.size := by obtain ⟨m, hm⟩ := h4; exact DataW.trod_lt m _ _ _ hm
  obtain ⟨c4, w4, x4⟩ := open_arg (n := 8) (g := false) (e := [.sl [.int .u64, .str, .int .i64]]) (by kernel_rfl) (by kernel_rfl) (hval 4 28 v4 rfl rfl) h4
  have hv : VRs (V0 W) (ofRess [(false, [.sl [.int .i64]]), (false, [.sl [.int .i64, .str, .str, .int .i64, .sl [.int .i64, .str]]]), (true, [.sl [.str, .sl [.int .u64], .int .u64]]), (false, [.sl [.int .i64, .str, .int .i64, .bool, .int .u64]]), (false, [.sl [.int .u64, .str, .int .i64]])] [c0, c1, c2, c3, c4]) [v0, v1, v2, v3, v4] := ⟨v0, _, rfl, x0, v1, _, rfl, x1, v2, _, rfl, x2, v3, _, rfl, x3, v4, _, rfl, x4, rfl⟩
  have hw : Wfs (ofRess [(false, [.sl [.int .i64]]), (false, [.sl [.int .i64, .str, .str, .int .i64, .sl [.int .i64, .str]]]), (true, [.sl [.str, .sl [.int .u64], .int .u64]]), (false, [.sl [.int .i64, .str, .int .i64, .bool, .int .u64]]), (false, [.sl [.int .u64, .str, .int .i64]])] [c0, c1, c2, c3, c4]) := ⟨w0, w1, w2, w3, w4, trivial⟩
  clear hA0 hval0
  refine (law_calls followsMixed (look_sound tabled) ((Go.Sx.v3 (cel 0 c0).list (cel 0 c1).list (cel 0 c2).list (cel 0 c3).list (cel 0 c4).list).out hw trivial) hw hv).mono fun e W' ⟨he, bel⟩ => ?_
  subst he
  exact ⟨_, rfl, _, _, _, [], _, [], hW', trodAll_mk1 (shut_bool Try.underlying4 _), (trodAll_cons_mk (Below.trod laidOut (by kernel_rfl) (of_decide_eq_true (by kernel_rfl)) h0 bel lt0) (trodAll_cons_mk (Below.trod laidOut (by kernel_rfl) (of_decide_eq_true (by kernel_rfl)) h1 bel lt1) (trodAll_cons_mk (Below.trod laidOut (by kernel_rfl) (of_decide_eq_true (by kernel_rfl)) h2 bel lt2) (trodAll_cons_mk (Below.trod laidOut (by kernel_rfl) (of_decide_eq_true (by kernel_rfl)) h3 bel lt3) (trodAll_cons_mk (Below.trod laidOut (by kernel_rfl) (of_decide_eq_true (by kernel_rfl)) h4 bel lt4) trodAll_mk0))))), rfl, bel.frame _, fun h => by cases h⟩
theorem over : Rows.policyDecidesRow.holds Try.pinned (OpenSpec.ofChange Rows.policyDecidesSpec) :=
  OpenClaim.holds_of_wide 3 Try.f3 rfl rfl rfl rfl rfl rfl rfl ⟨rfl, rfl, rfl, rfl, rfl⟩ rfl rfl rfl rfl rfl (by kernel_rfl) Try.func3 (by kernel_rfl)
    (of_decide_eq_true (by kernel_rfl)) (by unfold Func.isWrapper; first | (rw [if_pos (by decide +kernel)]; kernel_rfl) | (rw [if_neg (by decide +kernel)]; exact ⟨rfl, rfl⟩))
    (fun os started H enc _ => lifted os started H enc)
theorem proved : Rows.PolicyDecidesSaid := over
#print axioms proved
end Go.Proofs.Ytfeejcmeibfomaa.policyDecidesDone
