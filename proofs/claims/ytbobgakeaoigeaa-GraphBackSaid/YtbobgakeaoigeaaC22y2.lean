/- Contracts and conditions, continued. -/
import Derived.Test.YtbobgakeaoigeaaSxUse
import Derived.Test.YtbobgakeaoigeaaC22d
import Derived.Test.YtbobgakeaoigeaaSxFmap
import Derived.KernelRfl
set_option linter.unusedVariables false
set_option linter.unusedSimpArgs false
set_option maxRecDepth 100000
set_option maxHeartbeats 4000000

noncomputable section

namespace Go
open Go.Sx
def Sp.fk (ns : List (List C)) : List Int := (Sp.mkm ns).map Prod.fst
def Sp.fr (ns : List (List C)) : List (List C) := (Sp.mkm ns).map Prod.snd
def Sp.fz (ns : List (List C)) : List (Int × List C) := (Sp.fk ns).zip (Sp.fr ns)
end Go

namespace Go
open Go.Sx
theorem Sp.zip_ms : ∀ (m : List (Int × List C)), (m.map Prod.fst).zip (m.map Prod.snd) = m
  | [] => rfl
  | x :: r => by simp only [List.map_cons, List.zip_cons_cons, Sp.zip_ms r]
theorem Sp.fz_eq (ns : List (List C)) : Sp.fz ns = Sp.mkm ns := Sp.zip_ms _
theorem Sp.kPut_len : ∀ (m : List (Int × List C)) (n : Int) (y : List C), (kPut m n y).length ≤ m.length + 1
  | [], _, _ => Nat.le_refl _
  | x :: r, n, y => by
    simp only [kPut]
    cases decide (x.1 = n)
    · simp only [cond_false, List.length_cons]; have := Sp.kPut_len r n y; omega
    · simp only [cond_true, List.length_cons]; omega
theorem Sp.kPut_mem : ∀ {m : List (Int × List C)} {n : Int} {y : List C} {z : Int × List C}, z ∈ kPut m n y → z ∈ m ∨ z = (n, y)
  | [], _, _, _, h => by simp only [kPut, List.mem_singleton] at h; exact .inr h
  | x :: r, n, y, z, h => by
    simp only [kPut] at h
    cases hx : decide (x.1 = n)
    · rw [hx, cond_false, List.mem_cons] at h
      rcases h with h | h
      · exact .inl (by rw [h]; simp)
      · exact (Sp.kPut_mem h).imp (fun h => by simp [h]) fun h => h
    · rw [hx, cond_true, List.mem_cons] at h
      exact h.symm.imp (fun h => by simp [h]) fun h => h
theorem Sp.mkm_all {ns : List (List C)} : ∀ (xs : List (List C)) (m : List (Int × List C)), (∀ x ∈ xs, x ∈ ns) → (∀ z ∈ m, ∃ x ∈ ns, z.2 = Sp.r4 x) →
    (∀ z ∈ xs.foldl (fun m x => kPut m (Sp.c0 x) (Sp.r4 x)) m, ∃ x ∈ ns, z.2 = Sp.r4 x) ∧ (xs.foldl (fun m x => kPut m (Sp.c0 x) (Sp.r4 x)) m).length ≤ m.length + xs.length
  | [], m, _, h => ⟨h, Nat.le_refl _⟩
  | x :: r, m, hx, h => by
    rw [List.foldl_cons]
    have h1 := Sp.mkm_all r (kPut m (Sp.c0 x) (Sp.r4 x)) (fun y hy => hx y (by simp [hy])) fun z hz => by
      rcases Sp.kPut_mem hz with h2 | h2
      · exact h z h2
      · exact ⟨x, hx x (by simp), by rw [h2]⟩
    refine ⟨h1.1, Nat.le_trans h1.2 ?_⟩
    have := Sp.kPut_len m (Sp.c0 x) (Sp.r4 x)
    simp only [List.length_cons]; omega
theorem Sp.fr_wf (ns ls : List (List C)) (hw : Wfs [.agg [.sl [.int .i64, .int .i64, .int .i64, .int .i64] ns, .sl [.int .i64, .int .i64, .int .i64, .int .i64] ls]]) : Wfs [.sl [.int .i64, .int .i64, .int .i64, .int .i64] (Sp.fr ns)] := by
  simp only [Wfs, Wf, and_true] at hw ⊢
  obtain ⟨⟨hl, hn⟩, _⟩ := hw
  have h := Sp.mkm_all (ns := ns) ns [] (fun _ h => h) (fun z hz => by simp at hz)
  refine ⟨?_, fun x hx => ?_⟩
  · have h2 := h.2
    unfold Sp.fr Sp.mkm
    rw [List.length_map]
    simp only [List.length_nil, Nat.zero_add] at h2
    omega
  · unfold Sp.fr at hx
    obtain ⟨z, hz, rfl⟩ := List.mem_map.1 hx
    obtain ⟨y, hy, he⟩ := h.1 z hz
    have w := hn y hy
    rw [he]
    simp only [WfCs, WfC, Sp.r4, List.headD_cons, List.tail_cons, C.int] at w ⊢
    obtain ⟨_, w0, _, w1, _, w2, _, w3, _⟩ := w
    exact ⟨by simp, w0, by simp, w1, by simp, w2, by simp, w3, trivial⟩
end Go

namespace Go.Sx
/-! ### function 40: graph.find -/
def tb40 : List (Nat × Ct) := []
theorem e40 (ns : List (List C)) (ls : List (List C)) : vcF Go.Proofs.Try.prog (look tb40) (fun _ => false) (fun _ _ => .on (fun sv0 => match sv0.tmps.getD 8 .undef, sv0.tmps.getD 3 .undef with | .sl _ nq, .own mk0 _ => .inv (Int × List (Int × List C)) (fun z => Sp.mI nq z.1 z.2) (fun z => [(10, .int .i64 z.1)]) (fun z => [(mk0, .mp .i64 true [.int .i64, .int .i64, .int .i64, .int .i64] 0 z.2)]) [mk0] [0, 1, 2, 3, 5, 8, 9, 10, 11] (fun z => nq.length - z.1.toNat) | _, _ => .unroll 0)) 8 40 [.agg [.sl [.int .i64, .int .i64, .int .i64, .int .i64] ns, .sl [.int .i64, .int .i64, .int .i64, .int .i64] ls]] [] (fun sv heap => GivesM .i64 true [.int .i64, .int .i64, .int .i64, .int .i64] (Sp.fz ns) sv heap) = (pLe (iLen ns) 9223372036854775807 → (∃ (x : Int × List (Int × List C)), Sp.mI ns x.1 x.2 ∧ true = true ∧ ((IntKind.i64 = IntKind.i64 ∧ 0 = x.1) ∧ True) ∧ (IntKind.i64 = IntKind.i64 ∧ true = true ∧ [Sh.int IntKind.i64] ++ ([Sh.int IntKind.i64] ++ ([Sh.int IntKind.i64] ++ ([Sh.int IntKind.i64] ++ []))) = [Sh.int IntKind.i64, Sh.int IntKind.i64, Sh.int IntKind.i64, Sh.int IntKind.i64] ∧ 0 = 0 ∧ [] = x.2) ∧ True) ∧ (∀ (x : Int × List (Int × List C)), true = true ∧ true = true) ∧ ∀ (x : Int × List (Int × List C)), Sp.mI ns x.1 x.2 → InR IntKind.i64 x.1 ∧ True → (∀ (x_1 : Int × List C), x_1 ∈ x.2 → WfCs [Sh.int IntKind.i64, Sh.int IntKind.i64, Sh.int IntKind.i64, Sh.int IntKind.i64] x_1.2) ∧ True → (bLt x.1 (iLen ns) = true → pIn 0 (iLen ns) x.1 ∧ (InR IntKind.i64 ((rGet ns x.1).headD default).int ∧ InR IntKind.i64 ((rGet ns x.1).tail.headD default).int ∧ InR IntKind.i64 ((rGet ns x.1).tail.tail.headD default).int ∧ InR IntKind.i64 ((rGet ns x.1).tail.tail.tail.headD default).int ∧ True → InR IntKind.i64 (iAdd x.1 1) ∧ (true = true ∧ (fun z => z = z) [SV.agg [SV.sl [Sh.int IntKind.i64, Sh.int IntKind.i64, Sh.int IntKind.i64, Sh.int IntKind.i64] ns, SV.sl [Sh.int IntKind.i64, Sh.int IntKind.i64, Sh.int IntKind.i64, Sh.int IntKind.i64] ls], SV.ref 0 0, SV.any, SV.own 1 0, SV.sl [Sh.int IntKind.i64, Sh.int IntKind.i64, Sh.int IntKind.i64, Sh.int IntKind.i64] ns, SV.int IntKind.i64 (iLen ns)]) ∧ (fun z => z = z) [HB.box [SV.sl [Sh.int IntKind.i64, Sh.int IntKind.i64, Sh.int IntKind.i64, Sh.int IntKind.i64] ns, SV.sl [Sh.int IntKind.i64, Sh.int IntKind.i64, Sh.int IntKind.i64, Sh.int IntKind.i64] ls] 25, HB.gone] ∧ ∃ (y : Int × List (Int × List C)), Sp.mI ns y.1 y.2 ∧ true = true ∧ ((IntKind.i64 = IntKind.i64 ∧ iAdd x.1 1 = y.1) ∧ True) ∧ ((IntKind.i64 = IntKind.i64 ∧ true = true ∧ [Sh.int IntKind.i64] ++ ([Sh.int IntKind.i64] ++ ([Sh.int IntKind.i64] ++ ([Sh.int IntKind.i64] ++ []))) = [Sh.int IntKind.i64, Sh.int IntKind.i64, Sh.int IntKind.i64, Sh.int IntKind.i64] ∧ 0 = 0 ∧ kPut x.2 ((rGet ns x.1).headD default).int [C.i ((rGet ns x.1).headD default).int, C.i ((rGet ns x.1).tail.headD default).int, C.i ((rGet ns x.1).tail.tail.headD default).int, C.i ((rGet ns x.1).tail.tail.tail.headD default).int] = y.2) ∧ True) ∧ ns.length - y.1.toNat < ns.length - x.1.toNat)) ∧ (bLt x.1 (iLen ns) = false → IntKind.i64 = IntKind.i64 ∧ true = true ∧ (fun z => z = z) [Sh.int IntKind.i64, Sh.int IntKind.i64, Sh.int IntKind.i64, Sh.int IntKind.i64] ∧ 0 = 0 ∧ x.2 = Sp.fz ns)) := by kernel_rfl
theorem v40 (ns : List (List C)) (ls : List (List C)) : Holds (Wfs [.agg [.sl [.int .i64, .int .i64, .int .i64, .int .i64] ns, .sl [.int .i64, .int .i64, .int .i64, .int .i64] ls]] → True → vcF Go.Proofs.Try.prog (look tb40) (fun _ => false) (fun _ _ => .on (fun sv0 => match sv0.tmps.getD 8 .undef, sv0.tmps.getD 3 .undef with | .sl _ nq, .own mk0 _ => .inv (Int × List (Int × List C)) (fun z => Sp.mI nq z.1 z.2) (fun z => [(10, .int .i64 z.1)]) (fun z => [(mk0, .mp .i64 true [.int .i64, .int .i64, .int .i64, .int .i64] 0 z.2)]) [mk0] [0, 1, 2, 3, 5, 8, 9, 10, 11] (fun z => nq.length - z.1.toNat) | _, _ => .unroll 0)) 8 40 [.agg [.sl [.int .i64, .int .i64, .int .i64, .int .i64] ns, .sl [.int .i64, .int .i64, .int .i64, .int .i64] ls]] [] (fun sv heap => GivesM .i64 true [.int .i64, .int .i64, .int .i64, .int .i64] (Sp.fz ns) sv heap)) := by
  refine ⟨fun hw hp => ?_⟩
  rw [e40]
  simp only [Wfs, Wf, InR, and_true] at hw
  simp only [eq_self, true_and, and_true, true_implies, implies_true, iAdd, iSub, iMul, iLen, bEq, bNe, bLt, bLe, bNot, pIn, pLe, pNe, InR, decide_eq_true_eq, decide_eq_false_iff_not, Bool.not_eq_true', Bool.not_eq_false', decide_eq_decide]
  intro hln
  refine ⟨⟨(0, []), Sp.mI_init, rfl, rfl, rfl⟩, ?_⟩
  rintro ⟨i, m⟩ hm _ _
  simp only at hm ⊢
  have i0 := hm.1
  refine ⟨fun hil => ⟨⟨i0, hil⟩, fun _ => ⟨by omega, (i + 1, _), Sp.mI_step hm hil, rfl, ⟨rfl, rfl⟩, by simp only; omega⟩⟩, fun hig => ?_⟩
  rw [Sp.mI_end hm hig, Sp.fz_eq]
end Go.Sx

namespace Go.Sx
def ct40 : Ct := { ps := [(true, [.sl [.int .i64, .int .i64, .int .i64, .int .i64], .sl [.int .i64, .int .i64, .int .i64, .int .i64]])], rs := [], pre := fun _ => True, out := fun a => [[.l (Sp.fr (cel 0 (arg 0 a)).list)]], fr := some (64, [.int .i64, .int .i64, .int .i64, .int .i64]), fm := some (.i64, true, fun a => Sp.fk (cel 0 (arg 0 a)).list) }
theorem s40 : SoundCt Go.Proofs.Try.prog 40 ct40 :=
  contractHM followsMixed (look_sound (show Tb Go.Proofs.Try.prog tb40 from trivial)) (fun _ => false) (fun _ => fun _ _ => .on (fun sv0 => match sv0.tmps.getD 8 .undef, sv0.tmps.getD 3 .undef with | .sl _ nq, .own mk0 _ => .inv (Int × List (Int × List C)) (fun z => Sp.mI nq z.1 z.2) (fun z => [(10, .int .i64 z.1)]) (fun z => [(mk0, .mp .i64 true [.int .i64, .int .i64, .int .i64, .int .i64] 0 z.2)]) [mk0] [0, 1, 2, 3, 5, 8, 9, 10, 11] (fun z => nq.length - z.1.toNat) | _, _ => .unroll 0)) 8 40 ct40 rfl rfl rfl rfl rfl
    (fun a hw _ => Sp.fr_wf _ _ hw)
    (fun a => Eq.mp (by kernel_rfl) (v40 (cel 0 (arg 0 a)).list (cel 1 (arg 0 a)).list))
end Go.Sx

