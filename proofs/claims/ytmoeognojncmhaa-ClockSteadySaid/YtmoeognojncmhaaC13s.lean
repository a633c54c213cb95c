/- Contracts and conditions, continued. -/
import Derived.Test.YtmoeognojncmhaaSxUse
import Derived.Test.YtmoeognojncmhaaC13r
import Derived.KernelRfl
set_option linter.unusedVariables false
set_option linter.unusedSimpArgs false
set_option maxRecDepth 100000
set_option maxHeartbeats 4000000

open Go.Proofs

namespace Go
open Go.Sx Go.Proofs
theorem Sp.un_mod (v : Int) : Sp.un (Sp.w1 v) (Sp.w0 v) = v % 340282366920938463463374607431768211456 := by
  unfold Sp.un Sp.w1 Sp.w0; omega
theorem Sp.sg_mod {v d : Int} (h : v % 340282366920938463463374607431768211456 = d % 340282366920938463463374607431768211456) (h0 : -170141183460469231731687303715884105728 ≤ d) (h1 : d < 170141183460469231731687303715884105728) : Sp.sg (Sp.w1 v) (Sp.w0 v) = d := by
  have := Sp.un_mod v
  unfold Sp.sg
  unfold Sp.un at this
  have a : 0 ≤ Sp.w1 v ∧ Sp.w1 v < 18446744073709551616 := by unfold Sp.w1; omega
  have b : 0 ≤ Sp.w0 v ∧ Sp.w0 v < 18446744073709551616 := by unfold Sp.w0; omega
  generalize Sp.w1 v = x at *
  generalize Sp.w0 v = y at *
  split <;> omega
theorem Sp.riD_val {z y : Int} (z0 : -1329227995784915872903807060280344576 ≤ z) (z1 : z ≤ 1329227995784915872903807060280344576) (y0 : -1329227995784915872903807060280344576 ≤ y) (y1 : y ≤ 1329227995784915872903807060280344576) : Sp.riD (Sp.wd z) (Sp.w1 y) (Sp.w0 y) = z - y := by
  show Sp.sg (Sp.w1 (Sp.un (Sp.w1 z) (Sp.w0 z) - Sp.un (Sp.w1 y) (Sp.w0 y))) (Sp.w0 (Sp.un (Sp.w1 z) (Sp.w0 z) - Sp.un (Sp.w1 y) (Sp.w0 y))) = z - y
  refine Sp.sg_mod ?_ (by omega) (by omega)
  rw [Sp.un_mod, Sp.un_mod]
  omega
def Sp.bnd (z : Int) : Prop := -1329227995784915872903807060280344576 ≤ z ∧ z ≤ 1329227995784915872903807060280344576
theorem Sp.riR_pair {m : Int} : ∀ {zs : List Int} {y : Int}, (∀ z ∈ zs, Sp.bnd z) → Sp.bnd y → (Sp.riR m (Sp.w1 y) (Sp.w0 y) (zs.map Sp.wd) = false ↔ (∀ z ∈ zs, z - y ≤ m) ∧ zs.Pairwise fun a b => b - a ≤ m)
  | [], y, _, _ => by simp [Sp.riR]
  | z :: r, y, h, hy => by
    have hz := h z (by simp)
    have hr : ∀ x ∈ r, Sp.bnd x := fun x hx => h x (by simp [hx])
    have ez : Sp.sg (Sp.uh (Sp.wd z)) (Sp.ul (Sp.wd z)) = z := Sp.sg_w (v := z) (by unfold Sp.bnd at hz; omega) (by unfold Sp.bnd at hz; omega)
    have ey : Sp.sg (Sp.w1 y) (Sp.w0 y) = y := Sp.sg_w (v := y) (by unfold Sp.bnd at hy; omega) (by unfold Sp.bnd at hy; omega)
    simp only [List.map_cons, Sp.riR, Sp.riD_val hz.1 hz.2 hy.1 hy.2, ez, ey]
    rw [show Sp.uh (Sp.wd z) = Sp.w1 z from rfl, show Sp.ul (Sp.wd z) = Sp.w0 z from rfl]
    rw [List.pairwise_cons]
    by_cases hm : m < z - y
    · rw [if_pos hm]
      constructor
      · intro h1; cases h1
      · intro h1; have := h1.1 z (by simp); omega
    · rw [if_neg hm]
      by_cases hzy : z < y
      · rw [if_pos hzy, Sp.riR_pair hr hz]
        constructor
        · rintro ⟨h1, h2⟩
          refine ⟨fun x hx => ?_, h1, h2⟩
          rcases List.mem_cons.1 hx with rfl | hx
          · omega
          · have := h1 x hx; omega
        · rintro ⟨h1, h2, h3⟩
          exact ⟨h2, h3⟩
      · rw [if_neg hzy, Sp.riR_pair hr hy]
        constructor
        · rintro ⟨h1, h2⟩
          refine ⟨fun x hx => ?_, fun x hx => ?_, h2⟩
          · rcases List.mem_cons.1 hx with rfl | hx
            · omega
            · exact h1 x hx
          · have := h1 x hx; omega
        · rintro ⟨h1, h2, h3⟩
          exact ⟨fun x hx => h1 x (by simp [hx]), h3⟩
theorem Sp.kpR_pair {m : Int} (hm : 0 ≤ m) {c : Nat} {g : Nat → Int} (hg : ∀ j, j < c → Sp.bnd (g j)) (hc : 0 < c) : Sp.kpR m ((List.range c).map fun j => Sp.wd (g j)) = false ↔ ∀ i j : Nat, i < j → j < c → g j - g i ≤ m := by
  obtain ⟨e, rfl⟩ : ∃ e, c = e + 1 := ⟨c - 1, by omega⟩
  have e1 : (List.range (e + 1)).map (fun j => Sp.wd (g j)) = ((List.range (e + 1)).map g).map Sp.wd := by simp
  have hb : ∀ z ∈ (List.range (e + 1)).map g, Sp.bnd z := fun z hz => by
    obtain ⟨j, hj, rfl⟩ := List.mem_map.1 hz
    exact hg j (List.mem_range.1 hj)
  have e2 : rGet (((List.range (e + 1)).map g).map Sp.wd) 0 = Sp.wd (g 0) := by simp [rGet, List.range_succ_eq_map]
  unfold Sp.kpR
  rw [e1, e2]
  rw [show Sp.uh (Sp.wd (g 0)) = Sp.w1 (g 0) from rfl, show Sp.ul (Sp.wd (g 0)) = Sp.w0 (g 0) from rfl]
  rw [Sp.riR_pair hb (hg 0 (by omega)), List.pairwise_map, List.pairwise_iff_getElem]
  constructor
  · rintro ⟨_, h⟩ i j hij hj
    have := h i j (by simp; omega) (by simp; omega) hij
    simpa using this
  · intro h
    refine ⟨fun z hz => ?_, fun i j hi hj hij => ?_⟩
    · obtain ⟨j, hj, rfl⟩ := List.mem_map.1 hz
      rcases Nat.eq_zero_or_pos j with rfl | hp
      · omega
      · exact h 0 j hp (List.mem_range.1 hj)
    · simp at hi hj ⊢
      exact h i j hij hj
theorem Sp.kpG_facts {xs : List (List C)} {n d dr ji pe fr to : Int} (h : Sp.kpG xs n d dr ji pe fr to = true) : Sp.cval xs = true ∧ Sp.rvalid n d = true ∧ (0 ≤ dr ∧ dr ≤ 4096 ∧ 0 ≤ ji ∧ ji ≤ 65536 ∧ 1 ≤ pe ∧ 0 ≤ fr ∧ to ≤ 1099511627776 ∧ fr ≤ to ∧ (to - fr) / pe < 4096) := by
  unfold Sp.kpG at h
  rw [Bool.and_eq_true, Bool.and_eq_true, decide_eq_true_eq] at h
  exact h
/-- What it is to keep to a declaration. -/
theorem Sp.kpB_iff {xs : List (List C)} {n d dr ji pe fr to : Int} : Sp.kpB xs n d dr ji pe fr to = true ↔ Sp.kpG xs n d dr ji pe fr to = true ∧ ∀ i j : Nat, i < j → j < Sp.kpC pe fr to → Sp.kpH xs n d dr pe fr j - Sp.kpH xs n d dr pe fr i ≤ ji * (d * 65536) ∧ Sp.kpL xs n d dr pe fr j - Sp.kpL xs n d dr pe fr i ≤ ji * (d * 65536) := by
  unfold Sp.kpB
  rw [Bool.and_eq_true, Bool.and_eq_true]
  constructor
  all_goals
    rintro ⟨hG, h⟩
    refine ⟨hG, ?_⟩
    obtain ⟨hv, hr, h0, h1, h2, h3, h4, h5, h6, h7, h8⟩ := Sp.kpG_facts hG
    have q0 : 0 ≤ (to - fr) / pe := Int.ediv_nonneg (by omega) (by omega)
    have hC : (Sp.kpC pe fr to : Int) = (to - fr) / pe + 1 := by unfold Sp.kpC; omega
    have K := fun (j : Nat) (hj : j < Sp.kpC pe fr to) => Sp.kp_bd (z := (j : Int)) (to := to) hv hr h0 h1 h4 h5 h6 h7 (by omega) (by omega)
    have k0 := (K 0 (by omega)).2.2.2.2.1
    have m0 : 0 ≤ ji * (d * 65536) := Int.mul_nonneg h2 k0.1
    have PH := Sp.kpR_pair m0 (c := Sp.kpC pe fr to) (g := fun j => Sp.kpH xs n d dr pe fr j) (fun j hj => by have := K j hj; unfold Sp.bnd Sp.kpH; omega) (by omega)
    have PL := Sp.kpR_pair m0 (c := Sp.kpC pe fr to) (g := fun j => Sp.kpL xs n d dr pe fr j) (fun j hj => by have := K j hj; unfold Sp.bnd Sp.kpL; omega) (by omega)
  · rw [Bool.not_eq_true', Bool.not_eq_true'] at h
    exact fun i j hij hj => ⟨PH.1 h.1 i j hij hj, PL.1 h.2 i j hij hj⟩
  · rw [Bool.not_eq_true', Bool.not_eq_true']
    exact ⟨PH.2 fun i j hij hj => (h i j hij hj).1, PL.2 fun i j hij hj => (h i j hij hj).2⟩
/-- A clock with one segment keeps to its own rate. -/
theorem Sp.kp_one {n d p k : Int} (hc : Sp.cu n d = true) (p1 : 1 ≤ p) (p2 : p ≤ 256) (k0 : 0 ≤ k) (k1 : k < 20) : Sp.kpB [[C.i 0, C.i n, C.i d]] n d 0 1 p 3 (3 + k * p) = true := by
  have hv : Sp.cval [[C.i 0, C.i n, C.i d]] = true := (Sp.cval_one n d).trans hc
  obtain ⟨hr, n1, d1, n2, d2, _, _⟩ := Sp.cu_rv hc
  have kp := mul_bd k0 (show k ≤ 20 by omega) (show 0 ≤ p by omega) p2
  have eq : (3 + k * p - 3) / p = k := by rw [show 3 + k * p - 3 = k * p by omega, Int.mul_ediv_cancel _ (by omega)]
  have hG : Sp.kpG [[C.i 0, C.i n, C.i d]] n d 0 1 p 3 (3 + k * p) = true := by
    unfold Sp.kpG
    rw [Bool.and_eq_true, Bool.and_eq_true, decide_eq_true_eq]
    exact ⟨hv, hr, by omega⟩
  refine Sp.kpB_iff.2 ⟨hG, fun i j hij hj => ?_⟩
  have hC : (Sp.kpC p 3 (3 + k * p) : Int) = k + 1 := by unfold Sp.kpC; rw [eq]; omega
  have val : ∀ z : Nat, (z : Int) ≤ k → ∃ e, 0 ≤ e ∧ e < d ∧ Sp.posn [[C.i 0, C.i n, C.i d]] (3 + z * p) * d = (3 + z * p) * n - e := fun z hz => by
    have b := mul_bd (show (0 : Int) ≤ z by omega) (show (z : Int) ≤ 20 by omega) (show 0 ≤ p by omega) p2
    rw [Sp.posn_one hc (t := 3 + z * p) (by omega) (by omega)]
    have h1 := Int.ediv_mul_add_emod ((3 + z * p) * n) d
    have h2 := Int.emod_nonneg ((3 + z * p) * n) (show d ≠ 0 by omega)
    have h3 := Int.emod_lt_of_pos ((3 + z * p) * n) (show 0 < d by omega)
    exact ⟨(3 + z * p) * n % d, h2, h3, by omega⟩
  obtain ⟨e0, a0, b0, v0⟩ := val 0 (by omega)
  have H : ∀ z : Nat, (z : Int) ≤ k → ∃ e, 0 ≤ e ∧ e < d ∧ Sp.kpH [[C.i 0, C.i n, C.i d]] n d 0 p 3 z = 65536 * (e0 - e) ∧ Sp.kpL [[C.i 0, C.i n, C.i d]] n d 0 p 3 z = 65536 * (e - e0) := fun z hz => by
    obtain ⟨e, a, b, v⟩ := val z hz
    refine ⟨e, a, b, ?_⟩
    have e3 : (3 : Int) + ((0 : Nat) : Int) * p = 3 := by simp
    rw [e3] at v0
    unfold Sp.kpH Sp.kpL Sp.kpN
    generalize Sp.posn [[C.i 0, C.i n, C.i d]] (3 + z * p) = F at *
    generalize Sp.posn [[C.i 0, C.i n, C.i d]] 3 = F0 at *
    rw [show (F - F0) * (d * 65536) = (F * d - F0 * d) * 65536 by rw [← Int.mul_assoc, Int.sub_mul], v, v0, Int.add_mul]
    rw [show (z : Int) * p * (n * (65536 + 0)) = z * p * n * 65536 by rw [Int.add_zero, ← Int.mul_assoc], show (z : Int) * p * (n * (65536 - 0)) = z * p * n * 65536 by rw [Int.sub_zero, ← Int.mul_assoc]]
    generalize (z : Int) * p * n = Y
    constructor <;> omega
  obtain ⟨ei, ai, bi, hi1, hi2⟩ := H i (by omega)
  obtain ⟨ej, aj, bj, hj1, hj2⟩ := H j (by omega)
  rw [hi1, hi2, hj1, hj2]
  constructor <;> omega
/-- What keeps to a declaration keeps to a weaker one. -/
theorem Sp.kp_weak {xs : List (List C)} {dr mo p to : Int} (h : Sp.kpB xs 1 1 dr 5 p 0 to = true) (m0 : 0 ≤ mo) (m1 : dr + mo ≤ 4096) : Sp.kpB xs 1 1 (dr + mo) 6 p 0 to = true := by
  obtain ⟨hG, hp⟩ := Sp.kpB_iff.1 h
  obtain ⟨hv, hr, h0, h1, h2, h3, h4, h5, h6, h7, h8⟩ := Sp.kpG_facts hG
  refine Sp.kpB_iff.2 ⟨?_, fun i j hij hj => ?_⟩
  · unfold Sp.kpG
    rw [Bool.and_eq_true, Bool.and_eq_true, decide_eq_true_eq]
    exact ⟨hv, hr, by omega⟩
  · obtain ⟨a, b⟩ := hp i j hij hj
    have c1 : (i : Int) * p ≤ j * p := Int.mul_le_mul_of_nonneg_right (by omega) (by omega)
    have c2 : (i : Int) * p * mo ≤ j * p * mo := Int.mul_le_mul_of_nonneg_right c1 m0
    unfold Sp.kpH Sp.kpL at *
    generalize (i : Int) * p = x at *
    generalize (j : Int) * p = y at *
    simp only [Int.one_mul, Int.mul_add, Int.mul_sub] at *
    omega
end Go

namespace Go.Sx
/-! ### function 8: law13.ClockSteady -/
def tb8 : List (Nat × Ct) := [(9, ct9), (20, ct20), (29, ct29), (11, ct11), (28, ct28), (22, ct22)]
theorem e8 (s : List (List C)) (pe : Int) (tm : Int) (dr : Int) (mo : Int) : vcF Go.Proofs.Try.prog (look tb8) (fun _ => false) (fun _ _ => .unroll 9) 8 8 [.sl [.int .u8] s, .int .u8 pe, .int .u8 tm, .int .u8 dr, .int .u8 mo] [] (fun sv _ => isTrue sv) = (True ∧ (True → True ∧ (bNot true = true → false = true) ∧ (bNot true = false → pLe (iLen s) 9223372036854775807 → geB none (some (iMin (iLen s) 300)) (iLen s) ∧ True ∧ (InR IntKind.i64 (Sp.raN (cutRows s none (some (iMin (iLen s) 300)))) ∧ InR IntKind.i64 (Sp.raD (cutRows s none (some (iMin (iLen s) 300)))) ∧ True → True ∧ ((((Sp.nwV (Sp.raN (cutRows s none (some (iMin (iLen s) 300)))) (Sp.raD (cutRows s none (some (iMin (iLen s) 300))))).length ≤ 9223372036854775807 ∧ ∀ (x : List C), x ∈ Sp.nwV (Sp.raN (cutRows s none (some (iMin (iLen s) 300)))) (Sp.raD (cutRows s none (some (iMin (iLen s) 300)))) → WfCs [Sh.int IntKind.i64, Sh.int IntKind.i64, Sh.int IntKind.i64] x) ∧ True) ∧ InR IntKind.i64 (Sp.nwE (Sp.raN (cutRows s none (some (iMin (iLen s) 300)))) (Sp.raD (cutRows s none (some (iMin (iLen s) 300))))) ∧ True → InR IntKind.i64 (iAdd 1 pe) ∧ pNe 20 0 ∧ (bNe (Sp.nwE (Sp.raN (cutRows s none (some (iMin (iLen s) 300)))) (Sp.raD (cutRows s none (some (iMin (iLen s) 300))))) 0 = false → InR IntKind.i64 (iMul (iRem tm 20) (iAdd 1 pe)) ∧ InR IntKind.i64 (iAdd 3 (iMul (iRem tm 20) (iAdd 1 pe))) ∧ True ∧ (True → True ∧ (bNot (Sp.kpB (Sp.nwV (Sp.raN (cutRows s none (some (iMin (iLen s) 300)))) (Sp.raD (cutRows s none (some (iMin (iLen s) 300))))) (Sp.raN (cutRows s none (some (iMin (iLen s) 300)))) (Sp.raD (cutRows s none (some (iMin (iLen s) 300)))) 0 1 (iAdd 1 pe) 3 (iAdd 3 (iMul (iRem tm 20) (iAdd 1 pe)))) = true → false = true) ∧ (bNot (Sp.kpB (Sp.nwV (Sp.raN (cutRows s none (some (iMin (iLen s) 300)))) (Sp.raD (cutRows s none (some (iMin (iLen s) 300))))) (Sp.raN (cutRows s none (some (iMin (iLen s) 300)))) (Sp.raD (cutRows s none (some (iMin (iLen s) 300)))) 0 1 (iAdd 1 pe) 3 (iAdd 3 (iMul (iRem tm 20) (iAdd 1 pe)))) = false → True ∧ (((Sp.mkC (Sp.dT (cutRows s none (some (iMin (iLen s) 300))) 8)).length ≤ 9223372036854775807 ∧ ∀ (x : List C), x ∈ Sp.mkC (Sp.dT (cutRows s none (some (iMin (iLen s) 300))) 8) → WfCs [Sh.int IntKind.i64, Sh.int IntKind.i64, Sh.int IntKind.i64] x) ∧ True → True ∧ ((InR IntKind.i64 (Sp.mkV 1 1 1) ∧ InR IntKind.i64 (Sp.mkV 1 1 1) ∧ True) ∧ InR IntKind.i64 (Sp.mkE 1 1) ∧ True → InR IntKind.i64 (iMul (iRem tm 20) (iAdd 1 pe)) ∧ True ∧ (True → True ∧ (bNot (Sp.kpB (Sp.mkC (Sp.dT (cutRows s none (some (iMin (iLen s) 300))) 8)) (Sp.mkV 1 1 1) (Sp.mkV 1 1 1) dr 5 (iAdd 1 pe) 0 (iMul (iRem tm 20) (iAdd 1 pe))) = false → InR IntKind.i64 (iAdd dr mo) ∧ InR IntKind.i64 (iMul (iRem tm 20) (iAdd 1 pe)) ∧ True ∧ (True → Sp.kpB (Sp.mkC (Sp.dT (cutRows s none (some (iMin (iLen s) 300))) 8)) (Sp.mkV 1 1 1) (Sp.mkV 1 1 1) (iAdd dr mo) 6 (iAdd 1 pe) 0 (iMul (iRem tm 20) (iAdd 1 pe)) = true)) ∧ (bNot (Sp.kpB (Sp.mkC (Sp.dT (cutRows s none (some (iMin (iLen s) 300))) 8)) (Sp.mkV 1 1 1) (Sp.mkV 1 1 1) dr 5 (iAdd 1 pe) 0 (iMul (iRem tm 20) (iAdd 1 pe))) = true → true = true))))))) ∧ (bNe (Sp.nwE (Sp.raN (cutRows s none (some (iMin (iLen s) 300)))) (Sp.raD (cutRows s none (some (iMin (iLen s) 300))))) 0 = true → false = true)))))) := by kernel_rfl
theorem v8 (s : List (List C)) (pe : Int) (tm : Int) (dr : Int) (mo : Int) : Holds (Wfs [.sl [.int .u8] s, .int .u8 pe, .int .u8 tm, .int .u8 dr, .int .u8 mo] → True → vcF Go.Proofs.Try.prog (look tb8) (fun _ => false) (fun _ _ => .unroll 9) 8 8 [.sl [.int .u8] s, .int .u8 pe, .int .u8 tm, .int .u8 dr, .int .u8 mo] [] (fun sv _ => isTrue sv)) := by
  refine ⟨fun hw hp => ?_⟩
  rw [e8]
  simp only [iAdd, iSub, iMul, iLen, eq_self, true_and, and_true, true_implies, implies_true]
  simp only [Wfs, Wf, InR, and_true] at hw
  have e300 : cutRows s none (some (iMin (s.length : Int) 300)) = Sp.s300 s := rfl
  rw [e300]
  have c1 := Sp.ra_cu (Sp.s300 s)
  generalize Sp.raN (Sp.s300 s) = n1 at *
  generalize Sp.raD (Sp.s300 s) = d1 at *
  obtain ⟨w1, z1⟩ := Sp.nw_one c1
  have ht : 0 ≤ iRem tm 20 ∧ iRem tm 20 < 20 := by
    have e : iRem tm 20 = tm % 20 := Int.tmod_eq_emod_of_nonneg (by omega)
    omega
  generalize iRem tm 20 = k at *
  have kp := mul_bd ht.1 (show k ≤ 20 by omega) (show 0 ≤ 1 + pe by omega) (show 1 + pe ≤ 256 by omega)
  have K1 := Sp.kp_one c1 (p := 1 + pe) (k := k) (by omega) (by omega) ht.1 ht.2
  have em : Sp.mkV 1 1 1 = 1 := by decide +kernel
  simp only [w1, z1, K1, em]
  have W := fun h => Sp.kp_weak (xs := Sp.mkC (Sp.dT (Sp.s300 s) 8)) (dr := dr) (mo := mo) (p := 1 + pe) (to := k * (1 + pe)) h (by omega) (by omega)
  simp only [InR, geB, iMin, bNe, bNot, pNe, pLe, Bool.not_true, Bool.not_false, Bool.false_eq_true, Bool.true_eq_false, false_implies, true_implies, true_and, and_true, Bool.not_eq_false', decide_not, decide_true]
  repeat' (first | apply And.intro | intro _)
  all_goals first | omega | trivial | (exact W (by assumption)) | (exfalso; omega) | (simp_all; done)
end Go.Sx

