/- Contracts and conditions, continued. -/
import Derived.Test.YtmoeognojncmhaaSxUse
import Derived.Test.YtmoeognojncmhaaC13l
import Derived.KernelRfl
set_option linter.unusedVariables false
set_option linter.unusedSimpArgs false
set_option maxRecDepth 100000
set_option maxHeartbeats 4000000

namespace Go
open Go.Sx
def Sp.rpI (xs : List (List C)) (t z : Int) : Prop := 0 ≤ z ∧ z ≤ (xs.length : Int) ∧ ∀ j : Nat, (j : Int) < z → Sp.cf (rGet xs j) ≤ t
def Sp.poE (xs : List (List C)) (t : Int) : Int := if Sp.cval xs = false then 1 else if t < 0 ∨ 1099511627776 < t then 2 else 0
def Sp.poV (xs : List (List C)) (t : Int) : Int := if Sp.poE xs t = 0 then Sp.posn xs t else 0
def Sp.btE (xs : List (List C)) (t u : Int) : Int := if Sp.cval xs = false then 1 else if t < 0 ∨ 1099511627776 < u ∨ u < t then 2 else 0
def Sp.btV (xs : List (List C)) (t u : Int) : Int := if Sp.btE xs t u = 0 then Sp.posn xs u - Sp.posn xs t else 0
def Sp.tbI (xs : List (List C)) (f lo hi : Int) : Prop := 0 ≤ lo ∧ lo ≤ hi ∧ hi ≤ 1099511627776 ∧ f ≤ Sp.posn xs hi ∧ (0 < lo → Sp.posn xs (lo - 1) < f)
end Go

open Go.Proofs
namespace Go
open Go.Sx Go.Proofs
theorem Sp.prt_facts {xs : List (List C)} {t : Int} {k : Nat} (h : Sp.cval xs = true) (h1 : t ≤ 1099511627776) (hk : k < xs.length) (hf : ∀ j : Nat, j ≤ k → Sp.cf (rGet xs j) ≤ t) :
    Sp.floV (min t (Sp.unt xs k) - Sp.cf (rGet xs k)) (Sp.cn (rGet xs k)) (Sp.cd (rGet xs k)) = Sp.prt xs t k ∧ 0 ≤ min t (Sp.unt xs k) - Sp.cf (rGet xs k) ∧ min t (Sp.unt xs k) - Sp.cf (rGet xs k) ≤ 1099511627776 ∧
    Sp.psum xs t k + Sp.prt xs t k = Sp.psum xs t (k + 1) ∧ 0 ≤ Sp.psum xs t (k + 1) ∧ Sp.psum xs t (k + 1) ≤ 1125899906842624 := by
  obtain ⟨p1, p2, p3, p4, p5, p6⟩ := Sp.pok_of h k hk
  have := hf k (Nat.le_refl _)
  have hm : 0 ≤ min t (Sp.unt xs k) - Sp.cf (rGet xs k) ∧ min t (Sp.unt xs k) - Sp.cf (rGet xs k) ≤ 1099511627776 := by omega
  obtain ⟨f1, f2, f3, _⟩ := Sp.flo_cu p1 hm.1 hm.2
  have b := Sp.pval_bd h hk (s := min t (Sp.unt xs k)) (by omega) (by omega)
  have v := Sp.psum_val hk hf
  exact ⟨f3, hm.1, hm.2, rfl, by rw [v]; omega, by rw [v]; omega⟩
theorem Sp.cnt_end {xs : List (List C)} {t : Int} (hf : ∀ j : Nat, j < xs.length → Sp.cf (rGet xs j) ≤ t) : Sp.posn xs t = Sp.psum xs t xs.length := by unfold Sp.posn; rw [Sp.cnt_eq (Nat.le_refl _) hf (fun h => by omega)]
theorem Sp.cnt_stop {xs : List (List C)} {t : Int} {k : Nat} (hk : k < xs.length) (hf : ∀ j : Nat, j < k → Sp.cf (rGet xs j) ≤ t) (hs : t < Sp.cf (rGet xs k)) : Sp.posn xs t = Sp.psum xs t k := by unfold Sp.posn; rw [Sp.cnt_eq (by omega) hf (fun _ => hs)]
/-- The least time is unique. -/
theorem Sp.least_eq {xs : List (List C)} (h : Sp.cval xs = true) {f a b : Int} (a0 : 0 ≤ a) (a1 : a ≤ 1099511627776) (b0 : 0 ≤ b) (b1 : b ≤ 1099511627776) (ha : f ≤ Sp.posn xs a) (hb : f ≤ Sp.posn xs b) (la : 0 < a → Sp.posn xs (a - 1) < f) (lb : 0 < b → Sp.posn xs (b - 1) < f) : a = b := by
  rcases Int.lt_trichotomy a b with c | c | c
  · have := Sp.posn_mono h a0 (show a ≤ b - 1 by omega) (by omega)
    have := lb (by omega)
    omega
  · exact c
  · have := Sp.posn_mono h b0 (show b ≤ a - 1 by omega) (by omega)
    have := la (by omega)
    omega
end Go

namespace Go.Sx
/-! ### function 35: ref13.position -/
def ct35 : Ct := { ps := [(true, [.sl [.int .i64, .int .i64, .int .i64]]), (false, [.int .i64])], rs := [(false, [.int .i64])], pre := fun a => Sp.cval (cel 0 (arg 0 a)).list = true ∧ (pLe 0 (cel 0 (arg 1 a)).int ∧ pLe (cel 0 (arg 1 a)).int 1099511627776), out := fun a => [[.i (Sp.posn (cel 0 (arg 0 a)).list (cel 0 (arg 1 a)).int)]] }
def tb35 : List (Nat × Ct) := [(46, ct46)]
theorem e35 (xs : List (List C)) (t : Int) : vcF Go.Proofs.Try.prog (look tb35) (fun _ => false) (fun _ ii => bif Nat.beq ii 3 then .inv Int (fun z => Sp.rpI xs t z) (fun z => [(14, .int .i64 z), (5, .int .i64 (Sp.psum xs t z.toNat))]) (fun _ => []) [] [0, 1, 2, 4, 5, 6, 7, 8, 9, 12, 13, 14, 15, 22, 29] (fun z => xs.length - z.toNat) else .unroll 0) 6 35 [.agg [.sl [.int .i64, .int .i64, .int .i64] xs], .int .i64 t] [] (fun sv heap => Gives [(false, [.int .i64])] [[.i (Sp.posn xs t)]] sv heap) = (pLe (iLen xs) 9223372036854775807 → (∃ (x : Int), Sp.rpI xs t x ∧ true = true ∧ ((IntKind.i64 = IntKind.i64 ∧ 0 = x) ∧ (IntKind.i64 = IntKind.i64 ∧ 0 = Sp.psum xs t x.toNat) ∧ True) ∧ True) ∧ (∀ (x : Int), true = true ∧ true = true) ∧ ∀ (x : Int), Sp.rpI xs t x → InR IntKind.i64 x ∧ InR IntKind.i64 (Sp.psum xs t x.toNat) ∧ True → True → (bLt x (iLen xs) = true → pIn 0 (iLen xs) x ∧ (InR IntKind.i64 ((rGet xs x).headD default).int ∧ InR IntKind.i64 ((rGet xs x).tail.headD default).int ∧ InR IntKind.i64 ((rGet xs x).tail.tail.headD default).int ∧ True → (bLt t ((rGet xs x).headD default).int = true → (Sp.psum xs t x.toNat = Sp.posn xs t ∧ True) ∧ True) ∧ (bLt t ((rGet xs x).headD default).int = false → InR IntKind.i64 (iAdd x 1) ∧ (pLe (iLen xs) 9223372036854775807 → (bLt (iAdd x 1) (iLen xs) = true → InR IntKind.i64 (iAdd x 1) ∧ pIn 0 (iLen xs) (iAdd x 1) ∧ (InR IntKind.i64 ((rGet xs (iAdd x 1)).headD default).int → InR IntKind.i64 (iSub (iMin t ((rGet xs (iAdd x 1)).headD default).int) ((rGet xs x).headD default).int) ∧ True ∧ (InR IntKind.i64 (Sp.floV (iSub (iMin t ((rGet xs (iAdd x 1)).headD default).int) ((rGet xs x).headD default).int) ((rGet xs x).tail.headD default).int ((rGet xs x).tail.tail.headD default).int) ∧ InR IntKind.i64 (Sp.floE (iSub (iMin t ((rGet xs (iAdd x 1)).headD default).int) ((rGet xs x).headD default).int) ((rGet xs x).tail.headD default).int ((rGet xs x).tail.tail.headD default).int) ∧ True → InR IntKind.i64 (iAdd (Sp.psum xs t x.toNat) (Sp.floV (iSub (iMin t ((rGet xs (iAdd x 1)).headD default).int) ((rGet xs x).headD default).int) ((rGet xs x).tail.headD default).int ((rGet xs x).tail.tail.headD default).int)) ∧ InR IntKind.i64 (iAdd x 1) ∧ (true = true ∧ [SV.agg [SV.sl [Sh.int IntKind.i64, Sh.int IntKind.i64, Sh.int IntKind.i64] xs], SV.int IntKind.i64 t, SV.ref 0 0, SV.lit IntKind.i64 0, SV.sl [Sh.int IntKind.i64, Sh.int IntKind.i64, Sh.int IntKind.i64] xs, SV.int IntKind.i64 (iLen xs)] = [SV.agg [SV.sl [Sh.int IntKind.i64, Sh.int IntKind.i64, Sh.int IntKind.i64] xs], SV.int IntKind.i64 t, SV.ref 0 0, SV.lit IntKind.i64 0, SV.sl [Sh.int IntKind.i64, Sh.int IntKind.i64, Sh.int IntKind.i64] xs, SV.int IntKind.i64 (iLen xs)]) ∧ [HB.box [SV.sl [Sh.int IntKind.i64, Sh.int IntKind.i64, Sh.int IntKind.i64] xs] 24] = [HB.box [SV.sl [Sh.int IntKind.i64, Sh.int IntKind.i64, Sh.int IntKind.i64] xs] 24] ∧ ∃ (y : Int), Sp.rpI xs t y ∧ true = true ∧ ((IntKind.i64 = IntKind.i64 ∧ iAdd x 1 = y) ∧ (IntKind.i64 = IntKind.i64 ∧ iAdd (Sp.psum xs t x.toNat) (Sp.floV (iSub (iMin t ((rGet xs (iAdd x 1)).headD default).int) ((rGet xs x).headD default).int) ((rGet xs x).tail.headD default).int ((rGet xs x).tail.tail.headD default).int) = Sp.psum xs t y.toNat) ∧ True) ∧ True ∧ xs.length - y.toNat < xs.length - x.toNat))) ∧ (bLt (iAdd x 1) (iLen xs) = false → InR IntKind.i64 (iSub t ((rGet xs x).headD default).int) ∧ True ∧ (InR IntKind.i64 (Sp.floV (iSub t ((rGet xs x).headD default).int) ((rGet xs x).tail.headD default).int ((rGet xs x).tail.tail.headD default).int) ∧ InR IntKind.i64 (Sp.floE (iSub t ((rGet xs x).headD default).int) ((rGet xs x).tail.headD default).int ((rGet xs x).tail.tail.headD default).int) ∧ True → InR IntKind.i64 (iAdd (Sp.psum xs t x.toNat) (Sp.floV (iSub t ((rGet xs x).headD default).int) ((rGet xs x).tail.headD default).int ((rGet xs x).tail.tail.headD default).int)) ∧ InR IntKind.i64 (iAdd x 1) ∧ (true = true ∧ [SV.agg [SV.sl [Sh.int IntKind.i64, Sh.int IntKind.i64, Sh.int IntKind.i64] xs], SV.int IntKind.i64 t, SV.ref 0 0, SV.lit IntKind.i64 0, SV.sl [Sh.int IntKind.i64, Sh.int IntKind.i64, Sh.int IntKind.i64] xs, SV.int IntKind.i64 (iLen xs)] = [SV.agg [SV.sl [Sh.int IntKind.i64, Sh.int IntKind.i64, Sh.int IntKind.i64] xs], SV.int IntKind.i64 t, SV.ref 0 0, SV.lit IntKind.i64 0, SV.sl [Sh.int IntKind.i64, Sh.int IntKind.i64, Sh.int IntKind.i64] xs, SV.int IntKind.i64 (iLen xs)]) ∧ [HB.box [SV.sl [Sh.int IntKind.i64, Sh.int IntKind.i64, Sh.int IntKind.i64] xs] 24] = [HB.box [SV.sl [Sh.int IntKind.i64, Sh.int IntKind.i64, Sh.int IntKind.i64] xs] 24] ∧ ∃ (y : Int), Sp.rpI xs t y ∧ true = true ∧ ((IntKind.i64 = IntKind.i64 ∧ iAdd x 1 = y) ∧ (IntKind.i64 = IntKind.i64 ∧ iAdd (Sp.psum xs t x.toNat) (Sp.floV (iSub t ((rGet xs x).headD default).int) ((rGet xs x).tail.headD default).int ((rGet xs x).tail.tail.headD default).int) = Sp.psum xs t y.toNat) ∧ True) ∧ True ∧ xs.length - y.toNat < xs.length - x.toNat)))))) ∧ (bLt x (iLen xs) = false → (Sp.psum xs t x.toNat = Sp.posn xs t ∧ True) ∧ True)) := by kernel_rfl
theorem v35 (xs : List (List C)) (t : Int) : Holds (Wfs [.agg [.sl [.int .i64, .int .i64, .int .i64] xs], .int .i64 t] → Sp.cval xs = true ∧ (pLe 0 t ∧ pLe t 1099511627776) → vcF Go.Proofs.Try.prog (look tb35) (fun _ => false) (fun _ ii => bif Nat.beq ii 3 then .inv Int (fun z => Sp.rpI xs t z) (fun z => [(14, .int .i64 z), (5, .int .i64 (Sp.psum xs t z.toNat))]) (fun _ => []) [] [0, 1, 2, 4, 5, 6, 7, 8, 9, 12, 13, 14, 15, 22, 29] (fun z => xs.length - z.toNat) else .unroll 0) 6 35 [.agg [.sl [.int .i64, .int .i64, .int .i64] xs], .int .i64 t] [] (fun sv heap => Gives [(false, [.int .i64])] [[.i (Sp.posn xs t)]] sv heap)) := by
  refine ⟨fun hw hp => ?_⟩
  rw [e35]
  simp only [iAdd, iSub, iMul, iLen, eq_self, true_and, and_true, true_implies, implies_true]
  obtain ⟨hv, h0, h1⟩ := hp
  obtain ⟨hl, z0, hf⟩ := Sp.cval_facts hv
  intro _
  refine ⟨⟨0, ⟨by omega, by omega, fun j hj => by omega⟩, rfl, rfl⟩, ?_⟩
  rintro z ⟨y0, y1, yf⟩ _
  obtain ⟨k, rfl⟩ : ∃ k : Nat, z = k := ⟨z.toNat, by omega⟩
  have ef : ∀ j, ((rGet xs j).headD default).int = Sp.cf (rGet xs j) := fun _ => rfl
  have en : ((rGet xs k).tail.headD default).int = Sp.cn (rGet xs k) := rfl
  have ed : ((rGet xs k).tail.tail.headD default).int = Sp.cd (rGet xs k) := rfl
  simp only [ef, en, ed, Int.toNat_natCast, bLt, decide_eq_true_eq, decide_eq_false_iff_not]
  have yf' : ∀ j : Nat, j < k → Sp.cf (rGet xs j) ≤ t := fun j hj => yf j (by omega)
  have rng : ∀ {m : Int}, 0 ≤ m → m ≤ 1125899906842624 → InR .i64 m := fun a b => by simp only [InR]; omega
  refine ⟨fun hlt => ⟨⟨by omega, hlt⟩, fun _ => ⟨fun hb => ?_, fun hb => ?_⟩⟩, fun hge => ?_⟩
  · exact (Sp.cnt_stop (by omega) yf' hb).symm
  · have below : ∀ j : Nat, j ≤ k → Sp.cf (rGet xs j) ≤ t := fun j hj => by
      by_cases e : j = k
      · subst e; omega
      · exact yf' j (by omega)
    obtain ⟨c1, c2, c3, c4, c5, c6⟩ := Sp.prt_facts hv h1 (show k < xs.length by omega) below
    have fin : ∃ y, Sp.rpI xs t y ∧ ((k : Int) + 1 = y ∧ Sp.psum xs t k + Sp.prt xs t k = Sp.psum xs t y.toNat) ∧ xs.length - y.toNat < xs.length - k := ⟨k + 1, ⟨by omega, by omega, fun j hj => below j (by omega)⟩, ⟨rfl, by rw [c4]; rfl⟩, by omega⟩
    have i1 : InR .i64 ((k : Int) + 1) := rng (by omega) (by omega)
    refine ⟨i1, fun _ => ⟨fun hn => ?_, fun hn => ?_⟩⟩
    · have e : Sp.cf (rGet xs ((k : Int) + 1)) = Sp.unt xs k := by unfold Sp.unt; rw [if_pos (by omega)]
      rw [e, show iMin t (Sp.unt xs k) = min t (Sp.unt xs k) from rfl, c1, c4]
      exact ⟨i1, ⟨by omega, hn⟩, fun _ => ⟨rng c2 (by omega), fun _ => ⟨rng c5 c6, i1, by rw [← c4]; exact fin⟩⟩⟩
    · have e : t = min t (Sp.unt xs k) := by unfold Sp.unt; rw [if_neg (by omega)]; omega
      have c1' : Sp.floV (t - Sp.cf (rGet xs k)) (Sp.cn (rGet xs k)) (Sp.cd (rGet xs k)) = Sp.prt xs t k := by rw [← c1, ← e]
      rw [← e] at c2 c3
      rw [c1', c4]
      exact ⟨rng c2 (by omega), fun _ => ⟨rng c5 c6, i1, by rw [← c4]; exact fin⟩⟩
  · obtain rfl : k = xs.length := by omega
    exact (Sp.cnt_end yf').symm
theorem s35 : SoundCt Go.Proofs.Try.prog 35 ct35 :=
  contractH followsMixed (look_sound (show Tb Go.Proofs.Try.prog tb35 from ⟨s46, trivial⟩)) (fun _ => false) (fun a => fun _ ii => bif Nat.beq ii 3 then .inv Int (fun z => Sp.rpI (cel 0 (arg 0 a)).list (cel 0 (arg 1 a)).int z) (fun z => [(14, .int .i64 z), (5, .int .i64 (Sp.psum (cel 0 (arg 0 a)).list (cel 0 (arg 1 a)).int z.toNat))]) (fun _ => []) [] [0, 1, 2, 4, 5, 6, 7, 8, 9, 12, 13, 14, 15, 22, 29] (fun z => (cel 0 (arg 0 a)).list.length - z.toNat) else .unroll 0) 6 35 ct35 rfl (by simp [ct35]) fun a => Eq.mp (by kernel_rfl) (v35 ((cel 0 (arg 0 a)).list) ((cel 0 (arg 1 a)).int))
end Go.Sx

namespace Go.Sx
/-! ### function 21: clock.Position -/
def ct21 : Ct := { ps := [(true, [.sl [.int .i64, .int .i64, .int .i64]]), (false, [.int .i64])], rs := [(false, [.int .i64]), (false, [.int .i64])], pre := fun _ => True, out := fun a => [[.i (Sp.poV (cel 0 (arg 0 a)).list (cel 0 (arg 1 a)).int)], [.i (Sp.poE (cel 0 (arg 0 a)).list (cel 0 (arg 1 a)).int)]] }
def tb21 : List (Nat × Ct) := [(17, ct17), (33, ct33)]
theorem e21 (xs : List (List C)) (t : Int) : vcF Go.Proofs.Try.prog (look tb21) (fun _ => false) (fun _ _ => LoopAnn.unroll 200) 6 21 [.agg [.sl [.int .i64, .int .i64, .int .i64] xs], .int .i64 t] [] (fun sv heap => Gives [(false, [.int .i64]), (false, [.int .i64])] [[.i (Sp.poV xs t)], [.i (Sp.poE xs t)]] sv heap) = (True ∧ (True → True ∧ (bNot (Sp.cval xs) = true → (0 = Sp.poV xs t ∧ True) ∧ (1 = Sp.poE xs t ∧ True) ∧ True) ∧ (bNot (Sp.cval xs) = false → (bLt t 0 = false → (bLt 1099511627776 t = true → (0 = Sp.poV xs t ∧ True) ∧ (2 = Sp.poE xs t ∧ True) ∧ True) ∧ (bLt 1099511627776 t = false → (Sp.cval xs = true ∧ pLe 0 t ∧ pLe t 1099511627776) ∧ (InR IntKind.i64 (Sp.posn xs t) → (Sp.posn xs t = Sp.poV xs t ∧ True) ∧ (0 = Sp.poE xs t ∧ True) ∧ True))) ∧ (bLt t 0 = true → (0 = Sp.poV xs t ∧ True) ∧ (2 = Sp.poE xs t ∧ True) ∧ True)))) := by kernel_rfl
theorem v21 (xs : List (List C)) (t : Int) : Holds (Wfs [.agg [.sl [.int .i64, .int .i64, .int .i64] xs], .int .i64 t] → True → vcF Go.Proofs.Try.prog (look tb21) (fun _ => false) (fun _ _ => LoopAnn.unroll 200) 6 21 [.agg [.sl [.int .i64, .int .i64, .int .i64] xs], .int .i64 t] [] (fun sv heap => Gives [(false, [.int .i64]), (false, [.int .i64])] [[.i (Sp.poV xs t)], [.i (Sp.poE xs t)]] sv heap)) := by
  refine ⟨fun hw hp => ?_⟩
  rw [e21]
  simp only [iAdd, iSub, iMul, iLen, eq_self, true_and, and_true, true_implies, implies_true]
  unfold Sp.poV Sp.poE
  cases hv : Sp.cval xs
  · simp [bNot]
  · simp only [bNot, bLt, pLe, decide_eq_true_eq, decide_eq_false_iff_not, Bool.not_true, Bool.false_eq_true, Bool.true_eq_false, false_implies, true_implies, true_and, and_true, if_false]
    repeat' (first | apply And.intro | intro _)
    all_goals first | omega | (rw [if_pos (by omega)]; try rfl; done) | (rw [if_neg (by omega)]; first | rfl | simp) | skip
theorem s21 : SoundCt Go.Proofs.Try.prog 21 ct21 :=
  contractH followsMixed (look_sound (show Tb Go.Proofs.Try.prog tb21 from ⟨s17, ⟨s33, trivial⟩⟩)) (fun _ => false) (fun _ => fun _ _ => LoopAnn.unroll 200) 6 21 ct21 rfl (by simp [ct21]) fun a => Eq.mp (by kernel_rfl) (v21 ((cel 0 (arg 0 a)).list) ((cel 0 (arg 1 a)).int))
end Go.Sx

namespace Go.Sx
/-! ### function 23: ref13.Position -/
def ct23 : Ct := { ps := [(true, [.sl [.int .i64, .int .i64, .int .i64]]), (false, [.int .i64])], rs := [(false, [.int .i64]), (false, [.int .i64])], pre := fun _ => True, out := fun a => [[.i (Sp.poV (cel 0 (arg 0 a)).list (cel 0 (arg 1 a)).int)], [.i (Sp.poE (cel 0 (arg 0 a)).list (cel 0 (arg 1 a)).int)]] }
def tb23 : List (Nat × Ct) := [(18, ct18), (35, ct35)]
theorem e23 (xs : List (List C)) (t : Int) : vcF Go.Proofs.Try.prog (look tb23) (fun _ => false) (fun _ _ => LoopAnn.unroll 200) 6 23 [.agg [.sl [.int .i64, .int .i64, .int .i64] xs], .int .i64 t] [] (fun sv heap => Gives [(false, [.int .i64]), (false, [.int .i64])] [[.i (Sp.poV xs t)], [.i (Sp.poE xs t)]] sv heap) = (True ∧ (True → True ∧ (bNot (Sp.cval xs) = true → (0 = Sp.poV xs t ∧ True) ∧ (1 = Sp.poE xs t ∧ True) ∧ True) ∧ (bNot (Sp.cval xs) = false → (bLt t 0 = false → (bLt 1099511627776 t = true → (0 = Sp.poV xs t ∧ True) ∧ (2 = Sp.poE xs t ∧ True) ∧ True) ∧ (bLt 1099511627776 t = false → (Sp.cval xs = true ∧ pLe 0 t ∧ pLe t 1099511627776) ∧ (InR IntKind.i64 (Sp.posn xs t) → (Sp.posn xs t = Sp.poV xs t ∧ True) ∧ (0 = Sp.poE xs t ∧ True) ∧ True))) ∧ (bLt t 0 = true → (0 = Sp.poV xs t ∧ True) ∧ (2 = Sp.poE xs t ∧ True) ∧ True)))) := by kernel_rfl
theorem v23 (xs : List (List C)) (t : Int) : Holds (Wfs [.agg [.sl [.int .i64, .int .i64, .int .i64] xs], .int .i64 t] → True → vcF Go.Proofs.Try.prog (look tb23) (fun _ => false) (fun _ _ => LoopAnn.unroll 200) 6 23 [.agg [.sl [.int .i64, .int .i64, .int .i64] xs], .int .i64 t] [] (fun sv heap => Gives [(false, [.int .i64]), (false, [.int .i64])] [[.i (Sp.poV xs t)], [.i (Sp.poE xs t)]] sv heap)) := by
  refine ⟨fun hw hp => ?_⟩
  rw [e23]
  simp only [iAdd, iSub, iMul, iLen, eq_self, true_and, and_true, true_implies, implies_true]
  unfold Sp.poV Sp.poE
  cases hv : Sp.cval xs
  · simp [bNot]
  · simp only [bNot, bLt, pLe, decide_eq_true_eq, decide_eq_false_iff_not, Bool.not_true, Bool.false_eq_true, Bool.true_eq_false, false_implies, true_implies, true_and, and_true, if_false]
    repeat' (first | apply And.intro | intro _)
    all_goals first | omega | (rw [if_pos (by omega)]; try rfl; done) | (rw [if_neg (by omega)]; first | rfl | simp) | skip
theorem s23 : SoundCt Go.Proofs.Try.prog 23 ct23 :=
  contractH followsMixed (look_sound (show Tb Go.Proofs.Try.prog tb23 from ⟨s18, ⟨s35, trivial⟩⟩)) (fun _ => false) (fun _ => fun _ _ => LoopAnn.unroll 200) 6 23 ct23 rfl (by simp [ct23]) fun a => Eq.mp (by kernel_rfl) (v23 ((cel 0 (arg 0 a)).list) ((cel 0 (arg 1 a)).int))
end Go.Sx

namespace Go.Sx
/-! ### function 24: clock.Between -/
def ct24 : Ct := { ps := [(true, [.sl [.int .i64, .int .i64, .int .i64]]), (false, [.int .i64]), (false, [.int .i64])], rs := [(false, [.int .i64]), (false, [.int .i64])], pre := fun _ => True, out := fun a => [[.i (Sp.btV (cel 0 (arg 0 a)).list (cel 0 (arg 1 a)).int (cel 0 (arg 2 a)).int)], [.i (Sp.btE (cel 0 (arg 0 a)).list (cel 0 (arg 1 a)).int (cel 0 (arg 2 a)).int)]] }
def tb24 : List (Nat × Ct) := [(17, ct17), (33, ct33)]
theorem e24 (xs : List (List C)) (t : Int) (u : Int) : vcF Go.Proofs.Try.prog (look tb24) (fun _ => false) (fun _ _ => LoopAnn.unroll 200) 6 24 [.agg [.sl [.int .i64, .int .i64, .int .i64] xs], .int .i64 t, .int .i64 u] [] (fun sv heap => Gives [(false, [.int .i64]), (false, [.int .i64])] [[.i (Sp.btV xs t u)], [.i (Sp.btE xs t u)]] sv heap) = (True ∧ (True → True ∧ (bNot (Sp.cval xs) = true → (0 = Sp.btV xs t u ∧ True) ∧ (1 = Sp.btE xs t u ∧ True) ∧ True) ∧ (bNot (Sp.cval xs) = false → (bLt t 0 = false → (bLt 1099511627776 u = false → (bLt u t = true → (0 = Sp.btV xs t u ∧ True) ∧ (2 = Sp.btE xs t u ∧ True) ∧ True) ∧ (bLt u t = false → (Sp.cval xs = true ∧ pLe 0 u ∧ pLe u 1099511627776) ∧ (InR IntKind.i64 (Sp.posn xs u) → (Sp.cval xs = true ∧ pLe 0 t ∧ pLe t 1099511627776) ∧ (InR IntKind.i64 (Sp.posn xs t) → InR IntKind.i64 (iSub (Sp.posn xs u) (Sp.posn xs t)) ∧ (iSub (Sp.posn xs u) (Sp.posn xs t) = Sp.btV xs t u ∧ True) ∧ (0 = Sp.btE xs t u ∧ True) ∧ True)))) ∧ (bLt 1099511627776 u = true → (0 = Sp.btV xs t u ∧ True) ∧ (2 = Sp.btE xs t u ∧ True) ∧ True)) ∧ (bLt t 0 = true → (0 = Sp.btV xs t u ∧ True) ∧ (2 = Sp.btE xs t u ∧ True) ∧ True)))) := by kernel_rfl
theorem v24 (xs : List (List C)) (t : Int) (u : Int) : Holds (Wfs [.agg [.sl [.int .i64, .int .i64, .int .i64] xs], .int .i64 t, .int .i64 u] → True → vcF Go.Proofs.Try.prog (look tb24) (fun _ => false) (fun _ _ => LoopAnn.unroll 200) 6 24 [.agg [.sl [.int .i64, .int .i64, .int .i64] xs], .int .i64 t, .int .i64 u] [] (fun sv heap => Gives [(false, [.int .i64]), (false, [.int .i64])] [[.i (Sp.btV xs t u)], [.i (Sp.btE xs t u)]] sv heap)) := by
  refine ⟨fun hw hp => ?_⟩
  rw [e24]
  simp only [iAdd, iSub, iMul, iLen, eq_self, true_and, and_true, true_implies, implies_true]
  unfold Sp.btV Sp.btE
  cases hv : Sp.cval xs
  · simp [bNot]
  · have B : ∀ s : Int, 0 ≤ s → s ≤ 1099511627776 → 0 ≤ Sp.posn xs s ∧ Sp.posn xs s ≤ 1024 * s := fun s a b => Sp.posn_bd hv a b
    simp only [bNot, bLt, pLe, InR, decide_eq_true_eq, decide_eq_false_iff_not, Bool.not_true, Bool.false_eq_true, Bool.true_eq_false, false_implies, true_implies, true_and, and_true, if_false]
    repeat' (first | apply And.intro | intro _)
    all_goals first | omega | (have := B t (by omega) (by omega); have := B u (by omega) (by omega); omega) | (rw [if_pos (by omega)]; try rfl; done) | (rw [if_neg (by omega)]; first | rfl | simp) | skip
theorem s24 : SoundCt Go.Proofs.Try.prog 24 ct24 :=
  contractH followsMixed (look_sound (show Tb Go.Proofs.Try.prog tb24 from ⟨s17, ⟨s33, trivial⟩⟩)) (fun _ => false) (fun _ => fun _ _ => LoopAnn.unroll 200) 6 24 ct24 rfl (by simp [ct24]) fun a => Eq.mp (by kernel_rfl) (v24 ((cel 0 (arg 0 a)).list) ((cel 0 (arg 1 a)).int) ((cel 0 (arg 2 a)).int))
end Go.Sx

namespace Go.Sx
/-! ### function 25: ref13.Between -/
def ct25 : Ct := { ps := [(true, [.sl [.int .i64, .int .i64, .int .i64]]), (false, [.int .i64]), (false, [.int .i64])], rs := [(false, [.int .i64]), (false, [.int .i64])], pre := fun _ => True, out := fun a => [[.i (Sp.btV (cel 0 (arg 0 a)).list (cel 0 (arg 1 a)).int (cel 0 (arg 2 a)).int)], [.i (Sp.btE (cel 0 (arg 0 a)).list (cel 0 (arg 1 a)).int (cel 0 (arg 2 a)).int)]] }
def tb25 : List (Nat × Ct) := [(18, ct18), (35, ct35)]
theorem e25 (xs : List (List C)) (t : Int) (u : Int) : vcF Go.Proofs.Try.prog (look tb25) (fun _ => false) (fun _ _ => LoopAnn.unroll 200) 6 25 [.agg [.sl [.int .i64, .int .i64, .int .i64] xs], .int .i64 t, .int .i64 u] [] (fun sv heap => Gives [(false, [.int .i64]), (false, [.int .i64])] [[.i (Sp.btV xs t u)], [.i (Sp.btE xs t u)]] sv heap) = (True ∧ (True → True ∧ (bNot (Sp.cval xs) = true → (0 = Sp.btV xs t u ∧ True) ∧ (1 = Sp.btE xs t u ∧ True) ∧ True) ∧ (bNot (Sp.cval xs) = false → (bLt t 0 = false → (bLt 1099511627776 u = false → (bLt u t = true → (0 = Sp.btV xs t u ∧ True) ∧ (2 = Sp.btE xs t u ∧ True) ∧ True) ∧ (bLt u t = false → (Sp.cval xs = true ∧ pLe 0 u ∧ pLe u 1099511627776) ∧ (InR IntKind.i64 (Sp.posn xs u) → (Sp.cval xs = true ∧ pLe 0 t ∧ pLe t 1099511627776) ∧ (InR IntKind.i64 (Sp.posn xs t) → InR IntKind.i64 (iSub (Sp.posn xs u) (Sp.posn xs t)) ∧ (iSub (Sp.posn xs u) (Sp.posn xs t) = Sp.btV xs t u ∧ True) ∧ (0 = Sp.btE xs t u ∧ True) ∧ True)))) ∧ (bLt 1099511627776 u = true → (0 = Sp.btV xs t u ∧ True) ∧ (2 = Sp.btE xs t u ∧ True) ∧ True)) ∧ (bLt t 0 = true → (0 = Sp.btV xs t u ∧ True) ∧ (2 = Sp.btE xs t u ∧ True) ∧ True)))) := by kernel_rfl
theorem v25 (xs : List (List C)) (t : Int) (u : Int) : Holds (Wfs [.agg [.sl [.int .i64, .int .i64, .int .i64] xs], .int .i64 t, .int .i64 u] → True → vcF Go.Proofs.Try.prog (look tb25) (fun _ => false) (fun _ _ => LoopAnn.unroll 200) 6 25 [.agg [.sl [.int .i64, .int .i64, .int .i64] xs], .int .i64 t, .int .i64 u] [] (fun sv heap => Gives [(false, [.int .i64]), (false, [.int .i64])] [[.i (Sp.btV xs t u)], [.i (Sp.btE xs t u)]] sv heap)) := by
  refine ⟨fun hw hp => ?_⟩
  rw [e25]
  simp only [iAdd, iSub, iMul, iLen, eq_self, true_and, and_true, true_implies, implies_true]
  unfold Sp.btV Sp.btE
  cases hv : Sp.cval xs
  · simp [bNot]
  · have B : ∀ s : Int, 0 ≤ s → s ≤ 1099511627776 → 0 ≤ Sp.posn xs s ∧ Sp.posn xs s ≤ 1024 * s := fun s a b => Sp.posn_bd hv a b
    simp only [bNot, bLt, pLe, InR, decide_eq_true_eq, decide_eq_false_iff_not, Bool.not_true, Bool.false_eq_true, Bool.true_eq_false, false_implies, true_implies, true_and, and_true, if_false]
    repeat' (first | apply And.intro | intro _)
    all_goals first | omega | (have := B t (by omega) (by omega); have := B u (by omega) (by omega); omega) | (rw [if_pos (by omega)]; try rfl; done) | (rw [if_neg (by omega)]; first | rfl | simp) | skip
theorem s25 : SoundCt Go.Proofs.Try.prog 25 ct25 :=
  contractH followsMixed (look_sound (show Tb Go.Proofs.Try.prog tb25 from ⟨s18, ⟨s35, trivial⟩⟩)) (fun _ => false) (fun _ => fun _ _ => LoopAnn.unroll 200) 6 25 ct25 rfl (by simp [ct25]) fun a => Eq.mp (by kernel_rfl) (v25 ((cel 0 (arg 0 a)).list) ((cel 0 (arg 1 a)).int) ((cel 0 (arg 2 a)).int))
end Go.Sx

namespace Go.Sx
/-! ### function 27: ref13.TimeOf -/
def ct27 : Ct := { ps := [(true, [.sl [.int .i64, .int .i64, .int .i64]]), (false, [.int .i64])], rs := [(false, [.int .i64]), (false, [.int .i64])], pre := fun _ => True, out := fun a => [[.i (Sp.toV (cel 0 (arg 0 a)).list (cel 0 (arg 1 a)).int)], [.i (Sp.toE (cel 0 (arg 0 a)).list (cel 0 (arg 1 a)).int)]] }
def tb27 : List (Nat × Ct) := [(18, ct18), (35, ct35)]
theorem e27 (xs : List (List C)) (f : Int) : vcF Go.Proofs.Try.prog (look tb27) (fun _ => false) (fun _ ii => bif Nat.beq ii 8 then .inv (Int × Int) (fun p => Sp.tbI xs f p.1 p.2) (fun p => [(6, .int .i64 p.1), (7, .int .i64 p.2)]) (fun _ => []) [] [0, 1, 2, 4, 5, 6, 7, 8, 9, 13, 16, 23, 32] (fun p => (p.2 - p.1).toNat) else .unroll 0) 6 27 [.agg [.sl [.int .i64, .int .i64, .int .i64] xs], .int .i64 f] [] (fun sv heap => Gives [(false, [.int .i64]), (false, [.int .i64])] [[.i (Sp.toV xs f)], [.i (Sp.toE xs f)]] sv heap) = (True ∧ (True → True ∧ (bNot (Sp.cval xs) = true → (0 = Sp.toV xs f ∧ True) ∧ (1 = Sp.toE xs f ∧ True) ∧ True) ∧ (bNot (Sp.cval xs) = false → (bLt f 0 = true → (0 = Sp.toV xs f ∧ True) ∧ (2 = Sp.toE xs f ∧ True) ∧ True) ∧ (bLt f 0 = false → (Sp.cval xs = true ∧ pLe 0 1099511627776 ∧ pLe 1099511627776 1099511627776) ∧ (InR IntKind.i64 (Sp.posn xs 1099511627776) → (bLt (Sp.posn xs 1099511627776) f = true → (0 = Sp.toV xs f ∧ True) ∧ (13 = Sp.toE xs f ∧ True) ∧ True) ∧ (bLt (Sp.posn xs 1099511627776) f = false → (∃ (x : Int × Int), Sp.tbI xs f x.1 x.2 ∧ true = true ∧ ((IntKind.i64 = IntKind.i64 ∧ 0 = x.1) ∧ (IntKind.i64 = IntKind.i64 ∧ 1099511627776 = x.2) ∧ True) ∧ True) ∧ (∀ (x : Int × Int), true = true ∧ true = true) ∧ ∀ (x : Int × Int), Sp.tbI xs f x.1 x.2 → InR IntKind.i64 x.1 ∧ InR IntKind.i64 x.2 ∧ True → True → (bLt x.1 x.2 = true → InR IntKind.i64 (iAdd x.1 x.2) ∧ (pNe 2 0 ∧ InR IntKind.i64 (iQuo (iAdd x.1 x.2) 2)) ∧ (Sp.cval xs = true ∧ pLe 0 (iQuo (iAdd x.1 x.2) 2) ∧ pLe (iQuo (iAdd x.1 x.2) 2) 1099511627776) ∧ (InR IntKind.i64 (Sp.posn xs (iQuo (iAdd x.1 x.2) 2)) → (bLe f (Sp.posn xs (iQuo (iAdd x.1 x.2) 2)) = true → (true = true ∧ [SV.agg [SV.sl [Sh.int IntKind.i64, Sh.int IntKind.i64, Sh.int IntKind.i64] xs], SV.int IntKind.i64 f, SV.ref 0 0, SV.lit IntKind.i64 0, SV.lit IntKind.i64 0, SV.blit false, SV.blit false, SV.blit false] = [SV.agg [SV.sl [Sh.int IntKind.i64, Sh.int IntKind.i64, Sh.int IntKind.i64] xs], SV.int IntKind.i64 f, SV.ref 0 0, SV.lit IntKind.i64 0, SV.lit IntKind.i64 0, SV.blit false, SV.blit false, SV.blit false]) ∧ [HB.box [SV.sl [Sh.int IntKind.i64, Sh.int IntKind.i64, Sh.int IntKind.i64] xs] 24] = [HB.box [SV.sl [Sh.int IntKind.i64, Sh.int IntKind.i64, Sh.int IntKind.i64] xs] 24] ∧ ∃ (y : Int × Int), Sp.tbI xs f y.1 y.2 ∧ true = true ∧ ((IntKind.i64 = IntKind.i64 ∧ x.1 = y.1) ∧ (IntKind.i64 = IntKind.i64 ∧ iQuo (iAdd x.1 x.2) 2 = y.2) ∧ True) ∧ True ∧ (y.2 - y.1).toNat < (x.2 - x.1).toNat) ∧ (bLe f (Sp.posn xs (iQuo (iAdd x.1 x.2) 2)) = false → InR IntKind.i64 (iAdd (iQuo (iAdd x.1 x.2) 2) 1) ∧ (true = true ∧ [SV.agg [SV.sl [Sh.int IntKind.i64, Sh.int IntKind.i64, Sh.int IntKind.i64] xs], SV.int IntKind.i64 f, SV.ref 0 0, SV.lit IntKind.i64 0, SV.lit IntKind.i64 0, SV.blit false, SV.blit false, SV.blit false] = [SV.agg [SV.sl [Sh.int IntKind.i64, Sh.int IntKind.i64, Sh.int IntKind.i64] xs], SV.int IntKind.i64 f, SV.ref 0 0, SV.lit IntKind.i64 0, SV.lit IntKind.i64 0, SV.blit false, SV.blit false, SV.blit false]) ∧ [HB.box [SV.sl [Sh.int IntKind.i64, Sh.int IntKind.i64, Sh.int IntKind.i64] xs] 24] = [HB.box [SV.sl [Sh.int IntKind.i64, Sh.int IntKind.i64, Sh.int IntKind.i64] xs] 24] ∧ ∃ (y : Int × Int), Sp.tbI xs f y.1 y.2 ∧ true = true ∧ ((IntKind.i64 = IntKind.i64 ∧ iAdd (iQuo (iAdd x.1 x.2) 2) 1 = y.1) ∧ (IntKind.i64 = IntKind.i64 ∧ x.2 = y.2) ∧ True) ∧ True ∧ (y.2 - y.1).toNat < (x.2 - x.1).toNat))) ∧ (bLt x.1 x.2 = false → (x.1 = Sp.toV xs f ∧ True) ∧ (0 = Sp.toE xs f ∧ True) ∧ True))))))) := by kernel_rfl
theorem v27 (xs : List (List C)) (f : Int) : Holds (Wfs [.agg [.sl [.int .i64, .int .i64, .int .i64] xs], .int .i64 f] → True → vcF Go.Proofs.Try.prog (look tb27) (fun _ => false) (fun _ ii => bif Nat.beq ii 8 then .inv (Int × Int) (fun p => Sp.tbI xs f p.1 p.2) (fun p => [(6, .int .i64 p.1), (7, .int .i64 p.2)]) (fun _ => []) [] [0, 1, 2, 4, 5, 6, 7, 8, 9, 13, 16, 23, 32] (fun p => (p.2 - p.1).toNat) else .unroll 0) 6 27 [.agg [.sl [.int .i64, .int .i64, .int .i64] xs], .int .i64 f] [] (fun sv heap => Gives [(false, [.int .i64]), (false, [.int .i64])] [[.i (Sp.toV xs f)], [.i (Sp.toE xs f)]] sv heap)) := by
  refine ⟨fun hw hp => ?_⟩
  rw [e27]
  simp only [iAdd, iSub, iMul, iLen, eq_self, true_and, and_true, true_implies, implies_true]
  unfold Sp.toV Sp.toE
  cases hv : Sp.cval xs
  · simp [bNot]
  · simp only [bNot, bLt, bLe, pLe, pNe, decide_eq_true_eq, decide_eq_false_iff_not, Bool.not_true, Bool.false_eq_true, Bool.true_eq_false, false_implies, true_implies, true_and, and_true, if_false]
    have rng : ∀ {m : Int}, 0 ≤ m → m ≤ 1125899906842624 → InR .i64 m := fun a b => by simp only [InR]; omega
    refine ⟨fun h => by simp [h], fun h0 => ⟨by omega, fun _ => ⟨fun h1 => ?_, fun h1 => ⟨⟨(0, 1099511627776), ⟨by simp, by simp, by simp, by simpa using h1, fun h => by simp at h⟩, rfl, rfl⟩, ?_⟩⟩⟩⟩
    · rw [if_neg h0, if_neg h0]
      cases hk : Sp.tofK xs f with
      | none => exact ⟨rfl, rfl⟩
      | some k =>
        have L := Sp.tof_least hv (by omega) hk
        have := Sp.posn_mono hv L.1 L.2.1 (Int.le_refl _)
        omega
    · rintro ⟨lo, hi⟩ ⟨y0, y1, y2, y3, y4⟩ _
      simp only at y0 y1 y2 y3 y4 ⊢
      refine ⟨fun hlt => ?_, fun hge => ?_⟩
      · have e : iQuo (lo + hi) 2 = (lo + hi) / 2 := by rw [show iQuo (lo + hi) 2 = (lo + hi).tdiv 2 from rfl, Int.tdiv_eq_ediv_of_nonneg (by omega)]
        rw [e]
        refine ⟨rng (by omega) (by omega), ⟨by omega, rng (by omega) (by omega)⟩, by omega, fun _ => ⟨fun h => ?_, fun h => ⟨rng (by omega) (by omega), ?_⟩⟩⟩
        · exact ⟨(lo, (lo + hi) / 2), ⟨by omega, by simp only; omega, by simp only; omega, h, y4⟩, ⟨rfl, rfl⟩, by simp only; omega⟩
        · exact ⟨((lo + hi) / 2 + 1, hi), ⟨by simp only; omega, by simp only; omega, y2, y3, fun _ => by simp only; rw [Int.add_sub_cancel]; omega⟩, ⟨rfl, rfl⟩, by simp only; omega⟩
      · rw [if_neg h0, if_neg h0]
        cases hk : Sp.tofK xs f with
        | none =>
          have := Sp.tof_none hv hk
          omega
        | some k =>
          have L := Sp.tof_least hv (by omega) hk
          have e : hi = lo := by omega
          subst e
          exact ⟨Sp.least_eq hv y0 y2 L.1 L.2.1 y3 L.2.2.1 y4 L.2.2.2, rfl⟩
theorem s27 : SoundCt Go.Proofs.Try.prog 27 ct27 :=
  contractH followsMixed (look_sound (show Tb Go.Proofs.Try.prog tb27 from ⟨s18, ⟨s35, trivial⟩⟩)) (fun _ => false) (fun a => fun _ ii => bif Nat.beq ii 8 then .inv (Int × Int) (fun p => Sp.tbI (cel 0 (arg 0 a)).list (cel 0 (arg 1 a)).int p.1 p.2) (fun p => [(6, .int .i64 p.1), (7, .int .i64 p.2)]) (fun _ => []) [] [0, 1, 2, 4, 5, 6, 7, 8, 9, 13, 16, 23, 32] (fun p => (p.2 - p.1).toNat) else .unroll 0) 6 27 ct27 rfl (by simp [ct27]) fun a => Eq.mp (by kernel_rfl) (v27 ((cel 0 (arg 0 a)).list) ((cel 0 (arg 1 a)).int))
end Go.Sx

