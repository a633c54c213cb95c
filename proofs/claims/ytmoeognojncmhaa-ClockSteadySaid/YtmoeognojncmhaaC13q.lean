/- Contracts and conditions, continued. -/
import Derived.Test.YtmoeognojncmhaaSxUse
import Derived.Test.YtmoeognojncmhaaC13p
import Derived.Test.YtmoeognojncmhaaSxBits
import Derived.KernelRfl
set_option linter.unusedVariables false
set_option linter.unusedSimpArgs false
set_option maxRecDepth 100000
set_option maxHeartbeats 4000000

open Go.Proofs

namespace Go.Sx
def ct53 : Ct := { ps := [(false, [.int .u64]), (false, [.int .u64]), (false, [.int .u64])], rs := [(false, [.int .u64]), (false, [.int .u64])], pre := fun a => pLe (cel 0 (arg 2 a)).int 1 ∧ True, out := fun a => [[.i (Sp.subD (cel 0 (arg 0 a)).int (cel 0 (arg 1 a)).int (cel 0 (arg 2 a)).int)], [.i (Sp.subB (cel 0 (arg 0 a)).int (cel 0 (arg 1 a)).int (cel 0 (arg 2 a)).int)]] }
theorem s53 : SoundCt Go.Proofs.Try.prog 53 ct53 := sub64_sound (fn := Go.Proofs.Try.f53) (by kernel_rfl) (by kernel_rfl) (by kernel_rfl) (by kernel_rfl) (by kernel_rfl)
end Go.Sx

namespace Go
open Go.Sx
def Sp.w1 (n : Int) : Int := n / 18446744073709551616 % 18446744073709551616
def Sp.w0 (n : Int) : Int := n % 18446744073709551616
def Sp.un (h l : Int) : Int := h * 18446744073709551616 + l
def Sp.sg (h l : Int) : Int := if h < 9223372036854775808 then h * 18446744073709551616 + l else h * 18446744073709551616 + l - 340282366920938463463374607431768211456
def Sp.uh (x : List C) : Int := (x.headD default).int
def Sp.ul (x : List C) : Int := (x.tail.headD default).int
def Sp.riD (x : List C) (h l : Int) : Int := Sp.sg (Sp.w1 (Sp.un (Sp.uh x) (Sp.ul x) - Sp.un h l)) (Sp.w0 (Sp.un (Sp.uh x) (Sp.ul x) - Sp.un h l))
def Sp.riR (m h l : Int) (xs : List (List C)) : Bool :=
  match xs with
  | [] => false
  | x :: r => if m < Sp.riD x h l then true else if Sp.sg (Sp.uh x) (Sp.ul x) < Sp.sg h l then Sp.riR m (Sp.uh x) (Sp.ul x) r else Sp.riR m h l r
def Sp.riI (xs : List (List C)) (m z : Int) (h l : Int) : Prop := 0 ≤ z ∧ z ≤ (xs.length : Int) ∧ Sp.riR m h l (xs.drop z.toNat) = Sp.riR m (Sp.uh (rGet xs 0)) (Sp.ul (rGet xs 0)) xs
end Go

namespace Go.Sx
/-! ### function 41: clock.product -/
def ct41 : Ct := { ps := [(false, [.int .i64]), (false, [.int .i64])], rs := [(true, [.int .u64, .int .u64])], pre := fun a => pLe 0 (cel 0 (arg 0 a)).int ∧ pLe 0 (cel 0 (arg 1 a)).int, out := fun a => [[.i (Sp.w1 ((cel 0 (arg 0 a)).int * (cel 0 (arg 1 a)).int)), .i (Sp.w0 ((cel 0 (arg 0 a)).int * (cel 0 (arg 1 a)).int))]] }
def tb41 : List (Nat × Ct) := [(52, ct52)]
theorem e41 (p : Int) (q : Int) : vcF Go.Proofs.Try.prog (look tb41) (fun _ => true) (fun _ _ => LoopAnn.unroll 200) 6 41 [.int .i64 p, .int .i64 q] [] (fun sv heap => Gives [(true, [.int .u64, .int .u64])] [[.i (Sp.w1 (p * q)), .i (Sp.w0 (p * q))]] sv heap) = (True ∧ (InR IntKind.u64 (Sp.mhi (iWrap IntKind.u64 p) (iWrap IntKind.u64 q)) ∧ InR IntKind.u64 (Sp.mlo (iWrap IntKind.u64 p) (iWrap IntKind.u64 q)) ∧ True → (Sp.mhi (iWrap IntKind.u64 p) (iWrap IntKind.u64 q) = Sp.w1 (p * q) ∧ Sp.mlo (iWrap IntKind.u64 p) (iWrap IntKind.u64 q) = Sp.w0 (p * q) ∧ True) ∧ True)) := by kernel_rfl
theorem v41 (p : Int) (q : Int) : Holds (Wfs [.int .i64 p, .int .i64 q] → pLe 0 p ∧ pLe 0 q → vcF Go.Proofs.Try.prog (look tb41) (fun _ => true) (fun _ _ => LoopAnn.unroll 200) 6 41 [.int .i64 p, .int .i64 q] [] (fun sv heap => Gives [(true, [.int .u64, .int .u64])] [[.i (Sp.w1 (p * q)), .i (Sp.w0 (p * q))]] sv heap)) := by
  refine ⟨fun hw hp => ?_⟩
  rw [e41]
  simp only [Wfs, Wf, InR, and_true] at hw
  simp only [pLe] at hp
  rw [Sp.wrap64 (x := p) (by omega) (by omega), Sp.wrap64 (x := q) (by omega) (by omega)]
  have m := mul_bd (x := p) (X := 9223372036854775807) (y := q) (Y := 9223372036854775807) (by omega) (by omega) (by omega) (by omega)
  simp only [Sp.mhi, Sp.mlo, Sp.w1, Sp.w0]
  generalize p * q = z at *
  repeat' (first | apply And.intro | intro _)
  all_goals (first | trivial | omega)
theorem s41 : SoundCt Go.Proofs.Try.prog 41 ct41 :=
  contractH followsMixed (look_sound (show Tb Go.Proofs.Try.prog tb41 from ⟨s52, trivial⟩)) (fun _ => true) (fun _ => fun _ _ => LoopAnn.unroll 200) 6 41 ct41 rfl (by simp [ct41]) fun a => Eq.mp (by kernel_rfl) (v41 ((cel 0 (arg 0 a)).int) ((cel 0 (arg 1 a)).int))
end Go.Sx

namespace Go.Sx
/-! ### function 42: clock.less -/
def ct42 : Ct := { ps := [(true, [.int .u64, .int .u64]), (true, [.int .u64, .int .u64])], rs := [(true, [.int .u64, .int .u64])], pre := fun _ => True, out := fun a => [[.i (Sp.w1 (Sp.un (cel 0 (arg 0 a)).int (cel 1 (arg 0 a)).int - Sp.un (cel 0 (arg 1 a)).int (cel 1 (arg 1 a)).int)), .i (Sp.w0 (Sp.un (cel 0 (arg 0 a)).int (cel 1 (arg 0 a)).int - Sp.un (cel 0 (arg 1 a)).int (cel 1 (arg 1 a)).int))]] }
def tb42 : List (Nat × Ct) := [(53, ct53)]
theorem e42 (a : Int) (b : Int) (c : Int) (d : Int) : vcF Go.Proofs.Try.prog (look tb42) (fun _ => false) (fun _ _ => LoopAnn.unroll 200) 6 42 [.agg [.int .u64 a, .int .u64 b], .agg [.int .u64 c, .int .u64 d]] [] (fun sv heap => Gives [(true, [.int .u64, .int .u64])] [[.i (Sp.w1 (Sp.un a b - Sp.un c d)), .i (Sp.w0 (Sp.un a b - Sp.un c d))]] sv heap) = ((pLe 0 1 ∧ True) ∧ (InR IntKind.u64 (Sp.subD b d 0) ∧ InR IntKind.u64 (Sp.subB b d 0) ∧ True → (pLe (Sp.subB b d 0) 1 ∧ True) ∧ (InR IntKind.u64 (Sp.subD a c (Sp.subB b d 0)) ∧ InR IntKind.u64 (Sp.subB a c (Sp.subB b d 0)) ∧ True → (Sp.subD a c (Sp.subB b d 0) = Sp.w1 (Sp.un a b - Sp.un c d) ∧ Sp.subD b d 0 = Sp.w0 (Sp.un a b - Sp.un c d) ∧ True) ∧ True))) := by kernel_rfl
theorem v42 (a : Int) (b : Int) (c : Int) (d : Int) : Holds (Wfs [.agg [.int .u64 a, .int .u64 b], .agg [.int .u64 c, .int .u64 d]] → True → vcF Go.Proofs.Try.prog (look tb42) (fun _ => false) (fun _ _ => LoopAnn.unroll 200) 6 42 [.agg [.int .u64 a, .int .u64 b], .agg [.int .u64 c, .int .u64 d]] [] (fun sv heap => Gives [(true, [.int .u64, .int .u64])] [[.i (Sp.w1 (Sp.un a b - Sp.un c d)), .i (Sp.w0 (Sp.un a b - Sp.un c d))]] sv heap)) := by
  refine ⟨fun hw hp => ?_⟩
  rw [e42]
  simp only [Wfs, Wf, InR, and_true] at hw
  simp only [Sp.subD, Sp.subB, Sp.w1, Sp.w0, Sp.un, InR, pLe]
  repeat' (first | apply And.intro | intro _)
  all_goals (first | trivial | omega | (split <;> omega) | (split <;> split <;> omega))
theorem s42 : SoundCt Go.Proofs.Try.prog 42 ct42 :=
  contractH followsMixed (look_sound (show Tb Go.Proofs.Try.prog tb42 from ⟨s53, trivial⟩)) (fun _ => false) (fun _ => fun _ _ => LoopAnn.unroll 200) 6 42 ct42 rfl (by simp [ct42]) fun a => Eq.mp (by kernel_rfl) (v42 ((cel 0 (arg 0 a)).int) ((cel 1 (arg 0 a)).int) ((cel 0 (arg 1 a)).int) ((cel 1 (arg 1 a)).int))
end Go.Sx

namespace Go.Sx
/-! ### function 54: clock.below -/
def ct54 : Ct := { ps := [(true, [.int .u64, .int .u64]), (true, [.int .u64, .int .u64])], rs := [(false, [.bool])], pre := fun _ => True, out := fun a => [[.b (decide (Sp.sg (cel 0 (arg 0 a)).int (cel 1 (arg 0 a)).int < Sp.sg (cel 0 (arg 1 a)).int (cel 1 (arg 1 a)).int))]] }
def tb54 : List (Nat × Ct) := []
theorem e54 (a : Int) (b : Int) (c : Int) (d : Int) : vcF Go.Proofs.Try.prog (look tb54) (fun _ => true) (fun _ _ => LoopAnn.unroll 200) 6 54 [.agg [.int .u64 a, .int .u64 b], .agg [.int .u64 c, .int .u64 d]] [] (fun sv heap => Gives [(false, [.bool])] [[.b (decide (Sp.sg a b < Sp.sg c d))]] sv heap) = ((bLt (iWrap IntKind.i64 a) (iWrap IntKind.i64 c) = false → (bEq a c = true → (bLt b d = decide (Sp.sg a b < Sp.sg c d) ∧ True) ∧ True) ∧ (bEq a c = false → (false = decide (Sp.sg a b < Sp.sg c d) ∧ True) ∧ True)) ∧ (bLt (iWrap IntKind.i64 a) (iWrap IntKind.i64 c) = true → (true = decide (Sp.sg a b < Sp.sg c d) ∧ True) ∧ True)) := by kernel_rfl
theorem v54 (a : Int) (b : Int) (c : Int) (d : Int) : Holds (Wfs [.agg [.int .u64 a, .int .u64 b], .agg [.int .u64 c, .int .u64 d]] → True → vcF Go.Proofs.Try.prog (look tb54) (fun _ => true) (fun _ _ => LoopAnn.unroll 200) 6 54 [.agg [.int .u64 a, .int .u64 b], .agg [.int .u64 c, .int .u64 d]] [] (fun sv heap => Gives [(false, [.bool])] [[.b (decide (Sp.sg a b < Sp.sg c d))]] sv heap)) := by
  refine ⟨fun hw hp => ?_⟩
  rw [e54]
  simp only [Wfs, Wf, InR, and_true] at hw
  have wa : iWrap .i64 a = if a < 9223372036854775808 then a else a - 18446744073709551616 := by
    show IntKind.i64.wrap a = _
    rw [IntKind.wrap_i64]; split <;> omega
  have wc : iWrap .i64 c = if c < 9223372036854775808 then c else c - 18446744073709551616 := by
    show IntKind.i64.wrap c = _
    rw [IntKind.wrap_i64]; split <;> omega
  rw [wa, wc]
  clear wa wc
  unfold Sp.sg
  by_cases hA : a < 9223372036854775808 <;> by_cases hC : c < 9223372036854775808 <;> simp only [hA, hC, if_true, if_false]
  all_goals simp only [bLt, bEq, Sp.sg, decide_eq_true_eq, decide_eq_false_iff_not, true_and, and_true, eq_comm (a := true), eq_comm (a := false), decide_eq_decide]
  all_goals repeat' (first | apply And.intro | intro _)
  all_goals (first | trivial | omega)
theorem s54 : SoundCt Go.Proofs.Try.prog 54 ct54 :=
  contractH followsMixed (look_sound (show Tb Go.Proofs.Try.prog tb54 from trivial)) (fun _ => true) (fun _ => fun _ _ => LoopAnn.unroll 200) 6 54 ct54 rfl (by simp [ct54]) fun a => Eq.mp (by kernel_rfl) (v54 ((cel 0 (arg 0 a)).int) ((cel 1 (arg 0 a)).int) ((cel 0 (arg 1 a)).int) ((cel 1 (arg 1 a)).int))
end Go.Sx

namespace Go.Sx
/-! ### function 43: clock.rises -/
def ct43 : Ct := { ps := [(false, [.sl [.int .u64, .int .u64]]), (true, [.int .u64, .int .u64])], rs := [(false, [.bool])], pre := fun a => (cel 0 (arg 0 a)).list ≠ [] ∧ True, out := fun a => [[.b (Sp.riR (Sp.sg (cel 0 (arg 1 a)).int (cel 1 (arg 1 a)).int) (Sp.uh (rGet (cel 0 (arg 0 a)).list 0)) (Sp.ul (rGet (cel 0 (arg 0 a)).list 0)) (cel 0 (arg 0 a)).list)]] }
def tb43 : List (Nat × Ct) := [(42, ct42), (54, ct54)]
theorem e43 (xs : List (List C)) (a : Int) (b : Int) : vcF Go.Proofs.Try.prog (look tb43) (fun _ => false) (fun _ _ => .on (fun sv0 => match sv0.tmps.getD 5 .undef with | .ref kk _ => .inv (Int × Int × Int) (fun z => Sp.riI xs (Sp.sg a b) z.1 z.2.1 z.2.2) (fun z => [(13, .int .i64 z.1)]) (fun z => [(kk, .box [.int .u64 z.2.1, .int .u64 z.2.2] 78)]) [kk] [0, 1, 3, 4, 5, 7, 11, 12, 13, 14, 21, 24] (fun z => xs.length - z.1.toNat) | _ => .unroll 0)) 6 43 [.sl [.int .u64, .int .u64] xs, .agg [.int .u64 a, .int .u64 b]] [] (fun sv heap => Gives [(false, [.bool])] [[.b (Sp.riR (Sp.sg a b) (Sp.uh (rGet xs 0)) (Sp.ul (rGet xs 0)) xs)]] sv heap) = (pIn 0 (iLen xs) 0 ∧ (InR IntKind.u64 ((rGet xs 0).headD default).int ∧ InR IntKind.u64 ((rGet xs 0).tail.headD default).int ∧ True → pLe (iLen xs) 9223372036854775807 → (∃ (x : Int × Int × Int), Sp.riI xs (Sp.sg a b) x.1 x.snd.1 x.snd.2 ∧ true = true ∧ ((IntKind.i64 = IntKind.i64 ∧ 0 = x.1) ∧ True) ∧ (((IntKind.u64 = IntKind.u64 ∧ ((rGet xs 0).headD default).int = x.snd.1) ∧ (IntKind.u64 = IntKind.u64 ∧ ((rGet xs 0).tail.headD default).int = x.snd.2) ∧ True) ∧ 78 = 78) ∧ True) ∧ (∀ (x : Int × Int × Int), true = true ∧ true = true) ∧ ∀ (x : Int × Int × Int), Sp.riI xs (Sp.sg a b) x.1 x.snd.1 x.snd.2 → InR IntKind.i64 x.1 ∧ True → (InR IntKind.u64 x.snd.1 ∧ InR IntKind.u64 x.snd.2 ∧ True) ∧ True → (bLt x.1 (iLen xs) = true → pIn 0 (iLen xs) x.1 ∧ (InR IntKind.u64 ((rGet xs x.1).headD default).int ∧ InR IntKind.u64 ((rGet xs x.1).tail.headD default).int ∧ True → True ∧ (InR IntKind.u64 (Sp.w1 (Sp.un ((rGet xs x.1).headD default).int ((rGet xs x.1).tail.headD default).int - Sp.un x.snd.1 x.snd.2)) ∧ InR IntKind.u64 (Sp.w0 (Sp.un ((rGet xs x.1).headD default).int ((rGet xs x.1).tail.headD default).int - Sp.un x.snd.1 x.snd.2)) ∧ True → True ∧ (True → (decide (Sp.sg a b < Sp.sg (Sp.w1 (Sp.un ((rGet xs x.1).headD default).int ((rGet xs x.1).tail.headD default).int - Sp.un x.snd.1 x.snd.2)) (Sp.w0 (Sp.un ((rGet xs x.1).headD default).int ((rGet xs x.1).tail.headD default).int - Sp.un x.snd.1 x.snd.2))) = true → (true = Sp.riR (Sp.sg a b) (Sp.uh (rGet xs 0)) (Sp.ul (rGet xs 0)) xs ∧ True) ∧ True) ∧ (decide (Sp.sg a b < Sp.sg (Sp.w1 (Sp.un ((rGet xs x.1).headD default).int ((rGet xs x.1).tail.headD default).int - Sp.un x.snd.1 x.snd.2)) (Sp.w0 (Sp.un ((rGet xs x.1).headD default).int ((rGet xs x.1).tail.headD default).int - Sp.un x.snd.1 x.snd.2))) = false → True ∧ (True → (decide (Sp.sg ((rGet xs x.1).headD default).int ((rGet xs x.1).tail.headD default).int < Sp.sg x.snd.1 x.snd.2) = true → InR IntKind.i64 (iAdd x.1 1) ∧ (true = true ∧ [SV.sl [Sh.int IntKind.u64, Sh.int IntKind.u64] xs, SV.agg [SV.int IntKind.u64 a, SV.int IntKind.u64 b], SV.ref 0 0, SV.ref 1 0, SV.sl [Sh.int IntKind.u64, Sh.int IntKind.u64] xs, SV.int IntKind.i64 (iLen xs)] = [SV.sl [Sh.int IntKind.u64, Sh.int IntKind.u64] xs, SV.agg [SV.int IntKind.u64 a, SV.int IntKind.u64 b], SV.ref 0 0, SV.ref 1 0, SV.sl [Sh.int IntKind.u64, Sh.int IntKind.u64] xs, SV.int IntKind.i64 (iLen xs)]) ∧ [HB.box [SV.int IntKind.u64 a, SV.int IntKind.u64 b] 78, HB.gone] = [HB.box [SV.int IntKind.u64 a, SV.int IntKind.u64 b] 78, HB.gone] ∧ ∃ (y : Int × Int × Int), Sp.riI xs (Sp.sg a b) y.1 y.snd.1 y.snd.2 ∧ true = true ∧ ((IntKind.i64 = IntKind.i64 ∧ iAdd x.1 1 = y.1) ∧ True) ∧ ((((IntKind.u64 = IntKind.u64 ∧ ((rGet xs x.1).headD default).int = y.snd.1) ∧ (IntKind.u64 = IntKind.u64 ∧ ((rGet xs x.1).tail.headD default).int = y.snd.2) ∧ True) ∧ 78 = 78) ∧ True) ∧ xs.length - y.1.toNat < xs.length - x.1.toNat) ∧ (decide (Sp.sg ((rGet xs x.1).headD default).int ((rGet xs x.1).tail.headD default).int < Sp.sg x.snd.1 x.snd.2) = false → InR IntKind.i64 (iAdd x.1 1) ∧ (true = true ∧ [SV.sl [Sh.int IntKind.u64, Sh.int IntKind.u64] xs, SV.agg [SV.int IntKind.u64 a, SV.int IntKind.u64 b], SV.ref 0 0, SV.ref 1 0, SV.sl [Sh.int IntKind.u64, Sh.int IntKind.u64] xs, SV.int IntKind.i64 (iLen xs)] = [SV.sl [Sh.int IntKind.u64, Sh.int IntKind.u64] xs, SV.agg [SV.int IntKind.u64 a, SV.int IntKind.u64 b], SV.ref 0 0, SV.ref 1 0, SV.sl [Sh.int IntKind.u64, Sh.int IntKind.u64] xs, SV.int IntKind.i64 (iLen xs)]) ∧ [HB.box [SV.int IntKind.u64 a, SV.int IntKind.u64 b] 78, HB.gone] = [HB.box [SV.int IntKind.u64 a, SV.int IntKind.u64 b] 78, HB.gone] ∧ ∃ (y : Int × Int × Int), Sp.riI xs (Sp.sg a b) y.1 y.snd.1 y.snd.2 ∧ true = true ∧ ((IntKind.i64 = IntKind.i64 ∧ iAdd x.1 1 = y.1) ∧ True) ∧ ((((IntKind.u64 = IntKind.u64 ∧ x.snd.1 = y.snd.1) ∧ (IntKind.u64 = IntKind.u64 ∧ x.snd.2 = y.snd.2) ∧ True) ∧ 78 = 78) ∧ True) ∧ xs.length - y.1.toNat < xs.length - x.1.toNat))))))) ∧ (bLt x.1 (iLen xs) = false → (false = Sp.riR (Sp.sg a b) (Sp.uh (rGet xs 0)) (Sp.ul (rGet xs 0)) xs ∧ True) ∧ True))) := by kernel_rfl
theorem v43 (xs : List (List C)) (a : Int) (b : Int) : Holds (Wfs [.sl [.int .u64, .int .u64] xs, .agg [.int .u64 a, .int .u64 b]] → xs ≠ [] ∧ True → vcF Go.Proofs.Try.prog (look tb43) (fun _ => false) (fun _ _ => .on (fun sv0 => match sv0.tmps.getD 5 .undef with | .ref kk _ => .inv (Int × Int × Int) (fun z => Sp.riI xs (Sp.sg a b) z.1 z.2.1 z.2.2) (fun z => [(13, .int .i64 z.1)]) (fun z => [(kk, .box [.int .u64 z.2.1, .int .u64 z.2.2] 78)]) [kk] [0, 1, 3, 4, 5, 7, 11, 12, 13, 14, 21, 24] (fun z => xs.length - z.1.toNat) | _ => .unroll 0)) 6 43 [.sl [.int .u64, .int .u64] xs, .agg [.int .u64 a, .int .u64 b]] [] (fun sv heap => Gives [(false, [.bool])] [[.b (Sp.riR (Sp.sg a b) (Sp.uh (rGet xs 0)) (Sp.ul (rGet xs 0)) xs)]] sv heap)) := by
  refine ⟨fun hw hp => ?_⟩
  rw [e43]
  simp only [iAdd, iSub, iMul, iLen, eq_self, true_and, and_true, true_implies, implies_true]
  have hl : 0 < xs.length := List.length_pos_iff.2 hp.1
  have ea : ∀ j, ((rGet xs j).headD default).int = Sp.uh (rGet xs j) := fun _ => rfl
  have eb : ∀ j, ((rGet xs j).tail.headD default).int = Sp.ul (rGet xs j) := fun _ => rfl
  simp only [ea, eb]
  refine ⟨⟨by omega, by omega⟩, fun _ hm => ⟨⟨(0, Sp.uh (rGet xs 0), Sp.ul (rGet xs 0)), ⟨by simp, by simp, rfl⟩, rfl, rfl, rfl⟩, ?_⟩⟩
  rintro ⟨z, h, l⟩ ⟨z0, z1, hr⟩ _ _
  simp only at z0 z1 hr ⊢
  refine ⟨fun hlt => ?_, fun hge => ?_⟩
  · simp only [bLt, decide_eq_true_eq] at hlt
    rw [Sp.drop_cons z0 hlt, Sp.riR, Sp.riD] at hr
    have i1 : InR .i64 (z + 1) := by simp only [InR]; simp only [pLe] at hm; omega
    refine ⟨⟨z0, hlt⟩, fun _ _ => ⟨fun hb => ?_, fun hb => ⟨fun hc => ⟨i1, (z + 1, _, _), ⟨by simp only; omega, by simp only; omega, ?_⟩, rfl, ⟨rfl, rfl⟩, by simp only; omega⟩, fun hc => ⟨i1, (z + 1, _, _), ⟨by simp only; omega, by simp only; omega, ?_⟩, rfl, ⟨rfl, rfl⟩, by simp only; omega⟩⟩⟩⟩
    · simp only [decide_eq_true_eq] at hb
      rw [if_pos hb] at hr
      exact hr
    · simp only [decide_eq_true_eq, decide_eq_false_iff_not] at hb hc
      rw [if_neg hb, if_pos hc] at hr
      exact hr
    · simp only [decide_eq_false_iff_not] at hb hc
      rw [if_neg hb, if_neg hc] at hr
      exact hr
  · simp only [bLt, decide_eq_false_iff_not] at hge
    rw [← hr, List.drop_eq_nil_of_le (by omega)]; rfl
theorem s43 : SoundCt Go.Proofs.Try.prog 43 ct43 :=
  contractH followsMixed (look_sound (show Tb Go.Proofs.Try.prog tb43 from ⟨s42, ⟨s54, trivial⟩⟩)) (fun _ => false) (fun a => fun _ _ => .on (fun sv0 => match sv0.tmps.getD 5 .undef with | .ref kk _ => .inv (Int × Int × Int) (fun z => Sp.riI (cel 0 (arg 0 a)).list (Sp.sg (cel 0 (arg 1 a)).int (cel 1 (arg 1 a)).int) z.1 z.2.1 z.2.2) (fun z => [(13, .int .i64 z.1)]) (fun z => [(kk, .box [.int .u64 z.2.1, .int .u64 z.2.2] 78)]) [kk] [0, 1, 3, 4, 5, 7, 11, 12, 13, 14, 21, 24] (fun z => (cel 0 (arg 0 a)).list.length - z.1.toNat) | _ => .unroll 0)) 6 43 ct43 rfl (by simp [ct43]) fun a => Eq.mp (by kernel_rfl) (v43 ((cel 0 (arg 0 a)).list) ((cel 0 (arg 1 a)).int) ((cel 1 (arg 1 a)).int))
end Go.Sx

