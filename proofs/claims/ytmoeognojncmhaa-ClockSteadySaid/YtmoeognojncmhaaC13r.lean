/- Contracts and conditions, continued. -/
import Derived.Test.YtmoeognojncmhaaSxUse
import Derived.Test.YtmoeognojncmhaaC13q
import Derived.KernelRfl
set_option linter.unusedVariables false
set_option linter.unusedSimpArgs false
set_option maxRecDepth 100000
set_option maxHeartbeats 4000000

open Go.Proofs

namespace Go
open Go.Sx
def Sp.kpN (xs : List (List C)) (pe fr z : Int) : Int := Sp.posn xs (fr + z * pe) - Sp.posn xs fr
def Sp.kpH (xs : List (List C)) (n d dr pe fr z : Int) : Int := Sp.kpN xs pe fr z * (d * 65536) - z * pe * (n * (65536 + dr))
def Sp.kpL (xs : List (List C)) (n d dr pe fr z : Int) : Int := z * pe * (n * (65536 - dr)) - Sp.kpN xs pe fr z * (d * 65536)
def Sp.wd (v : Int) : List C := [C.i (Sp.w1 v), C.i (Sp.w0 v)]
def Sp.kpHs (xs : List (List C)) (n d dr pe fr : Int) (m : Nat) : List (List C) := (List.range m).map fun (j : Nat) => Sp.wd (Sp.kpH xs n d dr pe fr j)
def Sp.kpLs (xs : List (List C)) (n d dr pe fr : Int) (m : Nat) : List (List C) := (List.range m).map fun (j : Nat) => Sp.wd (Sp.kpL xs n d dr pe fr j)
def Sp.kpG (xs : List (List C)) (n d dr ji pe fr to : Int) : Bool := Sp.cval xs && (Sp.rvalid n d && decide (0 ≤ dr ∧ dr ≤ 4096 ∧ 0 ≤ ji ∧ ji ≤ 65536 ∧ 1 ≤ pe ∧ 0 ≤ fr ∧ to ≤ 1099511627776 ∧ fr ≤ to ∧ (to - fr) / pe < 4096))
def Sp.kpC (pe fr to : Int) : Nat := ((to - fr) / pe + 1).toNat
def Sp.kpR (m : Int) (ys : List (List C)) : Bool := Sp.riR m (Sp.uh (rGet ys 0)) (Sp.ul (rGet ys 0)) ys
def Sp.kpB (xs : List (List C)) (n d dr ji pe fr to : Int) : Bool := Sp.kpG xs n d dr ji pe fr to && (!(Sp.kpR (ji * (d * 65536)) (Sp.kpHs xs n d dr pe fr (Sp.kpC pe fr to))) && !(Sp.kpR (ji * (d * 65536)) (Sp.kpLs xs n d dr pe fr (Sp.kpC pe fr to))))
def Sp.kpI (c z : Int) : Prop := 0 ≤ z ∧ z ≤ c
end Go

namespace Go
open Go.Sx Go.Proofs
theorem Sp.un_w {v : Int} (h0 : 0 ≤ v) (h1 : v < 170141183460469231731687303715884105728) : Sp.un (Sp.w1 v) (Sp.w0 v) = v := by
  unfold Sp.un Sp.w1 Sp.w0; omega
theorem Sp.sg_w {v : Int} (h0 : -170141183460469231731687303715884105728 ≤ v) (h1 : v < 170141183460469231731687303715884105728) : Sp.sg (Sp.w1 v) (Sp.w0 v) = v := by
  unfold Sp.sg Sp.w1 Sp.w0
  split <;> omega
theorem Sp.kpHs_succ (xs : List (List C)) (n d dr pe fr : Int) (k : Nat) : Sp.kpHs xs n d dr pe fr (k + 1) = Sp.kpHs xs n d dr pe fr k ++ [Sp.wd (Sp.kpH xs n d dr pe fr k)] := by
  simp [Sp.kpHs, List.range_succ]
theorem Sp.kpLs_succ (xs : List (List C)) (n d dr pe fr : Int) (k : Nat) : Sp.kpLs xs n d dr pe fr (k + 1) = Sp.kpLs xs n d dr pe fr k ++ [Sp.wd (Sp.kpL xs n d dr pe fr k)] := by
  simp [Sp.kpLs, List.range_succ]
theorem Sp.kpHs_len (xs : List (List C)) (n d dr pe fr : Int) (k : Nat) : (Sp.kpHs xs n d dr pe fr k).length = k := by simp [Sp.kpHs]
theorem Sp.kpLs_len (xs : List (List C)) (n d dr pe fr : Int) (k : Nat) : (Sp.kpLs xs n d dr pe fr k).length = k := by simp [Sp.kpLs]
/-- The numbers are small. -/
theorem Sp.kp_bd {xs : List (List C)} {n d dr pe fr to z : Int} (hv : Sp.cval xs = true) (hr : Sp.rvalid n d = true) (h0 : 0 ≤ dr) (h1 : dr ≤ 4096) (h2 : 1 ≤ pe) (h3 : 0 ≤ fr) (h4 : to ≤ 1099511627776) (h5 : fr ≤ to) (z0 : 0 ≤ z) (z1 : z ≤ (to - fr) / pe) :
    (0 ≤ z * pe ∧ z * pe ≤ to - fr) ∧ (0 ≤ Sp.kpN xs pe fr z ∧ Sp.kpN xs pe fr z ≤ 1125899906842624) ∧ (0 ≤ n * (65536 + dr) ∧ n * (65536 + dr) ≤ 4785074604081152) ∧ (0 ≤ n * (65536 - dr) ∧ n * (65536 - dr) ≤ 4503599627370496) ∧ (0 ≤ d * 65536 ∧ d * 65536 ≤ 4503599627370496) ∧
    (0 ≤ Sp.kpN xs pe fr z * (d * 65536) ∧ Sp.kpN xs pe fr z * (d * 65536) ≤ 5070602400912917605986812821504) ∧ (0 ≤ z * pe * (n * (65536 + dr)) ∧ z * pe * (n * (65536 + dr)) ≤ 5261245166651353784779505049600) ∧ (0 ≤ z * pe * (n * (65536 - dr)) ∧ z * pe * (n * (65536 - dr)) ≤ 4951760157141521099596496896000) := by
  simp only [Sp.rvalid, decide_eq_true_eq] at hr
  have a1 : 0 ≤ z * pe := Int.mul_nonneg z0 (by omega)
  have a2 : z * pe ≤ to - fr := Int.le_trans (Int.mul_le_mul_of_nonneg_right z1 (by omega)) (Int.ediv_mul_le _ (by omega))
  have p0 := Sp.posn_bd hv h3 (show fr ≤ 1099511627776 by omega)
  have p1 := Sp.posn_bd hv (t := fr + z * pe) (by omega) (by omega)
  have p2 := Sp.posn_mono hv h3 (show fr ≤ fr + z * pe by omega) (by omega)
  have b1 : 0 ≤ Sp.kpN xs pe fr z ∧ Sp.kpN xs pe fr z ≤ 1125899906842624 := by unfold Sp.kpN; omega
  have b2 := mul_bd (x := n) (X := 68719476736) (y := 65536 + dr) (Y := 69632) (by omega) (by omega) (by omega) (by omega)
  have b3 := mul_bd (x := n) (X := 68719476736) (y := 65536 - dr) (Y := 65536) (by omega) (by omega) (by omega) (by omega)
  have b4 : 0 ≤ d * 65536 ∧ d * 65536 ≤ 4503599627370496 := by omega
  have b5 := mul_bd b1.1 b1.2 b4.1 b4.2
  have b6 := mul_bd a1 (show z * pe ≤ 1099511627776 by omega) b2.1 b2.2
  have b7 := mul_bd a1 (show z * pe ≤ 1099511627776 by omega) b3.1 b3.2
  refine ⟨⟨a1, a2⟩, b1, ⟨b2.1, by have := b2.2; omega⟩, ⟨b3.1, by have := b3.2; omega⟩, b4, ⟨b5.1, by have := b5.2; omega⟩, ⟨b6.1, by have := b6.2; omega⟩, ⟨b7.1, by have := b7.2; omega⟩⟩
end Go

namespace Go.Sx
/-! ### function 28: clock.Keeps -/
def ct28 : Ct := { ps := [(true, [.sl [.int .i64, .int .i64, .int .i64]]), (true, [.int .i64, .int .i64]), (false, [.int .i64]), (false, [.int .i64]), (false, [.int .i64]), (false, [.int .i64]), (false, [.int .i64])], rs := [(false, [.bool])], pre := fun _ => True, out := fun a => [[.b (Sp.kpB (cel 0 (arg 0 a)).list (cel 0 (arg 1 a)).int (cel 1 (arg 1 a)).int (cel 0 (arg 2 a)).int (cel 0 (arg 3 a)).int (cel 0 (arg 4 a)).int (cel 0 (arg 5 a)).int (cel 0 (arg 6 a)).int)]] }
def tb28 : List (Nat × Ct) := [(17, ct17), (40, ct40), (33, ct33), (41, ct41), (42, ct42), (43, ct43)]
theorem e28 (xs : List (List C)) (n : Int) (d : Int) (dr : Int) (ji : Int) (pe : Int) (fr : Int) (to : Int) : vcF Go.Proofs.Try.prog (look tb28) (fun _ => false) (fun _ _ => .ghost 15 [.int .u64, .int .u64] 78 (.ghost 16 [.int .u64, .int .u64] 78 (.on (fun sv0 => match sv0.tmps.getD 15 .undef, sv0.tmps.getD 16 .undef with | .own rr _, .own qq _ => .inv Int (fun z => Sp.kpI (Sp.kpC pe fr to : Int) z) (fun z => [(66, .int .i64 z), (15, .own rr 0), (16, .own qq 0)]) (fun z => [(rr, .row [.int .u64, .int .u64] 78 0 (Sp.kpHs xs n d dr pe fr z.toNat)), (qq, .row [.int .u64, .int .u64] 78 0 (Sp.kpLs xs n d dr pe fr z.toNat))]) [rr, qq] [0, 1, 2, 3, 4, 5, 6, 7, 8, 14, 15, 16, 17, 18, 19, 20, 21, 22, 23, 24, 65, 66, 67] (fun z => 5000 - z.toNat) | _, _ => .unroll 0)))) 6 28 [.agg [.sl [.int .i64, .int .i64, .int .i64] xs], .agg [.int .i64 n, .int .i64 d], .int .i64 dr, .int .i64 ji, .int .i64 pe, .int .i64 fr, .int .i64 to] [] (fun sv heap => Gives [(false, [.bool])] [[.b (Sp.kpB xs n d dr ji pe fr to)]] sv heap) = (True ∧ (True → True ∧ (bNot (Sp.cval xs) = true → (false = Sp.kpB xs n d dr ji pe fr to ∧ True) ∧ True) ∧ (bNot (Sp.cval xs) = false → True ∧ (True → True ∧ (bNot (Sp.rvalid n d) = true → (false = Sp.kpB xs n d dr ji pe fr to ∧ True) ∧ True) ∧ (bNot (Sp.rvalid n d) = false → (bLt dr 0 = true → (false = Sp.kpB xs n d dr ji pe fr to ∧ True) ∧ True) ∧ (bLt dr 0 = false → (bLt 4096 dr = true → (false = Sp.kpB xs n d dr ji pe fr to ∧ True) ∧ True) ∧ (bLt 4096 dr = false → (bLt ji 0 = true → (false = Sp.kpB xs n d dr ji pe fr to ∧ True) ∧ True) ∧ (bLt ji 0 = false → (bLt 65536 ji = true → (false = Sp.kpB xs n d dr ji pe fr to ∧ True) ∧ True) ∧ (bLt 65536 ji = false → (bLt pe 1 = true → (false = Sp.kpB xs n d dr ji pe fr to ∧ True) ∧ True) ∧ (bLt pe 1 = false → (bLt fr 0 = true → (false = Sp.kpB xs n d dr ji pe fr to ∧ True) ∧ True) ∧ (bLt fr 0 = false → (bLt 1099511627776 to = true → (false = Sp.kpB xs n d dr ji pe fr to ∧ True) ∧ True) ∧ (bLt 1099511627776 to = false → (bLt to fr = true → (false = Sp.kpB xs n d dr ji pe fr to ∧ True) ∧ True) ∧ (bLt to fr = false → InR IntKind.i64 (iSub to fr) ∧ (pNe pe 0 ∧ InR IntKind.i64 (iQuo (iSub to fr) pe)) ∧ (bLe 4096 (iQuo (iSub to fr) pe) = true → (false = Sp.kpB xs n d dr ji pe fr to ∧ True) ∧ True) ∧ (bLe 4096 (iQuo (iSub to fr) pe) = false → (Sp.cval xs = true ∧ pLe 0 fr ∧ pLe fr 1099511627776) ∧ (InR IntKind.i64 (Sp.posn xs fr) → InR IntKind.i64 (iMul d 65536) ∧ InR IntKind.i64 (iSub to fr) ∧ (pNe pe 0 ∧ InR IntKind.i64 (iQuo (iSub to fr) pe)) ∧ InR IntKind.i64 (iAdd (iQuo (iSub to fr) pe) 1) ∧ (∃ (x : Int), Sp.kpI (↑(Sp.kpC pe fr to)) x ∧ true = true ∧ ((IntKind.i64 = IntKind.i64 ∧ 0 = x) ∧ (2 = 2 ∧ 0 + 1 = 0 + 1) ∧ (3 = 3 ∧ 0 + 1 = 0 + 1) ∧ True) ∧ ([Sh.int IntKind.u64, Sh.int IntKind.u64] = [Sh.int IntKind.u64, Sh.int IntKind.u64] ∧ 78 = 78 ∧ 0 + 1 = 0 + 1 ∧ [] = Sp.kpHs xs n d dr pe fr x.toNat) ∧ ([Sh.int IntKind.u64, Sh.int IntKind.u64] = [Sh.int IntKind.u64, Sh.int IntKind.u64] ∧ 78 = 78 ∧ 0 + 1 = 0 + 1 ∧ [] = Sp.kpLs xs n d dr pe fr x.toNat) ∧ True) ∧ (∀ (x : Int), true = true ∧ true = true) ∧ ∀ (x : Int), Sp.kpI (↑(Sp.kpC pe fr to)) x → InR IntKind.i64 x ∧ True ∧ True ∧ True → ((Sp.kpHs xs n d dr pe fr x.toNat).length ≤ 9223372036854775807 ∧ ∀ (x_1 : List C), x_1 ∈ Sp.kpHs xs n d dr pe fr x.toNat → WfCs [Sh.int IntKind.u64, Sh.int IntKind.u64] x_1) ∧ ((Sp.kpLs xs n d dr pe fr x.toNat).length ≤ 9223372036854775807 ∧ ∀ (x_1 : List C), x_1 ∈ Sp.kpLs xs n d dr pe fr x.toNat → WfCs [Sh.int IntKind.u64, Sh.int IntKind.u64] x_1) ∧ True → (bLt x (iAdd (iQuo (iSub to fr) pe) 1) = true → InR IntKind.i64 (iMul x pe) ∧ InR IntKind.i64 (iAdd fr (iMul x pe)) ∧ (Sp.cval xs = true ∧ pLe 0 (iAdd fr (iMul x pe)) ∧ pLe (iAdd fr (iMul x pe)) 1099511627776) ∧ (InR IntKind.i64 (Sp.posn xs (iAdd fr (iMul x pe))) → InR IntKind.i64 (iSub (Sp.posn xs (iAdd fr (iMul x pe))) (Sp.posn xs fr)) ∧ (pLe 0 (iSub (Sp.posn xs (iAdd fr (iMul x pe))) (Sp.posn xs fr)) ∧ pLe 0 (iMul d 65536)) ∧ (InR IntKind.u64 (Sp.w1 (iSub (Sp.posn xs (iAdd fr (iMul x pe))) (Sp.posn xs fr) * iMul d 65536)) ∧ InR IntKind.u64 (Sp.w0 (iSub (Sp.posn xs (iAdd fr (iMul x pe))) (Sp.posn xs fr) * iMul d 65536)) ∧ True → InR IntKind.i64 (iMul x pe) ∧ InR IntKind.i64 (iAdd 65536 dr) ∧ InR IntKind.i64 (iMul n (iAdd 65536 dr)) ∧ (pLe 0 (iMul x pe) ∧ pLe 0 (iMul n (iAdd 65536 dr))) ∧ (InR IntKind.u64 (Sp.w1 (iMul x pe * iMul n (iAdd 65536 dr))) ∧ InR IntKind.u64 (Sp.w0 (iMul x pe * iMul n (iAdd 65536 dr))) ∧ True → InR IntKind.i64 (iMul x pe) ∧ InR IntKind.i64 (iSub 65536 dr) ∧ InR IntKind.i64 (iMul n (iSub 65536 dr)) ∧ (pLe 0 (iMul x pe) ∧ pLe 0 (iMul n (iSub 65536 dr))) ∧ (InR IntKind.u64 (Sp.w1 (iMul x pe * iMul n (iSub 65536 dr))) ∧ InR IntKind.u64 (Sp.w0 (iMul x pe * iMul n (iSub 65536 dr))) ∧ True → True ∧ (InR IntKind.u64 (Sp.w1 (Sp.un (Sp.w1 (iSub (Sp.posn xs (iAdd fr (iMul x pe))) (Sp.posn xs fr) * iMul d 65536)) (Sp.w0 (iSub (Sp.posn xs (iAdd fr (iMul x pe))) (Sp.posn xs fr) * iMul d 65536)) - Sp.un (Sp.w1 (iMul x pe * iMul n (iAdd 65536 dr))) (Sp.w0 (iMul x pe * iMul n (iAdd 65536 dr))))) ∧ InR IntKind.u64 (Sp.w0 (Sp.un (Sp.w1 (iSub (Sp.posn xs (iAdd fr (iMul x pe))) (Sp.posn xs fr) * iMul d 65536)) (Sp.w0 (iSub (Sp.posn xs (iAdd fr (iMul x pe))) (Sp.posn xs fr) * iMul d 65536)) - Sp.un (Sp.w1 (iMul x pe * iMul n (iAdd 65536 dr))) (Sp.w0 (iMul x pe * iMul n (iAdd 65536 dr))))) ∧ True → pRoom 16 (iLen (Sp.kpHs xs n d dr pe fr x.toNat ++ [[C.i (Sp.w1 (Sp.un (Sp.w1 (iSub (Sp.posn xs (iAdd fr (iMul x pe))) (Sp.posn xs fr) * iMul d 65536)) (Sp.w0 (iSub (Sp.posn xs (iAdd fr (iMul x pe))) (Sp.posn xs fr) * iMul d 65536)) - Sp.un (Sp.w1 (iMul x pe * iMul n (iAdd 65536 dr))) (Sp.w0 (iMul x pe * iMul n (iAdd 65536 dr))))), C.i (Sp.w0 (Sp.un (Sp.w1 (iSub (Sp.posn xs (iAdd fr (iMul x pe))) (Sp.posn xs fr) * iMul d 65536)) (Sp.w0 (iSub (Sp.posn xs (iAdd fr (iMul x pe))) (Sp.posn xs fr) * iMul d 65536)) - Sp.un (Sp.w1 (iMul x pe * iMul n (iAdd 65536 dr))) (Sp.w0 (iMul x pe * iMul n (iAdd 65536 dr)))))]])) ∧ True ∧ (InR IntKind.u64 (Sp.w1 (Sp.un (Sp.w1 (iMul x pe * iMul n (iSub 65536 dr))) (Sp.w0 (iMul x pe * iMul n (iSub 65536 dr))) - Sp.un (Sp.w1 (iSub (Sp.posn xs (iAdd fr (iMul x pe))) (Sp.posn xs fr) * iMul d 65536)) (Sp.w0 (iSub (Sp.posn xs (iAdd fr (iMul x pe))) (Sp.posn xs fr) * iMul d 65536)))) ∧ InR IntKind.u64 (Sp.w0 (Sp.un (Sp.w1 (iMul x pe * iMul n (iSub 65536 dr))) (Sp.w0 (iMul x pe * iMul n (iSub 65536 dr))) - Sp.un (Sp.w1 (iSub (Sp.posn xs (iAdd fr (iMul x pe))) (Sp.posn xs fr) * iMul d 65536)) (Sp.w0 (iSub (Sp.posn xs (iAdd fr (iMul x pe))) (Sp.posn xs fr) * iMul d 65536)))) ∧ True → pRoom 16 (iLen (Sp.kpLs xs n d dr pe fr x.toNat ++ [[C.i (Sp.w1 (Sp.un (Sp.w1 (iMul x pe * iMul n (iSub 65536 dr))) (Sp.w0 (iMul x pe * iMul n (iSub 65536 dr))) - Sp.un (Sp.w1 (iSub (Sp.posn xs (iAdd fr (iMul x pe))) (Sp.posn xs fr) * iMul d 65536)) (Sp.w0 (iSub (Sp.posn xs (iAdd fr (iMul x pe))) (Sp.posn xs fr) * iMul d 65536)))), C.i (Sp.w0 (Sp.un (Sp.w1 (iMul x pe * iMul n (iSub 65536 dr))) (Sp.w0 (iMul x pe * iMul n (iSub 65536 dr))) - Sp.un (Sp.w1 (iSub (Sp.posn xs (iAdd fr (iMul x pe))) (Sp.posn xs fr) * iMul d 65536)) (Sp.w0 (iSub (Sp.posn xs (iAdd fr (iMul x pe))) (Sp.posn xs fr) * iMul d 65536))))]])) ∧ InR IntKind.i64 (iAdd x 1) ∧ (true = true ∧ [SV.agg [SV.sl [Sh.int IntKind.i64, Sh.int IntKind.i64, Sh.int IntKind.i64] xs], SV.agg [SV.int IntKind.i64 n, SV.int IntKind.i64 d], SV.int IntKind.i64 dr, SV.int IntKind.i64 ji, SV.int IntKind.i64 pe, SV.int IntKind.i64 fr, SV.int IntKind.i64 to, SV.ref 0 0, SV.ref 1 0, SV.blit false, SV.int IntKind.i64 (Sp.posn xs fr), SV.int IntKind.i64 (iMul d 65536), SV.undef, SV.blit false, SV.int IntKind.i64 (iAdd (iQuo (iSub to fr) pe) 1)] = [SV.agg [SV.sl [Sh.int IntKind.i64, Sh.int IntKind.i64, Sh.int IntKind.i64] xs], SV.agg [SV.int IntKind.i64 n, SV.int IntKind.i64 d], SV.int IntKind.i64 dr, SV.int IntKind.i64 ji, SV.int IntKind.i64 pe, SV.int IntKind.i64 fr, SV.int IntKind.i64 to, SV.ref 0 0, SV.ref 1 0, SV.blit false, SV.int IntKind.i64 (Sp.posn xs fr), SV.int IntKind.i64 (iMul d 65536), SV.undef, SV.blit false, SV.int IntKind.i64 (iAdd (iQuo (iSub to fr) pe) 1)]) ∧ [HB.box [SV.sl [Sh.int IntKind.i64, Sh.int IntKind.i64, Sh.int IntKind.i64] xs] 24, HB.box [SV.int IntKind.i64 n, SV.int IntKind.i64 d] 27, HB.gone, HB.gone] = [HB.box [SV.sl [Sh.int IntKind.i64, Sh.int IntKind.i64, Sh.int IntKind.i64] xs] 24, HB.box [SV.int IntKind.i64 n, SV.int IntKind.i64 d] 27, HB.gone, HB.gone] ∧ ∃ (y : Int), Sp.kpI (↑(Sp.kpC pe fr to)) y ∧ true = true ∧ ((IntKind.i64 = IntKind.i64 ∧ iAdd x 1 = y) ∧ (2 = 2 ∧ 0 + 1 = 0 + 1) ∧ (3 = 3 ∧ 0 + 1 = 0 + 1) ∧ True) ∧ (([Sh.int IntKind.u64] ++ ([Sh.int IntKind.u64] ++ []) = [Sh.int IntKind.u64, Sh.int IntKind.u64] ∧ 78 = 78 ∧ 0 + 1 = 0 + 1 ∧ Sp.kpHs xs n d dr pe fr x.toNat ++ [[C.i (Sp.w1 (Sp.un (Sp.w1 (iSub (Sp.posn xs (iAdd fr (iMul x pe))) (Sp.posn xs fr) * iMul d 65536)) (Sp.w0 (iSub (Sp.posn xs (iAdd fr (iMul x pe))) (Sp.posn xs fr) * iMul d 65536)) - Sp.un (Sp.w1 (iMul x pe * iMul n (iAdd 65536 dr))) (Sp.w0 (iMul x pe * iMul n (iAdd 65536 dr))))), C.i (Sp.w0 (Sp.un (Sp.w1 (iSub (Sp.posn xs (iAdd fr (iMul x pe))) (Sp.posn xs fr) * iMul d 65536)) (Sp.w0 (iSub (Sp.posn xs (iAdd fr (iMul x pe))) (Sp.posn xs fr) * iMul d 65536)) - Sp.un (Sp.w1 (iMul x pe * iMul n (iAdd 65536 dr))) (Sp.w0 (iMul x pe * iMul n (iAdd 65536 dr)))))]] = Sp.kpHs xs n d dr pe fr y.toNat) ∧ ([Sh.int IntKind.u64] ++ ([Sh.int IntKind.u64] ++ []) = [Sh.int IntKind.u64, Sh.int IntKind.u64] ∧ 78 = 78 ∧ 0 + 1 = 0 + 1 ∧ Sp.kpLs xs n d dr pe fr x.toNat ++ [[C.i (Sp.w1 (Sp.un (Sp.w1 (iMul x pe * iMul n (iSub 65536 dr))) (Sp.w0 (iMul x pe * iMul n (iSub 65536 dr))) - Sp.un (Sp.w1 (iSub (Sp.posn xs (iAdd fr (iMul x pe))) (Sp.posn xs fr) * iMul d 65536)) (Sp.w0 (iSub (Sp.posn xs (iAdd fr (iMul x pe))) (Sp.posn xs fr) * iMul d 65536)))), C.i (Sp.w0 (Sp.un (Sp.w1 (iMul x pe * iMul n (iSub 65536 dr))) (Sp.w0 (iMul x pe * iMul n (iSub 65536 dr))) - Sp.un (Sp.w1 (iSub (Sp.posn xs (iAdd fr (iMul x pe))) (Sp.posn xs fr) * iMul d 65536)) (Sp.w0 (iSub (Sp.posn xs (iAdd fr (iMul x pe))) (Sp.posn xs fr) * iMul d 65536))))]] = Sp.kpLs xs n d dr pe fr y.toNat) ∧ True) ∧ 5000 - y.toNat < 5000 - x.toNat))))))) ∧ (bLt x (iAdd (iQuo (iSub to fr) pe) 1) = false → (pLe 0 ji ∧ pLe 0 (iMul d 65536)) ∧ (InR IntKind.u64 (Sp.w1 (ji * iMul d 65536)) ∧ InR IntKind.u64 (Sp.w0 (ji * iMul d 65536)) ∧ True → (Sp.kpHs xs n d dr pe fr x.toNat ≠ [] ∧ True) ∧ (True → True ∧ (bNot (Sp.riR (Sp.sg (Sp.w1 (ji * iMul d 65536)) (Sp.w0 (ji * iMul d 65536))) (Sp.uh (rGet (Sp.kpHs xs n d dr pe fr x.toNat) 0)) (Sp.ul (rGet (Sp.kpHs xs n d dr pe fr x.toNat) 0)) (Sp.kpHs xs n d dr pe fr x.toNat)) = true → (Sp.kpLs xs n d dr pe fr x.toNat ≠ [] ∧ True) ∧ (True → True ∧ (bNot (Sp.riR (Sp.sg (Sp.w1 (ji * iMul d 65536)) (Sp.w0 (ji * iMul d 65536))) (Sp.uh (rGet (Sp.kpLs xs n d dr pe fr x.toNat) 0)) (Sp.ul (rGet (Sp.kpLs xs n d dr pe fr x.toNat) 0)) (Sp.kpLs xs n d dr pe fr x.toNat)) = Sp.kpB xs n d dr ji pe fr to ∧ True) ∧ True)) ∧ (bNot (Sp.riR (Sp.sg (Sp.w1 (ji * iMul d 65536)) (Sp.w0 (ji * iMul d 65536))) (Sp.uh (rGet (Sp.kpHs xs n d dr pe fr x.toNat) 0)) (Sp.ul (rGet (Sp.kpHs xs n d dr pe fr x.toNat) 0)) (Sp.kpHs xs n d dr pe fr x.toNat)) = false → (false = Sp.kpB xs n d dr ji pe fr to ∧ True) ∧ True))))))))))))))))))) := by kernel_rfl
theorem v28 (xs : List (List C)) (n : Int) (d : Int) (dr : Int) (ji : Int) (pe : Int) (fr : Int) (to : Int) : Holds (Wfs [.agg [.sl [.int .i64, .int .i64, .int .i64] xs], .agg [.int .i64 n, .int .i64 d], .int .i64 dr, .int .i64 ji, .int .i64 pe, .int .i64 fr, .int .i64 to] → True → vcF Go.Proofs.Try.prog (look tb28) (fun _ => false) (fun _ _ => .ghost 15 [.int .u64, .int .u64] 78 (.ghost 16 [.int .u64, .int .u64] 78 (.on (fun sv0 => match sv0.tmps.getD 15 .undef, sv0.tmps.getD 16 .undef with | .own rr _, .own qq _ => .inv Int (fun z => Sp.kpI (Sp.kpC pe fr to : Int) z) (fun z => [(66, .int .i64 z), (15, .own rr 0), (16, .own qq 0)]) (fun z => [(rr, .row [.int .u64, .int .u64] 78 0 (Sp.kpHs xs n d dr pe fr z.toNat)), (qq, .row [.int .u64, .int .u64] 78 0 (Sp.kpLs xs n d dr pe fr z.toNat))]) [rr, qq] [0, 1, 2, 3, 4, 5, 6, 7, 8, 14, 15, 16, 17, 18, 19, 20, 21, 22, 23, 24, 65, 66, 67] (fun z => 5000 - z.toNat) | _, _ => .unroll 0)))) 6 28 [.agg [.sl [.int .i64, .int .i64, .int .i64] xs], .agg [.int .i64 n, .int .i64 d], .int .i64 dr, .int .i64 ji, .int .i64 pe, .int .i64 fr, .int .i64 to] [] (fun sv heap => Gives [(false, [.bool])] [[.b (Sp.kpB xs n d dr ji pe fr to)]] sv heap)) := by
  refine ⟨fun hw hp => ?_⟩
  rw [e28]
  simp only [iAdd, iSub, iMul, iLen, eq_self, true_and, and_true, true_implies, implies_true]
  simp only [Wfs, Wf, InR, and_true] at hw
  have G1 : ¬ (Sp.cval xs = true ∧ Sp.rvalid n d = true ∧ (0 ≤ dr ∧ dr ≤ 4096 ∧ 0 ≤ ji ∧ ji ≤ 65536 ∧ 1 ≤ pe ∧ 0 ≤ fr ∧ to ≤ 1099511627776 ∧ fr ≤ to ∧ (to - fr) / pe < 4096)) → false = Sp.kpB xs n d dr ji pe fr to := fun h => by
    have e : Sp.kpG xs n d dr ji pe fr to = false := by
      unfold Sp.kpG
      rw [← Bool.not_eq_true, Bool.and_eq_true, Bool.and_eq_true, decide_eq_true_eq]
      exact h
    unfold Sp.kpB; rw [e]; rfl
  simp only [bNot, bLt, bLe, pLe, pNe, decide_eq_true_eq, decide_eq_false_iff_not, Bool.not_eq_true', Bool.not_eq_false']
  refine ⟨fun h => G1 (fun c => by rw [c.1] at h; cases h), fun hv => ⟨fun h => G1 (fun c => by rw [c.2.1] at h; cases h), fun hr => ⟨fun h => G1 (fun c => by have := c.2.2; omega), fun h1 => ⟨fun h => G1 (fun c => by have := c.2.2; omega), fun h2 => ⟨fun h => G1 (fun c => by have := c.2.2; omega), fun h3 => ⟨fun h => G1 (fun c => by have := c.2.2; omega), fun h4 => ⟨fun h => G1 (fun c => by have := c.2.2; omega), fun h5 => ⟨fun h => G1 (fun c => by have := c.2.2; omega), fun h6 => ⟨fun h => G1 (fun c => by have := c.2.2; omega), fun h7 => ⟨fun h => G1 (fun c => by have := c.2.2; omega), fun h8 => ?_⟩⟩⟩⟩⟩⟩⟩⟩⟩⟩
  have eq : iQuo (to - fr) pe = (to - fr) / pe := Int.tdiv_eq_ediv_of_nonneg (by omega)
  have q0 : 0 ≤ (to - fr) / pe := Int.ediv_nonneg (by omega) (by omega)
  have q1 : (to - fr) / pe ≤ to - fr := Int.ediv_le_self _ (by omega)
  rw [eq]
  have rng : ∀ {m : Int}, -9223372036854775808 ≤ m → m ≤ 9223372036854775807 → InR .i64 m := fun a b => by simp only [InR]; omega
  refine ⟨rng (by omega) (by omega), ⟨by omega, rng (by omega) (by omega)⟩, fun h => G1 (fun c => by have := c.2.2; omega), fun h9 => ⟨⟨hv, by omega, by omega⟩, fun _ => ?_⟩⟩
  have hG : Sp.kpG xs n d dr ji pe fr to = true := by
    unfold Sp.kpG
    rw [Bool.and_eq_true, Bool.and_eq_true, decide_eq_true_eq]
    exact ⟨hv, hr, by omega⟩
  have K := fun z a b => Sp.kp_bd (z := z) (to := to) hv hr (show 0 ≤ dr by omega) (by omega) (show 1 ≤ pe by omega) (show 0 ≤ fr by omega) (by omega) (by omega) a b
  have k0 := (K 0 (Int.le_refl _) q0).2.2.2.2.1
  refine ⟨rng (by omega) (by omega), rng (by omega) (by omega), ⟨by omega, rng (by omega) (by omega)⟩, rng (by omega) (by omega), ⟨0, ⟨Int.le_refl _, by omega⟩, rfl, rfl, rfl⟩, ?_⟩
  have hC : (Sp.kpC pe fr to : Int) = (to - fr) / pe + 1 := by unfold Sp.kpC; omega
  rintro z ⟨z0, z1⟩ _ _
  refine ⟨fun hlt => ?_, fun hge => ?_⟩
  · obtain ⟨⟨b1, b2⟩, ⟨b3, b4⟩, ⟨b5, b6⟩, ⟨b7, b8⟩, ⟨b9, b10⟩, ⟨b11, b12⟩, ⟨b13, b14⟩, ⟨b15, b16⟩⟩ := K z z0 (by omega)
    have eN : Sp.posn xs (fr + z * pe) - Sp.posn xs fr = Sp.kpN xs pe fr z := rfl
    rw [eN, Sp.un_w b11 (by omega), Sp.un_w b13 (by omega), Sp.un_w b15 (by omega)]
    have eH : Sp.kpN xs pe fr z * (d * 65536) - z * pe * (n * (65536 + dr)) = Sp.kpH xs n d dr pe fr z := rfl
    have eL : z * pe * (n * (65536 - dr)) - Sp.kpN xs pe fr z * (d * 65536) = Sp.kpL xs n d dr pe fr z := rfl
    rw [eH, eL]
    have lH := Sp.kpHs_len xs n d dr pe fr z.toNat
    have lL := Sp.kpLs_len xs n d dr pe fr z.toNat
    have sH := Sp.kpHs_succ xs n d dr pe fr z.toNat
    have sL := Sp.kpLs_succ xs n d dr pe fr z.toNat
    rw [show ((z.toNat : Nat) : Int) = z by omega] at sH sL
    refine ⟨rng (by omega) (by omega), rng (by omega) (by omega), ⟨hv, by omega, by omega⟩, fun _ => ⟨rng (by omega) (by omega), ⟨b3, b9⟩, fun _ => ⟨rng (by omega) (by omega), rng (by omega) (by omega), rng (by omega) (by omega), ⟨b1, b5⟩, fun _ => ⟨rng (by omega) (by omega), rng (by omega) (by omega), rng (by omega) (by omega), ⟨b1, b7⟩, fun _ => fun _ => ⟨?_, fun _ => ⟨?_, rng (by omega) (by omega), z + 1, ⟨by omega, by omega⟩, rfl, ⟨⟨rfl, ?_⟩, ⟨rfl, ?_⟩⟩, by omega⟩⟩⟩⟩⟩⟩
    · simp only [pRoom, List.length_append, List.length_cons, List.length_nil, lH]; omega
    · simp only [pRoom, List.length_append, List.length_cons, List.length_nil, lL]; omega
    · rw [show (z + 1).toNat = z.toNat + 1 by omega, sH]; rfl
    · rw [show (z + 1).toNat = z.toNat + 1 by omega, sL]; rfl
  · have ez : z.toNat = Sp.kpC pe fr to := by omega
    have j0 := mul_bd (show 0 ≤ ji by omega) (show ji ≤ 65536 by omega) k0.1 k0.2
    rw [ez, Sp.sg_w (v := ji * (d * 65536)) (by omega) (by omega)]
    have nH : Sp.kpHs xs n d dr pe fr (Sp.kpC pe fr to) ≠ [] := fun h => by have := Sp.kpHs_len xs n d dr pe fr (Sp.kpC pe fr to); rw [h] at this; simp at this; omega
    have nL : Sp.kpLs xs n d dr pe fr (Sp.kpC pe fr to) ≠ [] := fun h => by have := Sp.kpLs_len xs n d dr pe fr (Sp.kpC pe fr to); rw [h] at this; simp at this; omega
    have eH : Sp.riR (ji * (d * 65536)) (Sp.uh (rGet (Sp.kpHs xs n d dr pe fr (Sp.kpC pe fr to)) 0)) (Sp.ul (rGet (Sp.kpHs xs n d dr pe fr (Sp.kpC pe fr to)) 0)) (Sp.kpHs xs n d dr pe fr (Sp.kpC pe fr to)) = Sp.kpR (ji * (d * 65536)) (Sp.kpHs xs n d dr pe fr (Sp.kpC pe fr to)) := rfl
    have eL : Sp.riR (ji * (d * 65536)) (Sp.uh (rGet (Sp.kpLs xs n d dr pe fr (Sp.kpC pe fr to)) 0)) (Sp.ul (rGet (Sp.kpLs xs n d dr pe fr (Sp.kpC pe fr to)) 0)) (Sp.kpLs xs n d dr pe fr (Sp.kpC pe fr to)) = Sp.kpR (ji * (d * 65536)) (Sp.kpLs xs n d dr pe fr (Sp.kpC pe fr to)) := rfl
    rw [eH, eL]
    unfold Sp.kpB
    rw [hG]
    refine ⟨⟨by omega, k0.1⟩, fun _ => ⟨nH, fun h => ⟨nL, ?_⟩, fun h => ?_⟩⟩
    · rw [h]; simp
    · rw [h]; simp
theorem s28 : SoundCt Go.Proofs.Try.prog 28 ct28 :=
  contractH followsMixed (look_sound (show Tb Go.Proofs.Try.prog tb28 from ⟨s17, ⟨s40, ⟨s33, ⟨s41, ⟨s42, ⟨s43, trivial⟩⟩⟩⟩⟩⟩)) (fun _ => false) (fun a => fun _ _ => .ghost 15 [.int .u64, .int .u64] 78 (.ghost 16 [.int .u64, .int .u64] 78 (.on (fun sv0 => match sv0.tmps.getD 15 .undef, sv0.tmps.getD 16 .undef with | .own rr _, .own qq _ => .inv Int (fun z => Sp.kpI (Sp.kpC (cel 0 (arg 4 a)).int (cel 0 (arg 5 a)).int (cel 0 (arg 6 a)).int : Int) z) (fun z => [(66, .int .i64 z), (15, .own rr 0), (16, .own qq 0)]) (fun z => [(rr, .row [.int .u64, .int .u64] 78 0 (Sp.kpHs (cel 0 (arg 0 a)).list (cel 0 (arg 1 a)).int (cel 1 (arg 1 a)).int (cel 0 (arg 2 a)).int (cel 0 (arg 4 a)).int (cel 0 (arg 5 a)).int z.toNat)), (qq, .row [.int .u64, .int .u64] 78 0 (Sp.kpLs (cel 0 (arg 0 a)).list (cel 0 (arg 1 a)).int (cel 1 (arg 1 a)).int (cel 0 (arg 2 a)).int (cel 0 (arg 4 a)).int (cel 0 (arg 5 a)).int z.toNat))]) [rr, qq] [0, 1, 2, 3, 4, 5, 6, 7, 8, 14, 15, 16, 17, 18, 19, 20, 21, 22, 23, 24, 65, 66, 67] (fun z => 5000 - z.toNat) | _, _ => .unroll 0)))) 6 28 ct28 rfl (by simp [ct28]) fun a => Eq.mp (by kernel_rfl) (v28 ((cel 0 (arg 0 a)).list) ((cel 0 (arg 1 a)).int) ((cel 1 (arg 1 a)).int) ((cel 0 (arg 2 a)).int) ((cel 0 (arg 3 a)).int) ((cel 0 (arg 4 a)).int) ((cel 0 (arg 5 a)).int) ((cel 0 (arg 6 a)).int))
end Go.Sx

