/- Contracts and conditions, continued. -/
import Derived.Test.YtodpeopfbcblaaaSxUse
import Derived.Test.YtodpeopfbcblaaaC18h
import Derived.KernelRfl
set_option linter.unusedVariables false
set_option linter.unusedSimpArgs false
set_option maxRecDepth 100000
set_option maxHeartbeats 4000000

namespace Go
open Go.Sx
def Sp.nearM (x y z : Int) : Bool := decide (x ≤ y + z) && decide (y ≤ x + z)
def Sp.rok (bn bd pn pd dr ji m u v : Int) : Bool :=
  Sp.nearM (u * bn * pd * 65536) (m * pn * bd * 65536) (m * pn * bd * dr + ji * bd * pd * 65536) && (Sp.nearM (v * bd * pd * 65536) (m * pn * bd * 65536) (m * pn * bd * dr + ji * bd * pd * 65536) &&
    Sp.nearM (u * bn * pd * 65536) (v * bd * pd * 65536) (m * pn * bd * dr + ji * bd * pd * 65536))
def Sp.rin (bn bd pn pd dr ji m u v : Int) (xs : List (List C)) : Bool :=
  match xs with
  | [] => true
  | x :: r => Sp.rok bn bd pn pd dr ji (m + 1) (u + Sp.tPull x) (v + Sp.tPush x) && Sp.rin bn bd pn pd dr ji (m + 1) (u + Sp.tPull x) (v + Sp.tPush x) r
def Sp.rout (bn bd pn pd dr ji : Int) (xs : List (List C)) : Bool :=
  match xs with
  | [] => true
  | x :: r => Sp.rin bn bd pn pd dr ji 0 0 0 (x :: r) && Sp.rout bn bd pn pd dr ji r
def Sp.rdecl (bn bd pn pd dr ji : Int) (xs : List (List C)) : Bool :=
  Sp.rvalid bn bd && (decide (bn ≤ 768000 ∧ bd ≤ 768000) && (Sp.decl pn pd dr ji && (decide ((xs.length : Int) ≤ 256) && (xs.all Sp.tval && Sp.rout bn bd pn pd dr ji xs))))
def Sp.r1 (xs : List (List C)) (kk : Int) : Prop := 0 ≤ kk ∧ kk ≤ (xs.length : Int) ∧ (xs.drop kk.toNat).all Sp.tval = xs.all Sp.tval
def Sp.r2 (bn bd pn pd dr ji : Int) (xs : List (List C)) (kk : Int) : Prop := 0 ≤ kk ∧ kk ≤ (xs.length : Int) ∧ Sp.rout bn bd pn pd dr ji (xs.drop kk.toNat) = Sp.rout bn bd pn pd dr ji xs
def Sp.r3 (bn bd pn pd dr ji : Int) (xs : List (List C)) (k0 kk u v : Int) : Prop :=
  0 ≤ kk ∧ kk ≤ (xs.length : Int) - k0 ∧ 0 ≤ u ∧ u ≤ kk * 65536 ∧ 0 ≤ v ∧ v ≤ kk * 65536 ∧ Sp.rin bn bd pn pd dr ji kk u v ((xs.drop k0.toNat).drop kk.toNat) = Sp.rin bn bd pn pd dr ji 0 0 0 (xs.drop k0.toNat)
end Go

namespace Go
open Go.Sx
theorem Sp.un_s {n : Int} (h0 : 0 ≤ n) (h1 : n ≤ 1000000000000000000000000000000) : Sp.un (Sp.w1 n) (Sp.w0 n) = n := by
  unfold Sp.un Sp.w1 Sp.w0; omega
theorem Sp.nearB_M {x y z : Int} (x0 : 0 ≤ x) (x1 : x ≤ 1000000000000000000000000000000) (y0 : 0 ≤ y) (y1 : y ≤ 1000000000000000000000000000000) (z0 : 0 ≤ z) (z1 : z ≤ 1000000000000000000000000000000) : Sp.nearB x y z = Sp.nearM x y z := by
  unfold Sp.nearB Sp.nearM Sp.m28
  rw [← decide_not, ← decide_not]
  congr 1 <;> (rw [decide_eq_decide]; omega)
theorem Sp.drop_cons {xs : List (List C)} {k : Int} (h0 : 0 ≤ k) (h1 : k < (xs.length : Int)) : xs.drop k.toNat = rGet xs k :: xs.drop (k + 1).toNat := by
  rw [List.drop_eq_getElem_cons (show k.toNat < xs.length by omega), show (k + 1).toNat = k.toNat + 1 by omega]
  congr 1
  simp [rGet, List.getD_eq_getElem?_getD, show k.toNat < xs.length by omega]
theorem Sp.rdecl_no {bn bd pn pd dr ji : Int} {xs : List (List C)} (h : Sp.rvalid bn bd = false ∨ 768000 < bn ∨ 768000 < bd ∨ Sp.decl pn pd dr ji = false ∨ 256 < (xs.length : Int) ∨ xs.all Sp.tval = false) : false = Sp.rdecl bn bd pn pd dr ji xs := by
  symm
  unfold Sp.rdecl
  rcases h with h | h | h | h | h | h
  · simp [h]
  · have : decide (bn ≤ 768000 ∧ bd ≤ 768000) = false := by simp; omega
    simp [this]
  · have : decide (bn ≤ 768000 ∧ bd ≤ 768000) = false := by simp; omega
    simp [this]
  · simp [h]
  · have : decide ((xs.length : Int) ≤ 256) = false := by simp; omega
    simp [this]
  · simp only [h, Bool.false_and, Bool.and_false]
theorem Sp.rdecl_df {bn bd pn pd dr ji : Int} {xs : List (List C)} (h1 : Sp.rvalid bn bd = true) (h2 : bn ≤ 768000) (h3 : bd ≤ 768000) (h4 : Sp.decl pn pd dr ji = true) (h5 : (xs.length : Int) ≤ 256) (h6 : xs.all Sp.tval = true) :
    Sp.rdecl bn bd pn pd dr ji xs = Sp.rout bn bd pn pd dr ji xs := by
  unfold Sp.rdecl
  rw [h1, h4, h6]
  simp [h2, h3, h5]
theorem Sp.decl_no {n d k j : Int} (h : Sp.poss n d = false ∨ k < 0 ∨ 4096 < k ∨ j < 0 ∨ 65536 < j) : Sp.decl n d k j = false := by
  unfold Sp.decl
  rcases h with h | h | h | h | h
  · simp [h]
  all_goals
    have : decide (0 ≤ k ∧ k ≤ 4096 ∧ 0 ≤ j ∧ j ≤ 65536) = false := by simp; omega
    simp [this]
theorem Sp.r_nums {bn bd pn pd dr ji m u v : Int} (h1 : 1 ≤ bn) (h2 : bn ≤ 768000) (h3 : 1 ≤ bd) (h4 : bd ≤ 768000) (h5 : 1 ≤ pd) (h6 : pd ≤ 768000) (p0 : 1 ≤ pn) (p1 : pn ≤ 68719476736) (d0 : 0 ≤ dr) (d1 : dr ≤ 4096) (j0 : 0 ≤ ji) (j1 : ji ≤ 65536)
    (m0 : 0 ≤ m) (m1 : m ≤ 257) (u0 : 0 ≤ u) (u1 : u ≤ 257 * 65536) (v0 : 0 ≤ v) (v1 : v ≤ 257 * 65536) :
    0 ≤ u * bn ∧ u * bn ≤ 100000000000000000 ∧ 0 ≤ u * bn * pd * 65536 ∧ u * bn * pd * 65536 ≤ 100000000000000000000000000 ∧ 0 ≤ v * bd ∧ v * bd ≤ 100000000000000000 ∧ 0 ≤ v * bd * pd * 65536 ∧ v * bd * pd * 65536 ≤ 100000000000000000000000000 ∧
    0 ≤ m * pn ∧ m * pn ≤ 100000000000000000 ∧ 0 ≤ m * pn * bd * 65536 ∧ m * pn * bd * 65536 ≤ 100000000000000000000000000 ∧ 0 ≤ m * pn * bd * dr ∧ m * pn * bd * dr ≤ 100000000000000000000000000 ∧
    0 ≤ ji * bd ∧ ji * bd ≤ 100000000000000000 ∧ 0 ≤ ji * bd * pd * 65536 ∧ ji * bd * pd * 65536 ≤ 100000000000000000000000000 := by
  have a1 := mul_bd (x := u) (X := 257 * 65536) (y := bn) (Y := 768000) (by omega) (by omega) (by omega) (by omega)
  have a2 := mul_bd (x := u * bn) (X := 257 * 65536 * 768000) (y := pd) (Y := 768000) (by omega) (by omega) (by omega) (by omega)
  have b1 := mul_bd (x := v) (X := 257 * 65536) (y := bd) (Y := 768000) (by omega) (by omega) (by omega) (by omega)
  have b2 := mul_bd (x := v * bd) (X := 257 * 65536 * 768000) (y := pd) (Y := 768000) (by omega) (by omega) (by omega) (by omega)
  have c1 := mul_bd (x := m) (X := 257) (y := pn) (Y := 68719476736) (by omega) (by omega) (by omega) (by omega)
  have c2 := mul_bd (x := m * pn) (X := 257 * 68719476736) (y := bd) (Y := 768000) (by omega) (by omega) (by omega) (by omega)
  have c3 := mul_bd (x := m * pn * bd) (X := 257 * 68719476736 * 768000) (y := dr) (Y := 4096) (by omega) (by omega) (by omega) (by omega)
  have e1 := mul_bd (x := ji) (X := 65536) (y := bd) (Y := 768000) (by omega) (by omega) (by omega) (by omega)
  have e2 := mul_bd (x := ji * bd) (X := 65536 * 768000) (y := pd) (Y := 768000) (by omega) (by omega) (by omega) (by omega)
  omega
end Go

namespace Go.Sx
/-! ### function 25: ref18.Declared -/
def ct25 : Ct := { ps := [(true, [.int .i64, .int .i64]), (true, [.int .i64, .int .i64]), (false, [.int .i64]), (false, [.int .i64]), (false, [.sl [.int .i64, .int .i64]])], rs := [(false, [.bool])], pre := fun _ => True, out := fun a => [[.b (Sp.rdecl (cel 0 (arg 0 a)).int (cel 1 (arg 0 a)).int (cel 0 (arg 1 a)).int (cel 1 (arg 1 a)).int (cel 0 (arg 2 a)).int (cel 0 (arg 3 a)).int (cel 0 (arg 4 a)).list)]] }
def tb25 : List (Nat × Ct) := [(38, ct38), (39, ct39), (40, ct40), (41, ct41), (42, ct42)]
theorem e25 (bn : Int) (bd : Int) (pn : Int) (pd : Int) (dr : Int) (ji : Int) (xs : List (List C)) : vcF Go.Proofs.Try.prog (look tb25) (fun _ => false) (fun _ ii => bif Nat.beq ii 4 then .inv Int (fun z => Sp.r1 xs z) (fun z => [(67, .int .i64 z)]) (fun _ => []) [] [0, 1, 2, 3, 4, 5, 6, 10, 12, 13, 14, 15, 16, 17, 18, 19, 20, 21, 22, 23, 24, 25, 64, 65, 66, 67, 68, 88, 100, 101, 102, 106, 107, 108, 109, 175] (fun z => xs.length - z.toNat) else bif Nat.beq ii 11 then .inv Int (fun z => Sp.r2 bn bd pn pd dr ji xs z) (fun z => [(101, .int .i64 z)]) (fun _ => []) [] [0, 1, 2, 3, 4, 5, 6, 10, 12, 13, 14, 15, 16, 17, 18, 19, 20, 21, 22, 23, 24, 25, 64, 65, 66, 67, 68, 88, 100, 101, 102, 106, 107, 108, 109, 175] (fun z => xs.length - z.toNat) else bif Nat.beq ii 15 then .on (fun sv0 => match sv0.tmps.getD 101 .undef with | .int _ kk => .inv (Int × Int × Int) (fun z => Sp.r3 bn bd pn pd dr ji xs kk z.1 z.2.1 z.2.2) (fun z => [(108, .int .i64 z.1), (17, .int .u64 z.2.1), (18, .int .u64 z.2.2)]) (fun _ => []) [] [0, 1, 2, 3, 4, 5, 6, 10, 12, 13, 14, 15, 16, 17, 18, 19, 20, 21, 22, 23, 24, 25, 64, 65, 66, 67, 68, 88, 100, 101, 102, 106, 107, 108, 109, 175] (fun z => xs.length - z.1.toNat) | _ => .unroll 0) else .unroll 0) 6 25 [.agg [.int .i64 bn, .int .i64 bd], .agg [.int .i64 pn, .int .i64 pd], .int .i64 dr, .int .i64 ji, .sl [.int .i64, .int .i64] xs] [] (fun sv heap => Gives [(false, [.bool])] [[.b (Sp.rdecl bn bd pn pd dr ji xs)]] sv heap) = (True ∧ (True → True ∧ (bNot (Sp.rvalid bn bd) = false → (bLt 768000 bn = false → (bLt 768000 bd = false → True ∧ (True → True ∧ (bNot (Sp.poss pn pd) = false → (bLt dr 0 = false → (bLt 4096 dr = false → (bLt ji 0 = false → (bLt 65536 ji = false → pLe (iLen xs) 9223372036854775807 → (bLt 256 (iLen xs) = true → (false = Sp.rdecl bn bd pn pd dr ji xs ∧ True) ∧ True) ∧ (bLt 256 (iLen xs) = false → pLe (iLen xs) 9223372036854775807 → (∃ (x : Int), Sp.r1 xs x ∧ true = true ∧ ((IntKind.i64 = IntKind.i64 ∧ 0 = x) ∧ True) ∧ True) ∧ (∀ (x : Int), true = true ∧ true = true) ∧ ∀ (x : Int), Sp.r1 xs x → InR IntKind.i64 x ∧ True → True → (bLt x (iLen xs) = true → pIn 0 (iLen xs) x ∧ (InR IntKind.i64 ((rGet xs x).headD default).int ∧ InR IntKind.i64 ((rGet xs x).tail.headD default).int ∧ True → (bLt ((rGet xs x).headD default).int 0 = false → (bLt 65536 ((rGet xs x).headD default).int = false → (bLt ((rGet xs x).tail.headD default).int 0 = false → (bLt 65536 ((rGet xs x).tail.headD default).int = true → (false = Sp.rdecl bn bd pn pd dr ji xs ∧ True) ∧ True) ∧ (bLt 65536 ((rGet xs x).tail.headD default).int = false → InR IntKind.i64 (iAdd x 1) ∧ (true = true ∧ [SV.agg [SV.int IntKind.i64 bn, SV.int IntKind.i64 bd], SV.agg [SV.int IntKind.i64 pn, SV.int IntKind.i64 pd], SV.int IntKind.i64 dr, SV.int IntKind.i64 ji, SV.sl [Sh.int IntKind.i64, Sh.int IntKind.i64] xs, SV.ref 0 0, SV.ref 1 0, SV.undef, SV.undef, SV.undef, SV.undef, SV.undef, SV.undef, SV.undef, SV.undef, SV.undef, SV.undef, SV.undef, SV.undef, SV.undef, SV.blit false, SV.sl [Sh.int IntKind.i64, Sh.int IntKind.i64] xs, SV.int IntKind.i64 (iLen xs), SV.undef, SV.undef, SV.undef, SV.undef, SV.undef, SV.undef, SV.undef, SV.undef] = [SV.agg [SV.int IntKind.i64 bn, SV.int IntKind.i64 bd], SV.agg [SV.int IntKind.i64 pn, SV.int IntKind.i64 pd], SV.int IntKind.i64 dr, SV.int IntKind.i64 ji, SV.sl [Sh.int IntKind.i64, Sh.int IntKind.i64] xs, SV.ref 0 0, SV.ref 1 0, SV.undef, SV.undef, SV.undef, SV.undef, SV.undef, SV.undef, SV.undef, SV.undef, SV.undef, SV.undef, SV.undef, SV.undef, SV.undef, SV.blit false, SV.sl [Sh.int IntKind.i64, Sh.int IntKind.i64] xs, SV.int IntKind.i64 (iLen xs), SV.undef, SV.undef, SV.undef, SV.undef, SV.undef, SV.undef, SV.undef, SV.undef]) ∧ [HB.box [SV.int IntKind.i64 bn, SV.int IntKind.i64 bd] 27, HB.box [SV.int IntKind.i64 pn, SV.int IntKind.i64 pd] 27] = [HB.box [SV.int IntKind.i64 bn, SV.int IntKind.i64 bd] 27, HB.box [SV.int IntKind.i64 pn, SV.int IntKind.i64 pd] 27] ∧ ∃ (y : Int), Sp.r1 xs y ∧ true = true ∧ ((IntKind.i64 = IntKind.i64 ∧ iAdd x 1 = y) ∧ True) ∧ True ∧ xs.length - y.toNat < xs.length - x.toNat)) ∧ (bLt ((rGet xs x).tail.headD default).int 0 = true → (false = Sp.rdecl bn bd pn pd dr ji xs ∧ True) ∧ True)) ∧ (bLt 65536 ((rGet xs x).headD default).int = true → (false = Sp.rdecl bn bd pn pd dr ji xs ∧ True) ∧ True)) ∧ (bLt ((rGet xs x).headD default).int 0 = true → (false = Sp.rdecl bn bd pn pd dr ji xs ∧ True) ∧ True))) ∧ (bLt x (iLen xs) = false → pLe (iLen xs) 9223372036854775807 → (∃ (x : Int), Sp.r2 bn bd pn pd dr ji xs x ∧ true = true ∧ ((IntKind.i64 = IntKind.i64 ∧ 0 = x) ∧ True) ∧ True) ∧ (∀ (x : Int), true = true ∧ true = true) ∧ ∀ (x_1 : Int), Sp.r2 bn bd pn pd dr ji xs x_1 → InR IntKind.i64 x_1 ∧ True → True → (bLt x_1 (iLen xs) = true → geB (some x_1) none (iLen xs) ∧ (pLe (iLen (cutRows xs (some x_1) none)) 9223372036854775807 → (∃ (x : Int × Int × Int), Sp.r3 bn bd pn pd dr ji xs x_1 x.1 x.snd.1 x.snd.2 ∧ true = true ∧ ((IntKind.i64 = IntKind.i64 ∧ 0 = x.1) ∧ (IntKind.u64 = IntKind.u64 ∧ 0 = x.snd.1) ∧ (IntKind.u64 = IntKind.u64 ∧ 0 = x.snd.2) ∧ True) ∧ True) ∧ (∀ (x : Int × Int × Int), true = true ∧ true = true) ∧ ∀ (x_2 : Int × Int × Int), Sp.r3 bn bd pn pd dr ji xs x_1 x_2.1 x_2.snd.1 x_2.snd.2 → InR IntKind.i64 x_2.1 ∧ InR IntKind.u64 x_2.snd.1 ∧ InR IntKind.u64 x_2.snd.2 ∧ True → True → (bLt x_2.1 (iLen (cutRows xs (some x_1) none)) = true → pIn 0 (iLen (cutRows xs (some x_1) none)) x_2.1 ∧ (InR IntKind.i64 ((rGet (cutRows xs (some x_1) none) x_2.1).headD default).int ∧ InR IntKind.i64 ((rGet (cutRows xs (some x_1) none) x_2.1).tail.headD default).int ∧ True → InR IntKind.i64 (iAdd x_2.1 1) ∧ InR IntKind.u64 (iAdd x_2.snd.1 (iWrap IntKind.u64 ((rGet (cutRows xs (some x_1) none) x_2.1).headD default).int)) ∧ InR IntKind.u64 (iAdd x_2.snd.2 (iWrap IntKind.u64 ((rGet (cutRows xs (some x_1) none) x_2.1).tail.headD default).int)) ∧ InR IntKind.u64 (iMul (iAdd x_2.snd.1 (iWrap IntKind.u64 ((rGet (cutRows xs (some x_1) none) x_2.1).headD default).int)) (iWrap IntKind.u64 bn)) ∧ (pLe (iMul (iAdd x_2.snd.1 (iWrap IntKind.u64 ((rGet (cutRows xs (some x_1) none) x_2.1).headD default).int)) (iWrap IntKind.u64 bn) * iWrap IntKind.u64 pd * 65536) 340282366920938463463374607431768211455 ∧ True) ∧ (InR IntKind.u64 (Sp.w1 (iMul (iAdd x_2.snd.1 (iWrap IntKind.u64 ((rGet (cutRows xs (some x_1) none) x_2.1).headD default).int)) (iWrap IntKind.u64 bn) * iWrap IntKind.u64 pd * 65536)) ∧ InR IntKind.u64 (Sp.w0 (iMul (iAdd x_2.snd.1 (iWrap IntKind.u64 ((rGet (cutRows xs (some x_1) none) x_2.1).headD default).int)) (iWrap IntKind.u64 bn) * iWrap IntKind.u64 pd * 65536)) ∧ True → InR IntKind.u64 (iMul (iAdd x_2.snd.2 (iWrap IntKind.u64 ((rGet (cutRows xs (some x_1) none) x_2.1).tail.headD default).int)) (iWrap IntKind.u64 bd)) ∧ (pLe (iMul (iAdd x_2.snd.2 (iWrap IntKind.u64 ((rGet (cutRows xs (some x_1) none) x_2.1).tail.headD default).int)) (iWrap IntKind.u64 bd) * iWrap IntKind.u64 pd * 65536) 340282366920938463463374607431768211455 ∧ True) ∧ (InR IntKind.u64 (Sp.w1 (iMul (iAdd x_2.snd.2 (iWrap IntKind.u64 ((rGet (cutRows xs (some x_1) none) x_2.1).tail.headD default).int)) (iWrap IntKind.u64 bd) * iWrap IntKind.u64 pd * 65536)) ∧ InR IntKind.u64 (Sp.w0 (iMul (iAdd x_2.snd.2 (iWrap IntKind.u64 ((rGet (cutRows xs (some x_1) none) x_2.1).tail.headD default).int)) (iWrap IntKind.u64 bd) * iWrap IntKind.u64 pd * 65536)) ∧ True → InR IntKind.u64 (iMul (iWrap IntKind.u64 (iAdd x_2.1 1)) (iWrap IntKind.u64 pn)) ∧ (pLe (iMul (iWrap IntKind.u64 (iAdd x_2.1 1)) (iWrap IntKind.u64 pn) * iWrap IntKind.u64 bd * 65536) 340282366920938463463374607431768211455 ∧ True) ∧ (InR IntKind.u64 (Sp.w1 (iMul (iWrap IntKind.u64 (iAdd x_2.1 1)) (iWrap IntKind.u64 pn) * iWrap IntKind.u64 bd * 65536)) ∧ InR IntKind.u64 (Sp.w0 (iMul (iWrap IntKind.u64 (iAdd x_2.1 1)) (iWrap IntKind.u64 pn) * iWrap IntKind.u64 bd * 65536)) ∧ True → InR IntKind.u64 (iMul (iWrap IntKind.u64 (iAdd x_2.1 1)) (iWrap IntKind.u64 pn)) ∧ (pLe (iMul (iWrap IntKind.u64 (iAdd x_2.1 1)) (iWrap IntKind.u64 pn) * iWrap IntKind.u64 bd * iWrap IntKind.u64 dr) 340282366920938463463374607431768211455 ∧ True) ∧ (InR IntKind.u64 (Sp.w1 (iMul (iWrap IntKind.u64 (iAdd x_2.1 1)) (iWrap IntKind.u64 pn) * iWrap IntKind.u64 bd * iWrap IntKind.u64 dr)) ∧ InR IntKind.u64 (Sp.w0 (iMul (iWrap IntKind.u64 (iAdd x_2.1 1)) (iWrap IntKind.u64 pn) * iWrap IntKind.u64 bd * iWrap IntKind.u64 dr)) ∧ True → InR IntKind.u64 (iMul (iWrap IntKind.u64 ji) (iWrap IntKind.u64 bd)) ∧ (pLe (iMul (iWrap IntKind.u64 ji) (iWrap IntKind.u64 bd) * iWrap IntKind.u64 pd * 65536) 340282366920938463463374607431768211455 ∧ True) ∧ (InR IntKind.u64 (Sp.w1 (iMul (iWrap IntKind.u64 ji) (iWrap IntKind.u64 bd) * iWrap IntKind.u64 pd * 65536)) ∧ InR IntKind.u64 (Sp.w0 (iMul (iWrap IntKind.u64 ji) (iWrap IntKind.u64 bd) * iWrap IntKind.u64 pd * 65536)) ∧ True → True ∧ (InR IntKind.u64 (Sp.w1 (Sp.un (Sp.w1 (iMul (iWrap IntKind.u64 (iAdd x_2.1 1)) (iWrap IntKind.u64 pn) * iWrap IntKind.u64 bd * iWrap IntKind.u64 dr)) (Sp.w0 (iMul (iWrap IntKind.u64 (iAdd x_2.1 1)) (iWrap IntKind.u64 pn) * iWrap IntKind.u64 bd * iWrap IntKind.u64 dr)) + Sp.un (Sp.w1 (iMul (iWrap IntKind.u64 ji) (iWrap IntKind.u64 bd) * iWrap IntKind.u64 pd * 65536)) (Sp.w0 (iMul (iWrap IntKind.u64 ji) (iWrap IntKind.u64 bd) * iWrap IntKind.u64 pd * 65536)))) ∧ InR IntKind.u64 (Sp.w0 (Sp.un (Sp.w1 (iMul (iWrap IntKind.u64 (iAdd x_2.1 1)) (iWrap IntKind.u64 pn) * iWrap IntKind.u64 bd * iWrap IntKind.u64 dr)) (Sp.w0 (iMul (iWrap IntKind.u64 (iAdd x_2.1 1)) (iWrap IntKind.u64 pn) * iWrap IntKind.u64 bd * iWrap IntKind.u64 dr)) + Sp.un (Sp.w1 (iMul (iWrap IntKind.u64 ji) (iWrap IntKind.u64 bd) * iWrap IntKind.u64 pd * 65536)) (Sp.w0 (iMul (iWrap IntKind.u64 ji) (iWrap IntKind.u64 bd) * iWrap IntKind.u64 pd * 65536)))) ∧ True → True ∧ (True → True ∧ (bNot (Sp.nearB (Sp.un (Sp.w1 (iMul (iAdd x_2.snd.1 (iWrap IntKind.u64 ((rGet (cutRows xs (some x_1) none) x_2.1).headD default).int)) (iWrap IntKind.u64 bn) * iWrap IntKind.u64 pd * 65536)) (Sp.w0 (iMul (iAdd x_2.snd.1 (iWrap IntKind.u64 ((rGet (cutRows xs (some x_1) none) x_2.1).headD default).int)) (iWrap IntKind.u64 bn) * iWrap IntKind.u64 pd * 65536))) (Sp.un (Sp.w1 (iMul (iWrap IntKind.u64 (iAdd x_2.1 1)) (iWrap IntKind.u64 pn) * iWrap IntKind.u64 bd * 65536)) (Sp.w0 (iMul (iWrap IntKind.u64 (iAdd x_2.1 1)) (iWrap IntKind.u64 pn) * iWrap IntKind.u64 bd * 65536))) (Sp.un (Sp.w1 (Sp.un (Sp.w1 (iMul (iWrap IntKind.u64 (iAdd x_2.1 1)) (iWrap IntKind.u64 pn) * iWrap IntKind.u64 bd * iWrap IntKind.u64 dr)) (Sp.w0 (iMul (iWrap IntKind.u64 (iAdd x_2.1 1)) (iWrap IntKind.u64 pn) * iWrap IntKind.u64 bd * iWrap IntKind.u64 dr)) + Sp.un (Sp.w1 (iMul (iWrap IntKind.u64 ji) (iWrap IntKind.u64 bd) * iWrap IntKind.u64 pd * 65536)) (Sp.w0 (iMul (iWrap IntKind.u64 ji) (iWrap IntKind.u64 bd) * iWrap IntKind.u64 pd * 65536)))) (Sp.w0 (Sp.un (Sp.w1 (iMul (iWrap IntKind.u64 (iAdd x_2.1 1)) (iWrap IntKind.u64 pn) * iWrap IntKind.u64 bd * iWrap IntKind.u64 dr)) (Sp.w0 (iMul (iWrap IntKind.u64 (iAdd x_2.1 1)) (iWrap IntKind.u64 pn) * iWrap IntKind.u64 bd * iWrap IntKind.u64 dr)) + Sp.un (Sp.w1 (iMul (iWrap IntKind.u64 ji) (iWrap IntKind.u64 bd) * iWrap IntKind.u64 pd * 65536)) (Sp.w0 (iMul (iWrap IntKind.u64 ji) (iWrap IntKind.u64 bd) * iWrap IntKind.u64 pd * 65536)))))) = false → True ∧ (True → True ∧ (bNot (Sp.nearB (Sp.un (Sp.w1 (iMul (iAdd x_2.snd.2 (iWrap IntKind.u64 ((rGet (cutRows xs (some x_1) none) x_2.1).tail.headD default).int)) (iWrap IntKind.u64 bd) * iWrap IntKind.u64 pd * 65536)) (Sp.w0 (iMul (iAdd x_2.snd.2 (iWrap IntKind.u64 ((rGet (cutRows xs (some x_1) none) x_2.1).tail.headD default).int)) (iWrap IntKind.u64 bd) * iWrap IntKind.u64 pd * 65536))) (Sp.un (Sp.w1 (iMul (iWrap IntKind.u64 (iAdd x_2.1 1)) (iWrap IntKind.u64 pn) * iWrap IntKind.u64 bd * 65536)) (Sp.w0 (iMul (iWrap IntKind.u64 (iAdd x_2.1 1)) (iWrap IntKind.u64 pn) * iWrap IntKind.u64 bd * 65536))) (Sp.un (Sp.w1 (Sp.un (Sp.w1 (iMul (iWrap IntKind.u64 (iAdd x_2.1 1)) (iWrap IntKind.u64 pn) * iWrap IntKind.u64 bd * iWrap IntKind.u64 dr)) (Sp.w0 (iMul (iWrap IntKind.u64 (iAdd x_2.1 1)) (iWrap IntKind.u64 pn) * iWrap IntKind.u64 bd * iWrap IntKind.u64 dr)) + Sp.un (Sp.w1 (iMul (iWrap IntKind.u64 ji) (iWrap IntKind.u64 bd) * iWrap IntKind.u64 pd * 65536)) (Sp.w0 (iMul (iWrap IntKind.u64 ji) (iWrap IntKind.u64 bd) * iWrap IntKind.u64 pd * 65536)))) (Sp.w0 (Sp.un (Sp.w1 (iMul (iWrap IntKind.u64 (iAdd x_2.1 1)) (iWrap IntKind.u64 pn) * iWrap IntKind.u64 bd * iWrap IntKind.u64 dr)) (Sp.w0 (iMul (iWrap IntKind.u64 (iAdd x_2.1 1)) (iWrap IntKind.u64 pn) * iWrap IntKind.u64 bd * iWrap IntKind.u64 dr)) + Sp.un (Sp.w1 (iMul (iWrap IntKind.u64 ji) (iWrap IntKind.u64 bd) * iWrap IntKind.u64 pd * 65536)) (Sp.w0 (iMul (iWrap IntKind.u64 ji) (iWrap IntKind.u64 bd) * iWrap IntKind.u64 pd * 65536)))))) = false → True ∧ (True → True ∧ (bNot (Sp.nearB (Sp.un (Sp.w1 (iMul (iAdd x_2.snd.1 (iWrap IntKind.u64 ((rGet (cutRows xs (some x_1) none) x_2.1).headD default).int)) (iWrap IntKind.u64 bn) * iWrap IntKind.u64 pd * 65536)) (Sp.w0 (iMul (iAdd x_2.snd.1 (iWrap IntKind.u64 ((rGet (cutRows xs (some x_1) none) x_2.1).headD default).int)) (iWrap IntKind.u64 bn) * iWrap IntKind.u64 pd * 65536))) (Sp.un (Sp.w1 (iMul (iAdd x_2.snd.2 (iWrap IntKind.u64 ((rGet (cutRows xs (some x_1) none) x_2.1).tail.headD default).int)) (iWrap IntKind.u64 bd) * iWrap IntKind.u64 pd * 65536)) (Sp.w0 (iMul (iAdd x_2.snd.2 (iWrap IntKind.u64 ((rGet (cutRows xs (some x_1) none) x_2.1).tail.headD default).int)) (iWrap IntKind.u64 bd) * iWrap IntKind.u64 pd * 65536))) (Sp.un (Sp.w1 (Sp.un (Sp.w1 (iMul (iWrap IntKind.u64 (iAdd x_2.1 1)) (iWrap IntKind.u64 pn) * iWrap IntKind.u64 bd * iWrap IntKind.u64 dr)) (Sp.w0 (iMul (iWrap IntKind.u64 (iAdd x_2.1 1)) (iWrap IntKind.u64 pn) * iWrap IntKind.u64 bd * iWrap IntKind.u64 dr)) + Sp.un (Sp.w1 (iMul (iWrap IntKind.u64 ji) (iWrap IntKind.u64 bd) * iWrap IntKind.u64 pd * 65536)) (Sp.w0 (iMul (iWrap IntKind.u64 ji) (iWrap IntKind.u64 bd) * iWrap IntKind.u64 pd * 65536)))) (Sp.w0 (Sp.un (Sp.w1 (iMul (iWrap IntKind.u64 (iAdd x_2.1 1)) (iWrap IntKind.u64 pn) * iWrap IntKind.u64 bd * iWrap IntKind.u64 dr)) (Sp.w0 (iMul (iWrap IntKind.u64 (iAdd x_2.1 1)) (iWrap IntKind.u64 pn) * iWrap IntKind.u64 bd * iWrap IntKind.u64 dr)) + Sp.un (Sp.w1 (iMul (iWrap IntKind.u64 ji) (iWrap IntKind.u64 bd) * iWrap IntKind.u64 pd * 65536)) (Sp.w0 (iMul (iWrap IntKind.u64 ji) (iWrap IntKind.u64 bd) * iWrap IntKind.u64 pd * 65536)))))) = true → (false = Sp.rdecl bn bd pn pd dr ji xs ∧ True) ∧ True) ∧ (bNot (Sp.nearB (Sp.un (Sp.w1 (iMul (iAdd x_2.snd.1 (iWrap IntKind.u64 ((rGet (cutRows xs (some x_1) none) x_2.1).headD default).int)) (iWrap IntKind.u64 bn) * iWrap IntKind.u64 pd * 65536)) (Sp.w0 (iMul (iAdd x_2.snd.1 (iWrap IntKind.u64 ((rGet (cutRows xs (some x_1) none) x_2.1).headD default).int)) (iWrap IntKind.u64 bn) * iWrap IntKind.u64 pd * 65536))) (Sp.un (Sp.w1 (iMul (iAdd x_2.snd.2 (iWrap IntKind.u64 ((rGet (cutRows xs (some x_1) none) x_2.1).tail.headD default).int)) (iWrap IntKind.u64 bd) * iWrap IntKind.u64 pd * 65536)) (Sp.w0 (iMul (iAdd x_2.snd.2 (iWrap IntKind.u64 ((rGet (cutRows xs (some x_1) none) x_2.1).tail.headD default).int)) (iWrap IntKind.u64 bd) * iWrap IntKind.u64 pd * 65536))) (Sp.un (Sp.w1 (Sp.un (Sp.w1 (iMul (iWrap IntKind.u64 (iAdd x_2.1 1)) (iWrap IntKind.u64 pn) * iWrap IntKind.u64 bd * iWrap IntKind.u64 dr)) (Sp.w0 (iMul (iWrap IntKind.u64 (iAdd x_2.1 1)) (iWrap IntKind.u64 pn) * iWrap IntKind.u64 bd * iWrap IntKind.u64 dr)) + Sp.un (Sp.w1 (iMul (iWrap IntKind.u64 ji) (iWrap IntKind.u64 bd) * iWrap IntKind.u64 pd * 65536)) (Sp.w0 (iMul (iWrap IntKind.u64 ji) (iWrap IntKind.u64 bd) * iWrap IntKind.u64 pd * 65536)))) (Sp.w0 (Sp.un (Sp.w1 (iMul (iWrap IntKind.u64 (iAdd x_2.1 1)) (iWrap IntKind.u64 pn) * iWrap IntKind.u64 bd * iWrap IntKind.u64 dr)) (Sp.w0 (iMul (iWrap IntKind.u64 (iAdd x_2.1 1)) (iWrap IntKind.u64 pn) * iWrap IntKind.u64 bd * iWrap IntKind.u64 dr)) + Sp.un (Sp.w1 (iMul (iWrap IntKind.u64 ji) (iWrap IntKind.u64 bd) * iWrap IntKind.u64 pd * 65536)) (Sp.w0 (iMul (iWrap IntKind.u64 ji) (iWrap IntKind.u64 bd) * iWrap IntKind.u64 pd * 65536)))))) = false → InR IntKind.i64 (iAdd x_2.1 1) ∧ (true = true ∧ [SV.agg [SV.int IntKind.i64 bn, SV.int IntKind.i64 bd], SV.agg [SV.int IntKind.i64 pn, SV.int IntKind.i64 pd], SV.int IntKind.i64 dr, SV.int IntKind.i64 ji, SV.sl [Sh.int IntKind.i64, Sh.int IntKind.i64] xs, SV.ref 0 0, SV.ref 1 0, SV.any, SV.int IntKind.u64 (iWrap IntKind.u64 bd), SV.int IntKind.u64 (iWrap IntKind.u64 pn), SV.int IntKind.u64 (iWrap IntKind.u64 pd), SV.int IntKind.i64 x_1, SV.blit false, SV.sl [Sh.int IntKind.i64, Sh.int IntKind.i64] xs, SV.int IntKind.i64 (iLen xs), SV.int IntKind.i64 x, SV.blit false, SV.any, SV.int IntKind.i64 (iLen xs), SV.int IntKind.i64 x_1, SV.blit true, SV.sl [Sh.int IntKind.i64, Sh.int IntKind.i64] (cutRows xs (some x_1) none), SV.int IntKind.i64 (iLen (cutRows xs (some x_1) none))] = [SV.agg [SV.int IntKind.i64 bn, SV.int IntKind.i64 bd], SV.agg [SV.int IntKind.i64 pn, SV.int IntKind.i64 pd], SV.int IntKind.i64 dr, SV.int IntKind.i64 ji, SV.sl [Sh.int IntKind.i64, Sh.int IntKind.i64] xs, SV.ref 0 0, SV.ref 1 0, SV.any, SV.int IntKind.u64 (iWrap IntKind.u64 bd), SV.int IntKind.u64 (iWrap IntKind.u64 pn), SV.int IntKind.u64 (iWrap IntKind.u64 pd), SV.int IntKind.i64 x_1, SV.blit false, SV.sl [Sh.int IntKind.i64, Sh.int IntKind.i64] xs, SV.int IntKind.i64 (iLen xs), SV.int IntKind.i64 x, SV.blit false, SV.any, SV.int IntKind.i64 (iLen xs), SV.int IntKind.i64 x_1, SV.blit true, SV.sl [Sh.int IntKind.i64, Sh.int IntKind.i64] (cutRows xs (some x_1) none), SV.int IntKind.i64 (iLen (cutRows xs (some x_1) none))]) ∧ [HB.box [SV.int IntKind.i64 bn, SV.int IntKind.i64 bd] 27, HB.box [SV.int IntKind.i64 pn, SV.int IntKind.i64 pd] 27] = [HB.box [SV.int IntKind.i64 bn, SV.int IntKind.i64 bd] 27, HB.box [SV.int IntKind.i64 pn, SV.int IntKind.i64 pd] 27] ∧ ∃ (y : Int × Int × Int), Sp.r3 bn bd pn pd dr ji xs x_1 y.1 y.snd.1 y.snd.2 ∧ true = true ∧ ((IntKind.i64 = IntKind.i64 ∧ iAdd x_2.1 1 = y.1) ∧ (IntKind.u64 = IntKind.u64 ∧ iAdd x_2.snd.1 (iWrap IntKind.u64 ((rGet (cutRows xs (some x_1) none) x_2.1).headD default).int) = y.snd.1) ∧ (IntKind.u64 = IntKind.u64 ∧ iAdd x_2.snd.2 (iWrap IntKind.u64 ((rGet (cutRows xs (some x_1) none) x_2.1).tail.headD default).int) = y.snd.2) ∧ True) ∧ True ∧ xs.length - y.1.toNat < xs.length - x_2.1.toNat))) ∧ (bNot (Sp.nearB (Sp.un (Sp.w1 (iMul (iAdd x_2.snd.2 (iWrap IntKind.u64 ((rGet (cutRows xs (some x_1) none) x_2.1).tail.headD default).int)) (iWrap IntKind.u64 bd) * iWrap IntKind.u64 pd * 65536)) (Sp.w0 (iMul (iAdd x_2.snd.2 (iWrap IntKind.u64 ((rGet (cutRows xs (some x_1) none) x_2.1).tail.headD default).int)) (iWrap IntKind.u64 bd) * iWrap IntKind.u64 pd * 65536))) (Sp.un (Sp.w1 (iMul (iWrap IntKind.u64 (iAdd x_2.1 1)) (iWrap IntKind.u64 pn) * iWrap IntKind.u64 bd * 65536)) (Sp.w0 (iMul (iWrap IntKind.u64 (iAdd x_2.1 1)) (iWrap IntKind.u64 pn) * iWrap IntKind.u64 bd * 65536))) (Sp.un (Sp.w1 (Sp.un (Sp.w1 (iMul (iWrap IntKind.u64 (iAdd x_2.1 1)) (iWrap IntKind.u64 pn) * iWrap IntKind.u64 bd * iWrap IntKind.u64 dr)) (Sp.w0 (iMul (iWrap IntKind.u64 (iAdd x_2.1 1)) (iWrap IntKind.u64 pn) * iWrap IntKind.u64 bd * iWrap IntKind.u64 dr)) + Sp.un (Sp.w1 (iMul (iWrap IntKind.u64 ji) (iWrap IntKind.u64 bd) * iWrap IntKind.u64 pd * 65536)) (Sp.w0 (iMul (iWrap IntKind.u64 ji) (iWrap IntKind.u64 bd) * iWrap IntKind.u64 pd * 65536)))) (Sp.w0 (Sp.un (Sp.w1 (iMul (iWrap IntKind.u64 (iAdd x_2.1 1)) (iWrap IntKind.u64 pn) * iWrap IntKind.u64 bd * iWrap IntKind.u64 dr)) (Sp.w0 (iMul (iWrap IntKind.u64 (iAdd x_2.1 1)) (iWrap IntKind.u64 pn) * iWrap IntKind.u64 bd * iWrap IntKind.u64 dr)) + Sp.un (Sp.w1 (iMul (iWrap IntKind.u64 ji) (iWrap IntKind.u64 bd) * iWrap IntKind.u64 pd * 65536)) (Sp.w0 (iMul (iWrap IntKind.u64 ji) (iWrap IntKind.u64 bd) * iWrap IntKind.u64 pd * 65536)))))) = true → (false = Sp.rdecl bn bd pn pd dr ji xs ∧ True) ∧ True))) ∧ (bNot (Sp.nearB (Sp.un (Sp.w1 (iMul (iAdd x_2.snd.1 (iWrap IntKind.u64 ((rGet (cutRows xs (some x_1) none) x_2.1).headD default).int)) (iWrap IntKind.u64 bn) * iWrap IntKind.u64 pd * 65536)) (Sp.w0 (iMul (iAdd x_2.snd.1 (iWrap IntKind.u64 ((rGet (cutRows xs (some x_1) none) x_2.1).headD default).int)) (iWrap IntKind.u64 bn) * iWrap IntKind.u64 pd * 65536))) (Sp.un (Sp.w1 (iMul (iWrap IntKind.u64 (iAdd x_2.1 1)) (iWrap IntKind.u64 pn) * iWrap IntKind.u64 bd * 65536)) (Sp.w0 (iMul (iWrap IntKind.u64 (iAdd x_2.1 1)) (iWrap IntKind.u64 pn) * iWrap IntKind.u64 bd * 65536))) (Sp.un (Sp.w1 (Sp.un (Sp.w1 (iMul (iWrap IntKind.u64 (iAdd x_2.1 1)) (iWrap IntKind.u64 pn) * iWrap IntKind.u64 bd * iWrap IntKind.u64 dr)) (Sp.w0 (iMul (iWrap IntKind.u64 (iAdd x_2.1 1)) (iWrap IntKind.u64 pn) * iWrap IntKind.u64 bd * iWrap IntKind.u64 dr)) + Sp.un (Sp.w1 (iMul (iWrap IntKind.u64 ji) (iWrap IntKind.u64 bd) * iWrap IntKind.u64 pd * 65536)) (Sp.w0 (iMul (iWrap IntKind.u64 ji) (iWrap IntKind.u64 bd) * iWrap IntKind.u64 pd * 65536)))) (Sp.w0 (Sp.un (Sp.w1 (iMul (iWrap IntKind.u64 (iAdd x_2.1 1)) (iWrap IntKind.u64 pn) * iWrap IntKind.u64 bd * iWrap IntKind.u64 dr)) (Sp.w0 (iMul (iWrap IntKind.u64 (iAdd x_2.1 1)) (iWrap IntKind.u64 pn) * iWrap IntKind.u64 bd * iWrap IntKind.u64 dr)) + Sp.un (Sp.w1 (iMul (iWrap IntKind.u64 ji) (iWrap IntKind.u64 bd) * iWrap IntKind.u64 pd * 65536)) (Sp.w0 (iMul (iWrap IntKind.u64 ji) (iWrap IntKind.u64 bd) * iWrap IntKind.u64 pd * 65536)))))) = true → (false = Sp.rdecl bn bd pn pd dr ji xs ∧ True) ∧ True)))))))))) ∧ (bLt x_2.1 (iLen (cutRows xs (some x_1) none)) = false → InR IntKind.i64 (iAdd x_1 1) ∧ (true = true ∧ [SV.agg [SV.int IntKind.i64 bn, SV.int IntKind.i64 bd], SV.agg [SV.int IntKind.i64 pn, SV.int IntKind.i64 pd], SV.int IntKind.i64 dr, SV.int IntKind.i64 ji, SV.sl [Sh.int IntKind.i64, Sh.int IntKind.i64] xs, SV.ref 0 0, SV.ref 1 0, SV.any, SV.int IntKind.u64 (iWrap IntKind.u64 bd), SV.int IntKind.u64 (iWrap IntKind.u64 pn), SV.int IntKind.u64 (iWrap IntKind.u64 pd), SV.blit false, SV.sl [Sh.int IntKind.i64, Sh.int IntKind.i64] xs, SV.int IntKind.i64 (iLen xs), SV.int IntKind.i64 x, SV.blit false, SV.any, SV.int IntKind.i64 (iLen xs)] = [SV.agg [SV.int IntKind.i64 bn, SV.int IntKind.i64 bd], SV.agg [SV.int IntKind.i64 pn, SV.int IntKind.i64 pd], SV.int IntKind.i64 dr, SV.int IntKind.i64 ji, SV.sl [Sh.int IntKind.i64, Sh.int IntKind.i64] xs, SV.ref 0 0, SV.ref 1 0, SV.any, SV.int IntKind.u64 (iWrap IntKind.u64 bd), SV.int IntKind.u64 (iWrap IntKind.u64 pn), SV.int IntKind.u64 (iWrap IntKind.u64 pd), SV.blit false, SV.sl [Sh.int IntKind.i64, Sh.int IntKind.i64] xs, SV.int IntKind.i64 (iLen xs), SV.int IntKind.i64 x, SV.blit false, SV.any, SV.int IntKind.i64 (iLen xs)]) ∧ [HB.box [SV.int IntKind.i64 bn, SV.int IntKind.i64 bd] 27, HB.box [SV.int IntKind.i64 pn, SV.int IntKind.i64 pd] 27] = [HB.box [SV.int IntKind.i64 bn, SV.int IntKind.i64 bd] 27, HB.box [SV.int IntKind.i64 pn, SV.int IntKind.i64 pd] 27] ∧ ∃ (y : Int), Sp.r2 bn bd pn pd dr ji xs y ∧ true = true ∧ ((IntKind.i64 = IntKind.i64 ∧ iAdd x_1 1 = y) ∧ True) ∧ True ∧ xs.length - y.toNat < xs.length - x_1.toNat))) ∧ (bLt x_1 (iLen xs) = false → (true = Sp.rdecl bn bd pn pd dr ji xs ∧ True) ∧ True)))) ∧ (bLt 65536 ji = true → (false = Sp.rdecl bn bd pn pd dr ji xs ∧ True) ∧ True)) ∧ (bLt ji 0 = true → (false = Sp.rdecl bn bd pn pd dr ji xs ∧ True) ∧ True)) ∧ (bLt 4096 dr = true → (false = Sp.rdecl bn bd pn pd dr ji xs ∧ True) ∧ True)) ∧ (bLt dr 0 = true → (false = Sp.rdecl bn bd pn pd dr ji xs ∧ True) ∧ True)) ∧ (bNot (Sp.poss pn pd) = true → (false = Sp.rdecl bn bd pn pd dr ji xs ∧ True) ∧ True))) ∧ (bLt 768000 bd = true → (false = Sp.rdecl bn bd pn pd dr ji xs ∧ True) ∧ True)) ∧ (bLt 768000 bn = true → (false = Sp.rdecl bn bd pn pd dr ji xs ∧ True) ∧ True)) ∧ (bNot (Sp.rvalid bn bd) = true → (false = Sp.rdecl bn bd pn pd dr ji xs ∧ True) ∧ True))) := by kernel_rfl
theorem v25 (bn : Int) (bd : Int) (pn : Int) (pd : Int) (dr : Int) (ji : Int) (xs : List (List C)) : Holds (Wfs [.agg [.int .i64 bn, .int .i64 bd], .agg [.int .i64 pn, .int .i64 pd], .int .i64 dr, .int .i64 ji, .sl [.int .i64, .int .i64] xs] → True → vcF Go.Proofs.Try.prog (look tb25) (fun _ => false) (fun _ ii => bif Nat.beq ii 4 then .inv Int (fun z => Sp.r1 xs z) (fun z => [(67, .int .i64 z)]) (fun _ => []) [] [0, 1, 2, 3, 4, 5, 6, 10, 12, 13, 14, 15, 16, 17, 18, 19, 20, 21, 22, 23, 24, 25, 64, 65, 66, 67, 68, 88, 100, 101, 102, 106, 107, 108, 109, 175] (fun z => xs.length - z.toNat) else bif Nat.beq ii 11 then .inv Int (fun z => Sp.r2 bn bd pn pd dr ji xs z) (fun z => [(101, .int .i64 z)]) (fun _ => []) [] [0, 1, 2, 3, 4, 5, 6, 10, 12, 13, 14, 15, 16, 17, 18, 19, 20, 21, 22, 23, 24, 25, 64, 65, 66, 67, 68, 88, 100, 101, 102, 106, 107, 108, 109, 175] (fun z => xs.length - z.toNat) else bif Nat.beq ii 15 then .on (fun sv0 => match sv0.tmps.getD 101 .undef with | .int _ kk => .inv (Int × Int × Int) (fun z => Sp.r3 bn bd pn pd dr ji xs kk z.1 z.2.1 z.2.2) (fun z => [(108, .int .i64 z.1), (17, .int .u64 z.2.1), (18, .int .u64 z.2.2)]) (fun _ => []) [] [0, 1, 2, 3, 4, 5, 6, 10, 12, 13, 14, 15, 16, 17, 18, 19, 20, 21, 22, 23, 24, 25, 64, 65, 66, 67, 68, 88, 100, 101, 102, 106, 107, 108, 109, 175] (fun z => xs.length - z.1.toNat) | _ => .unroll 0) else .unroll 0) 6 25 [.agg [.int .i64 bn, .int .i64 bd], .agg [.int .i64 pn, .int .i64 pd], .int .i64 dr, .int .i64 ji, .sl [.int .i64, .int .i64] xs] [] (fun sv heap => Gives [(false, [.bool])] [[.b (Sp.rdecl bn bd pn pd dr ji xs)]] sv heap)) := by
  refine ⟨fun hw hp => ?_⟩
  rw [e25]
  simp only [iMul, iAdd, iSub, eq_self, true_and, and_true, implies_true, true_implies]
  refine ⟨fun h1 => ⟨fun h2 => ⟨fun h3 => ⟨fun h4 => ⟨fun g1 => ⟨fun g2 => ⟨fun g3 => ⟨fun g4 _ => ⟨fun h5 => ?_, fun h5 => ?_⟩, fun g4 => ?_⟩, fun g3 => ?_⟩, fun g2 => ?_⟩, fun g1 => ?_⟩, fun h4 => ?_⟩, fun h3 => ?_⟩, fun h2 => ?_⟩, fun h1 => ?_⟩
  rotate_left 2
  · exact Sp.rdecl_no (.inr (.inr (.inr (.inl (Sp.decl_no (.inr (.inr (.inr (.inr (by simpa [bLt] using g4))))))))))
  · exact Sp.rdecl_no (.inr (.inr (.inr (.inl (Sp.decl_no (.inr (.inr (.inr (.inl (by simpa [bLt] using g3))))))))))
  · exact Sp.rdecl_no (.inr (.inr (.inr (.inl (Sp.decl_no (.inr (.inr (.inl (by simpa [bLt] using g2)))))))))
  · exact Sp.rdecl_no (.inr (.inr (.inr (.inl (Sp.decl_no (.inr (.inl (by simpa [bLt] using g1))))))))
  · exact Sp.rdecl_no (.inr (.inr (.inr (.inl (Sp.decl_no (.inl (by simpa using h4)))))))
  · exact Sp.rdecl_no (.inr (.inr (.inl (by simpa [bLt] using h3))))
  · exact Sp.rdecl_no (.inr (.inl (by simpa [bLt] using h2)))
  · exact Sp.rdecl_no (.inl (by simpa using h1))
  · exact Sp.rdecl_no (.inr (.inr (.inr (.inr (.inl (by simpa [bLt, iLen] using h5))))))
  have v1 : Sp.rvalid bn bd = true := by simpa using h1
  simp only [bLt, iLen, decide_eq_false_iff_not] at h2 h3 h5 g1 g2 g3 g4
  have v4 : Sp.decl pn pd dr ji = true := by
    unfold Sp.decl
    have e : Sp.poss pn pd = true := by simpa using h4
    rw [e]; simp; omega
  have hd := Sp.decl_of v4
  have hb : 1 ≤ bn ∧ 1 ≤ bd := by
    have h := v1
    simp only [Sp.rvalid, decide_eq_true_eq] at h; omega
  clear h1 h4
  simp only [pLe, iLen]
  refine fun _ => ⟨⟨0, ⟨by omega, by omega, rfl⟩, rfl⟩, ?_⟩
  rintro k ⟨k0, k1, hk⟩ _
  refine ⟨fun hlt => ?_, fun hge => ?_⟩
  · simp only [bLt, decide_eq_true_eq] at hlt
    rw [Sp.drop_cons k0 hlt] at hk
    generalize rGet xs k = x at *
    have e1 : (x.headD default).int = Sp.tPull x := rfl
    have e2 : (x.tail.headD default).int = Sp.tPush x := rfl
    simp only [e1, e2]
    have no : Sp.tval x = false → false = Sp.rdecl bn bd pn pd dr ji xs := fun h => Sp.rdecl_no (.inr (.inr (.inr (.inr (.inr (by rw [← hk, List.all_cons, h]; rfl))))))
    refine ⟨⟨k0, hlt⟩, fun _ => ⟨fun q1 => ⟨fun q2 => ⟨fun q3 => ⟨fun q4 => ?_, fun q4 => ?_⟩, fun q3 => ?_⟩, fun q2 => ?_⟩, fun q1 => ?_⟩⟩
    · simp only [bLt, decide_eq_true_eq] at q4
      exact no (by simp only [Sp.tval, decide_eq_false_iff_not]; omega)
    · simp only [bLt, decide_eq_false_iff_not] at q1 q2 q3 q4
      have t : Sp.tval x = true := by simp only [Sp.tval, decide_eq_true_eq]; omega
      refine ⟨by simp only [InR]; omega, k + 1, ⟨by omega, by omega, ?_⟩, rfl, by omega⟩
      rw [← hk, List.all_cons, t]; rfl
    · simp only [bLt, decide_eq_true_eq] at q3
      exact no (by simp only [Sp.tval, decide_eq_false_iff_not]; omega)
    · simp only [bLt, decide_eq_true_eq] at q2
      exact no (by simp only [Sp.tval, decide_eq_false_iff_not]; omega)
    · simp only [bLt, decide_eq_true_eq] at q1
      exact no (by simp only [Sp.tval, decide_eq_false_iff_not]; omega)
  simp only [bLt, decide_eq_false_iff_not] at hge
  have hall : xs.all Sp.tval = true := by
    rw [← hk, List.drop_eq_nil_of_le (by omega)]; rfl
  rw [Sp.rdecl_df v1 (by omega) (by omega) v4 (by omega) hall]
  refine fun _ => ⟨⟨0, ⟨by omega, by omega, rfl⟩, rfl⟩, ?_⟩
  rintro i ⟨i0, i1, hi⟩ _
  refine ⟨fun hlt => ?_, fun hge => ?_⟩
  rotate_left
  · simp only [bLt, decide_eq_false_iff_not] at hge
    rw [← hi, List.drop_eq_nil_of_le (by omega)]; rfl
  simp only [bLt, decide_eq_true_eq] at hlt
  rw [Sp.drop_cons i0 hlt, Sp.rout, ← Sp.drop_cons i0 hlt] at hi
  have hc : cutRows xs (some i) none = xs.drop i.toNat := rfl
  have hlen : ((xs.drop i.toNat).length : Int) = (xs.length : Int) - i := by rw [List.length_drop]; omega
  simp only [hc, hlen, Sp.r3]
  refine ⟨⟨i0, by omega⟩, fun _ => ⟨⟨(0, 0, 0), ⟨by simp only; omega, by simp only; omega, by simp only; omega, by simp only; omega, by simp only; omega, by simp only; omega, rfl⟩, rfl, rfl, rfl⟩, ?_⟩⟩
  have hin : ∀ y ∈ xs.drop i.toNat, Sp.tval y = true := fun y hy => List.all_eq_true.1 hall y (List.mem_of_mem_drop hy)
  generalize xs.drop i.toNat = ys at *
  rintro ⟨k, u, v⟩ ⟨k0, k1, u0, u1, w0, w1, hr⟩ _
  simp only at k0 k1 u0 u1 w0 w1 hr ⊢
  refine ⟨fun hlt => ?_, fun hge => ?_⟩
  rotate_left
  · simp only [bLt, decide_eq_false_iff_not] at hge
    refine ⟨by simp only [InR]; omega, i + 1, ⟨by omega, by omega, ?_⟩, rfl, by omega⟩
    have e : ys.drop k.toNat = [] := List.drop_eq_nil_of_le (by omega)
    rw [← hi, ← hr, e]; rfl
  simp only [bLt, decide_eq_true_eq] at hlt
  rw [Sp.drop_cons k0 (by omega)] at hr
  have hx : Sp.tval (rGet ys k) = true := hin _ (by
    simp only [rGet, List.getD_eq_getElem?_getD]
    rw [List.getElem?_eq_getElem (show k.toNat < ys.length by omega)]
    exact List.getElem_mem _)
  generalize rGet ys k = x at *
  have e1 : (x.headD default).int = Sp.tPull x := rfl
  have e2 : (x.tail.headD default).int = Sp.tPush x := rfl
  simp only [e1, e2]
  simp only [Sp.tval, decide_eq_true_eq] at hx
  simp only [Sp.rin] at hr
  rw [Sp.wrap64 (x := Sp.tPull x) (by omega) (by omega), Sp.wrap64 (x := Sp.tPush x) (by omega) (by omega), Sp.wrap64 (x := bn) (by omega) (by omega), Sp.wrap64 (x := bd) (by omega) (by omega), Sp.wrap64 (x := pd) (by omega) (by omega), Sp.wrap64 (x := pn) (by omega) (by omega), Sp.wrap64 (x := dr) (by omega) (by omega), Sp.wrap64 (x := ji) (by omega) (by omega), Sp.wrap64 (x := k + 1) (by omega) (by omega)]
  obtain ⟨a1, a2, a3, a4, a5, a6, a7, a8, a9, a10, a11, a12, a13, a14, a15, a16, a17, a18⟩ := Sp.r_nums (bn := bn) (bd := bd) (pn := pn) (pd := pd) (dr := dr) (ji := ji) (m := k + 1) (u := u + Sp.tPull x) (v := v + Sp.tPush x)
    hb.1 (by omega) hb.2 (by omega) (by omega) (by omega) (by omega) (by omega) (by omega) (by omega) (by omega) (by omega) (by omega) (by omega) (by omega) (by omega) (by omega) (by omega)
  have hok : Sp.rok bn bd pn pd dr ji (k + 1) (u + Sp.tPull x) (v + Sp.tPush x) = (Sp.nearM ((u + Sp.tPull x) * bn * pd * 65536) ((k + 1) * pn * bd * 65536) ((k + 1) * pn * bd * dr + ji * bd * pd * 65536) && (Sp.nearM ((v + Sp.tPush x) * bd * pd * 65536) ((k + 1) * pn * bd * 65536) ((k + 1) * pn * bd * dr + ji * bd * pd * 65536) &&
    Sp.nearM ((u + Sp.tPull x) * bn * pd * 65536) ((v + Sp.tPush x) * bd * pd * 65536) ((k + 1) * pn * bd * dr + ji * bd * pd * 65536))) := rfl
  rw [hok] at hr
  clear hok
  generalize (u + Sp.tPull x) * bn * pd * 65536 = U at *
  generalize (v + Sp.tPush x) * bd * pd * 65536 = V at *
  generalize (k + 1) * pn * bd * 65536 = N at *
  generalize (k + 1) * pn * bd * dr = A at *
  generalize ji * bd * pd * 65536 = B at *
  generalize (u + Sp.tPull x) * bn = U1 at *
  generalize (v + Sp.tPush x) * bd = V1 at *
  generalize (k + 1) * pn = N1 at *
  generalize ji * bd = B1 at *
  rw [Sp.un_s (n := A) (by omega) (by omega), Sp.un_s (n := B) (by omega) (by omega), Sp.un_s (n := A + B) (by omega) (by omega), Sp.un_s (n := U) (by omega) (by omega), Sp.un_s (n := V) (by omega) (by omega), Sp.un_s (n := N) (by omega) (by omega)]
  rw [Sp.nearB_M (x := U) (y := N) (z := A + B) (by omega) (by omega) (by omega) (by omega) (by omega) (by omega), Sp.nearB_M (x := V) (y := N) (z := A + B) (by omega) (by omega) (by omega) (by omega) (by omega) (by omega), Sp.nearB_M (x := U) (y := V) (z := A + B) (by omega) (by omega) (by omega) (by omega) (by omega) (by omega)]
  generalize Sp.nearM U N (A + B) = p1 at *
  generalize Sp.nearM V N (A + B) = p2 at *
  generalize Sp.nearM U V (A + B) = p3 at *
  simp only [InR]
  refine ⟨⟨k0, by omega⟩, fun _ => ⟨by omega, by omega, by omega, by omega, by omega, fun _ => ⟨by omega, by omega, fun _ => ⟨by omega, by omega, fun _ => ⟨by omega, by omega, fun _ => ⟨by omega, by omega, fun _ _ => ?_⟩⟩⟩⟩⟩⟩
  have bad : (p1 && (p2 && p3)) = false → false = Sp.rout bn bd pn pd dr ji xs := fun h => by rw [← hi, ← hr, h]; rfl
  have good : (p1 && (p2 && p3)) = true → Sp.rin bn bd pn pd dr ji (k + 1) (u + Sp.tPull x) (v + Sp.tPush x) (ys.drop (k + 1).toNat) = Sp.rin bn bd pn pd dr ji 0 0 0 ys := fun h => by rw [← hr, h]; rfl
  refine ⟨fun f1 => ⟨fun f2 => ⟨fun f3 => bad (by cases p3 <;> simp_all), fun f3 => ⟨by omega, (k + 1, u + Sp.tPull x, v + Sp.tPush x), ⟨by simp only; omega, by simp only; omega, by simp only; omega, by simp only; omega, by simp only; omega, by simp only; omega, good (by cases p1 <;> cases p2 <;> cases p3 <;> simp_all)⟩, ⟨rfl, rfl, rfl⟩, by simp only; omega⟩⟩, fun f2 => bad (by cases p2 <;> simp_all)⟩, fun f1 => bad (by cases p1 <;> simp_all)⟩
theorem s25 : SoundCt Go.Proofs.Try.prog 25 ct25 :=
  contractH followsMixed (look_sound (show Tb Go.Proofs.Try.prog tb25 from ⟨s38, ⟨s39, ⟨s40, ⟨s41, ⟨s42, trivial⟩⟩⟩⟩⟩)) (fun _ => false) (fun a => fun _ ii => bif Nat.beq ii 4 then .inv Int (fun z => Sp.r1 (cel 0 (arg 4 a)).list z) (fun z => [(67, .int .i64 z)]) (fun _ => []) [] [0, 1, 2, 3, 4, 5, 6, 10, 12, 13, 14, 15, 16, 17, 18, 19, 20, 21, 22, 23, 24, 25, 64, 65, 66, 67, 68, 88, 100, 101, 102, 106, 107, 108, 109, 175] (fun z => (cel 0 (arg 4 a)).list.length - z.toNat) else bif Nat.beq ii 11 then .inv Int (fun z => Sp.r2 (cel 0 (arg 0 a)).int (cel 1 (arg 0 a)).int (cel 0 (arg 1 a)).int (cel 1 (arg 1 a)).int (cel 0 (arg 2 a)).int (cel 0 (arg 3 a)).int (cel 0 (arg 4 a)).list z) (fun z => [(101, .int .i64 z)]) (fun _ => []) [] [0, 1, 2, 3, 4, 5, 6, 10, 12, 13, 14, 15, 16, 17, 18, 19, 20, 21, 22, 23, 24, 25, 64, 65, 66, 67, 68, 88, 100, 101, 102, 106, 107, 108, 109, 175] (fun z => (cel 0 (arg 4 a)).list.length - z.toNat) else bif Nat.beq ii 15 then .on (fun sv0 => match sv0.tmps.getD 101 .undef with | .int _ kk => .inv (Int × Int × Int) (fun z => Sp.r3 (cel 0 (arg 0 a)).int (cel 1 (arg 0 a)).int (cel 0 (arg 1 a)).int (cel 1 (arg 1 a)).int (cel 0 (arg 2 a)).int (cel 0 (arg 3 a)).int (cel 0 (arg 4 a)).list kk z.1 z.2.1 z.2.2) (fun z => [(108, .int .i64 z.1), (17, .int .u64 z.2.1), (18, .int .u64 z.2.2)]) (fun _ => []) [] [0, 1, 2, 3, 4, 5, 6, 10, 12, 13, 14, 15, 16, 17, 18, 19, 20, 21, 22, 23, 24, 25, 64, 65, 66, 67, 68, 88, 100, 101, 102, 106, 107, 108, 109, 175] (fun z => (cel 0 (arg 4 a)).list.length - z.1.toNat) | _ => .unroll 0) else .unroll 0) 6 25 ct25 rfl (by simp [ct25]) fun a => Eq.mp (by kernel_rfl) (v25 ((cel 0 (arg 0 a)).int) ((cel 1 (arg 0 a)).int) ((cel 0 (arg 1 a)).int) ((cel 1 (arg 1 a)).int) ((cel 0 (arg 2 a)).int) ((cel 0 (arg 3 a)).int) ((cel 0 (arg 4 a)).list))
end Go.Sx

namespace Go
/-- Running sums never exceed the bound (from a start). -/
def Sp.pre (L : Int) : Int → List Int → Bool
  | _, [] => true
  | s, a :: bs => decide (s + a ≤ L) && Sp.pre L (s + a) bs
/-- No run of neighbours exceeds the bound. -/
def Sp.win (L : Int) : List Int → Bool
  | [] => true
  | a :: bs => Sp.pre L 0 (a :: bs) && Sp.win L bs
/-- The sum so far and the least one so far: their distance never exceeds the bound. -/
def Sp.kad (L : Int) : Int → Int → List Int → Bool
  | _, _, [] => true
  | n, l, a :: bs => decide (n + a - min l (n + a) ≤ L) && Sp.kad L (n + a) (min l (n + a)) bs
theorem Sp.pre_anti {L : Int} : ∀ {bs : List Int} {s t : Int}, s ≤ t → Sp.pre L t bs = true → Sp.pre L s bs = true
  | [], _, _, _, _ => rfl
  | a :: bs, s, t, h, p => by
    simp only [Sp.pre, Bool.and_eq_true, decide_eq_true_eq] at p ⊢
    exact ⟨by omega, Sp.pre_anti (by omega) p.2⟩
theorem Sp.win_pre {L : Int} : ∀ {bs : List Int}, Sp.win L bs = true → Sp.pre L 0 bs = true
  | [], _ => rfl
  | a :: bs, h => by simp only [Sp.win, Bool.and_eq_true] at h; exact h.1
theorem Sp.kad_iff {L : Int} (hL : 0 ≤ L) : ∀ {bs : List Int} {n l : Int}, l ≤ n → (Sp.kad L n l bs = true ↔ Sp.pre L (n - l) bs = true ∧ Sp.win L bs = true)
  | [], _, _, _ => by simp [Sp.kad, Sp.pre, Sp.win]
  | a :: bs, n, l, h => by
    have ih := Sp.kad_iff hL (bs := bs) (n := n + a) (l := min l (n + a)) (by omega)
    simp only [Sp.kad, Sp.pre, Sp.win, Bool.and_eq_true, decide_eq_true_eq, ih]
    constructor
    · rintro ⟨h1, h2, h3⟩
      have b : Sp.pre L (n - l + a) bs = true := Sp.pre_anti (by omega) h2
      exact ⟨⟨by omega, b⟩, ⟨by omega, Sp.pre_anti (by omega) b⟩, h3⟩
    · rintro ⟨⟨h1, h2⟩, ⟨h3, h4⟩, h5⟩
      refine ⟨by omega, ?_, h5⟩
      rcases Int.le_total l (n + a) with h6 | h6
      · rw [Int.min_eq_left h6]; exact Sp.pre_anti (by omega) h2
      · rw [Int.min_eq_right h6]; exact Sp.pre_anti (by omega) (Sp.win_pre h5)
theorem Sp.kad_win {L : Int} (hL : 0 ≤ L) (bs : List Int) : Sp.kad L 0 0 bs = Sp.win L bs := by
  rw [Bool.eq_iff_iff, Sp.kad_iff hL (Int.le_refl 0)]
  exact ⟨fun h => h.2, fun h => ⟨Sp.win_pre h, h⟩⟩
end Go

namespace Go
open Go.Sx
def Sp.S (bn bd pn pd dr : Int) (g : Nat) (m u v : Int) : Int :=
  match g with
  | 0 => u * (bn * (pd * 65536)) - m * (pn * bd) * 65536 - m * (pn * bd * dr)
  | 1 => m * (pn * bd) * 65536 - m * (pn * bd * dr) - u * (bn * (pd * 65536))
  | 2 => v * (bd * (pd * 65536)) - m * (pn * bd) * 65536 - m * (pn * bd * dr)
  | 3 => m * (pn * bd) * 65536 - m * (pn * bd * dr) - v * (bd * (pd * 65536))
  | 4 => u * (bn * (pd * 65536)) - v * (bd * (pd * 65536)) - m * (pn * bd * dr)
  | _ => v * (bd * (pd * 65536)) - u * (bn * (pd * 65536)) - m * (pn * bd * dr)
theorem Sp.S_step (bn bd pn pd dr m u v : Int) (x : List C) (g : Nat) : Sp.S bn bd pn pd dr g (m + 1) (u + Sp.tPull x) (v + Sp.tPush x) = Sp.S bn bd pn pd dr g m u v + Sp.mv bn bd pn pd dr g x := by
  have e1 : Sp.tPull x * bn * (pd * 65536) = Sp.tPull x * (bn * (pd * 65536)) := Int.mul_assoc _ _ _
  have e2 : Sp.tPush x * bd * (pd * 65536) = Sp.tPush x * (bd * (pd * 65536)) := Int.mul_assoc _ _ _
  have e3 : pn * bd * (65536 + dr) = pn * bd * 65536 + pn * bd * dr := Int.mul_add _ _ _
  have e4 : pn * bd * (65536 - dr) = pn * bd * 65536 - pn * bd * dr := Int.mul_sub _ _ _
  unfold Sp.S Sp.mv
  rw [e1, e2, e3, e4]
  clear e1 e2 e3 e4
  generalize bn * (pd * 65536) = c1
  generalize bd * (pd * 65536) = c2
  generalize pn * bd * dr = e
  generalize pn * bd = W
  generalize Sp.tPull x = p
  generalize Sp.tPush x = q
  rw [Int.add_mul u p c1, Int.add_mul v q c2, Int.add_mul m 1 W, Int.add_mul m 1 e, Int.one_mul, Int.one_mul]
  rcases g with _ | _ | _ | _ | _ | g <;> simp only <;> omega
theorem Sp.rok_S (bn bd pn pd dr ji m u v : Int) : Sp.rok bn bd pn pd dr ji m u v =
    (decide (Sp.S bn bd pn pd dr 0 m u v ≤ bd * (pd * 65536) * ji) && (decide (Sp.S bn bd pn pd dr 1 m u v ≤ bd * (pd * 65536) * ji) && (decide (Sp.S bn bd pn pd dr 2 m u v ≤ bd * (pd * 65536) * ji) &&
    (decide (Sp.S bn bd pn pd dr 3 m u v ≤ bd * (pd * 65536) * ji) && (decide (Sp.S bn bd pn pd dr 4 m u v ≤ bd * (pd * 65536) * ji) && decide (Sp.S bn bd pn pd dr 5 m u v ≤ bd * (pd * 65536) * ji)))))) := by
  have e1 : u * bn * pd * 65536 = u * (bn * (pd * 65536)) := by simp only [Int.mul_assoc]
  have e2 : v * bd * pd * 65536 = v * (bd * (pd * 65536)) := by simp only [Int.mul_assoc]
  have e3 : m * pn * bd * 65536 = m * (pn * bd) * 65536 := by simp only [Int.mul_assoc]
  have e4 : m * pn * bd * dr = m * (pn * bd * dr) := by simp only [Int.mul_assoc]
  have e5 : ji * bd * pd * 65536 = bd * (pd * 65536) * ji := by rw [Int.mul_comm (bd * (pd * 65536)) ji]; simp only [Int.mul_assoc]
  unfold Sp.rok Sp.nearM
  rw [e1, e2, e3, e4, e5]
  simp only [Sp.S]
  generalize bd * (pd * 65536) * ji = J
  generalize u * (bn * (pd * 65536)) = U
  generalize v * (bd * (pd * 65536)) = V
  generalize m * (pn * bd * dr) = D
  generalize m * (pn * bd) * 65536 = N
  rw [Bool.eq_iff_iff]
  simp only [Bool.and_eq_true, decide_eq_true_eq]
  omega
theorem Sp.rin_pre (bn bd pn pd dr ji : Int) : ∀ (xs : List (List C)) (m u v : Int), Sp.rin bn bd pn pd dr ji m u v xs =
    (Sp.pre (bd * (pd * 65536) * ji) (Sp.S bn bd pn pd dr 0 m u v) (xs.map (Sp.mv bn bd pn pd dr 0)) && (Sp.pre (bd * (pd * 65536) * ji) (Sp.S bn bd pn pd dr 1 m u v) (xs.map (Sp.mv bn bd pn pd dr 1)) &&
    (Sp.pre (bd * (pd * 65536) * ji) (Sp.S bn bd pn pd dr 2 m u v) (xs.map (Sp.mv bn bd pn pd dr 2)) && (Sp.pre (bd * (pd * 65536) * ji) (Sp.S bn bd pn pd dr 3 m u v) (xs.map (Sp.mv bn bd pn pd dr 3)) &&
    (Sp.pre (bd * (pd * 65536) * ji) (Sp.S bn bd pn pd dr 4 m u v) (xs.map (Sp.mv bn bd pn pd dr 4)) && Sp.pre (bd * (pd * 65536) * ji) (Sp.S bn bd pn pd dr 5 m u v) (xs.map (Sp.mv bn bd pn pd dr 5)))))))
  | [], m, u, v => rfl
  | x :: r, m, u, v => by
    rw [Sp.rin, Sp.rin_pre bn bd pn pd dr ji r, Sp.rok_S]
    simp only [List.map_cons, Sp.pre, Sp.S_step]
    ac_rfl
theorem Sp.rout_win (bn bd pn pd dr ji : Int) : ∀ (xs : List (List C)), Sp.rout bn bd pn pd dr ji xs =
    (Sp.win (bd * (pd * 65536) * ji) (xs.map (Sp.mv bn bd pn pd dr 0)) && (Sp.win (bd * (pd * 65536) * ji) (xs.map (Sp.mv bn bd pn pd dr 1)) && (Sp.win (bd * (pd * 65536) * ji) (xs.map (Sp.mv bn bd pn pd dr 2)) &&
    (Sp.win (bd * (pd * 65536) * ji) (xs.map (Sp.mv bn bd pn pd dr 3)) && (Sp.win (bd * (pd * 65536) * ji) (xs.map (Sp.mv bn bd pn pd dr 4)) && Sp.win (bd * (pd * 65536) * ji) (xs.map (Sp.mv bn bd pn pd dr 5)))))))
  | [] => rfl
  | x :: r => by
    have z : ∀ g, Sp.S bn bd pn pd dr g 0 0 0 = 0 := fun g => by unfold Sp.S; split <;> simp
    rw [Sp.rout, Sp.rout_win bn bd pn pd dr ji r, Sp.rin_pre]
    simp only [z, List.map_cons, Sp.win]
    ac_rfl
theorem Sp.df_kad (J : Int) (m : Nat → List C → Int) : ∀ (xs : List (List C)) (s0 s1 s2 s3 s4 s5 : Int × Int), Sp.df J m [s0, s1, s2, s3, s4, s5] xs =
    (xs.all Sp.tval && (Sp.kad J s0.1 s0.2 (xs.map (m 0)) && (Sp.kad J s1.1 s1.2 (xs.map (m 1)) && (Sp.kad J s2.1 s2.2 (xs.map (m 2)) && (Sp.kad J s3.1 s3.2 (xs.map (m 3)) && (Sp.kad J s4.1 s4.2 (xs.map (m 4)) && Sp.kad J s5.1 s5.2 (xs.map (m 5))))))))
  | [], _, _, _, _, _, _ => rfl
  | x :: r, s0, s1, s2, s3, s4, s5 => by
    simp only [Sp.df, List.getD_cons_zero, List.getD_cons_succ]
    rw [Sp.df_kad J m r]
    simp only [List.map_cons, List.all_cons, Sp.kad, Sp.stOk, Sp.stp]
    ac_rfl
theorem Sp.decld_eq (bn bd pn pd dr ji : Int) (xs : List (List C)) : Sp.decld bn bd pn pd dr ji xs = Sp.rdecl bn bd pn pd dr ji xs := by
  unfold Sp.decld Sp.rdecl
  cases h1 : Sp.rvalid bn bd
  · rfl
  cases h2 : decide (bn ≤ 768000 ∧ bd ≤ 768000)
  · rfl
  cases h3 : Sp.decl pn pd dr ji
  · rfl
  simp only [decide_eq_true_eq] at h2
  obtain ⟨n1, n2, n3, n4, n5, n6, n7, n8, n9, n10, n11, n12, n13, n14, n15, n16, n17, n18, n19, n20⟩ := Sp.decl_nums h1 h2.1 h2.2 h3
  congr 3
  congr 1
  unfold Sp.z6
  rw [Sp.df_kad, Sp.rout_win]
  simp only [Sp.kad_win n19]
end Go

