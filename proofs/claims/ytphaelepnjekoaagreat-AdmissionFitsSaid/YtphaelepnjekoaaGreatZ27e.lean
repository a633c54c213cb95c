import Derived.Test.YtphaelepnjekoaaGreatSxUse
import Derived.Test.YtphaelepnjekoaaGreatZ27d
import Derived.KernelRfl
set_option linter.unusedVariables false
set_option linter.unusedSimpArgs false
set_option maxRecDepth 100000
set_option maxHeartbeats 4000000
namespace Go
open Go.Sx
def Sp.gN1 (n : Nat) : List (List C) :=
 match n with
 | 0 => []
 | k + 1 => Sp.gN1 k ++ [[.i (2 * (k : Int) + 1), .i 3, .i 1, .i 1], [.i (2 * (k : Int) + 2), .i 2, .i 1, .i 0]]
def Sp.gL1 (n : Nat) : List (List C) :=
 match n with
 | 0 => []
 | k + 1 => Sp.gL1 k ++ [[.i (2 * (k : Int) + 1), .i 0, .i (2 * (k : Int) + 2), .i 0]]
def Sp.gC1 (p : Int) (ds : List (List C)) (n : Nat) : List (List C) :=
 match n with
 | 0 => []
 | k + 1 => Sp.gC1 p ds k ++ [[.i 0], [.i (Sp.cD (Sp.c1 (rGet ds (k : Int))) p)]]
def Sp.gN2 (n : Nat) : List (List C) :=
 match n with
 | 0 => []
 | k + 1 => Sp.gN2 k ++ [[.i (17 + (k : Int)), .i 1, .i 0, .i 1]]
def Sp.gL2 (ds ss : List (List C)) (n : Nat) : List (List C) :=
 match n with
 | 0 => []
 | k + 1 => Sp.gL2 ds ss k ++ [[.i (17 + (k : Int)), .i 0, .i (2 * Sp.nix ds (Sp.c1 (rGet ss (k : Int))) + 1), .i 0]]
def Sp.gC2 (p : Int) (ds ss : List (List C)) (n : Nat) : List (List C) :=
 match n with
 | 0 => []
 | k + 1 => Sp.gC2 p ds ss k ++ [[.i (Sp.cS (Sp.c2 (rGet ss (k : Int))) (Sp.c1 (rGet ds (Sp.nix ds (Sp.c1 (rGet ss (k : Int)))))) p)]]
def Sp.bN (w c p : Int) (ds ss : List (List C)) : List (List C) := bif Sp.prop w c p ds ss then Sp.gN1 ds.length ++ Sp.gN2 ss.length else []
def Sp.bL (w c p : Int) (ds ss : List (List C)) : List (List C) := bif Sp.prop w c p ds ss then Sp.gL1 ds.length ++ Sp.gL2 ds ss ss.length else []
def Sp.bC (w c p : Int) (ds ss : List (List C)) : List (List C) := bif Sp.prop w c p ds ss then Sp.gC1 p ds ds.length ++ Sp.gC2 p ds ss ss.length else []
end Go
namespace Go
open Go.Sx
theorem Sp.gN1_len : ∀ k : Nat, (Sp.gN1 k).length = 2 * k
 | 0 => rfl
 | k + 1 => by simp [Sp.gN1, Sp.gN1_len k]; omega
theorem Sp.gL1_len : ∀ k : Nat, (Sp.gL1 k).length = k
 | 0 => rfl
 | k + 1 => by simp [Sp.gL1, Sp.gL1_len k]
theorem Sp.gC1_len {p : Int} {ds : List (List C)} : ∀ k : Nat, (Sp.gC1 p ds k).length = 2 * k
 | 0 => rfl
 | k + 1 => by simp [Sp.gC1, Sp.gC1_len k]; omega
theorem Sp.gN2_len : ∀ k : Nat, (Sp.gN2 k).length = k
 | 0 => rfl
 | k + 1 => by simp [Sp.gN2, Sp.gN2_len k]
theorem Sp.gL2_len {ds ss : List (List C)} : ∀ k : Nat, (Sp.gL2 ds ss k).length = k
 | 0 => rfl
 | k + 1 => by simp [Sp.gL2, Sp.gL2_len k]
theorem Sp.gC2_len {p : Int} {ds ss : List (List C)} : ∀ k : Nat, (Sp.gC2 p ds ss k).length = k
 | 0 => rfl
 | k + 1 => by simp [Sp.gC2, Sp.gC2_len k]
theorem Sp.gN1_s {z : Int} (h : 0 ≤ z) : Sp.gN1 (z + 1).toNat = Sp.gN1 z.toNat ++ [[.i (2 * z + 1), .i 3, .i 1, .i 1], [.i (2 * z + 2), .i 2, .i 1, .i 0]] := by
 rw [show (z + 1).toNat = z.toNat + 1 by omega, Sp.gN1, show ((z.toNat : Nat) : Int) = z by omega]
theorem Sp.gL1_s {z : Int} (h : 0 ≤ z) : Sp.gL1 (z + 1).toNat = Sp.gL1 z.toNat ++ [[.i (2 * z + 1), .i 0, .i (2 * z + 2), .i 0]] := by
 rw [show (z + 1).toNat = z.toNat + 1 by omega, Sp.gL1, show ((z.toNat : Nat) : Int) = z by omega]
theorem Sp.gC1_s {p : Int} {ds : List (List C)} {z : Int} (h : 0 ≤ z) : Sp.gC1 p ds (z + 1).toNat = Sp.gC1 p ds z.toNat ++ [[.i 0], [.i (Sp.cD (Sp.c1 (rGet ds z)) p)]] := by
 rw [show (z + 1).toNat = z.toNat + 1 by omega, Sp.gC1, show ((z.toNat : Nat) : Int) = z by omega]
theorem Sp.gN2_s {z : Int} (h : 0 ≤ z) : Sp.gN2 (z + 1).toNat = Sp.gN2 z.toNat ++ [[.i (17 + z), .i 1, .i 0, .i 1]] := by
 rw [show (z + 1).toNat = z.toNat + 1 by omega, Sp.gN2, show ((z.toNat : Nat) : Int) = z by omega]
theorem Sp.gL2_s {ds ss : List (List C)} {z : Int} (h : 0 ≤ z) : Sp.gL2 ds ss (z + 1).toNat = Sp.gL2 ds ss z.toNat ++ [[.i (17 + z), .i 0, .i (2 * Sp.nix ds (Sp.c1 (rGet ss z)) + 1), .i 0]] := by
 rw [show (z + 1).toNat = z.toNat + 1 by omega, Sp.gL2, show ((z.toNat : Nat) : Int) = z by omega]
theorem Sp.gC2_s {p : Int} {ds ss : List (List C)} {z : Int} (h : 0 ≤ z) : Sp.gC2 p ds ss (z + 1).toNat = Sp.gC2 p ds ss z.toNat ++ [[.i (Sp.cS (Sp.c2 (rGet ss z)) (Sp.c1 (rGet ds (Sp.nix ds (Sp.c1 (rGet ss z))))) p)]] := by
 rw [show (z + 1).toNat = z.toNat + 1 by omega, Sp.gC2, show ((z.toNat : Nat) : Int) = z by omega]
theorem Sp.prop_seat {w c p : Int} {ds ss : List (List C)} (h : Sp.prop w c p ds ss = true) {z : Int} (h0 : 0 ≤ z) (h1 : z < (ss.length : Int)) : Sp.has ds (Sp.c1 (rGet ss z)) = true ∧ Sp.bsx ds (Sp.c1 (rGet ss z)) = Sp.nix ds (Sp.c1 (rGet ss z)) := by
 obtain ⟨_, hD, hS⟩ := Sp.prop_iff.1 h
 have := Sp.allI_iff.1 hS z h0 h1
 unfold Sp.sokI at this
 rw [Bool.and_eq_true] at this
 exact ⟨this.2, Sp.bsx_nix (Sp.dok_asc hD) this.2⟩
end Go
namespace Go.Sx
def ct13 : Ct := { ps := [(true, [.int .i64, .int .i64, .int .i64, .sl [.int .u64, .int .i64], .sl [.int .i64, .int .u64, .int .i64, .int .i64]])], rs := [(true, [.sl [.int .i64, .int .i64, .int .i64, .int .i64], .sl [.int .i64, .int .i64, .int .i64, .int .i64]]), (false, [.sl [.int .i64]])], pre := fun _ => True, out := fun a => [[.l (Sp.bN (cel 0 (arg 0 a)).int (cel 1 (arg 0 a)).int (cel 2 (arg 0 a)).int (cel 3 (arg 0 a)).list (cel 4 (arg 0 a)).list), .l (Sp.bL (cel 0 (arg 0 a)).int (cel 1 (arg 0 a)).int (cel 2 (arg 0 a)).int (cel 3 (arg 0 a)).list (cel 4 (arg 0 a)).list)], [.l (Sp.bC (cel 0 (arg 0 a)).int (cel 1 (arg 0 a)).int (cel 2 (arg 0 a)).int (cel 3 (arg 0 a)).list (cel 4 (arg 0 a)).list)]] }
def tb13 : List (Nat × Ct) := [(31, ct31), (32, ct32), (33, ct33), (24, ct24)]
def A13 (p : Int) (ds : List (List C)) (ss : List (List C)) : FuncId → Nat → LoopAnn := fun _ ii => bif Nat.beq ii 6 then .ghostB 4 0 [.int .i64, .int .i64, .int .i64, .int .i64] 74 (.ghostB 4 1 [.int .i64, .int .i64, .int .i64, .int .i64] 76 (.ghost 5 [.int .i64] 3 (.on (fun sv0 => match sv0.tmps.getD 4 .undef, sv0.tmps.getD 5 .undef with | .ref gb _, .own rc _ => (match sv0.heap[gb]? with | some (.box [.own rn _, .own rl _] gt) => .inv Int (fun z => 0 ≤ z ∧ z ≤ (ds.length : Int)) (fun z => [(26, .int .i64 z), (5, .own rc 0)]) (fun z => [(rn, .row [.int .i64, .int .i64, .int .i64, .int .i64] 74 0 (Sp.gN1 z.toNat)), (rl, .row [.int .i64, .int .i64, .int .i64, .int .i64] 76 0 (Sp.gL1 z.toNat)), (rc, .row [.int .i64] 3 0 (Sp.gC1 p ds z.toNat)), (gb, .box [.own rn 0, .own rl 0] gt)]) [rn, rl, rc, gb] [0, 1, 2, 3, 4, 5, 6, 7, 8, 9, 10, 12, 13, 14, 15, 17, 21, 24, 25, 26, 27, 69, 70, 71, 72] (fun z => ds.length - z.toNat) | _ => .unroll 0) | _, _ => .unroll 0)))) else bif Nat.beq ii 15 then .ghostB 4 0 [.int .i64, .int .i64, .int .i64, .int .i64] 74 (.ghostB 4 1 [.int .i64, .int .i64, .int .i64, .int .i64] 76 (.ghost 5 [.int .i64] 3 (.on (fun sv0 => match sv0.tmps.getD 4 .undef, sv0.tmps.getD 5 .undef with | .ref gb _, .own rc _ => (match sv0.heap[gb]? with | some (.box [.own rn _, .own rl _] gt) => .inv Int (fun z => 0 ≤ z ∧ z ≤ (ss.length : Int)) (fun z => [(71, .int .i64 z), (5, .own rc 0)]) (fun z => [(rn, .row [.int .i64, .int .i64, .int .i64, .int .i64] 74 0 (Sp.gN1 ds.length ++ Sp.gN2 z.toNat)), (rl, .row [.int .i64, .int .i64, .int .i64, .int .i64] 76 0 (Sp.gL1 ds.length ++ Sp.gL2 ds ss z.toNat)), (rc, .row [.int .i64] 3 0 (Sp.gC1 p ds ds.length ++ Sp.gC2 p ds ss z.toNat)), (gb, .box [.own rn 0, .own rl 0] gt)]) [rn, rl, rc, gb] [0, 1, 2, 3, 4, 5, 6, 7, 8, 9, 10, 12, 13, 14, 15, 17, 21, 24, 25, 26, 27, 69, 70, 71, 72] (fun z => ss.length - z.toNat) | _ => .unroll 0) | _, _ => .unroll 0)))) else .unroll 0
abbrev B13 (w : Int) (c : Int) (p : Int) (ds : List (List C)) (ss : List (List C)) : Prop := vcF Go.Proofs.Tryz.prog (look tb13) (fun _ => false) (A13 p ds ss) 6 13 [.agg [.int .i64 w, .int .i64 c, .int .i64 p, .sl [.int .u64, .int .i64] ds, .sl [.int .i64, .int .u64, .int .i64, .int .i64] ss]] [] (fun sv heap => Gives [(true, [.sl [.int .i64, .int .i64, .int .i64, .int .i64], .sl [.int .i64, .int .i64, .int .i64, .int .i64]]), (false, [.sl [.int .i64]])] [[.l (Sp.bN w c p ds ss), .l (Sp.bL w c p ds ss)], [.l (Sp.bC w c p ds ss)]] sv heap)
def h13_0 : Int → Int → Int → List (List C) → List (List C) → List SV := fun (w c p : Int) (ds ss : List (List C)) => [SV.agg [SV.int .i64 w, SV.int .i64 c, SV.int .i64 p, SV.sl [.int .u64, .int .i64] ds, SV.sl [.int .i64, .int .u64, .int .i64, .int .i64] ss], SV.ref 0 0, SV.ref 1 0, SV.nils, SV.ref 2 0, SV.undef, SV.undef, SV.undef, SV.undef, SV.undef, SV.blit false, SV.sl [.int .u64, .int .i64] ds, SV.int .i64 (iLen ds), SV.undef, SV.undef, SV.undef, SV.undef]
def h13_1 : Int → Int → Int → List (List C) → List (List C) → List HB := fun (w c p : Int) (ds ss : List (List C)) => [HB.box [SV.int .i64 w, SV.int .i64 c, SV.int .i64 p, SV.sl [.int .u64, .int .i64] ds, SV.sl [.int .i64, .int .u64, .int .i64, .int .i64] ss] 31, HB.box [SV.nils, SV.nils] 50, HB.gone, HB.gone, HB.gone, HB.gone]
def h13_2 : Int → Int → Int → List (List C) → List (List C) → Int → List SV := fun (w c p : Int) (ds ss : List (List C)) (x : Int) => [SV.agg [SV.int .i64 w, SV.int .i64 c, SV.int .i64 p, SV.sl [.int .u64, .int .i64] ds, SV.sl [.int .i64, .int .u64, .int .i64, .int .i64] ss], SV.ref 0 0, SV.ref 1 0, SV.nils, SV.ref 2 0, SV.any, SV.any, SV.any, SV.any, SV.any, SV.blit false, SV.sl [.int .u64, .int .i64] ds, SV.int .i64 (iLen ds), SV.int .i64 x, SV.blit false, SV.sl [.int .i64, .int .u64, .int .i64, .int .i64] ss, SV.int .i64 (iLen ss)]
def m13_0 : List Sh := [Sh.int .i64, Sh.int .i64, Sh.int .i64, Sh.int .i64]
def m13_1 : Prop := [Sh.int .i64] ++ ([Sh.int .i64] ++ ([Sh.int .i64] ++ ([Sh.int .i64] ++ []))) = m13_0
theorem e13 (w : Int) (c : Int) (p : Int) (ds : List (List C)) (ss : List (List C)) : B13 w c p ds ss = (True ∧ (True → True ∧ (bNot (Sp.prop w c p ds ss) = true → ([] = Sp.bN w c p ds ss ∧ [] = Sp.bL w c p ds ss ∧ True) ∧ ([] = Sp.bC w c p ds ss ∧ True) ∧ True) ∧ (bNot (Sp.prop w c p ds ss) = false → pLe (iLen ds) 9223372036854775807 → (∃ (x : Int), (0 ≤ x ∧ x ≤ ↑ds.length) ∧ true = true ∧ ((IntKind.i64 = IntKind.i64 ∧ 0 = x) ∧ (5 = 5 ∧ 0 + 1 = 0 + 1) ∧ True) ∧ (m13_0 = m13_0 ∧ 74 = 74 ∧ 0 + 1 = 0 + 1 ∧ [] = Sp.gN1 x.toNat) ∧ (m13_0 = m13_0 ∧ 76 = 76 ∧ 0 + 1 = 0 + 1 ∧ [] = Sp.gL1 x.toNat) ∧ ([Sh.int .i64] = [Sh.int .i64] ∧ 3 = 3 ∧ 0 + 1 = 0 + 1 ∧ [] = Sp.gC1 p ds x.toNat) ∧ (((3 = 3 ∧ 0 + 1 = 0 + 1) ∧ (4 = 4 ∧ 0 + 1 = 0 + 1) ∧ True) ∧ 50 = 50) ∧ True) ∧ (∀ (x : Int), true = true ∧ true = true) ∧ ∀ (x : Int), 0 ≤ x ∧ x ≤ ↑ds.length → InR .i64 x ∧ True ∧ True → ((WL [.int .i64, .int .i64, .int .i64, .int .i64] (Sp.gN1 x.toNat))) ∧ ((WL [.int .i64, .int .i64, .int .i64, .int .i64] (Sp.gL1 x.toNat))) ∧ ((WL [.int .i64] (Sp.gC1 p ds x.toNat))) ∧ (True ∧ True ∧ True) ∧ True → (bLt x (iLen ds) = true → pIn 0 (iLen ds) x ∧ (InR .u64 (q0 (rGet ds x)) ∧ InR .i64 (q1 (rGet ds x)) ∧ True → InR .i64 (iMul 2 x) ∧ InR .i64 (iAdd (iMul 2 x) 1) ∧ InR .i64 (iMul 2 x) ∧ InR .i64 (iAdd (iMul 2 x) 2) ∧ pRoom 32 (iLen (Sp.gN1 x.toNat ++ [[C.i (iAdd (iMul 2 x) 1), C.i 3, C.i 1, C.i 1], [C.i (iAdd (iMul 2 x) 2), C.i 2, C.i 1, C.i 0]])) ∧ pRoom 32 (iLen (Sp.gL1 x.toNat ++ [[C.i (iAdd (iMul 2 x) 1), C.i 0, C.i (iAdd (iMul 2 x) 2), C.i 0]])) ∧ True ∧ (InR .i64 (Sp.cD (q1 (rGet ds x)) p) ∧ InR .i64 (Sp.cDe (q1 (rGet ds x)) p) ∧ True → pRoom 8 (iLen (Sp.gC1 p ds x.toNat ++ [[C.i 0], [C.i (Sp.cD (q1 (rGet ds x)) p)]])) ∧ InR .i64 (iAdd x 1) ∧ (true = true ∧ h13_0 w c p ds ss = h13_0 w c p ds ss) ∧ h13_1 w c p ds ss = h13_1 w c p ds ss ∧ ∃ (y : Int), (0 ≤ y ∧ y ≤ ↑ds.length) ∧ true = true ∧ ((IntKind.i64 = IntKind.i64 ∧ iAdd x 1 = y) ∧ (5 = 5 ∧ 0 + 1 = 0 + 1) ∧ True) ∧ ((m13_1 ∧ 74 = 74 ∧ 0 + 1 = 0 + 1 ∧ Sp.gN1 x.toNat ++ [[C.i (iAdd (iMul 2 x) 1), C.i 3, C.i 1, C.i 1], [C.i (iAdd (iMul 2 x) 2), C.i 2, C.i 1, C.i 0]] = Sp.gN1 y.toNat) ∧ (m13_1 ∧ 76 = 76 ∧ 0 + 1 = 0 + 1 ∧ Sp.gL1 x.toNat ++ [[C.i (iAdd (iMul 2 x) 1), C.i 0, C.i (iAdd (iMul 2 x) 2), C.i 0]] = Sp.gL1 y.toNat) ∧ ([Sh.int .i64] = [Sh.int .i64] ∧ 3 = 3 ∧ 0 + 1 = 0 + 1 ∧ Sp.gC1 p ds x.toNat ++ [[C.i 0], [C.i (Sp.cD (q1 (rGet ds x)) p)]] = Sp.gC1 p ds y.toNat) ∧ (((3 = 3 ∧ 0 + 1 = 0 + 1) ∧ (4 = 4 ∧ 0 + 1 = 0 + 1) ∧ True) ∧ 50 = 50) ∧ True) ∧ ds.length - y.toNat < ds.length - x.toNat))) ∧ (bLt x (iLen ds) = false → pLe (iLen ss) 9223372036854775807 → (∃ (x_1 : Int), (0 ≤ x_1 ∧ x_1 ≤ ↑ss.length) ∧ true = true ∧ ((IntKind.i64 = IntKind.i64 ∧ 0 = x_1) ∧ (5 = 5 ∧ 1 + 1 = 1 + 1) ∧ True) ∧ (m13_0 = m13_0 ∧ 74 = 74 ∧ 1 + 1 = 1 + 1 ∧ Sp.gN1 x.toNat = Sp.gN1 ds.length ++ Sp.gN2 x_1.toNat) ∧ (m13_0 = m13_0 ∧ 76 = 76 ∧ 1 + 1 = 1 + 1 ∧ Sp.gL1 x.toNat = Sp.gL1 ds.length ++ Sp.gL2 ds ss x_1.toNat) ∧ ([Sh.int .i64] = [Sh.int .i64] ∧ 3 = 3 ∧ 1 + 1 = 1 + 1 ∧ Sp.gC1 p ds x.toNat = Sp.gC1 p ds ds.length ++ Sp.gC2 p ds ss x_1.toNat) ∧ (((3 = 3 ∧ 1 + 1 = 1 + 1) ∧ (4 = 4 ∧ 1 + 1 = 1 + 1) ∧ True) ∧ 50 = 50) ∧ True) ∧ (∀ (x : Int), true = true ∧ true = true) ∧ ∀ (x_1 : Int), 0 ≤ x_1 ∧ x_1 ≤ ↑ss.length → InR .i64 x_1 ∧ True ∧ True → ((WL [.int .i64, .int .i64, .int .i64, .int .i64] (Sp.gN1 ds.length ++ Sp.gN2 x_1.toNat))) ∧ ((WL [.int .i64, .int .i64, .int .i64, .int .i64] (Sp.gL1 ds.length ++ Sp.gL2 ds ss x_1.toNat))) ∧ ((WL [.int .i64] (Sp.gC1 p ds ds.length ++ Sp.gC2 p ds ss x_1.toNat))) ∧ (True ∧ True ∧ True) ∧ True → (bLt x_1 (iLen ss) = true → pIn 0 (iLen ss) x_1 ∧ (InR .i64 (q0 (rGet ss x_1)) ∧ InR .u64 (q1 (rGet ss x_1)) ∧ InR .i64 (q2 (rGet ss x_1)) ∧ InR .i64 (q3 (rGet ss x_1)) ∧ True → InR .i64 (iAdd 17 x_1) ∧ True ∧ (InR .i64 (Sp.bsx ds (q1 (rGet ss x_1))) ∧ True ∧ True → pRoom 32 (iLen (Sp.gN1 ds.length ++ Sp.gN2 x_1.toNat ++ [[C.i (iAdd 17 x_1), C.i 1, C.i 0, C.i 1]])) ∧ InR .i64 (iMul 2 (Sp.bsx ds (q1 (rGet ss x_1)))) ∧ InR .i64 (iAdd (iMul 2 (Sp.bsx ds (q1 (rGet ss x_1)))) 1) ∧ pRoom 32 (iLen (Sp.gL1 ds.length ++ Sp.gL2 ds ss x_1.toNat ++ [[C.i (iAdd 17 x_1), C.i 0, C.i (iAdd (iMul 2 (Sp.bsx ds (q1 (rGet ss x_1)))) 1), C.i 0]])) ∧ pIn 0 (iLen ds) (Sp.bsx ds (q1 (rGet ss x_1))) ∧ (InR .i64 (q1 (rGet ds (Sp.bsx ds (q1 (rGet ss x_1))))) → True ∧ (InR .i64 (Sp.cS (q2 (rGet ss x_1)) (q1 (rGet ds (Sp.bsx ds (q1 (rGet ss x_1))))) p) ∧ InR .i64 (Sp.cSe (q2 (rGet ss x_1)) (q1 (rGet ds (Sp.bsx ds (q1 (rGet ss x_1))))) p) ∧ True → pRoom 8 (iLen (Sp.gC1 p ds ds.length ++ Sp.gC2 p ds ss x_1.toNat ++ [[C.i (Sp.cS (q2 (rGet ss x_1)) (q1 (rGet ds (Sp.bsx ds (q1 (rGet ss x_1))))) p)]])) ∧ InR .i64 (iAdd x_1 1) ∧ (true = true ∧ h13_2 w c p ds ss x = h13_2 w c p ds ss x) ∧ h13_1 w c p ds ss = h13_1 w c p ds ss ∧ ∃ (y : Int), (0 ≤ y ∧ y ≤ ↑ss.length) ∧ true = true ∧ ((IntKind.i64 = IntKind.i64 ∧ iAdd x_1 1 = y) ∧ (5 = 5 ∧ 1 + 1 = 1 + 1) ∧ True) ∧ ((m13_1 ∧ 74 = 74 ∧ 1 + 1 = 1 + 1 ∧ Sp.gN1 ds.length ++ Sp.gN2 x_1.toNat ++ [[C.i (iAdd 17 x_1), C.i 1, C.i 0, C.i 1]] = Sp.gN1 ds.length ++ Sp.gN2 y.toNat) ∧ (m13_1 ∧ 76 = 76 ∧ 1 + 1 = 1 + 1 ∧ Sp.gL1 ds.length ++ Sp.gL2 ds ss x_1.toNat ++ [[C.i (iAdd 17 x_1), C.i 0, C.i (iAdd (iMul 2 (Sp.bsx ds (q1 (rGet ss x_1)))) 1), C.i 0]] = Sp.gL1 ds.length ++ Sp.gL2 ds ss y.toNat) ∧ ([Sh.int .i64] = [Sh.int .i64] ∧ 3 = 3 ∧ 1 + 1 = 1 + 1 ∧ Sp.gC1 p ds ds.length ++ Sp.gC2 p ds ss x_1.toNat ++ [[C.i (Sp.cS (q2 (rGet ss x_1)) (q1 (rGet ds (Sp.bsx ds (q1 (rGet ss x_1))))) p)]] = Sp.gC1 p ds ds.length ++ Sp.gC2 p ds ss y.toNat) ∧ (((3 = 3 ∧ 1 + 1 = 1 + 1) ∧ (4 = 4 ∧ 1 + 1 = 1 + 1) ∧ True) ∧ 50 = 50) ∧ True) ∧ ss.length - y.toNat < ss.length - x_1.toNat))))) ∧ (bLt x_1 (iLen ss) = false → (Sp.gN1 ds.length ++ Sp.gN2 x_1.toNat = Sp.bN w c p ds ss ∧ Sp.gL1 ds.length ++ Sp.gL2 ds ss x_1.toNat = Sp.bL w c p ds ss ∧ True) ∧ (Sp.gC1 p ds ds.length ++ Sp.gC2 p ds ss x_1.toNat = Sp.bC w c p ds ss ∧ True) ∧ True))))) := by kernel_rfl
theorem v13 (w : Int) (c : Int) (p : Int) (ds : List (List C)) (ss : List (List C)) : Holds (Wfs [.agg [.int .i64 w, .int .i64 c, .int .i64 p, .sl [.int .u64, .int .i64] ds, .sl [.int .i64, .int .u64, .int .i64, .int .i64] ss]] → True → B13 w c p ds ss) := by
 refine ⟨fun hw hp => ?_⟩
 rw [e13]
 delta WL q0 q1 q2 q3 m13_0 m13_1
 simp only [Wfs, Wf, InR, and_true] at hw
 simp only [eq_self, true_and, and_true, true_implies, implies_true, iAdd, iSub, iMul, iLen, bEq, bNe, bLt, bLe, bNot, pIn, pLe, pNe, InR, decide_eq_true_eq, decide_eq_false_iff_not, Bool.not_eq_true', Bool.not_eq_false', decide_eq_decide]
 have Z : Sp.prop w c p ds ss = false → ([] = Sp.bN w c p ds ss ∧ [] = Sp.bL w c p ds ss) ∧ [] = Sp.bC w c p ds ss := fun h => by
  unfold Sp.bN Sp.bL Sp.bC; rw [h]; exact ⟨⟨rfl, rfl⟩, rfl⟩
 refine ⟨Z, fun hpr => ?_⟩
 have hq := Sp.prop_iff.1 hpr
 have hd := hq.1.2.2.2.1
 have hs := hq.1.2.2.2.2
 intro _
 refine ⟨⟨0, ⟨by omega, by omega⟩, rfl, rfl, rfl, rfl⟩, ?_⟩
 intro x hx _ _
 refine ⟨fun hlt => ⟨⟨hx.1, hlt⟩, fun _ => ⟨by omega, by omega, by omega, by omega, (by simp only [pRoom, List.length_append, List.length_cons, List.length_nil, Sp.gN1_len, Sp.gL1_len, Sp.gC1_len, Sp.gN2_len, Sp.gL2_len, Sp.gC2_len]; omega), (by simp only [pRoom, List.length_append, List.length_cons, List.length_nil, Sp.gN1_len, Sp.gL1_len, Sp.gC1_len, Sp.gN2_len, Sp.gL2_len, Sp.gC2_len]; omega), fun _ => ⟨(by simp only [pRoom, List.length_append, List.length_cons, List.length_nil, Sp.gN1_len, Sp.gL1_len, Sp.gC1_len, Sp.gN2_len, Sp.gL2_len, Sp.gC2_len]; omega), by omega, x + 1, ⟨by omega, by omega⟩, rfl, ⟨⟨rfl, (Sp.gN1_s hx.1).symm⟩, ⟨rfl, (Sp.gL1_s hx.1).symm⟩, (Sp.gC1_s hx.1).symm⟩, by omega⟩⟩⟩, fun hge _ => ?_⟩
 have ex : x.toNat = ds.length := by omega
 refine ⟨⟨0, ⟨by omega, by omega⟩, rfl, by rw [ex]; simp [Sp.gN2], by rw [ex]; simp [Sp.gL2], by rw [ex]; simp [Sp.gC2]⟩, ?_⟩
 intro y hy _ _
 refine ⟨fun hlt => ?_, fun hge2 => ?_⟩
 · obtain ⟨hh, he⟩ := Sp.prop_seat hpr hy.1 hlt
   obtain ⟨n0, n1, _⟩ := Sp.nix_has hh
   have e1 : Sp.c1 (rGet ss y) = ((rGet ss y).tail.headD default).int := rfl
   rw [e1] at he n0 n1
   rw [he]
   refine ⟨⟨hy.1, hlt⟩, fun _ => ⟨by omega, fun _ => ⟨(by simp only [pRoom, List.length_append, List.length_cons, List.length_nil, Sp.gN1_len, Sp.gL1_len, Sp.gC1_len, Sp.gN2_len, Sp.gL2_len, Sp.gC2_len]; omega), by omega, by omega, (by simp only [pRoom, List.length_append, List.length_cons, List.length_nil, Sp.gN1_len, Sp.gL1_len, Sp.gC1_len, Sp.gN2_len, Sp.gL2_len, Sp.gC2_len]; omega), ⟨n0, n1⟩, fun _ _ => ⟨(by simp only [pRoom, List.length_append, List.length_cons, List.length_nil, Sp.gN1_len, Sp.gL1_len, Sp.gC1_len, Sp.gN2_len, Sp.gL2_len, Sp.gC2_len]; omega), by omega, y + 1, ⟨by omega, by omega⟩, rfl, ⟨⟨rfl, ?_⟩, ⟨rfl, ?_⟩, ?_⟩, by omega⟩⟩⟩⟩
   · rw [Sp.gN2_s hy.1, List.append_assoc]
   · rw [Sp.gL2_s hy.1, List.append_assoc]; rfl
   · rw [Sp.gC2_s hy.1, List.append_assoc]; rfl
 · have ey : y.toNat = ss.length := by omega
   rw [ey]
   unfold Sp.bN Sp.bL Sp.bC; rw [hpr]; exact ⟨⟨rfl, rfl⟩, rfl⟩
theorem s13 : SoundCt Go.Proofs.Tryz.prog 13 ct13 :=
 contractH followsMixed (look_sound (show Tb Go.Proofs.Tryz.prog tb13 from ⟨s31, ⟨s32, ⟨s33, ⟨s24, trivial⟩⟩⟩⟩)) (fun _ => false) (fun a => A13 ((cel 2 (arg 0 a)).int) ((cel 3 (arg 0 a)).list) ((cel 4 (arg 0 a)).list)) 6 13 ct13 rfl (by simp [ct13]) fun a => Eq.mp (by kernel_rfl) (v13 ((cel 0 (arg 0 a)).int) ((cel 1 (arg 0 a)).int) ((cel 2 (arg 0 a)).int) ((cel 3 (arg 0 a)).list) ((cel 4 (arg 0 a)).list))
end Go.Sx
namespace Go.Sx
def ct67 : Ct := { ps := [(true, [.int .i64, .int .i64, .int .i64, .sl [.int .u64, .int .i64], .sl [.int .i64, .int .u64, .int .i64, .int .i64]])], rs := [(true, [.sl [.int .i64, .int .i64, .int .i64, .int .i64], .sl [.int .i64, .int .i64, .int .i64, .int .i64]]), (false, [.sl [.int .i64]])], pre := fun _ => True, out := fun a => [[.l (Sp.bN (cel 0 (arg 0 a)).int (cel 1 (arg 0 a)).int (cel 2 (arg 0 a)).int (cel 3 (arg 0 a)).list (cel 4 (arg 0 a)).list), .l (Sp.bL (cel 0 (arg 0 a)).int (cel 1 (arg 0 a)).int (cel 2 (arg 0 a)).int (cel 3 (arg 0 a)).list (cel 4 (arg 0 a)).list)], [.l (Sp.bC (cel 0 (arg 0 a)).int (cel 1 (arg 0 a)).int (cel 2 (arg 0 a)).int (cel 3 (arg 0 a)).list (cel 4 (arg 0 a)).list)]] }
def tb67 : List (Nat × Ct) := [(66, ct66), (86, ct86), (87, ct87), (44, ct44)]
def A67 (p : Int) (ds : List (List C)) (ss : List (List C)) : FuncId → Nat → LoopAnn := fun _ ii => bif Nat.beq ii 6 then .ghostB 4 0 [.int .i64, .int .i64, .int .i64, .int .i64] 74 (.ghostB 4 1 [.int .i64, .int .i64, .int .i64, .int .i64] 76 (.ghost 5 [.int .i64] 3 (.on (fun sv0 => match sv0.tmps.getD 4 .undef, sv0.tmps.getD 5 .undef with | .ref gb _, .own rc _ => (match sv0.heap[gb]? with | some (.box [.own rn _, .own rl _] gt) => .inv Int (fun z => 0 ≤ z ∧ z ≤ (ds.length : Int)) (fun z => [(6, .int .i64 z), (5, .own rc 0)]) (fun z => [(rn, .row [.int .i64, .int .i64, .int .i64, .int .i64] 74 0 (Sp.gN1 z.toNat)), (rl, .row [.int .i64, .int .i64, .int .i64, .int .i64] 76 0 (Sp.gL1 z.toNat)), (rc, .row [.int .i64] 3 0 (Sp.gC1 p ds z.toNat)), (gb, .box [.own rn 0, .own rl 0] gt)]) [rn, rl, rc, gb] [0, 1, 2, 3, 4, 5, 6, 7, 9, 10, 11, 13, 16, 22, 71] (fun z => ds.length - z.toNat) | _ => .unroll 0) | _, _ => .unroll 0)))) else bif Nat.beq ii 12 then .ghostB 4 0 [.int .i64, .int .i64, .int .i64, .int .i64] 74 (.ghostB 4 1 [.int .i64, .int .i64, .int .i64, .int .i64] 76 (.ghost 5 [.int .i64] 3 (.on (fun sv0 => match sv0.tmps.getD 4 .undef, sv0.tmps.getD 5 .undef with | .ref gb _, .own rc _ => (match sv0.heap[gb]? with | some (.box [.own rn _, .own rl _] gt) => .inv Int (fun z => 0 ≤ z ∧ z ≤ (ss.length : Int)) (fun z => [(9, .int .i64 z), (5, .own rc 0)]) (fun z => [(rn, .row [.int .i64, .int .i64, .int .i64, .int .i64] 74 0 (Sp.gN1 ds.length ++ Sp.gN2 z.toNat)), (rl, .row [.int .i64, .int .i64, .int .i64, .int .i64] 76 0 (Sp.gL1 ds.length ++ Sp.gL2 ds ss z.toNat)), (rc, .row [.int .i64] 3 0 (Sp.gC1 p ds ds.length ++ Sp.gC2 p ds ss z.toNat)), (gb, .box [.own rn 0, .own rl 0] gt)]) [rn, rl, rc, gb] [0, 1, 2, 3, 4, 5, 6, 7, 9, 10, 11, 13, 16, 22, 71] (fun z => ss.length - z.toNat) | _ => .unroll 0) | _, _ => .unroll 0)))) else .unroll 0
abbrev B67 (w : Int) (c : Int) (p : Int) (ds : List (List C)) (ss : List (List C)) : Prop := vcF Go.Proofs.Tryz.prog (look tb67) (fun _ => false) (A67 p ds ss) 6 67 [.agg [.int .i64 w, .int .i64 c, .int .i64 p, .sl [.int .u64, .int .i64] ds, .sl [.int .i64, .int .u64, .int .i64, .int .i64] ss]] [] (fun sv heap => Gives [(true, [.sl [.int .i64, .int .i64, .int .i64, .int .i64], .sl [.int .i64, .int .i64, .int .i64, .int .i64]]), (false, [.sl [.int .i64]])] [[.l (Sp.bN w c p ds ss), .l (Sp.bL w c p ds ss)], [.l (Sp.bC w c p ds ss)]] sv heap)
def h67_0 : Int → Int → Int → List (List C) → List (List C) → List SV := fun (w c p : Int) (ds ss : List (List C)) => [SV.agg [SV.int .i64 w, SV.int .i64 c, SV.int .i64 p, SV.sl [.int .u64, .int .i64] ds, SV.sl [.int .i64, .int .u64, .int .i64, .int .i64] ss], SV.ref 0 0, SV.ref 1 0, SV.nils, SV.ref 2 0, SV.undef, SV.undef, SV.undef, SV.undef, SV.blit false, SV.undef]
def h67_1 : Int → Int → Int → List (List C) → List (List C) → List HB := fun (w c p : Int) (ds ss : List (List C)) => [HB.box [SV.int .i64 w, SV.int .i64 c, SV.int .i64 p, SV.sl [.int .u64, .int .i64] ds, SV.sl [.int .i64, .int .u64, .int .i64, .int .i64] ss] 31, HB.box [SV.nils, SV.nils] 50, HB.gone, HB.gone, HB.gone, HB.gone]
def h67_2 : Int → Int → Int → List (List C) → List (List C) → Int → List SV := fun (w c p : Int) (ds ss : List (List C)) (x : Int) => [SV.agg [SV.int .i64 w, SV.int .i64 c, SV.int .i64 p, SV.sl [.int .u64, .int .i64] ds, SV.sl [.int .i64, .int .u64, .int .i64, .int .i64] ss], SV.ref 0 0, SV.ref 1 0, SV.nils, SV.ref 2 0, SV.int .i64 x, SV.any, SV.blit false, SV.blit false]
def m67_0 : List Sh := [Sh.int .i64, Sh.int .i64, Sh.int .i64, Sh.int .i64]
def m67_1 : Prop := [Sh.int .i64] ++ ([Sh.int .i64] ++ ([Sh.int .i64] ++ ([Sh.int .i64] ++ []))) = m67_0
theorem e67 (w : Int) (c : Int) (p : Int) (ds : List (List C)) (ss : List (List C)) : B67 w c p ds ss = (True ∧ (True → True ∧ (bNot (Sp.prop w c p ds ss) = true → ([] = Sp.bN w c p ds ss ∧ [] = Sp.bL w c p ds ss ∧ True) ∧ ([] = Sp.bC w c p ds ss ∧ True) ∧ True) ∧ (bNot (Sp.prop w c p ds ss) = false → (∃ (x : Int), (0 ≤ x ∧ x ≤ ↑ds.length) ∧ true = true ∧ ((IntKind.i64 = IntKind.i64 ∧ 0 = x) ∧ (5 = 5 ∧ 0 + 1 = 0 + 1) ∧ True) ∧ (m67_0 = m67_0 ∧ 74 = 74 ∧ 0 + 1 = 0 + 1 ∧ [] = Sp.gN1 x.toNat) ∧ (m67_0 = m67_0 ∧ 76 = 76 ∧ 0 + 1 = 0 + 1 ∧ [] = Sp.gL1 x.toNat) ∧ ([Sh.int .i64] = [Sh.int .i64] ∧ 3 = 3 ∧ 0 + 1 = 0 + 1 ∧ [] = Sp.gC1 p ds x.toNat) ∧ (((3 = 3 ∧ 0 + 1 = 0 + 1) ∧ (4 = 4 ∧ 0 + 1 = 0 + 1) ∧ True) ∧ 50 = 50) ∧ True) ∧ (∀ (x : Int), true = true ∧ true = true) ∧ ∀ (x : Int), 0 ≤ x ∧ x ≤ ↑ds.length → InR .i64 x ∧ True ∧ True → ((WL [.int .i64, .int .i64, .int .i64, .int .i64] (Sp.gN1 x.toNat))) ∧ ((WL [.int .i64, .int .i64, .int .i64, .int .i64] (Sp.gL1 x.toNat))) ∧ ((WL [.int .i64] (Sp.gC1 p ds x.toNat))) ∧ (True ∧ True ∧ True) ∧ True → pLe (iLen ds) 9223372036854775807 → (bLt x (iLen ds) = true → pIn 0 (iLen ds) x ∧ (InR .i64 (q1 (rGet ds x)) → True ∧ (InR .i64 (Sp.cD (q1 (rGet ds x)) p) ∧ InR .i64 (Sp.cDe (q1 (rGet ds x)) p) ∧ True → InR .i64 (iMul 2 x) ∧ InR .i64 (iAdd (iMul 2 x) 1) ∧ InR .i64 (iMul 2 x) ∧ InR .i64 (iAdd (iMul 2 x) 2) ∧ pRoom 32 (iLen (Sp.gN1 x.toNat ++ [[C.i (iAdd (iMul 2 x) 1), C.i 3, C.i 1, C.i 1], [C.i (iAdd (iMul 2 x) 2), C.i 2, C.i 1, C.i 0]])) ∧ InR .i64 (iMul 2 x) ∧ InR .i64 (iAdd (iMul 2 x) 1) ∧ InR .i64 (iMul 2 x) ∧ InR .i64 (iAdd (iMul 2 x) 2) ∧ pRoom 32 (iLen (Sp.gL1 x.toNat ++ [[C.i (iAdd (iMul 2 x) 1), C.i 0, C.i (iAdd (iMul 2 x) 2), C.i 0]])) ∧ pRoom 8 (iLen (Sp.gC1 p ds x.toNat ++ [[C.i 0], [C.i (Sp.cD (q1 (rGet ds x)) p)]])) ∧ InR .i64 (iAdd x 1) ∧ (true = true ∧ h67_0 w c p ds ss = h67_0 w c p ds ss) ∧ h67_1 w c p ds ss = h67_1 w c p ds ss ∧ ∃ (y : Int), (0 ≤ y ∧ y ≤ ↑ds.length) ∧ true = true ∧ ((IntKind.i64 = IntKind.i64 ∧ iAdd x 1 = y) ∧ (5 = 5 ∧ 0 + 1 = 0 + 1) ∧ True) ∧ ((m67_1 ∧ 74 = 74 ∧ 0 + 1 = 0 + 1 ∧ Sp.gN1 x.toNat ++ [[C.i (iAdd (iMul 2 x) 1), C.i 3, C.i 1, C.i 1], [C.i (iAdd (iMul 2 x) 2), C.i 2, C.i 1, C.i 0]] = Sp.gN1 y.toNat) ∧ (m67_1 ∧ 76 = 76 ∧ 0 + 1 = 0 + 1 ∧ Sp.gL1 x.toNat ++ [[C.i (iAdd (iMul 2 x) 1), C.i 0, C.i (iAdd (iMul 2 x) 2), C.i 0]] = Sp.gL1 y.toNat) ∧ ([Sh.int .i64] = [Sh.int .i64] ∧ 3 = 3 ∧ 0 + 1 = 0 + 1 ∧ Sp.gC1 p ds x.toNat ++ [[C.i 0], [C.i (Sp.cD (q1 (rGet ds x)) p)]] = Sp.gC1 p ds y.toNat) ∧ (((3 = 3 ∧ 0 + 1 = 0 + 1) ∧ (4 = 4 ∧ 0 + 1 = 0 + 1) ∧ True) ∧ 50 = 50) ∧ True) ∧ ds.length - y.toNat < ds.length - x.toNat))) ∧ (bLt x (iLen ds) = false → (∃ (x_1 : Int), (0 ≤ x_1 ∧ x_1 ≤ ↑ss.length) ∧ true = true ∧ ((IntKind.i64 = IntKind.i64 ∧ 0 = x_1) ∧ (5 = 5 ∧ 1 + 1 = 1 + 1) ∧ True) ∧ (m67_0 = m67_0 ∧ 74 = 74 ∧ 1 + 1 = 1 + 1 ∧ Sp.gN1 x.toNat = Sp.gN1 ds.length ++ Sp.gN2 x_1.toNat) ∧ (m67_0 = m67_0 ∧ 76 = 76 ∧ 1 + 1 = 1 + 1 ∧ Sp.gL1 x.toNat = Sp.gL1 ds.length ++ Sp.gL2 ds ss x_1.toNat) ∧ ([Sh.int .i64] = [Sh.int .i64] ∧ 3 = 3 ∧ 1 + 1 = 1 + 1 ∧ Sp.gC1 p ds x.toNat = Sp.gC1 p ds ds.length ++ Sp.gC2 p ds ss x_1.toNat) ∧ (((3 = 3 ∧ 1 + 1 = 1 + 1) ∧ (4 = 4 ∧ 1 + 1 = 1 + 1) ∧ True) ∧ 50 = 50) ∧ True) ∧ (∀ (x : Int), true = true ∧ true = true) ∧ ∀ (x_1 : Int), 0 ≤ x_1 ∧ x_1 ≤ ↑ss.length → InR .i64 x_1 ∧ True ∧ True → ((WL [.int .i64, .int .i64, .int .i64, .int .i64] (Sp.gN1 ds.length ++ Sp.gN2 x_1.toNat))) ∧ ((WL [.int .i64, .int .i64, .int .i64, .int .i64] (Sp.gL1 ds.length ++ Sp.gL2 ds ss x_1.toNat))) ∧ ((WL [.int .i64] (Sp.gC1 p ds ds.length ++ Sp.gC2 p ds ss x_1.toNat))) ∧ (True ∧ True ∧ True) ∧ True → pLe (iLen ss) 9223372036854775807 → (bLt x_1 (iLen ss) = true → pIn 0 (iLen ss) x_1 ∧ (InR .u64 (q1 (rGet ss x_1)) → True ∧ (InR .i64 (Sp.nix ds (q1 (rGet ss x_1))) → pIn 0 (iLen ss) x_1 ∧ (InR .i64 (q2 (rGet ss x_1)) → pIn 0 (iLen ds) (Sp.nix ds (q1 (rGet ss x_1))) ∧ (InR .i64 (q1 (rGet ds (Sp.nix ds (q1 (rGet ss x_1))))) → True ∧ (InR .i64 (Sp.cS (q2 (rGet ss x_1)) (q1 (rGet ds (Sp.nix ds (q1 (rGet ss x_1))))) p) ∧ InR .i64 (Sp.cSe (q2 (rGet ss x_1)) (q1 (rGet ds (Sp.nix ds (q1 (rGet ss x_1))))) p) ∧ True → InR .i64 (iAdd 17 x_1) ∧ pRoom 32 (iLen (Sp.gN1 ds.length ++ Sp.gN2 x_1.toNat ++ [[C.i (iAdd 17 x_1), C.i 1, C.i 0, C.i 1]])) ∧ InR .i64 (iMul 2 (Sp.nix ds (q1 (rGet ss x_1)))) ∧ InR .i64 (iAdd (iMul 2 (Sp.nix ds (q1 (rGet ss x_1)))) 1) ∧ pRoom 32 (iLen (Sp.gL1 ds.length ++ Sp.gL2 ds ss x_1.toNat ++ [[C.i (iAdd 17 x_1), C.i 0, C.i (iAdd (iMul 2 (Sp.nix ds (q1 (rGet ss x_1)))) 1), C.i 0]])) ∧ pRoom 8 (iLen (Sp.gC1 p ds ds.length ++ Sp.gC2 p ds ss x_1.toNat ++ [[C.i (Sp.cS (q2 (rGet ss x_1)) (q1 (rGet ds (Sp.nix ds (q1 (rGet ss x_1))))) p)]])) ∧ InR .i64 (iAdd x_1 1) ∧ (true = true ∧ h67_2 w c p ds ss x = h67_2 w c p ds ss x) ∧ h67_1 w c p ds ss = h67_1 w c p ds ss ∧ ∃ (y : Int), (0 ≤ y ∧ y ≤ ↑ss.length) ∧ true = true ∧ ((IntKind.i64 = IntKind.i64 ∧ iAdd x_1 1 = y) ∧ (5 = 5 ∧ 1 + 1 = 1 + 1) ∧ True) ∧ ((m67_1 ∧ 74 = 74 ∧ 1 + 1 = 1 + 1 ∧ Sp.gN1 ds.length ++ Sp.gN2 x_1.toNat ++ [[C.i (iAdd 17 x_1), C.i 1, C.i 0, C.i 1]] = Sp.gN1 ds.length ++ Sp.gN2 y.toNat) ∧ (m67_1 ∧ 76 = 76 ∧ 1 + 1 = 1 + 1 ∧ Sp.gL1 ds.length ++ Sp.gL2 ds ss x_1.toNat ++ [[C.i (iAdd 17 x_1), C.i 0, C.i (iAdd (iMul 2 (Sp.nix ds (q1 (rGet ss x_1)))) 1), C.i 0]] = Sp.gL1 ds.length ++ Sp.gL2 ds ss y.toNat) ∧ ([Sh.int .i64] = [Sh.int .i64] ∧ 3 = 3 ∧ 1 + 1 = 1 + 1 ∧ Sp.gC1 p ds ds.length ++ Sp.gC2 p ds ss x_1.toNat ++ [[C.i (Sp.cS (q2 (rGet ss x_1)) (q1 (rGet ds (Sp.nix ds (q1 (rGet ss x_1))))) p)]] = Sp.gC1 p ds ds.length ++ Sp.gC2 p ds ss y.toNat) ∧ (((3 = 3 ∧ 1 + 1 = 1 + 1) ∧ (4 = 4 ∧ 1 + 1 = 1 + 1) ∧ True) ∧ 50 = 50) ∧ True) ∧ ss.length - y.toNat < ss.length - x_1.toNat)))))) ∧ (bLt x_1 (iLen ss) = false → (Sp.gN1 ds.length ++ Sp.gN2 x_1.toNat = Sp.bN w c p ds ss ∧ Sp.gL1 ds.length ++ Sp.gL2 ds ss x_1.toNat = Sp.bL w c p ds ss ∧ True) ∧ (Sp.gC1 p ds ds.length ++ Sp.gC2 p ds ss x_1.toNat = Sp.bC w c p ds ss ∧ True) ∧ True))))) := by kernel_rfl
theorem v67 (w : Int) (c : Int) (p : Int) (ds : List (List C)) (ss : List (List C)) : Holds (Wfs [.agg [.int .i64 w, .int .i64 c, .int .i64 p, .sl [.int .u64, .int .i64] ds, .sl [.int .i64, .int .u64, .int .i64, .int .i64] ss]] → True → B67 w c p ds ss) := by
 refine ⟨fun hw hp => ?_⟩
 rw [e67]
 delta WL q1 q2 m67_0 m67_1
 simp only [Wfs, Wf, InR, and_true] at hw
 simp only [eq_self, true_and, and_true, true_implies, implies_true, iAdd, iSub, iMul, iLen, bEq, bNe, bLt, bLe, bNot, pIn, pLe, pNe, InR, decide_eq_true_eq, decide_eq_false_iff_not, Bool.not_eq_true', Bool.not_eq_false', decide_eq_decide]
 have Z : Sp.prop w c p ds ss = false → ([] = Sp.bN w c p ds ss ∧ [] = Sp.bL w c p ds ss) ∧ [] = Sp.bC w c p ds ss := fun h => by
  unfold Sp.bN Sp.bL Sp.bC; rw [h]; exact ⟨⟨rfl, rfl⟩, rfl⟩
 refine ⟨Z, fun hpr => ?_⟩
 have hq := Sp.prop_iff.1 hpr
 have hd := hq.1.2.2.2.1
 have hs := hq.1.2.2.2.2
 refine ⟨⟨0, ⟨by omega, by omega⟩, rfl, rfl, rfl, rfl⟩, ?_⟩
 intro x hx _ _ _
 refine ⟨fun hlt => ⟨⟨hx.1, hlt⟩, fun _ _ => ⟨by omega, by omega, by omega, by omega, (by simp only [pRoom, List.length_append, List.length_cons, List.length_nil, Sp.gN1_len, Sp.gL1_len, Sp.gC1_len, Sp.gN2_len, Sp.gL2_len, Sp.gC2_len]; omega), by omega, by omega, by omega, by omega, (by simp only [pRoom, List.length_append, List.length_cons, List.length_nil, Sp.gN1_len, Sp.gL1_len, Sp.gC1_len, Sp.gN2_len, Sp.gL2_len, Sp.gC2_len]; omega), (by simp only [pRoom, List.length_append, List.length_cons, List.length_nil, Sp.gN1_len, Sp.gL1_len, Sp.gC1_len, Sp.gN2_len, Sp.gL2_len, Sp.gC2_len]; omega), by omega, x + 1, ⟨by omega, by omega⟩, rfl, ⟨⟨rfl, (Sp.gN1_s hx.1).symm⟩, ⟨rfl, (Sp.gL1_s hx.1).symm⟩, (Sp.gC1_s hx.1).symm⟩, by omega⟩⟩, fun hge => ?_⟩
 have ex : x.toNat = ds.length := by omega
 refine ⟨⟨0, ⟨by omega, by omega⟩, rfl, by rw [ex]; simp [Sp.gN2], by rw [ex]; simp [Sp.gL2], by rw [ex]; simp [Sp.gC2]⟩, ?_⟩
 intro y hy _ _ _
 refine ⟨fun hlt => ?_, fun hge2 => ?_⟩
 · obtain ⟨hh, he⟩ := Sp.prop_seat hpr hy.1 hlt
   obtain ⟨n0, n1, _⟩ := Sp.nix_has hh
   have e1 : Sp.c1 (rGet ss y) = ((rGet ss y).tail.headD default).int := rfl
   rw [e1] at n0 n1
   refine ⟨⟨hy.1, hlt⟩, fun _ _ => ⟨⟨hy.1, hlt⟩, fun _ => ⟨⟨n0, n1⟩, fun _ _ => ⟨by omega, (by simp only [pRoom, List.length_append, List.length_cons, List.length_nil, Sp.gN1_len, Sp.gL1_len, Sp.gC1_len, Sp.gN2_len, Sp.gL2_len, Sp.gC2_len]; omega), by omega, by omega, (by simp only [pRoom, List.length_append, List.length_cons, List.length_nil, Sp.gN1_len, Sp.gL1_len, Sp.gC1_len, Sp.gN2_len, Sp.gL2_len, Sp.gC2_len]; omega), (by simp only [pRoom, List.length_append, List.length_cons, List.length_nil, Sp.gN1_len, Sp.gL1_len, Sp.gC1_len, Sp.gN2_len, Sp.gL2_len, Sp.gC2_len]; omega), by omega, y + 1, ⟨by omega, by omega⟩, rfl, ⟨⟨rfl, ?_⟩, ⟨rfl, ?_⟩, ?_⟩, by omega⟩⟩⟩⟩
   · rw [Sp.gN2_s hy.1, List.append_assoc]
   · rw [Sp.gL2_s hy.1, List.append_assoc]; rfl
   · rw [Sp.gC2_s hy.1, List.append_assoc]; rfl
 · have ey : y.toNat = ss.length := by omega
   rw [ey]
   unfold Sp.bN Sp.bL Sp.bC; rw [hpr]; exact ⟨⟨rfl, rfl⟩, rfl⟩
theorem s67 : SoundCt Go.Proofs.Tryz.prog 67 ct67 :=
 contractH followsMixed (look_sound (show Tb Go.Proofs.Tryz.prog tb67 from ⟨s66, ⟨s86, ⟨s87, ⟨s44, trivial⟩⟩⟩⟩)) (fun _ => false) (fun a => A67 ((cel 2 (arg 0 a)).int) ((cel 3 (arg 0 a)).list) ((cel 4 (arg 0 a)).list)) 6 67 ct67 rfl (by simp [ct67]) fun a => Eq.mp (by kernel_rfl) (v67 ((cel 0 (arg 0 a)).int) ((cel 1 (arg 0 a)).int) ((cel 2 (arg 0 a)).int) ((cel 3 (arg 0 a)).list) ((cel 4 (arg 0 a)).list))
end Go.Sx
