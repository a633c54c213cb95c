/- Contracts and conditions, continued. -/
import Derived.Test.YtfbfaleilkebaaaSxUse
import Derived.Test.YtfbfaleilkebaaaC39c
import Derived.KernelRfl
set_option linter.unusedVariables false
set_option linter.unusedSimpArgs false
set_option maxRecDepth 100000
set_option maxHeartbeats 4000000

namespace Go
open Go.Sx
def Sp.exR (fl : List (List C)) (h : Int) (g : List C) : List C :=
  [.i (Sp.exI fl h (g.headD default).int (g.tail.headD default).int (g.tail.tail.headD default).int (g.tail.tail.tail.headD default).int (g.tail.tail.tail.tail.headD default).int (g.tail.tail.tail.tail.tail.headD default).int),
   .b (decide (Sp.exI fl h (g.headD default).int (g.tail.headD default).int (g.tail.tail.headD default).int (g.tail.tail.tail.headD default).int (g.tail.tail.tail.tail.headD default).int (g.tail.tail.tail.tail.tail.headD default).int < 0))]
def Sp.allR (fl : List (List C)) (h : Int) (gl : List (List C)) : List (List C) := gl.map (Sp.exR fl h)
def Sp.inN (xs : List (List C)) : Int :=
  match xs with
  | [] => 0
  | x :: r => (bif (x.tail.headD default).bool then 1 else 0) + Sp.inN r
def Sp.sameR (xs ys : List (List C)) : Bool :=
  match xs, ys with
  | [], [] => true
  | x :: r, y :: s => (decide ((x.headD default).int = (y.headD default).int) && ((x.tail.headD default).bool == (y.tail.headD default).bool)) && Sp.sameR r s
  | _, _ => false
def Sp.aI (fl : List (List C)) (h : Int) (gl : List (List C)) (i : Int) (rows : List (List C)) : Prop := 0 ≤ i ∧ i ≤ (gl.length : Int) ∧ rows = Sp.allR fl h (gl.take i.toNat)
def Sp.nI (xs : List (List C)) (i n : Int) : Prop := 0 ≤ i ∧ i ≤ (xs.length : Int) ∧ 0 ≤ n ∧ n ≤ i ∧ n + Sp.inN (xs.drop i.toNat) = Sp.inN xs
def Sp.sI (xs ys : List (List C)) (i : Int) : Prop := 0 ≤ i ∧ i ≤ (xs.length : Int) ∧ Sp.sameR (xs.drop i.toNat) (ys.drop i.toNat) = Sp.sameR xs ys
def Sp.xI (k a : Int) (out : List (List C)) : Prop := 0 ≤ a ∧ k ≤ 9 ∧ (out.length : Int) + max k 0 ≤ 9
end Go

namespace Go
open Go.Sx
theorem Sp.take_succ {xs : List (List C)} {k : Int} (h0 : 0 ≤ k) (h1 : k < (xs.length : Int)) : xs.take (k + 1).toNat = xs.take k.toNat ++ [rGet xs k] := by
  rw [show (k + 1).toNat = k.toNat + 1 by omega, List.take_add_one, List.getElem?_eq_getElem (show k.toNat < xs.length by omega)]
  congr 1
  simp [rGet, List.getD_eq_getElem?_getD, show k.toNat < xs.length by omega]
theorem Sp.sameR_self : ∀ (xs : List (List C)), Sp.sameR xs xs = true
  | [] => rfl
  | x :: r => by simp [Sp.sameR, Sp.sameR_self r]
theorem Sp.rGet_all {fl gl : List (List C)} {h i : Int} (h0 : 0 ≤ i) (h1 : i < (gl.length : Int)) : rGet (Sp.allR fl h gl) i = Sp.exR fl h (rGet gl i) := by
  simp [rGet, Sp.allR, List.getD_eq_getElem?_getD, show i.toNat < gl.length by omega]
end Go

namespace Go.Sx
/-! ### function 13: analyser.All -/
def ct13 : Ct := { ps := [(false, [.sl [.int .i64, .int .i64, .int .i64, .int .u64]]), (false, [.int .i64]), (false, [.sl [.int .i64, .int .i64, .int .i64, .int .i64, .int .u64, .int .i64]])], rs := [(false, [.sl [.int .i64, .bool]])], pre := fun a => pLe ((cel 0 (arg 2 a)).list.length : Int) 1000 ∧ True, out := fun a => [[.l (Sp.allR (cel 0 (arg 0 a)).list (cel 0 (arg 1 a)).int (cel 0 (arg 2 a)).list)]] }
def tb13 : List (Nat × Ct) := [(9, ct9)]
theorem e13 (fl : List (List C)) (h : Int) (gl : List (List C)) : vcF Go.Proofs.Try.prog (look tb13) (fun _ => false) (fun _ ii => bif Nat.beq ii 3 then .ghost 7 [.int .i64, .bool] 33 (.on (fun sv0 => match sv0.tmps.getD 7 .undef with | .own rr _ => .inv (Int × List (List C)) (fun z => Sp.aI fl h gl z.1 z.2) (fun z => [(12, .int .i64 z.1), (7, .own rr 0)]) (fun z => [(rr, .row [.int .i64, .bool] 33 0 z.2)]) [rr] [0, 1, 2, 6, 7, 9, 10, 11, 12, 13] (fun z => gl.length - z.1.toNat) | _ => .unroll 0)) else .unroll 0) 6 13 [.sl [.int .i64, .int .i64, .int .i64, .int .u64] fl, .int .i64 h, .sl [.int .i64, .int .i64, .int .i64, .int .i64, .int .u64, .int .i64] gl] [] (fun sv heap => Gives [(false, [.sl [.int .i64, .bool]])] [[.l (Sp.allR fl h gl)]] sv heap) = (pLe (iLen gl) 9223372036854775807 → (∃ (x : Int × List (List C)), Sp.aI fl h gl x.1 x.2 ∧ true = true ∧ ((IntKind.i64 = IntKind.i64 ∧ 0 = x.1) ∧ (0 = 0 ∧ 0 + 1 = 0 + 1) ∧ True) ∧ ([Sh.int IntKind.i64, Sh.bool] = [Sh.int IntKind.i64, Sh.bool] ∧ 33 = 33 ∧ 0 + 1 = 0 + 1 ∧ [] = x.2) ∧ True) ∧ (∀ (x : Int × List (List C)), true = true ∧ true = true) ∧ ∀ (x : Int × List (List C)), Sp.aI fl h gl x.1 x.2 → InR IntKind.i64 x.1 ∧ True ∧ True → (x.2.length ≤ 9223372036854775807 ∧ ∀ (x_1 : List C), x_1 ∈ x.2 → WfCs [Sh.int IntKind.i64, Sh.bool] x_1) ∧ True → (bLt x.1 (iLen gl) = true → pIn 0 (iLen gl) x.1 ∧ (InR IntKind.i64 ((rGet gl x.1).headD default).int ∧ InR IntKind.i64 ((rGet gl x.1).tail.headD default).int ∧ InR IntKind.i64 ((rGet gl x.1).tail.tail.headD default).int ∧ InR IntKind.i64 ((rGet gl x.1).tail.tail.tail.headD default).int ∧ InR IntKind.u64 ((rGet gl x.1).tail.tail.tail.tail.headD default).int ∧ InR IntKind.i64 ((rGet gl x.1).tail.tail.tail.tail.tail.headD default).int ∧ True → True ∧ (InR IntKind.i64 (Sp.exI fl h ((rGet gl x.1).headD default).int ((rGet gl x.1).tail.headD default).int ((rGet gl x.1).tail.tail.headD default).int ((rGet gl x.1).tail.tail.tail.headD default).int ((rGet gl x.1).tail.tail.tail.tail.headD default).int ((rGet gl x.1).tail.tail.tail.tail.tail.headD default).int) ∧ True ∧ True → pRoom 16 (iLen (x.2 ++ [[C.i (Sp.exI fl h ((rGet gl x.1).headD default).int ((rGet gl x.1).tail.headD default).int ((rGet gl x.1).tail.tail.headD default).int ((rGet gl x.1).tail.tail.tail.headD default).int ((rGet gl x.1).tail.tail.tail.tail.headD default).int ((rGet gl x.1).tail.tail.tail.tail.tail.headD default).int), C.b (decide (Sp.exI fl h ((rGet gl x.1).headD default).int ((rGet gl x.1).tail.headD default).int ((rGet gl x.1).tail.tail.headD default).int ((rGet gl x.1).tail.tail.tail.headD default).int ((rGet gl x.1).tail.tail.tail.tail.headD default).int ((rGet gl x.1).tail.tail.tail.tail.tail.headD default).int < 0))]])) ∧ InR IntKind.i64 (iAdd x.1 1) ∧ (true = true ∧ [SV.sl [Sh.int IntKind.i64, Sh.int IntKind.i64, Sh.int IntKind.i64, Sh.int IntKind.u64] fl, SV.int IntKind.i64 h, SV.sl [Sh.int IntKind.i64, Sh.int IntKind.i64, Sh.int IntKind.i64, Sh.int IntKind.i64, Sh.int IntKind.u64, Sh.int IntKind.i64] gl, SV.nils, SV.sl [Sh.int IntKind.i64, Sh.int IntKind.i64, Sh.int IntKind.i64, Sh.int IntKind.i64, Sh.int IntKind.u64, Sh.int IntKind.i64] gl, SV.int IntKind.i64 (iLen gl)] = [SV.sl [Sh.int IntKind.i64, Sh.int IntKind.i64, Sh.int IntKind.i64, Sh.int IntKind.u64] fl, SV.int IntKind.i64 h, SV.sl [Sh.int IntKind.i64, Sh.int IntKind.i64, Sh.int IntKind.i64, Sh.int IntKind.i64, Sh.int IntKind.u64, Sh.int IntKind.i64] gl, SV.nils, SV.sl [Sh.int IntKind.i64, Sh.int IntKind.i64, Sh.int IntKind.i64, Sh.int IntKind.i64, Sh.int IntKind.u64, Sh.int IntKind.i64] gl, SV.int IntKind.i64 (iLen gl)]) ∧ [HB.gone] = [HB.gone] ∧ ∃ (y : Int × List (List C)), Sp.aI fl h gl y.1 y.2 ∧ true = true ∧ ((IntKind.i64 = IntKind.i64 ∧ iAdd x.1 1 = y.1) ∧ (0 = 0 ∧ 0 + 1 = 0 + 1) ∧ True) ∧ (([Sh.int IntKind.i64] ++ ([Sh.bool] ++ []) = [Sh.int IntKind.i64, Sh.bool] ∧ 33 = 33 ∧ 0 + 1 = 0 + 1 ∧ x.2 ++ [[C.i (Sp.exI fl h ((rGet gl x.1).headD default).int ((rGet gl x.1).tail.headD default).int ((rGet gl x.1).tail.tail.headD default).int ((rGet gl x.1).tail.tail.tail.headD default).int ((rGet gl x.1).tail.tail.tail.tail.headD default).int ((rGet gl x.1).tail.tail.tail.tail.tail.headD default).int), C.b (decide (Sp.exI fl h ((rGet gl x.1).headD default).int ((rGet gl x.1).tail.headD default).int ((rGet gl x.1).tail.tail.headD default).int ((rGet gl x.1).tail.tail.tail.headD default).int ((rGet gl x.1).tail.tail.tail.tail.headD default).int ((rGet gl x.1).tail.tail.tail.tail.tail.headD default).int < 0))]] = y.2) ∧ True) ∧ gl.length - y.1.toNat < gl.length - x.1.toNat))) ∧ (bLt x.1 (iLen gl) = false → (x.2 = Sp.allR fl h gl ∧ True) ∧ True)) := by kernel_rfl
theorem v13 (fl : List (List C)) (h : Int) (gl : List (List C)) : Holds (Wfs [.sl [.int .i64, .int .i64, .int .i64, .int .u64] fl, .int .i64 h, .sl [.int .i64, .int .i64, .int .i64, .int .i64, .int .u64, .int .i64] gl] → pLe (gl.length : Int) 1000 ∧ True → vcF Go.Proofs.Try.prog (look tb13) (fun _ => false) (fun _ ii => bif Nat.beq ii 3 then .ghost 7 [.int .i64, .bool] 33 (.on (fun sv0 => match sv0.tmps.getD 7 .undef with | .own rr _ => .inv (Int × List (List C)) (fun z => Sp.aI fl h gl z.1 z.2) (fun z => [(12, .int .i64 z.1), (7, .own rr 0)]) (fun z => [(rr, .row [.int .i64, .bool] 33 0 z.2)]) [rr] [0, 1, 2, 6, 7, 9, 10, 11, 12, 13] (fun z => gl.length - z.1.toNat) | _ => .unroll 0)) else .unroll 0) 6 13 [.sl [.int .i64, .int .i64, .int .i64, .int .u64] fl, .int .i64 h, .sl [.int .i64, .int .i64, .int .i64, .int .i64, .int .u64, .int .i64] gl] [] (fun sv heap => Gives [(false, [.sl [.int .i64, .bool]])] [[.l (Sp.allR fl h gl)]] sv heap)) := by
  refine ⟨fun hw hp => ?_⟩
  rw [e13]
  have hn := hp.1
  simp only [pLe] at hn
  simp only [iAdd, iSub, iLen, eq_self, true_and, and_true, true_implies, implies_true]
  intro _
  refine ⟨⟨(0, []), ⟨by simp, by simp, rfl⟩, rfl, rfl⟩, ?_⟩
  rintro ⟨i, rows⟩ ⟨i0, i1, hr⟩ _ _
  simp only at i0 i1 hr ⊢
  have hl : rows.length = i.toNat := by rw [hr]; simp only [Sp.allR, List.length_map, List.length_take]; omega
  refine ⟨fun hlt => ?_, fun hge => ?_⟩
  rotate_left
  · simp only [bLt, decide_eq_false_iff_not] at hge
    rw [hr, List.take_of_length_le (by omega)]
  simp only [bLt, decide_eq_true_eq] at hlt
  refine ⟨⟨i0, hlt⟩, fun _ _ => ⟨?_, by simp only [InR]; omega, (i + 1, _), ⟨by simp only; omega, by simp only; omega, ?_⟩, rfl, ⟨rfl, rfl⟩, by simp only; omega⟩⟩
  · simp only [pRoom, List.length_append, List.length_cons, List.length_nil, hl]; omega
  · simp only
    rw [hr, Sp.take_succ i0 hlt]
    simp only [Sp.allR, List.map_append]
    rfl
theorem s13 : SoundCt Go.Proofs.Try.prog 13 ct13 :=
  contractH followsMixed (look_sound (show Tb Go.Proofs.Try.prog tb13 from ⟨s9, trivial⟩)) (fun _ => false) (fun a => fun _ ii => bif Nat.beq ii 3 then .ghost 7 [.int .i64, .bool] 33 (.on (fun sv0 => match sv0.tmps.getD 7 .undef with | .own rr _ => .inv (Int × List (List C)) (fun z => Sp.aI (cel 0 (arg 0 a)).list (cel 0 (arg 1 a)).int (cel 0 (arg 2 a)).list z.1 z.2) (fun z => [(12, .int .i64 z.1), (7, .own rr 0)]) (fun z => [(rr, .row [.int .i64, .bool] 33 0 z.2)]) [rr] [0, 1, 2, 6, 7, 9, 10, 11, 12, 13] (fun z => (cel 0 (arg 2 a)).list.length - z.1.toNat) | _ => .unroll 0)) else .unroll 0) 6 13 ct13 rfl (by simp [ct13]) fun a => Eq.mp (by kernel_rfl) (v13 ((cel 0 (arg 0 a)).list) ((cel 0 (arg 1 a)).int) ((cel 0 (arg 2 a)).list))
end Go.Sx

namespace Go.Sx
/-! ### function 14: ref39.All -/
def ct14 : Ct := { ps := [(false, [.sl [.int .i64, .int .i64, .int .i64, .int .u64]]), (false, [.int .i64]), (false, [.sl [.int .i64, .int .i64, .int .i64, .int .i64, .int .u64, .int .i64]])], rs := [(false, [.sl [.int .i64, .bool]])], pre := fun a => pLe ((cel 0 (arg 2 a)).list.length : Int) 1000 ∧ True, out := fun a => [[.l (Sp.allR (cel 0 (arg 0 a)).list (cel 0 (arg 1 a)).int (cel 0 (arg 2 a)).list)]] }
def tb14 : List (Nat × Ct) := [(24, ct24)]
theorem e14 (fl : List (List C)) (h : Int) (gl : List (List C)) : vcF Go.Proofs.Try.prog (look tb14) (fun _ => false) (fun _ ii => bif Nat.beq ii 3 then .ghost 7 [.int .i64, .bool] 33 (.on (fun sv0 => match sv0.tmps.getD 7 .undef with | .own rr _ => .inv (Int × List (List C)) (fun z => Sp.aI fl h gl z.1 z.2) (fun z => [(8, .int .i64 z.1), (7, .own rr 0)]) (fun z => [(rr, .row [.int .i64, .bool] 33 0 z.2)]) [rr] [0, 1, 2, 6, 7, 8, 12] (fun z => gl.length - z.1.toNat) | _ => .unroll 0)) else .unroll 0) 6 14 [.sl [.int .i64, .int .i64, .int .i64, .int .u64] fl, .int .i64 h, .sl [.int .i64, .int .i64, .int .i64, .int .i64, .int .u64, .int .i64] gl] [] (fun sv heap => Gives [(false, [.sl [.int .i64, .bool]])] [[.l (Sp.allR fl h gl)]] sv heap) = ((∃ (x : Int × List (List C)), Sp.aI fl h gl x.1 x.2 ∧ true = true ∧ ((IntKind.i64 = IntKind.i64 ∧ 0 = x.1) ∧ (0 = 0 ∧ 0 + 1 = 0 + 1) ∧ True) ∧ ([Sh.int IntKind.i64, Sh.bool] = [Sh.int IntKind.i64, Sh.bool] ∧ 33 = 33 ∧ 0 + 1 = 0 + 1 ∧ [] = x.2) ∧ True) ∧ (∀ (x : Int × List (List C)), true = true ∧ true = true) ∧ ∀ (x : Int × List (List C)), Sp.aI fl h gl x.1 x.2 → InR IntKind.i64 x.1 ∧ True ∧ True → (x.2.length ≤ 9223372036854775807 ∧ ∀ (x_1 : List C), x_1 ∈ x.2 → WfCs [Sh.int IntKind.i64, Sh.bool] x_1) ∧ True → pLe (iLen gl) 9223372036854775807 → (bLt x.1 (iLen gl) = true → pIn 0 (iLen gl) x.1 ∧ (InR IntKind.i64 ((rGet gl x.1).headD default).int ∧ InR IntKind.i64 ((rGet gl x.1).tail.headD default).int ∧ InR IntKind.i64 ((rGet gl x.1).tail.tail.headD default).int ∧ InR IntKind.i64 ((rGet gl x.1).tail.tail.tail.headD default).int ∧ InR IntKind.u64 ((rGet gl x.1).tail.tail.tail.tail.headD default).int ∧ InR IntKind.i64 ((rGet gl x.1).tail.tail.tail.tail.tail.headD default).int ∧ True → True ∧ (InR IntKind.i64 (Sp.exI fl h ((rGet gl x.1).headD default).int ((rGet gl x.1).tail.headD default).int ((rGet gl x.1).tail.tail.headD default).int ((rGet gl x.1).tail.tail.tail.headD default).int ((rGet gl x.1).tail.tail.tail.tail.headD default).int ((rGet gl x.1).tail.tail.tail.tail.tail.headD default).int) ∧ True ∧ True → pRoom 16 (iLen (x.2 ++ [[C.i (Sp.exI fl h ((rGet gl x.1).headD default).int ((rGet gl x.1).tail.headD default).int ((rGet gl x.1).tail.tail.headD default).int ((rGet gl x.1).tail.tail.tail.headD default).int ((rGet gl x.1).tail.tail.tail.tail.headD default).int ((rGet gl x.1).tail.tail.tail.tail.tail.headD default).int), C.b (decide (Sp.exI fl h ((rGet gl x.1).headD default).int ((rGet gl x.1).tail.headD default).int ((rGet gl x.1).tail.tail.headD default).int ((rGet gl x.1).tail.tail.tail.headD default).int ((rGet gl x.1).tail.tail.tail.tail.headD default).int ((rGet gl x.1).tail.tail.tail.tail.tail.headD default).int < 0))]])) ∧ InR IntKind.i64 (iAdd x.1 1) ∧ (true = true ∧ [SV.sl [Sh.int IntKind.i64, Sh.int IntKind.i64, Sh.int IntKind.i64, Sh.int IntKind.u64] fl, SV.int IntKind.i64 h, SV.sl [Sh.int IntKind.i64, Sh.int IntKind.i64, Sh.int IntKind.i64, Sh.int IntKind.i64, Sh.int IntKind.u64, Sh.int IntKind.i64] gl, SV.nils] = [SV.sl [Sh.int IntKind.i64, Sh.int IntKind.i64, Sh.int IntKind.i64, Sh.int IntKind.u64] fl, SV.int IntKind.i64 h, SV.sl [Sh.int IntKind.i64, Sh.int IntKind.i64, Sh.int IntKind.i64, Sh.int IntKind.i64, Sh.int IntKind.u64, Sh.int IntKind.i64] gl, SV.nils]) ∧ [HB.gone] = [HB.gone] ∧ ∃ (y : Int × List (List C)), Sp.aI fl h gl y.1 y.2 ∧ true = true ∧ ((IntKind.i64 = IntKind.i64 ∧ iAdd x.1 1 = y.1) ∧ (0 = 0 ∧ 0 + 1 = 0 + 1) ∧ True) ∧ (([Sh.int IntKind.i64] ++ ([Sh.bool] ++ []) = [Sh.int IntKind.i64, Sh.bool] ∧ 33 = 33 ∧ 0 + 1 = 0 + 1 ∧ x.2 ++ [[C.i (Sp.exI fl h ((rGet gl x.1).headD default).int ((rGet gl x.1).tail.headD default).int ((rGet gl x.1).tail.tail.headD default).int ((rGet gl x.1).tail.tail.tail.headD default).int ((rGet gl x.1).tail.tail.tail.tail.headD default).int ((rGet gl x.1).tail.tail.tail.tail.tail.headD default).int), C.b (decide (Sp.exI fl h ((rGet gl x.1).headD default).int ((rGet gl x.1).tail.headD default).int ((rGet gl x.1).tail.tail.headD default).int ((rGet gl x.1).tail.tail.tail.headD default).int ((rGet gl x.1).tail.tail.tail.tail.headD default).int ((rGet gl x.1).tail.tail.tail.tail.tail.headD default).int < 0))]] = y.2) ∧ True) ∧ gl.length - y.1.toNat < gl.length - x.1.toNat))) ∧ (bLt x.1 (iLen gl) = false → (x.2 = Sp.allR fl h gl ∧ True) ∧ True)) := by kernel_rfl
theorem v14 (fl : List (List C)) (h : Int) (gl : List (List C)) : Holds (Wfs [.sl [.int .i64, .int .i64, .int .i64, .int .u64] fl, .int .i64 h, .sl [.int .i64, .int .i64, .int .i64, .int .i64, .int .u64, .int .i64] gl] → pLe (gl.length : Int) 1000 ∧ True → vcF Go.Proofs.Try.prog (look tb14) (fun _ => false) (fun _ ii => bif Nat.beq ii 3 then .ghost 7 [.int .i64, .bool] 33 (.on (fun sv0 => match sv0.tmps.getD 7 .undef with | .own rr _ => .inv (Int × List (List C)) (fun z => Sp.aI fl h gl z.1 z.2) (fun z => [(8, .int .i64 z.1), (7, .own rr 0)]) (fun z => [(rr, .row [.int .i64, .bool] 33 0 z.2)]) [rr] [0, 1, 2, 6, 7, 8, 12] (fun z => gl.length - z.1.toNat) | _ => .unroll 0)) else .unroll 0) 6 14 [.sl [.int .i64, .int .i64, .int .i64, .int .u64] fl, .int .i64 h, .sl [.int .i64, .int .i64, .int .i64, .int .i64, .int .u64, .int .i64] gl] [] (fun sv heap => Gives [(false, [.sl [.int .i64, .bool]])] [[.l (Sp.allR fl h gl)]] sv heap)) := by
  refine ⟨fun hw hp => ?_⟩
  rw [e14]
  have hn := hp.1
  simp only [pLe] at hn
  simp only [iAdd, iSub, iLen, eq_self, true_and, and_true, true_implies, implies_true]
  refine ⟨⟨(0, []), ⟨by simp, by simp, rfl⟩, rfl, rfl⟩, ?_⟩
  rintro ⟨i, rows⟩ ⟨i0, i1, hr⟩ _ _ _
  simp only at i0 i1 hr ⊢
  have hl : rows.length = i.toNat := by rw [hr]; simp only [Sp.allR, List.length_map, List.length_take]; omega
  refine ⟨fun hlt => ?_, fun hge => ?_⟩
  rotate_left
  · simp only [bLt, decide_eq_false_iff_not] at hge
    rw [hr, List.take_of_length_le (by omega)]
  simp only [bLt, decide_eq_true_eq] at hlt
  refine ⟨⟨i0, hlt⟩, fun _ _ => ⟨?_, by simp only [InR]; omega, (i + 1, _), ⟨by simp only; omega, by simp only; omega, ?_⟩, rfl, ⟨rfl, rfl⟩, by simp only; omega⟩⟩
  · simp only [pRoom, List.length_append, List.length_cons, List.length_nil, hl]; omega
  · simp only
    rw [hr, Sp.take_succ i0 hlt]
    simp only [Sp.allR, List.map_append]
    rfl
theorem s14 : SoundCt Go.Proofs.Try.prog 14 ct14 :=
  contractH followsMixed (look_sound (show Tb Go.Proofs.Try.prog tb14 from ⟨s24, trivial⟩)) (fun _ => false) (fun a => fun _ ii => bif Nat.beq ii 3 then .ghost 7 [.int .i64, .bool] 33 (.on (fun sv0 => match sv0.tmps.getD 7 .undef with | .own rr _ => .inv (Int × List (List C)) (fun z => Sp.aI (cel 0 (arg 0 a)).list (cel 0 (arg 1 a)).int (cel 0 (arg 2 a)).list z.1 z.2) (fun z => [(8, .int .i64 z.1), (7, .own rr 0)]) (fun z => [(rr, .row [.int .i64, .bool] 33 0 z.2)]) [rr] [0, 1, 2, 6, 7, 8, 12] (fun z => (cel 0 (arg 2 a)).list.length - z.1.toNat) | _ => .unroll 0)) else .unroll 0) 6 14 ct14 rfl (by simp [ct14]) fun a => Eq.mp (by kernel_rfl) (v14 ((cel 0 (arg 0 a)).list) ((cel 0 (arg 1 a)).int) ((cel 0 (arg 2 a)).list))
end Go.Sx

namespace Go.Sx
/-! ### function 16: analyser.Inside -/
def ct16 : Ct := { ps := [(false, [.sl [.int .i64, .bool]])], rs := [(false, [.int .i64])], pre := fun _ => True, out := fun a => [[.i (Sp.inN (cel 0 (arg 0 a)).list)]] }
def tb16 : List (Nat × Ct) := []
theorem e16 (xs : List (List C)) : vcF Go.Proofs.Try.prog (look tb16) (fun _ => false) (fun _ ii => bif Nat.beq ii 3 then .inv (Int × Int) (fun z => Sp.nI xs z.1 z.2) (fun z => [(8, .int .i64 z.1), (3, .int .i64 z.2)]) (fun _ => []) [] [0, 2, 3, 5, 6, 7, 8, 9, 13] (fun z => xs.length - z.1.toNat) else .unroll 0) 6 16 [.sl [.int .i64, .bool] xs] [] (fun sv heap => Gives [(false, [.int .i64])] [[.i (Sp.inN xs)]] sv heap) = (pLe (iLen xs) 9223372036854775807 → (∃ (x : Int × Int), Sp.nI xs x.1 x.2 ∧ true = true ∧ ((IntKind.i64 = IntKind.i64 ∧ 0 = x.1) ∧ (IntKind.i64 = IntKind.i64 ∧ 0 = x.2) ∧ True) ∧ True) ∧ (∀ (x : Int × Int), true = true ∧ true = true) ∧ ∀ (x : Int × Int), Sp.nI xs x.1 x.2 → InR IntKind.i64 x.1 ∧ InR IntKind.i64 x.2 ∧ True → True → (bLt x.1 (iLen xs) = true → pIn 0 (iLen xs) x.1 ∧ (InR IntKind.i64 ((rGet xs x.1).headD default).int ∧ True ∧ True → (((rGet xs x.1).tail.headD default).bool = true → InR IntKind.i64 (iAdd x.2 1) ∧ InR IntKind.i64 (iAdd x.1 1) ∧ (true = true ∧ [SV.sl [Sh.int IntKind.i64, Sh.bool] xs, SV.lit IntKind.i64 0, SV.sl [Sh.int IntKind.i64, Sh.bool] xs, SV.int IntKind.i64 (iLen xs)] = [SV.sl [Sh.int IntKind.i64, Sh.bool] xs, SV.lit IntKind.i64 0, SV.sl [Sh.int IntKind.i64, Sh.bool] xs, SV.int IntKind.i64 (iLen xs)]) ∧ ([] : List HB) = [] ∧ ∃ (y : Int × Int), Sp.nI xs y.1 y.2 ∧ true = true ∧ ((IntKind.i64 = IntKind.i64 ∧ iAdd x.1 1 = y.1) ∧ (IntKind.i64 = IntKind.i64 ∧ iAdd x.2 1 = y.2) ∧ True) ∧ True ∧ xs.length - y.1.toNat < xs.length - x.1.toNat) ∧ (((rGet xs x.1).tail.headD default).bool = false → InR IntKind.i64 (iAdd x.1 1) ∧ (true = true ∧ [SV.sl [Sh.int IntKind.i64, Sh.bool] xs, SV.lit IntKind.i64 0, SV.sl [Sh.int IntKind.i64, Sh.bool] xs, SV.int IntKind.i64 (iLen xs)] = [SV.sl [Sh.int IntKind.i64, Sh.bool] xs, SV.lit IntKind.i64 0, SV.sl [Sh.int IntKind.i64, Sh.bool] xs, SV.int IntKind.i64 (iLen xs)]) ∧ ([] : List HB) = [] ∧ ∃ (y : Int × Int), Sp.nI xs y.1 y.2 ∧ true = true ∧ ((IntKind.i64 = IntKind.i64 ∧ iAdd x.1 1 = y.1) ∧ (IntKind.i64 = IntKind.i64 ∧ x.2 = y.2) ∧ True) ∧ True ∧ xs.length - y.1.toNat < xs.length - x.1.toNat))) ∧ (bLt x.1 (iLen xs) = false → (x.2 = Sp.inN xs ∧ True) ∧ True)) := by kernel_rfl
theorem v16 (xs : List (List C)) : Holds (Wfs [.sl [.int .i64, .bool] xs] → True → vcF Go.Proofs.Try.prog (look tb16) (fun _ => false) (fun _ ii => bif Nat.beq ii 3 then .inv (Int × Int) (fun z => Sp.nI xs z.1 z.2) (fun z => [(8, .int .i64 z.1), (3, .int .i64 z.2)]) (fun _ => []) [] [0, 2, 3, 5, 6, 7, 8, 9, 13] (fun z => xs.length - z.1.toNat) else .unroll 0) 6 16 [.sl [.int .i64, .bool] xs] [] (fun sv heap => Gives [(false, [.int .i64])] [[.i (Sp.inN xs)]] sv heap)) := by
  refine ⟨fun hw hp => ?_⟩
  rw [e16]
  simp only [Wfs, Wf, InR, and_true] at hw
  rw [show maxLen = 9223372036854775807 from rfl] at hw
  simp only [iAdd, iSub, iLen, eq_self, true_and, and_true, true_implies, implies_true]
  intro _
  refine ⟨⟨(0, 0), ⟨by simp, by simp, by simp, by simp, by simp⟩, rfl, rfl⟩, ?_⟩
  rintro ⟨i, n⟩ ⟨i0, i1, n0, n1, hr⟩ _
  simp only at i0 i1 n0 n1 hr ⊢
  refine ⟨fun hlt => ?_, fun hge => ?_⟩
  rotate_left
  · simp only [bLt, decide_eq_false_iff_not] at hge
    rw [List.drop_eq_nil_of_le (by omega)] at hr
    rw [← hr]; simp [Sp.inN]
  simp only [bLt, decide_eq_true_eq] at hlt
  rw [Sp.drop_cons i0 hlt, Sp.inN] at hr
  refine ⟨⟨i0, hlt⟩, fun _ => ⟨fun hb => ?_, fun hb => ?_⟩⟩
  · rw [hb, cond_true] at hr
    exact ⟨by simp only [InR]; omega, by simp only [InR]; omega, (i + 1, n + 1), ⟨by simp only; omega, by simp only; omega, by simp only; omega, by simp only; omega, by simp only; omega⟩, ⟨rfl, rfl⟩, by simp only; omega⟩
  · rw [hb, cond_false] at hr
    exact ⟨by simp only [InR]; omega, (i + 1, n), ⟨by simp only; omega, by simp only; omega, by simp only; omega, by simp only; omega, by simp only; omega⟩, ⟨rfl, rfl⟩, by simp only; omega⟩
theorem s16 : SoundCt Go.Proofs.Try.prog 16 ct16 :=
  contractH followsMixed (look_sound (show Tb Go.Proofs.Try.prog tb16 from trivial)) (fun _ => false) (fun a => fun _ ii => bif Nat.beq ii 3 then .inv (Int × Int) (fun z => Sp.nI (cel 0 (arg 0 a)).list z.1 z.2) (fun z => [(8, .int .i64 z.1), (3, .int .i64 z.2)]) (fun _ => []) [] [0, 2, 3, 5, 6, 7, 8, 9, 13] (fun z => (cel 0 (arg 0 a)).list.length - z.1.toNat) else .unroll 0) 6 16 ct16 rfl (by simp [ct16]) fun a => Eq.mp (by kernel_rfl) (v16 ((cel 0 (arg 0 a)).list))
end Go.Sx

namespace Go.Sx
/-! ### function 17: ref39.Inside -/
def ct17 : Ct := { ps := [(false, [.sl [.int .i64, .bool]])], rs := [(false, [.int .i64])], pre := fun _ => True, out := fun a => [[.i (Sp.inN (cel 0 (arg 0 a)).list)]] }
def tb17 : List (Nat × Ct) := []
theorem e17 (xs : List (List C)) : vcF Go.Proofs.Try.prog (look tb17) (fun _ => false) (fun _ ii => bif Nat.beq ii 3 then .inv (Int × Int) (fun z => Sp.nI xs z.1 z.2) (fun z => [(4, .int .i64 z.1), (3, .int .i64 z.2)]) (fun _ => []) [] [0, 2, 3, 4, 8, 15] (fun z => xs.length - z.1.toNat) else .unroll 0) 6 17 [.sl [.int .i64, .bool] xs] [] (fun sv heap => Gives [(false, [.int .i64])] [[.i (Sp.inN xs)]] sv heap) = ((∃ (x : Int × Int), Sp.nI xs x.1 x.2 ∧ true = true ∧ ((IntKind.i64 = IntKind.i64 ∧ 0 = x.1) ∧ (IntKind.i64 = IntKind.i64 ∧ 0 = x.2) ∧ True) ∧ True) ∧ (∀ (x : Int × Int), true = true ∧ true = true) ∧ ∀ (x : Int × Int), Sp.nI xs x.1 x.2 → InR IntKind.i64 x.1 ∧ InR IntKind.i64 x.2 ∧ True → True → pLe (iLen xs) 9223372036854775807 → (bLt x.1 (iLen xs) = true → pIn 0 (iLen xs) x.1 ∧ (True → (((rGet xs x.1).tail.headD default).bool = true → InR IntKind.i64 (iAdd x.2 1) ∧ InR IntKind.i64 (iAdd x.1 1) ∧ (true = true ∧ [SV.sl [Sh.int IntKind.i64, Sh.bool] xs, SV.lit IntKind.i64 0] = [SV.sl [Sh.int IntKind.i64, Sh.bool] xs, SV.lit IntKind.i64 0]) ∧ ([] : List HB) = [] ∧ ∃ (y : Int × Int), Sp.nI xs y.1 y.2 ∧ true = true ∧ ((IntKind.i64 = IntKind.i64 ∧ iAdd x.1 1 = y.1) ∧ (IntKind.i64 = IntKind.i64 ∧ iAdd x.2 1 = y.2) ∧ True) ∧ True ∧ xs.length - y.1.toNat < xs.length - x.1.toNat) ∧ (((rGet xs x.1).tail.headD default).bool = false → InR IntKind.i64 (iAdd x.1 1) ∧ (true = true ∧ [SV.sl [Sh.int IntKind.i64, Sh.bool] xs, SV.lit IntKind.i64 0] = [SV.sl [Sh.int IntKind.i64, Sh.bool] xs, SV.lit IntKind.i64 0]) ∧ ([] : List HB) = [] ∧ ∃ (y : Int × Int), Sp.nI xs y.1 y.2 ∧ true = true ∧ ((IntKind.i64 = IntKind.i64 ∧ iAdd x.1 1 = y.1) ∧ (IntKind.i64 = IntKind.i64 ∧ x.2 = y.2) ∧ True) ∧ True ∧ xs.length - y.1.toNat < xs.length - x.1.toNat))) ∧ (bLt x.1 (iLen xs) = false → (x.2 = Sp.inN xs ∧ True) ∧ True)) := by kernel_rfl
theorem v17 (xs : List (List C)) : Holds (Wfs [.sl [.int .i64, .bool] xs] → True → vcF Go.Proofs.Try.prog (look tb17) (fun _ => false) (fun _ ii => bif Nat.beq ii 3 then .inv (Int × Int) (fun z => Sp.nI xs z.1 z.2) (fun z => [(4, .int .i64 z.1), (3, .int .i64 z.2)]) (fun _ => []) [] [0, 2, 3, 4, 8, 15] (fun z => xs.length - z.1.toNat) else .unroll 0) 6 17 [.sl [.int .i64, .bool] xs] [] (fun sv heap => Gives [(false, [.int .i64])] [[.i (Sp.inN xs)]] sv heap)) := by
  refine ⟨fun hw hp => ?_⟩
  rw [e17]
  simp only [Wfs, Wf, InR, and_true] at hw
  rw [show maxLen = 9223372036854775807 from rfl] at hw
  simp only [iAdd, iSub, iLen, eq_self, true_and, and_true, true_implies, implies_true]
  refine ⟨⟨(0, 0), ⟨by simp, by simp, by simp, by simp, by simp⟩, rfl, rfl⟩, ?_⟩
  rintro ⟨i, n⟩ ⟨i0, i1, n0, n1, hr⟩ _ _
  simp only at i0 i1 n0 n1 hr ⊢
  refine ⟨fun hlt => ?_, fun hge => ?_⟩
  rotate_left
  · simp only [bLt, decide_eq_false_iff_not] at hge
    rw [List.drop_eq_nil_of_le (by omega)] at hr
    rw [← hr]; simp [Sp.inN]
  simp only [bLt, decide_eq_true_eq] at hlt
  rw [Sp.drop_cons i0 hlt, Sp.inN] at hr
  refine ⟨⟨i0, hlt⟩, ⟨fun hb => ?_, fun hb => ?_⟩⟩
  · rw [hb, cond_true] at hr
    exact ⟨by simp only [InR]; omega, by simp only [InR]; omega, (i + 1, n + 1), ⟨by simp only; omega, by simp only; omega, by simp only; omega, by simp only; omega, by simp only; omega⟩, ⟨rfl, rfl⟩, by simp only; omega⟩
  · rw [hb, cond_false] at hr
    exact ⟨by simp only [InR]; omega, (i + 1, n), ⟨by simp only; omega, by simp only; omega, by simp only; omega, by simp only; omega, by simp only; omega⟩, ⟨rfl, rfl⟩, by simp only; omega⟩
theorem s17 : SoundCt Go.Proofs.Try.prog 17 ct17 :=
  contractH followsMixed (look_sound (show Tb Go.Proofs.Try.prog tb17 from trivial)) (fun _ => false) (fun a => fun _ ii => bif Nat.beq ii 3 then .inv (Int × Int) (fun z => Sp.nI (cel 0 (arg 0 a)).list z.1 z.2) (fun z => [(4, .int .i64 z.1), (3, .int .i64 z.2)]) (fun _ => []) [] [0, 2, 3, 4, 8, 15] (fun z => (cel 0 (arg 0 a)).list.length - z.1.toNat) else .unroll 0) 6 17 ct17 rfl (by simp [ct17]) fun a => Eq.mp (by kernel_rfl) (v17 ((cel 0 (arg 0 a)).list))
end Go.Sx

namespace Go.Sx
/-! ### function 15: law39.same -/
def ct15 : Ct := { ps := [(false, [.sl [.int .i64, .bool]]), (false, [.sl [.int .i64, .bool]])], rs := [(false, [.bool])], pre := fun _ => True, out := fun a => [[.b (Sp.sameR (cel 0 (arg 0 a)).list (cel 0 (arg 1 a)).list)]] }
def tb15 : List (Nat × Ct) := []
theorem e15 (xs : List (List C)) (ys : List (List C)) : vcF Go.Proofs.Try.prog (look tb15) (fun _ => false) (fun _ ii => bif Nat.beq ii 4 then .inv Int (fun z => Sp.sI xs ys z) (fun z => [(13, .int .i64 z)]) (fun _ => []) [] [0, 1, 4, 5, 10, 12, 13, 14, 24] (fun z => xs.length - z.toNat) else .unroll 0) 6 15 [.sl [.int .i64, .bool] xs, .sl [.int .i64, .bool] ys] [] (fun sv heap => Gives [(false, [.bool])] [[.b (Sp.sameR xs ys)]] sv heap) = (pLe (iLen xs) 9223372036854775807 → pLe (iLen ys) 9223372036854775807 → (bNe (iLen xs) (iLen ys) = true → (false = Sp.sameR xs ys ∧ True) ∧ True) ∧ (bNe (iLen xs) (iLen ys) = false → pLe (iLen xs) 9223372036854775807 → (∃ (x : Int), Sp.sI xs ys x ∧ true = true ∧ ((IntKind.i64 = IntKind.i64 ∧ 0 = x) ∧ True) ∧ True) ∧ (∀ (x : Int), true = true ∧ true = true) ∧ ∀ (x : Int), Sp.sI xs ys x → InR IntKind.i64 x ∧ True → True → (bLt x (iLen xs) = true → pIn 0 (iLen xs) x ∧ (InR IntKind.i64 ((rGet xs x).headD default).int ∧ True ∧ True → pIn 0 (iLen ys) x ∧ (InR IntKind.i64 ((rGet ys x).headD default).int ∧ True ∧ True → (bNot (bAnd (bEq ((rGet xs x).headD default).int ((rGet ys x).headD default).int) (bSame ((rGet xs x).tail.headD default).bool ((rGet ys x).tail.headD default).bool)) = true → (false = Sp.sameR xs ys ∧ True) ∧ True) ∧ (bNot (bAnd (bEq ((rGet xs x).headD default).int ((rGet ys x).headD default).int) (bSame ((rGet xs x).tail.headD default).bool ((rGet ys x).tail.headD default).bool)) = false → InR IntKind.i64 (iAdd x 1) ∧ (true = true ∧ [SV.sl [Sh.int IntKind.i64, Sh.bool] xs, SV.sl [Sh.int IntKind.i64, Sh.bool] ys, SV.blit false, SV.int IntKind.i64 (iLen xs)] = [SV.sl [Sh.int IntKind.i64, Sh.bool] xs, SV.sl [Sh.int IntKind.i64, Sh.bool] ys, SV.blit false, SV.int IntKind.i64 (iLen xs)]) ∧ ([] : List HB) = [] ∧ ∃ (y : Int), Sp.sI xs ys y ∧ true = true ∧ ((IntKind.i64 = IntKind.i64 ∧ iAdd x 1 = y) ∧ True) ∧ True ∧ xs.length - y.toNat < xs.length - x.toNat)))) ∧ (bLt x (iLen xs) = false → (true = Sp.sameR xs ys ∧ True) ∧ True))) := by kernel_rfl
theorem v15 (xs : List (List C)) (ys : List (List C)) : Holds (Wfs [.sl [.int .i64, .bool] xs, .sl [.int .i64, .bool] ys] → True → vcF Go.Proofs.Try.prog (look tb15) (fun _ => false) (fun _ ii => bif Nat.beq ii 4 then .inv Int (fun z => Sp.sI xs ys z) (fun z => [(13, .int .i64 z)]) (fun _ => []) [] [0, 1, 4, 5, 10, 12, 13, 14, 24] (fun z => xs.length - z.toNat) else .unroll 0) 6 15 [.sl [.int .i64, .bool] xs, .sl [.int .i64, .bool] ys] [] (fun sv heap => Gives [(false, [.bool])] [[.b (Sp.sameR xs ys)]] sv heap)) := by
  refine ⟨fun hw hp => ?_⟩
  rw [e15]
  simp only [Wfs, Wf, InR, and_true] at hw
  rw [show maxLen = 9223372036854775807 from rfl] at hw
  simp only [iAdd, iSub, iLen, eq_self, true_and, and_true, true_implies, implies_true]
  have ne : ∀ (us bs : List (List C)), us.length ≠ bs.length → Sp.sameR us bs = false := by
    intro us
    induction us with
    | nil => intro bs h; cases bs with
      | nil => simp at h
      | cons y s => rfl
    | cons x r ih => intro bs h; cases bs with
      | nil => rfl
      | cons y s => simp only [Sp.sameR]; rw [ih s (by simpa using h), Bool.and_false]
  intro _ _
  refine ⟨fun hne => ?_, fun heq _ => ⟨⟨0, ⟨by simp, by simp, rfl⟩, rfl⟩, ?_⟩⟩
  · rw [ne xs ys (fun h => by simp [bNe, h] at hne)]
  have hl : (xs.length : Int) = (ys.length : Int) := by simpa [bNe] using heq
  rintro i ⟨i0, i1, hr⟩ _
  refine ⟨fun hlt => ?_, fun hge => ?_⟩
  rotate_left
  · simp only [bLt, decide_eq_false_iff_not] at hge
    rw [← hr, List.drop_eq_nil_of_le (by omega), List.drop_eq_nil_of_le (by omega)]; rfl
  simp only [bLt, decide_eq_true_eq] at hlt
  rw [Sp.drop_cons i0 hlt, Sp.drop_cons i0 (by omega), Sp.sameR] at hr
  refine ⟨⟨i0, hlt⟩, fun _ => ⟨⟨i0, by omega⟩, fun _ => ⟨fun hb => ?_, fun hb => ?_⟩⟩⟩
  · generalize hc : (decide (((rGet xs i).headD default).int = ((rGet ys i).headD default).int) && ((rGet xs i).tail.headD default).bool == ((rGet ys i).tail.headD default).bool) = c at hr
    have hb' : bNot c = true := by rw [← hc]; exact hb
    cases c
    · rw [← hr]; rfl
    · cases hb'
  · generalize hc : (decide (((rGet xs i).headD default).int = ((rGet ys i).headD default).int) && ((rGet xs i).tail.headD default).bool == ((rGet ys i).tail.headD default).bool) = c at hr
    have hb' : bNot c = false := by rw [← hc]; exact hb
    cases c
    · cases hb'
    · exact ⟨by simp only [InR]; omega, i + 1, ⟨by omega, by omega, hr⟩, rfl, by omega⟩
theorem s15 : SoundCt Go.Proofs.Try.prog 15 ct15 :=
  contractH followsMixed (look_sound (show Tb Go.Proofs.Try.prog tb15 from trivial)) (fun _ => false) (fun a => fun _ ii => bif Nat.beq ii 4 then .inv Int (fun z => Sp.sI (cel 0 (arg 0 a)).list (cel 0 (arg 1 a)).list z) (fun z => [(13, .int .i64 z)]) (fun _ => []) [] [0, 1, 4, 5, 10, 12, 13, 14, 24] (fun z => (cel 0 (arg 0 a)).list.length - z.toNat) else .unroll 0) 6 15 ct15 rfl (by simp [ct15]) fun a => Eq.mp (by kernel_rfl) (v15 ((cel 0 (arg 0 a)).list) ((cel 0 (arg 1 a)).list))
end Go.Sx

