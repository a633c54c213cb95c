import Derived.Test.YthflbgeplmecoaaGreatSxUse
import Derived.Test.YthflbgeplmecoaaGreatM21
set_option linter.unusedVariables false
set_option linter.unusedSimpArgs false
set_option maxRecDepth 100000
set_option maxHeartbeats 4000000
namespace Go
open Go.Sx
def Sp.smT (l : List (List C)) : List (List C) := if Sp.dN l 8 = 0 ∨ Sp.dN l 8 = 1 ∨ Sp.dN l 8 = 2 then Sp.dT l 8 else if Sp.dN l 8 = 3 then Sp.dT (Sp.dT l 8) 256 else Sp.dT (Sp.dT (Sp.dT (Sp.dT l 8) 256) 256) 256
def Sp.smV (l : List (List C)) : Int := if Sp.dN l 8 = 0 then 0 else if Sp.dN l 8 = 1 then 8388607 else if Sp.dN l 8 = 2 then -8388608 else if Sp.dN l 8 = 3 then Sp.dN (Sp.dT l 8) 256 - 128 else Sp.dN (Sp.dT l 8) 256 * 65536 - 8388608 + Sp.dN (Sp.dT (Sp.dT l 8) 256) 256 * 256 + Sp.dN (Sp.dT (Sp.dT (Sp.dT l 8) 256) 256) 256
def Sp.mpL : List (List C) := [[.l [[.i 3]]], [.l [[.i 1], [.i 2]]], [.l [[.i 1], [.i 2], [.i 3], [.i 4], [.i 5], [.i 6]]], [.l [[.i 2], [.i 1]]], [.l [[.i 1], [.i 2], [.i 7], [.i 8]]], [.l [[.i 4]]], [.l [[.i 1], [.i 3]]]]
def Sp.mpV (n : Int) : List (List C) := ql 0 (rGet Sp.mpL n)
end Go
namespace Go.Sx
theorem v56 (l : List (List C)) : WL hB l → True → True ∧ (InR .i64 (Sp.dN l 8) → Cn (bEq (Sp.dN l 8) 0) (Sp.dT l 8 = Sp.smT l ∧ 0 = Sp.smV l) (Cn (bEq (Sp.dN l 8) 1) (Sp.dT l 8 = Sp.smT l ∧ 8388607 = Sp.smV l) (Cn (bEq (Sp.dN l 8) 2) (Sp.dT l 8 = Sp.smT l ∧ -8388608 = Sp.smV l) (Cn (bEq (Sp.dN l 8) 3) (True ∧ (InR .i64 (Sp.dN (Sp.dT l 8) 256) → InR .i32 (iSub (iWrap .i32 (Sp.dN (Sp.dT l 8) 256)) 128) ∧ Sp.dT (Sp.dT l 8) 256 = Sp.smT l ∧ iSub (iWrap .i32 (Sp.dN (Sp.dT l 8) 256)) 128 = Sp.smV l)) (True ∧ (InR .i64 (Sp.dN (Sp.dT l 8) 256) → (pSh 32 16 ∧ InR .i32 (iShl (iWrap .i32 (Sp.dN (Sp.dT l 8) 256)) 16)) ∧ InR .i32 (iSub (iShl (iWrap .i32 (Sp.dN (Sp.dT l 8) 256)) 16) 8388608) ∧ True ∧ (InR .i64 (Sp.dN (Sp.dT (Sp.dT l 8) 256) 256) → (pSh 32 8 ∧ InR .i32 (iShl (iWrap .i32 (Sp.dN (Sp.dT (Sp.dT l 8) 256) 256)) 8)) ∧ InR .i32 (iAdd (iSub (iShl (iWrap .i32 (Sp.dN (Sp.dT l 8) 256)) 16) 8388608) (iShl (iWrap .i32 (Sp.dN (Sp.dT (Sp.dT l 8) 256) 256)) 8)) ∧ True ∧ (InR .i64 (Sp.dN (Sp.dT (Sp.dT (Sp.dT l 8) 256) 256) 256) → InR .i32 (iAdd (iAdd (iSub (iShl (iWrap .i32 (Sp.dN (Sp.dT l 8) 256)) 16) 8388608) (iShl (iWrap .i32 (Sp.dN (Sp.dT (Sp.dT l 8) 256) 256)) 8)) (iWrap .i32 (Sp.dN (Sp.dT (Sp.dT (Sp.dT l 8) 256) 256) 256))) ∧ Sp.dT (Sp.dT (Sp.dT (Sp.dT l 8) 256) 256) 256 = Sp.smT l ∧ iAdd (iAdd (iSub (iShl (iWrap .i32 (Sp.dN (Sp.dT l 8) 256)) 16) 8388608) (iShl (iWrap .i32 (Sp.dN (Sp.dT (Sp.dT l 8) 256) 256)) 8)) (iWrap .i32 (Sp.dN (Sp.dT (Sp.dT (Sp.dT l 8) 256) 256) 256)) = Sp.smV l)))))))) := by
 intro hw hp
 have a := Sp.dN_bd (l := l) (n := 8) (by omega)
 have b := Sp.dN_bd (l := Sp.dT l 8) (n := 256) (by omega)
 have c := Sp.dN_bd (l := Sp.dT (Sp.dT l 8) 256) (n := 256) (by omega)
 have e := Sp.dN_bd (l := Sp.dT (Sp.dT (Sp.dT l 8) 256) 256) (n := 256) (by omega)
 have w : ∀ x : Int, 0 ≤ x → x < 256 → iWrap .i32 x = x := fun x h0 h1 => InR.wrap (by simp only [InR]; omega)
 rw [w _ b.1 b.2, w _ c.1 c.2, w _ e.1 e.2]
 simp only [D, E]
 unfold Sp.smT Sp.smV
 generalize Sp.dN l 8 = p at *
 generalize Sp.dN (Sp.dT l 8) 256 = x at *
 generalize Sp.dN (Sp.dT (Sp.dT l 8) 256) 256 = y at *
 generalize Sp.dN (Sp.dT (Sp.dT (Sp.dT l 8) 256) 256) 256 = z at *
 rcases (show p = 0 ∨ p = 1 ∨ p = 2 ∨ p = 3 ∨ (p ≠ 0 ∧ p ≠ 1 ∧ p ≠ 2 ∧ p ≠ 3) by omega) with rfl | rfl | rfl | rfl | ⟨h0, h1, h2, h3⟩
 · simp
 · simp
 · simp
 · simp [InR]; omega
 · simp [InR, pSh, h0, h1, h2, h3]; omega
def r56 : Cr PR := KB [r40] 56 8 { ps := [], rs := [(false, hW)], pre := fun _ => True, out := fun a => [[.l (Sp.smT (L a 0 0))], [.i (Sp.smV (L a 0 0))]], bx := some (117, [.sl hB]) } U fun a => Y (v56 (L a 0 0))
end Go.Sx
namespace Go.Sx
theorem v81 (l : List (List C)) : WL hB l → True → True ∧ (InR .i64 (Sp.dN l 7) → pIn 0 (iLen Sp.mpL) (Sp.dN l 7) ∧ (WL hI (ql 0 (rGet Sp.mpL (Sp.dN l 7))) → Sm (Sp.dT l 7) ∧ ql 0 (rGet Sp.mpL (Sp.dN l 7)) = Sp.mpV (Sp.dN l 7))) := by
 intro hw hp
 have a := Sp.dN_bd (l := l) (n := 7) (by omega)
 simp only [D, E]
 exact fun _ => ⟨⟨a.1, a.2⟩, fun _ => rfl⟩
def r81 : Cr PR := KB [r40, (mark 1000108)] 81 8 { ps := [], rs := [(false, hL)], pre := fun _ => True, out := fun a => [[.l (Sp.dT (L a 0 0) 7)], [.l (Sp.mpV (Sp.dN (L a 0 0) 7))]], bx := some (117, [.sl hB]) } U fun a => Y (v81 (L a 0 0))
end Go.Sx
namespace Go
open Go.Sx
def Sp.bkT : Nat → List (List C) → List (List C)
 | 0, l => l
 | n + 1, l => Sp.bkT n (Sp.smT l)
def Sp.bkD : Nat → List (List C) → List (List C)
 | 0, _ => []
 | n + 1, l => [.i (Sp.smV l)] :: Sp.bkD n (Sp.smT l)
def Sp.bbT (ch n : Int) (l : List (List C)) : List (List C) := Sp.bkT (ch * n).toNat l
def Sp.bbD (ch n : Int) (l : List (List C)) : List (List C) := Sp.bkD (ch * n).toNat l
def Sp.bkI (n : Int) (l : List (List C)) (i : Int) (k ys : List (List C)) : Prop := (0 ≤ i ∧ i ≤ n ∧ (ys.length : Int) = i) ∧ Sp.bkD n.toNat l = ys ++ Sp.bkD (n - i).toNat k ∧ Sp.bkT n.toNat l = Sp.bkT (n - i).toNat k
def Sp.wvX (s i c : Int) : List C := [.i (((i * 7919 + c * 104729 + s * 15485863) % 4001 - 2000) * 1000)]
def Sp.wvR (s i m : Int) : List (List C) := (List.range m.toNat).map fun (c : Nat) => Sp.wvX s i c
def Sp.wv (s ch n : Int) : List (List C) := (List.range n.toNat).flatMap fun (i : Nat) => Sp.wvR s i ch
def Sp.wvO (s ch n i : Int) (ys : List (List C)) : Prop := 0 ≤ i ∧ (i ≤ n ∨ i = 0) ∧ ys = Sp.wv s ch i
def Sp.wvI (s ch i c : Int) (ys : List (List C)) : Prop := 0 ≤ c ∧ (c ≤ ch ∨ c = 0) ∧ ys = Sp.wv s ch i ++ Sp.wvR s i c
end Go
namespace Go
open Go.Sx
theorem Sp.wvR_c (s i : Int) {m c : Int} (h : m.toNat = c.toNat) : Sp.wvR s i m = Sp.wvR s i c := by unfold Sp.wvR; rw [h]
theorem Sp.wv_c (s ch : Int) {m c : Int} (h : m.toNat = c.toNat) : Sp.wv s ch m = Sp.wv s ch c := by unfold Sp.wv; rw [h]
theorem Sp.wv_s (s ch : Int) {i : Int} (h : 0 ≤ i) : Sp.wv s ch (i + 1) = Sp.wv s ch i ++ Sp.wvR s i ch := by
 unfold Sp.wv
 rw [show (i + 1).toNat = i.toNat + 1 by omega, List.range_succ, List.flatMap_append, List.flatMap_singleton, Int.toNat_of_nonneg h]
theorem Sp.wvR_s (s i : Int) {c : Int} (h : 0 ≤ c) : Sp.wvR s i (c + 1) = Sp.wvR s i c ++ [Sp.wvX s i c] := by
 unfold Sp.wvR
 rw [show (c + 1).toNat = c.toNat + 1 by omega, List.range_succ, List.map_append, List.map_singleton, Int.toNat_of_nonneg h]
theorem Sp.wv_len (s ch n : Int) : ((Sp.wv s ch n).length : Int) = n.toNat * ch.toNat := by
 unfold Sp.wv
 generalize n.toNat = m
 induction m with
 | zero => simp
 | succ m ih => rw [List.range_succ, List.flatMap_append, List.flatMap_singleton, List.length_append, Int.natCast_add, ih, Sp.wvR, List.length_map, List.length_range, Int.natCast_succ, Int.add_mul]; omega
end Go
namespace Go.Sx
def A17 (l : List (List C)) (ch : Int) (n : Int) : FuncId → Nat → LoopAnn := fun _ _ => .ghostB 7 1 hW 21 (.inv (Int × List (List C) × List (List C)) (fun z => Sp.bkI (ch * n) l z.1 z.2.1 z.2.2) (fun z => [(8, .int .i64 z.1)]) (fun z => [(0, .box [.sl [.int .u8] z.2.1] 117), (2, .box [.int .i64 ch, .own 3 0] 54), (3, .row hW 21 0 z.2.2)]) [0, 2, 3] [0, 1, 2, 6, 7, 8, 15] (fun z => (ch * n - z.1).toNat))
theorem v17 (l : List (List C)) (ch : Int) (n : Int) : WL hB l ∧ InR .i64 ch ∧ InR .i64 n → pLe 0 ch ∧ pLe ch 8 ∧ pLe 0 n ∧ pLe n 1000 → (∃ (x : Int × List (List C) × List (List C)), Sp.bkI (ch * n) l x.1 x.2.1 x.2.2 ∧ 0 = x.1 ∧ l = x.2.1 ∧ Sm ch ∧ [] = x.2.2) ∧ ∀ (x : Int × List (List C) × List (List C)), Sp.bkI (ch * n) l x.1 x.2.1 x.2.2 → InR .i64 x.1 ∧ WL hB x.2.1 ∧ InR .i64 ch ∧ WL hW x.2.2 → InR .i64 (iMul ch n) ∧ Cn (bLt x.1 (iMul ch n)) (True ∧ (InR .i32 (Sp.smV x.2.1) → pRoom 4 (iLen (x.2.2 ++ [[C.i (Sp.smV x.2.1)]])) ∧ InR .i64 (iAdd x.1 1) ∧ Sm ch ∧ Sm n ∧ ∃ (y : Int × List (List C) × List (List C)), Sp.bkI (ch * n) l y.1 y.2.1 y.2.2 ∧ iAdd x.1 1 = y.1 ∧ Sp.smT x.2.1 = y.2.1 ∧ Sm ch ∧ x.2.2 ++ [[C.i (Sp.smV x.2.1)]] = y.2.2 ∧ nLt (ch * n - y.1).toNat (ch * n - x.1).toNat)) (x.2.1 = Sp.bbT ch n l ∧ Sm ch ∧ x.2.2 = Sp.bbD ch n l) := by
 intro hw hp
 simp only [D, E] at hp ⊢
 have m := mul_bd (x := ch) (X := 8) (y := n) (Y := 1000) (by omega) (by omega) (by omega) (by omega)
 refine ⟨⟨(0, l, []), ⟨⟨by simp only; omega, by simp only; omega, rfl⟩, by simp, by simp⟩, rfl, rfl, rfl⟩, ?_⟩
 rintro ⟨i, k, ys⟩ ⟨⟨i0, i1, i2⟩, h1, h2⟩ _
 simp only at i0 i1 i2 h1 h2 ⊢
 refine ⟨by simp only [InR]; omega, fun hl _ => ⟨by simp; omega, by simp only [InR]; omega, (i + 1, Sp.smT k, _), ⟨⟨by simp only; omega, by simp only; omega, by simp; omega⟩, ?_, ?_⟩, rfl, rfl, rfl, by simp only; omega⟩, fun hl => ?_⟩
 · rw [h1, show (ch * n - i).toNat = (ch * n - (i + 1)).toNat + 1 by omega, Sp.bkD, List.append_assoc]; rfl
 · rw [h2, show (ch * n - i).toNat = (ch * n - (i + 1)).toNat + 1 by omega, Sp.bkT]
 · rw [show (ch * n - i).toNat = 0 by omega] at h1 h2
   exact ⟨h2.symm, by unfold Sp.bbD; rw [h1, Sp.bkD, List.append_nil]⟩
def r17 : Cr PR := KB [r56] 17 8 { ps := [(false, hI), (false, hI)], rs := [(true, [.int .i64, .sl hW])], pre := fun a => pLe 0 (I a 1 0) ∧ (pLe (I a 1 0) 8 ∧ (pLe 0 (I a 2 0) ∧ pLe (I a 2 0) 1000)), out := fun a => [[.l (Sp.bbT (I a 1 0) (I a 2 0) (L a 0 0))], [.i (I a 1 0), .l (Sp.bbD (I a 1 0) (I a 2 0) (L a 0 0))]], bx := some (117, [.sl hB]) } (fun a => A17 (L a 0 0) (I a 1 0) (I a 2 0)) fun a => Y (v17 (L a 0 0) (I a 1 0) (I a 2 0))
end Go.Sx
namespace Go.Sx
def A23 (s : Int) (ch : Int) (n : Int) : FuncId → Nat → LoopAnn := fun _ ii => bif Nat.beq ii 3 then .ghostB 9 1 hW 21 (.inv (Int × List (List C)) (fun z => Sp.wvO s ch n z.1 z.2) (fun z => [(10, .int .i64 z.1)]) (fun z => [(1, .box [.int .i64 ch, .own 2 0] 54), (2, .row hW 21 0 z.2)]) [1, 2] [0, 1, 2, 3, 8, 9, 10, 11, 12, 20, 25] (fun z => (n - z.1).toNat)) else .on (fun sv0 => match sv0.tmps.getD 10 .undef with | .int _ ci => .inv (Int × List (List C)) (fun z => Sp.wvI s ch ci z.1 z.2) (fun z => [(11, .int .i64 z.1)]) (fun z => [(1, .box [.int .i64 ch, .own 2 0] 54), (2, .row hW 21 0 z.2)]) [1, 2] [0, 1, 2, 3, 8, 9, 10, 11, 12, 20, 25] (fun z => (ch - z.1).toNat) | _ => .unroll 0)
theorem v23 (s : Int) (ch : Int) (f : Int) (n : Int) : InR .i64 s ∧ InR .i64 ch ∧ InR .i64 f ∧ InR .i64 n → f = 0 ∧ pLe 0 s ∧ pLe s 100 ∧ pLe ch 12 ∧ pLe n 70000 → (∃ (x : Int × List (List C)), Sp.wvO s ch n x.1 x.2 ∧ f = x.1 ∧ Sm ch ∧ [] = x.2) ∧ ∀ (x : Int × List (List C)), Sp.wvO s ch n x.1 x.2 → InR .i64 x.1 ∧ InR .i64 ch ∧ WL hW x.2 → InR .i64 (iAdd f n) ∧ Cn (bLt x.1 (iAdd f n)) ((∃ (x_1 : Int × List (List C)), Sp.wvI s ch x.1 x_1.1 x_1.2 ∧ 0 = x_1.1 ∧ Sm ch ∧ x.2 = x_1.2) ∧ ∀ (x_1 : Int × List (List C)), Sp.wvI s ch x.1 x_1.1 x_1.2 → InR .i64 x_1.1 ∧ InR .i64 ch ∧ WL hW x_1.2 → Cn (bLt x_1.1 ch) (InR .i64 (iMul x.1 7919) ∧ InR .i64 (iMul x_1.1 104729) ∧ InR .i64 (iAdd (iMul x.1 7919) (iMul x_1.1 104729)) ∧ InR .i64 (iMul s 15485863) ∧ InR .i64 (iAdd (iAdd (iMul x.1 7919) (iMul x_1.1 104729)) (iMul s 15485863)) ∧ pNe 4001 0 ∧ InR .i64 (iSub (iRem (iAdd (iAdd (iMul x.1 7919) (iMul x_1.1 104729)) (iMul s 15485863)) 4001) 2000) ∧ InR .i64 (iMul (iSub (iRem (iAdd (iAdd (iMul x.1 7919) (iMul x_1.1 104729)) (iMul s 15485863)) 4001) 2000) 1000) ∧ pRoom 4 (iLen (x_1.2 ++ [[C.i (iWrap .i32 (iMul (iSub (iRem (iAdd (iAdd (iMul x.1 7919) (iMul x_1.1 104729)) (iMul s 15485863)) 4001) 2000) 1000))]])) ∧ InR .i64 (iAdd x_1.1 1) ∧ Sm s ∧ Sm ch ∧ Sm f ∧ Sm n ∧ Sm x.1 ∧ ∃ (y : Int × List (List C)), Sp.wvI s ch x.1 y.1 y.2 ∧ iAdd x_1.1 1 = y.1 ∧ Sm ch ∧ x_1.2 ++ [[C.i (iWrap .i32 (iMul (iSub (iRem (iAdd (iAdd (iMul x.1 7919) (iMul x_1.1 104729)) (iMul s 15485863)) 4001) 2000) 1000))]] = y.2 ∧ nLt (ch - y.1).toNat (ch - x_1.1).toNat) (InR .i64 (iAdd x.1 1) ∧ Sm s ∧ Sm ch ∧ Sm f ∧ Sm n ∧ ∃ (y : Int × List (List C)), Sp.wvO s ch n y.1 y.2 ∧ iAdd x.1 1 = y.1 ∧ Sm ch ∧ x_1.2 = y.2 ∧ nLt (n - y.1).toNat (n - x.1).toNat)) (Sm ch ∧ x.2 = Sp.wv s ch n) := by
 intro hw hp
 simp only [D, E] at hp ⊢
 obtain ⟨f0, s0, s1, c1, n1⟩ := hp
 subst f0
 refine ⟨⟨(0, []), ⟨by simp only; omega, .inr rfl, rfl⟩, rfl, rfl⟩, ?_⟩
 rintro ⟨i, ys⟩ ⟨i0, i1, i2⟩ _
 simp only at i0 i1 i2 ⊢
 subst i2
 have rng : ∀ {k : Int}, -10000000000000000 ≤ k → k ≤ 10000000000000000 → InR .i64 k := fun a b => by simp only [InR]; omega
 rename_i h0
 have hn := h0
 refine ⟨by simp only [InR] at *; omega, fun hl => ?_, fun hl => ?_⟩
 · refine ⟨⟨(0, _), ⟨by simp only; omega, .inr rfl, (List.append_nil _).symm⟩, rfl, rfl⟩, ?_⟩
   rintro ⟨m, zs⟩ ⟨m0, m1, m2⟩ _
   simp only at m0 m1 m2 ⊢
   subst m2
   have l1 := Sp.wv_len s ch i
   have l2 := mul_bd (x := (i.toNat : Int)) (X := 70000) (y := (ch.toNat : Int)) (Y := 12) (by omega) (by omega) (by omega) (by omega)
   refine ⟨fun hc => ?_, fun hc => ⟨rng (by omega) (by omega), (i + 1, _), ⟨by simp only; omega, .inl (by simp only; omega), ?_⟩, rfl, rfl, by simp only; omega⟩⟩
   · rw [Int.tmod_eq_emod_of_nonneg (by omega)]
     have w : iWrap .i32 (((i * 7919 + m * 104729 + s * 15485863) % 4001 - 2000) * 1000) = ((i * 7919 + m * 104729 + s * 15485863) % 4001 - 2000) * 1000 := InR.wrap (by simp only [InR]; omega)
     rw [w]
     refine ⟨rng (by omega) (by omega), rng (by omega) (by omega), rng (by omega) (by omega), rng (by omega) (by omega), rng (by omega) (by omega), by omega, rng (by omega) (by omega), rng (by omega) (by omega), ?_, rng (by omega) (by omega), (m + 1, _), ⟨by simp only; omega, .inl (by simp only; omega), ?_⟩, rfl, rfl, by simp only; omega⟩
     · simp only [List.length_append, List.length_singleton, Sp.wvR, List.length_map, List.length_range]; omega
     · simp only; rw [Sp.wvR_s s i m0, ← List.append_assoc]; rfl
   · simp only; rw [Sp.wv_s s ch i0, ← Sp.wvR_c s i (show m.toNat = ch.toNat by omega)]
 · exact Sp.wv_c s ch (show i.toNat = n.toNat by omega)
def r23 : Cr PR := K [] 23 8 { ps := [(false, hI), (false, hI), (false, hI), (false, hI)], rs := [(true, [.int .i64, .sl hW])], pre := fun a => (I a 2 0) = 0 ∧ (pLe 0 (I a 0 0) ∧ (pLe (I a 0 0) 100 ∧ (pLe (I a 1 0) 12 ∧ pLe (I a 3 0) 70000))), out := fun a => [[.i (I a 1 0), .l (Sp.wv (I a 0 0) (I a 1 0) (I a 3 0))]] } (fun a => A23 (I a 0 0) (I a 1 0) (I a 3 0)) fun a => Y (v23 (I a 0 0) (I a 1 0) (I a 2 0) (I a 3 0))
end Go.Sx

set_option linter.unusedVariables false
set_option linter.unusedSimpArgs false
set_option maxRecDepth 100000
set_option maxHeartbeats 4000000
namespace Go
open Go.Sx
def Sp.jnK (ys : List (List C)) (lo : Int) : Nat → Nat
 | 0 => 0
 | k + 1 => if lo < qi 0 (rGet ys k) then Sp.jnK ys lo k else k + 1
def Sp.jnI (ys : List (List C)) (x : List C) : List (List C) := ys.take (Sp.jnK ys (qi 0 x) ys.length) ++ [[.i (qi 0 x), .i (qi 1 x)]] ++ ys.drop (Sp.jnK ys (qi 0 x) ys.length)
def Sp.jnS (xs : List (List C)) : List (List C) := xs.foldl Sp.jnI []
def Sp.jnM (zs : List (List C)) (x : List C) : List (List C) := if 0 ≤ (zs.length : Int) - 1 ∧ qi 0 x - 1 ≤ qi 1 (rGet zs ((zs.length : Int) - 1)) then rSet zs ((zs.length : Int) - 1) [.i (qi 0 (rGet zs ((zs.length : Int) - 1))), .i (max (qi 1 (rGet zs ((zs.length : Int) - 1))) (qi 1 x))] else zs ++ [[.i (qi 0 x), .i (qi 1 x)]]
def Sp.jnO (xs : List (List C)) : List (List C) := (Sp.jnS xs).foldl Sp.jnM []
def Sp.spO (x : List C) : Bool := decide (0 ≤ qi 0 x ∧ qi 0 x ≤ qi 1 x ∧ qi 1 x ≤ 2147483647)
def Sp.spA (xs : List (List C)) : Bool := xs.all Sp.spO
def Sp.fdI (f : List (List C) → List C → List (List C)) (xs : List (List C)) (i : Int) (ys : List (List C)) : Prop := 0 ≤ i ∧ i ≤ (xs.length : Int) ∧ ys = (xs.take i.toNat).foldl f []
def Sp.jnC (ys : List (List C)) (lo k : Int) : Prop := 0 ≤ k ∧ k ≤ (ys.length : Int) ∧ Sp.jnK ys lo k.toNat = Sp.jnK ys lo ys.length
end Go
namespace Go
open Go.Sx
theorem fold_inv {P : List (List C) → Prop} {f : List (List C) → List C → List (List C)} : ∀ {xs ys : List (List C)}, (∀ x ∈ xs, ∀ ys, P ys → P (f ys x)) → P ys → P (xs.foldl f ys)
 | [], _, _, hy => hy
 | x :: r, ys, h, hy => fold_inv (xs := r) (fun y hm => h y (List.mem_cons_of_mem _ hm)) (h x List.mem_cons_self ys hy)
theorem fold_len {f : List (List C) → List C → List (List C)} (h : ∀ ys x, (f ys x).length ≤ ys.length + 1) : ∀ {xs ys : List (List C)}, (xs.foldl f ys).length ≤ ys.length + xs.length
 | [], _ => Nat.le_refl _
 | x :: r, ys => by
  have := fold_len h (xs := r) (ys := f ys x)
  have := h ys x
  rw [List.foldl_cons, List.length_cons]; omega
section
variable {f : List (List C) → List C → List (List C)} {xs ys : List (List C)} {i : Int}
theorem Sp.fd_0 : Sp.fdI f xs 0 [] := ⟨Int.le_refl _, by omega, rfl⟩
theorem Sp.fd_s (h : Sp.fdI f xs i ys) (hl : i < (xs.length : Int)) : Sp.fdI f xs (i + 1) (f ys (rGet xs i)) := by
 obtain ⟨h0, h1, rfl⟩ := h
 exact ⟨by omega, by omega, by rw [take_s h0 hl, List.foldl_append]; rfl⟩
theorem Sp.fd_e (h : Sp.fdI f xs i ys) (hl : ¬ i < (xs.length : Int)) : ys = xs.foldl f [] := by rw [h.2.2, List.take_of_length_le (by omega)]
theorem Sp.fd_i {P : List (List C) → Prop} (h : Sp.fdI f xs i ys) (h0 : P []) (hs : ∀ x ∈ xs, ∀ ys, P ys → P (f ys x)) : P ys := by
 rw [h.2.2]; exact fold_inv (fun x hx => hs x (List.mem_of_mem_take hx)) h0
theorem Sp.fd_l (h : Sp.fdI f xs i ys) (hf : ∀ ys x, (f ys x).length ≤ ys.length + 1) : ys.length ≤ xs.length := by
 rw [h.2.2]
 have := fold_len hf (xs := xs.take i.toNat) (ys := [])
 rw [List.length_take, List.length_nil] at this; omega
end
theorem Sp.jnI_len (ys : List (List C)) (x : List C) : (Sp.jnI ys x).length ≤ ys.length + 1 := by
 unfold Sp.jnI
 rw [List.length_append, List.length_append, List.length_take, List.length_drop, List.length_singleton]; omega
theorem Sp.jnM_len (ys : List (List C)) (x : List C) : (Sp.jnM ys x).length ≤ ys.length + 1 := by
 unfold Sp.jnM
 split
 · unfold rSet; rw [List.length_set]; omega
 · rw [List.length_append, List.length_singleton]; omega
theorem Sp.jnI_all {ys : List (List C)} {x : List C} (h : Sp.spA ys = true) (hx : Sp.spO x = true) : Sp.spA (Sp.jnI ys x) = true := by
 unfold Sp.spA at *
 have hx' : Sp.spO [.i (qi 0 x), .i (qi 1 x)] = true := hx
 unfold Sp.jnI
 rw [List.all_append, List.all_append, List.all_cons, hx', List.all_nil]
 simp only [List.all_eq_true, Bool.and_eq_true] at h ⊢
 exact ⟨⟨fun y hy => h y (List.mem_of_mem_take hy), trivial, trivial⟩, fun y hy => h y (List.mem_of_mem_drop hy)⟩
theorem Sp.jnI_at {ys : List (List C)} {x : List C} {k : Int} (h : Sp.jnK ys (qi 0 x) ys.length = k.toNat) : cutRows ys none (some k) ++ [sg 0 [0, 0] x] ++ cutRows ys (some k) none = Sp.jnI ys x := by
 unfold Sp.jnI; rw [h]; rfl
end Go
namespace Go.Sx
def A271 (xs : List (List C)) : FuncId → Nat → LoopAnn := fun _ ii => bif Nat.beq ii 3 then .inv (Int × List (List C)) (fun z => Sp.fdI Sp.jnI xs z.1 z.2) (fun z => [(13, .int .i64 z.1), (3, .sl hII z.2)]) (fun _ => []) [] [0, 2, 3, 4, 6, 7, 9, 10, 11, 12, 13, 14, 31, 46, 47, 48, 49, 67] (fun z => xs.length - z.1.toNat) else bif Nat.beq ii 6 then .on (fun sv0 => match sv0.tmps.getD 3 .undef, sv0.tmps.getD 13 .undef with | .sl _ ys, .int _ ci => .inv Int (fun z => Sp.jnC ys (qi 0 (rGet xs ci)) z) (fun z => [(7, .int .i64 z)]) (fun _ => []) [] [0, 2, 3, 4, 6, 7, 9, 10, 11, 12, 13, 14, 31, 46, 47, 48, 49, 67] (fun z => z.toNat) | _, _ => .unroll 0) else bif Nat.beq ii 11 then .on (fun sv0 => match sv0.tmps.getD 3 .undef with | .sl _ ys => .ghost 4 hII 104 (.on (fun sv1 => match sv1.tmps.getD 4 .undef with | .own kk _ => .inv (Int × List (List C)) (fun z => Sp.fdI Sp.jnM ys z.1 z.2) (fun z => [(48, .int .i64 z.1), (4, .own kk 0)]) (fun z => [(kk, .row hII 104 0 z.2)]) [kk] [0, 2, 3, 4, 6, 7, 9, 10, 11, 12, 13, 14, 31, 46, 47, 48, 49, 67] (fun z => ys.length - z.1.toNat) | _ => .unroll 0)) | _ => .unroll 0) else .unroll 0
def m271_0 (xs : List (List C)) (x : Int × List (List C)) (x_1 : Int) : Prop := geB none (some x_1) (iLen x.2) ∧ pRoom 16 (iLen (cutRows x.2 none (some x_1))) ∧ pRoom 16 (iLen (cutRows x.2 none (some x_1) ++ [sg 0 [0, 0] (rGet xs x.1)])) ∧ geB (some x_1) none (iLen x.2) ∧ pRoom 16 (iLen (cutRows x.2 none (some x_1) ++ [sg 0 [0, 0] (rGet xs x.1)] ++ cutRows x.2 (some x_1) none)) ∧ InR .i64 (iAdd x.1 1) ∧ Sm xs ∧ Sm xs ∧ Sm (iLen xs) ∧ ∃ (y : Int × List (List C)), Sp.fdI Sp.jnI xs y.1 y.2 ∧ iAdd x.1 1 = y.1 ∧ cutRows x.2 none (some x_1) ++ [sg 0 [0, 0] (rGet xs x.1)] ++ cutRows x.2 (some x_1) none = y.2 ∧ nLt (xs.length - y.1.toNat) (xs.length - x.1.toNat)
def m271_1 (xs : List (List C)) (x : Int × List (List C)) (x_1 : Int × List (List C)) : Prop := pRoom 16 (iLen (x_1.2 ++ [sg 0 [0, 0] (rGet x.2 x_1.1)])) ∧ InR .i64 (iAdd x_1.1 1) ∧ Sm xs ∧ Sm x.2 ∧ Sm xs ∧ Sm (iLen xs) ∧ Sm x.1 ∧ Sm x.2 ∧ Sm (iLen x.2) ∧ ∃ (y : Int × List (List C)), Sp.fdI Sp.jnM x.2 y.1 y.2 ∧ iAdd x_1.1 1 = y.1 ∧ x_1.2 ++ [sg 0 [0, 0] (rGet x.2 x_1.1)] = y.2 ∧ nLt (x.2.length - y.1.toNat) (x.2.length - x_1.1.toNat)
theorem v271 (xs : List (List C)) : WL hII xs → Sp.spA xs = true ∧ pLe (iLen xs) 1000 → pLe (iLen xs) 9223372036854775807 → (∃ (x : Int × List (List C)), Sp.fdI Sp.jnI xs x.1 x.2 ∧ 0 = x.1 ∧ x.2 = []) ∧ ∀ (x : Int × List (List C)), Sp.fdI Sp.jnI xs x.1 x.2 → InR .i64 x.1 ∧ WL hII x.2 → Cn (bLt x.1 (iLen xs)) (pIn 0 (iLen xs) x.1 ∧ (InR .i64 (qi 0 (rGet xs x.1)) ∧ InR .i64 (qi 1 (rGet xs x.1)) → pLe (iLen x.2) 9223372036854775807 → (∃ (x_1 : Int), Sp.jnC x.2 (qi 0 (rGet xs x.1)) x_1 ∧ iLen x.2 = x_1) ∧ ∀ (x_1 : Int), Sp.jnC x.2 (qi 0 (rGet xs x.1)) x_1 → InR .i64 x_1 → Cn (bLt 0 x_1) (InR .i64 (iSub x_1 1) ∧ pIn 0 (iLen x.2) (iSub x_1 1) ∧ (InR .i64 (qi 0 (rGet x.2 (iSub x_1 1))) → Cn (bLt (qi 0 (rGet xs x.1)) (qi 0 (rGet x.2 (iSub x_1 1)))) (InR .i64 (iSub x_1 1) ∧ Sm xs ∧ Sm x.2 ∧ Sm xs ∧ Sm (iLen xs) ∧ Sm x.1 ∧ Sm (sg 0 [0, 0] (rGet xs x.1)) ∧ ∃ (y : Int), Sp.jnC x.2 (qi 0 (rGet xs x.1)) y ∧ iSub x_1 1 = y ∧ nLt y.toNat x_1.toNat) ((m271_0 xs x x_1)))) ((m271_0 xs x x_1)))) (pLe (iLen x.2) 9223372036854775807 → (∃ (x_1 : Int × List (List C)), Sp.fdI Sp.jnM x.2 x_1.1 x_1.2 ∧ 0 = x_1.1 ∧ [] = x_1.2) ∧ ∀ (x_1 : Int × List (List C)), Sp.fdI Sp.jnM x.2 x_1.1 x_1.2 → InR .i64 x_1.1 ∧ WL hII x_1.2 → Cn (bLt x_1.1 (iLen x.2)) (pIn 0 (iLen x.2) x_1.1 ∧ (InR .i64 (qi 0 (rGet x.2 x_1.1)) ∧ InR .i64 (qi 1 (rGet x.2 x_1.1)) → pLe (iLen x_1.2) 9223372036854775807 → InR .i64 (iSub (iLen x_1.2) 1) ∧ Cn (bLe 0 (iSub (iLen x_1.2) 1)) (InR .i64 (iSub (qi 0 (rGet x.2 x_1.1)) 1) ∧ pIn 0 (iLen x_1.2) (iSub (iLen x_1.2) 1) ∧ (InR .i64 (qi 1 (rGet x_1.2 (iSub (iLen x_1.2) 1))) → Cn (bLe (iSub (qi 0 (rGet x.2 x_1.1)) 1) (qi 1 (rGet x_1.2 (iSub (iLen x_1.2) 1)))) (pIn 0 (iLen x_1.2) (iSub (iLen x_1.2) 1) ∧ (InR .i64 (qi 1 (rGet x_1.2 (iSub (iLen x_1.2) 1))) → pIn 0 (iLen x_1.2) (iSub (iLen x_1.2) 1) ∧ InR .i64 (iAdd x_1.1 1) ∧ Sm xs ∧ Sm x.2 ∧ Sm xs ∧ Sm (iLen xs) ∧ Sm x.1 ∧ Sm x.2 ∧ Sm (iLen x.2) ∧ ∃ (y : Int × List (List C)), Sp.fdI Sp.jnM x.2 y.1 y.2 ∧ iAdd x_1.1 1 = y.1 ∧ rSet x_1.2 (iSub (iLen x_1.2) 1) [C.i (qi 0 (rGet x_1.2 (iSub (iLen x_1.2) 1))), C.i (iMax (qi 1 (rGet x_1.2 (iSub (iLen x_1.2) 1))) (qi 1 (rGet x.2 x_1.1)))] = y.2 ∧ nLt (x.2.length - y.1.toNat) (x.2.length - x_1.1.toNat))) ((m271_1 xs x x_1)))) ((m271_1 xs x x_1)))) (x_1.2 = Sp.jnO xs)) := by
 intro hw hp
 delta m271_0 m271_1
 simp only [D, E] at hp ⊢
 have sp : ∀ x ∈ xs, Sp.spO x = true := by have := hp.1; unfold Sp.spA at this; exact List.all_eq_true.1 this
 intro _
 refine ⟨⟨(0, []), Sp.fd_0, rfl, rfl⟩, ?_⟩
 rintro ⟨i, ys⟩ hi _
 simp only at hi ⊢
 have i0 := hi.1
 have yl := Sp.fd_l hi Sp.jnI_len
 have ya : Sp.spA ys = true := Sp.fd_i (P := fun ys => Sp.spA ys = true) hi rfl fun x hx ys h => Sp.jnI_all h (sp x hx)
 have ym : ∀ k, 0 ≤ k → k < (ys.length : Int) → 0 ≤ qi 0 (rGet ys k) := fun k h0 h1 => by
  have := List.all_eq_true.1 ya _ (rGet_mem h0 h1)
  unfold Sp.spO at this; rw [decide_eq_true_eq] at this; exact this.1
 refine ⟨fun hl => ⟨⟨i0, hl⟩, fun _ _ => ⟨⟨_, ⟨by omega, Int.le_refl _, by rw [Int.toNat_natCast]⟩, rfl⟩, ?_⟩⟩, fun hl => ?_⟩
 · intro k ⟨k0, k1, k2⟩ _
   have fin : Sp.jnK ys (qi 0 (rGet xs i)) ys.length = k.toNat → geB none (some k) (ys.length : Int) ∧ ((cutRows ys none (some k)).length : Int) * 16 ≤ 140737488355328 ∧ ((cutRows ys none (some k) ++ [sg 0 [0, 0] (rGet xs i)]).length : Int) * 16 ≤ 140737488355328 ∧ geB (some k) none (ys.length : Int) ∧ ((cutRows ys none (some k) ++ [sg 0 [0, 0] (rGet xs i)] ++ cutRows ys (some k) none).length : Int) * 16 ≤ 140737488355328 ∧ InR .i64 (i + 1) ∧ ∃ y : Int × List (List C), Sp.fdI Sp.jnI xs y.1 y.2 ∧ i + 1 = y.1 ∧ cutRows ys none (some k) ++ [sg 0 [0, 0] (rGet xs i)] ++ cutRows ys (some k) none = y.2 ∧ xs.length - y.1.toNat < xs.length - i.toNat := fun e => by
    refine ⟨⟨k0, k1⟩, ?_, ?_, ⟨k0, k1⟩, ?_, by simp only [InR]; omega, (i + 1, _), Sp.fd_s hi hl, rfl, Sp.jnI_at e, by simp only; omega⟩ <;> simp only [List.length_append, cutRows, List.length_take, List.length_drop, List.length_singleton] <;> omega
   refine ⟨fun h => ⟨by simp only [InR]; omega, ⟨by omega, by omega⟩, fun _ => ⟨fun h1 => ⟨by simp only [InR]; omega, k - 1, ⟨by omega, by omega, ?_⟩, rfl, by omega⟩, fun h1 => fin ?_⟩⟩, fun h => fin ?_⟩
   · rw [← k2, show k.toNat = (k - 1).toNat + 1 by omega, Sp.jnK, Int.toNat_of_nonneg (by omega), if_pos h1]
   · rw [← k2, show k.toNat = (k - 1).toNat + 1 by omega, Sp.jnK, Int.toNat_of_nonneg (by omega), if_neg h1]
   · rw [← k2, show k.toNat = 0 by omega]; rfl
 · have ye := Sp.fd_e hi hl
   refine fun _ => ⟨⟨(0, []), Sp.fd_0, rfl, rfl⟩, ?_⟩
   rintro ⟨j, zs⟩ hj _
   simp only at hj ⊢
   have j0 := hj.1
   have zl := Sp.fd_l hj Sp.jnM_len
   refine ⟨fun hm => ?_, fun hm => by rw [Sp.fd_e hj hm, ye]; rfl⟩
   have a0 := ym j j0 hm
   have st : ∀ {w}, w = Sp.jnM zs (rGet ys j) → ∃ y : Int × List (List C), Sp.fdI Sp.jnM ys y.1 y.2 ∧ j + 1 = y.1 ∧ w = y.2 ∧ ys.length - y.1.toNat < ys.length - j.toNat := fun e => ⟨(j + 1, _), Sp.fd_s hj hm, rfl, e, by simp only; omega⟩
   have rm : ((zs ++ [sg 0 [0, 0] (rGet ys j)]).length : Int) * 16 ≤ 140737488355328 := by rw [List.length_append, List.length_singleton]; omega
   have ix : InR .i64 (j + 1) := by simp only [InR]; omega
   refine ⟨⟨j0, hm⟩, fun hr _ => ⟨by simp only [InR]; omega, fun h => ⟨by simp only [InR] at *; omega, ⟨h, by omega⟩, fun _ => ⟨fun h1 => ⟨⟨h, by omega⟩, fun _ => ⟨⟨h, by omega⟩, ix, st (if_pos ⟨h, h1⟩).symm⟩⟩, fun h1 => ⟨rm, ix, st (if_neg fun g => h1 g.2).symm⟩⟩⟩, fun h => ⟨rm, ix, st (if_neg fun g => h g.1).symm⟩⟩⟩
def r271 : Cr PR := K [] 271 8 { ps := [(false, [.sl hII])], rs := [(false, [.sl hII])], pre := fun a => Sp.spA (L a 0 0) = true ∧ pLe (iLen (L a 0 0)) 1000, out := fun a => [[.l (Sp.jnO (L a 0 0))]] } (fun a => A271 (L a 0 0)) fun a => Y (v271 (L a 0 0))
end Go.Sx

set_option linter.unusedVariables false
set_option linter.unusedSimpArgs false
set_option maxRecDepth 100000
set_option maxHeartbeats 4000000
namespace Go
open Go.Sx
def Sp.mkO (xs : List (List C)) : Int := if Sp.spA xs = false then 2 else if 64 < (Sp.jnO xs).length then 3 else 0
def Sp.mkS (xs : List (List C)) : List (List C) := if Sp.mkO xs = 0 then Sp.jnO xs else []
def Sp.pkS (s : List (List C) × List (List C)) (x : List C) : List (List C) × List (List C) := (Sp.dT s.1 2, if Sp.dN s.1 2 = 1 then s.2 ++ [[.i (qi 0 x), .i (qi 1 x)]] else s.2)
def Sp.pk (xs l : List (List C)) : List (List C) × List (List C) := xs.foldl Sp.pkS (l, [])
def Sp.pkI (xs l : List (List C)) (i : Int) (k ys : List (List C)) : Prop := 0 ≤ i ∧ i ≤ (xs.length : Int) ∧ ys.length ≤ i.toNat ∧ (xs.take i.toNat).foldl Sp.pkS (l, []) = (k, ys)
def Sp.seY (xs l : List (List C)) : List (List C) := if (Sp.pk xs l).2 = [] then [[.i (qi 0 (rGet xs (Sp.dN (Sp.pk xs l).1 xs.length))), .i (qi 1 (rGet xs (Sp.dN (Sp.pk xs l).1 xs.length)))]] else (Sp.pk xs l).2
def Sp.seT (xs l : List (List C)) : List (List C) := if (Sp.pk xs l).2 = [] then Sp.dT (Sp.pk xs l).1 xs.length else (Sp.pk xs l).1
end Go
namespace Go.Sx
def A251 (xs : List (List C)) : FuncId → Nat → LoopAnn := fun _ ii => bif Nat.beq ii 2 then .inv Int (fun z => Sp.alI Sp.spO xs z) (fun z => [(9, .int .i64 z)]) (fun _ => []) [] [0, 2, 3, 5, 6, 7, 8, 9, 10, 27, 36] (fun z => xs.length - z.toNat) else .unroll 0
theorem v251 (xs : List (List C)) : WL hII xs → pLe (iLen xs) 1000 → pLe (iLen xs) 9223372036854775807 → (∃ (x : Int), Sp.alI Sp.spO xs x ∧ 0 = x) ∧ ∀ (x : Int), Sp.alI Sp.spO xs x → InR .i64 x → Cn (bLt x (iLen xs)) (pIn 0 (iLen xs) x ∧ (InR .i64 (qi 0 (rGet xs x)) ∧ InR .i64 (qi 1 (rGet xs x)) → Cn (bLt (qi 0 (rGet xs x)) 0) ([] = Sp.mkS xs ∧ 2 = Sp.mkO xs) (Cn (bLt (qi 1 (rGet xs x)) (qi 0 (rGet xs x))) ([] = Sp.mkS xs ∧ 2 = Sp.mkO xs) (Cn (bLt 2147483647 (qi 1 (rGet xs x))) ([] = Sp.mkS xs ∧ 2 = Sp.mkO xs) (InR .i64 (iAdd x 1) ∧ Sm xs ∧ Sm xs ∧ Sm (iLen xs) ∧ ∃ (y : Int), Sp.alI Sp.spO xs y ∧ iAdd x 1 = y ∧ nLt (xs.length - y.toNat) (xs.length - x.toNat)))))) ((Sp.spA xs = true ∧ pLe (iLen xs) 1000) ∧ (WL hII (Sp.jnO xs) → pLe (iLen (Sp.jnO xs)) 9223372036854775807 → Cn (bLt 64 (iLen (Sp.jnO xs))) ([] = Sp.mkS xs ∧ 3 = Sp.mkO xs) (Sp.jnO xs = Sp.mkS xs ∧ 0 = Sp.mkO xs))) := by
  intro hw hp
  simp only [D, E] at hp ⊢
  have sf : ∀ x, Sp.spO x = decide (0 ≤ qi 0 x ∧ qi 0 x ≤ qi 1 x ∧ qi 1 x ≤ 2147483647) := fun _ => rfl
  refine fun _ => lpA al0 (fun x h => h.1) (fun x h h0 hx _ => ?_) (fun x h hx => ?_)
  · have no : Sp.spO (rGet xs x) = false → [] = Sp.mkS xs ∧ 2 = Sp.mkO xs := fun hf => by
      have e : Sp.mkO xs = 2 := if_pos (alB h hx hf).symm
      exact ⟨(if_neg (by omega)).symm, e.symm⟩
    refine ⟨fun h1 => no ((sf _).trans (decide_eq_false (by omega))), fun h1 => ⟨fun h2 => no ((sf _).trans (decide_eq_false (by omega))), fun h2 => ⟨fun h3 => no ((sf _).trans (decide_eq_false (by omega))), fun h3 => ⟨inS hw h0 hx, x + 1, alN h hx ((sf _).trans (decide_eq_true (by omega))), rfl, by omega⟩⟩⟩⟩
  · have a : Sp.spA xs = true := (alE h hx).symm
    have e : Sp.mkO xs = if 64 < (Sp.jnO xs).length then 3 else 0 := if_neg (by simp [a])
    refine ⟨⟨a, hp⟩, fun _ _ => ⟨fun h1 => ?_, fun h1 => ?_⟩⟩
    · rw [if_pos (by omega)] at e
      exact ⟨(if_neg (by omega)).symm, e.symm⟩
    · rw [if_neg (by omega)] at e
      exact ⟨(if_pos e).symm, e.symm⟩
def r251 : Cr PR := K [r271] 251 8 { ps := [(false, [.sl hII])], rs := [(true, [.sl hII]), (false, hI)], pre := fun a => pLe (iLen (L a 0 0)) 1000, out := fun a => [[.l (Sp.mkS (L a 0 0))], [.i (Sp.mkO (L a 0 0))]] } (fun a => A251 (L a 0 0)) fun a => Y (v251 (L a 0 0))
end Go.Sx
namespace Go.Sx
def A205 (l : List (List C)) (xs : List (List C)) : FuncId → Nat → LoopAnn := fun _ ii => bif Nat.beq ii 3 then .ghost 5 hII 104 (.inv (Int × List (List C) × List (List C)) (fun z => Sp.pkI xs l z.1 z.2.1 z.2.2) (fun z => [(12, .int .i64 z.1), (5, .own 2 0)]) (fun z => [(0, .box [.sl [.int .u8] z.2.1] 117), (2, .row hII 104 0 z.2.2)]) [0, 2] [0, 1, 4, 5, 7, 8, 10, 11, 12, 13, 18, 26] (fun z => xs.length - z.1.toNat)) else .unroll 0
theorem v205 (l : List (List C)) (xs : List (List C)) : WL hB l ∧ WL hII xs → pLe 1 (iLen xs) ∧ pLe (iLen xs) 100 → pLe (iLen xs) 9223372036854775807 → (∃ (x : Int × List (List C) × List (List C)), Sp.pkI xs l x.1 x.2.1 x.2.2 ∧ 0 = x.1 ∧ l = x.2.1 ∧ [] = x.2.2) ∧ ∀ (x : Int × List (List C) × List (List C)), Sp.pkI xs l x.1 x.2.1 x.2.2 → InR .i64 x.1 ∧ WL hB x.2.1 ∧ WL hII x.2.2 → Cn (bLt x.1 (iLen xs)) (pIn 0 (iLen xs) x.1 ∧ (InR .i64 (qi 0 (rGet xs x.1)) ∧ InR .i64 (qi 1 (rGet xs x.1)) → True ∧ (InR .i64 (Sp.dN x.2.1 2) → Cn (bEq (Sp.dN x.2.1 2) 1) (pRoom 16 (iLen (x.2.2 ++ [sg 0 [0, 0] (rGet xs x.1)])) ∧ InR .i64 (iAdd x.1 1) ∧ Sm xs ∧ Sm xs ∧ Sm (iLen xs) ∧ ∃ (y : Int × List (List C) × List (List C)), Sp.pkI xs l y.1 y.2.1 y.2.2 ∧ iAdd x.1 1 = y.1 ∧ Sp.dT x.2.1 2 = y.2.1 ∧ x.2.2 ++ [sg 0 [0, 0] (rGet xs x.1)] = y.2.2 ∧ nLt (xs.length - y.1.toNat) (xs.length - x.1.toNat)) (InR .i64 (iAdd x.1 1) ∧ Sm xs ∧ Sm xs ∧ Sm (iLen xs) ∧ ∃ (y : Int × List (List C) × List (List C)), Sp.pkI xs l y.1 y.2.1 y.2.2 ∧ iAdd x.1 1 = y.1 ∧ Sp.dT x.2.1 2 = y.2.1 ∧ x.2.2 = y.2.2 ∧ nLt (xs.length - y.1.toNat) (xs.length - x.1.toNat))))) (pLe (iLen x.2.2) 9223372036854775807 → Cn (bEq (iLen x.2.2) 0) (pLe (iLen xs) 9223372036854775807 → True ∧ (InR .i64 (Sp.dN x.2.1 (iLen xs)) → pIn 0 (iLen xs) (Sp.dN x.2.1 (iLen xs)) ∧ (InR .i64 (qi 0 (rGet xs (Sp.dN x.2.1 (iLen xs)))) ∧ InR .i64 (qi 1 (rGet xs (Sp.dN x.2.1 (iLen xs)))) → pRoom 16 (iLen (x.2.2 ++ [sg 0 [0, 0] (rGet xs (Sp.dN x.2.1 (iLen xs)))])) ∧ pLe (iLen (x.2.2 ++ [sg 0 [0, 0] (rGet xs (Sp.dN x.2.1 (iLen xs)))])) 1000 ∧ (WL hII (Sp.mkS (x.2.2 ++ [sg 0 [0, 0] (rGet xs (Sp.dN x.2.1 (iLen xs)))])) ∧ InR .i64 (Sp.mkO (x.2.2 ++ [sg 0 [0, 0] (rGet xs (Sp.dN x.2.1 (iLen xs)))])) → Sp.dT x.2.1 (iLen xs) = Sp.seT xs l ∧ Sp.mkS (x.2.2 ++ [sg 0 [0, 0] (rGet xs (Sp.dN x.2.1 (iLen xs)))]) = Sp.mkS (Sp.seY xs l))))) (pLe (iLen x.2.2) 1000 ∧ (WL hII (Sp.mkS x.2.2) ∧ InR .i64 (Sp.mkO x.2.2) → x.2.1 = Sp.seT xs l ∧ Sp.mkS x.2.2 = Sp.mkS (Sp.seY xs l)))) := by
 intro hw hp
 simp only [D, E] at hp ⊢
 refine fun _ => ⟨⟨(0, l, []), ⟨Int.le_refl _, by simp only; omega, Nat.le_refl _, rfl⟩, rfl, rfl, rfl⟩, ?_⟩
 rintro ⟨i, k, ys⟩ ⟨i0, i1, i2, i3⟩ _
 simp only at i0 i1 i2 i3 ⊢
 have nx : i < (xs.length : Int) → (xs.take (i + 1).toNat).foldl Sp.pkS (l, []) = Sp.pkS (k, ys) (rGet xs i) := fun h => by rw [take_s i0 h, List.foldl_append, i3]; rfl
 refine ⟨fun hl => ⟨⟨i0, hl⟩, fun _ _ => ⟨fun h => ⟨?_, by simp only [InR]; omega, (i + 1, _, _), ⟨by simp only; omega, by simp only; omega, by simp; omega, (nx hl).trans ?_⟩, rfl, rfl, rfl, by simp only; omega⟩, fun h => ⟨by simp only [InR]; omega, (i + 1, _, _), ⟨by simp only; omega, by simp only; omega, by simp only; omega, (nx hl).trans ?_⟩, rfl, rfl, rfl, by simp only; omega⟩⟩⟩, fun hl _ => ?_⟩
 · rw [List.length_append, List.length_singleton]; omega
 · unfold Sp.pkS; rw [if_pos h]; rfl
 · unfold Sp.pkS; rw [if_neg h]; rfl
 have e : Sp.pk xs l = (k, ys) := by rw [← i3, List.take_of_length_le (by omega)]; rfl
 unfold Sp.seY Sp.seT
 rw [e]
 have dn := Sp.dN_bd (l := k) (n := (xs.length : Int)) (by omega)
 refine ⟨fun h _ _ => ?_, fun h => ?_⟩
 · have y0 : ys = [] := List.eq_nil_of_length_eq_zero (by omega)
   subst y0
   exact ⟨dn, fun _ => ⟨by simp, by simp, fun _ => ⟨rfl, rfl⟩⟩⟩
 · have y0 : ¬ ys = [] := fun a => h (by rw [a]; rfl)
   exact ⟨by omega, fun _ => ⟨(if_neg y0).symm, by rw [if_neg y0]⟩⟩
def r205 : Cr PR := KB [r40, r251] 205 8 { ps := [(false, [.sl hII])], rs := [(true, [.sl hII])], pre := fun a => pLe 1 (iLen (L a 1 0)) ∧ pLe (iLen (L a 1 0)) 100, out := fun a => [[.l (Sp.seT (L a 1 0) (L a 0 0))], [.l (Sp.mkS (Sp.seY (L a 1 0) (L a 0 0)))]], bx := some (117, [.sl hB]) } (fun a => A205 (L a 0 0) (L a 1 0)) fun a => Y (v205 (L a 0 0) (L a 1 0))
end Go.Sx

set_option linter.unusedVariables false
set_option linter.unusedSimpArgs false
set_option maxRecDepth 100000
set_option maxHeartbeats 4000000
namespace Go
open Go.Sx
def Sp.bxK : Nat → List (List C) → Int → List (List C) × Int
 | 0, l, k => (l, k)
 | n + 1, l, k => Sp.bxK n (Sp.dT l 7) (iOr .i64 k (iShl 1 (iAdd 1 (Sp.dN l 7))))
def Sp.bxQ (m : List (List C)) (x : List C) : Bool := decide ((ql 0 x).length = m.length) && decide (qi 0 (rGet (ql 0 x) 0) = qi 0 (rGet m 0))
def Sp.bxA (ms m : List (List C)) : Bool := ms.any (Sp.bxQ m)
def Sp.bxM : Nat → List (List C) → List (List C) → List (List C) × List (List C)
 | 0, l, ms => (l, ms)
 | n + 1, l, ms => Sp.bxM n (Sp.dT l 7) (if Sp.bxA ms (Sp.mpV (Sp.dN l 7)) then ms else ms ++ [[.l (Sp.mpV (Sp.dN l 7))]])
def Sp.bxR : List (List C) := [[.i 44100, .i 44100], [.i 48000, .i 48000], [.i 8000, .i 8000], [.i 32000, .i 50000], [.i 96000, .i 192000]]
def Sp.bxZ : List (List C) := [[.i 16, .i 64], [.i 64, .i 1024], [.i 2048, .i 2048], [.i 1, .i 65536]]
def Sp.bx1 (l : List (List C)) : List (List C) × Int := Sp.bxK (Sp.dN (Sp.dT l 7) 3).toNat (Sp.dT (Sp.dT l 7) 3) (iShl 1 (iAdd 1 (Sp.dN l 7)))
def Sp.bx2 (l : List (List C)) : List (List C) := Sp.seT Sp.bxR (Sp.bx1 l).1
def Sp.bx3 (l : List (List C)) : List (List C) := Sp.seT Sp.bxZ (Sp.bx2 l)
def Sp.bx4 (l : List (List C)) : List (List C) × List (List C) := Sp.bxM (1 + Sp.dN (Sp.bx3 l) 3).toNat (Sp.dT (Sp.bx3 l) 3) []
def Sp.bxV (l : List (List C)) : List C := [.i (Sp.bx1 l).2, .l (Sp.mkS (Sp.seY Sp.bxR (Sp.bx1 l).1)), .l (Sp.bx4 l).2, .l (Sp.mkS (Sp.seY Sp.bxZ (Sp.bx2 l)))]
def Sp.bxT (l : List (List C)) : List (List C) := (Sp.bx4 l).1
def Sp.b1I (l : List (List C)) (n : Int) (k : List (List C)) (v : Int) : Prop := (0 ≤ n ∧ n ≤ 3) ∧ Sp.bxK n.toNat k v = Sp.bx1 l
def Sp.b2I (l : List (List C)) (n : Int) (k ms : List (List C)) : Prop := (0 ≤ n ∧ n ≤ 3 ∧ (ms.length : Int) + n ≤ 3) ∧ ms.all (fun x => decide (1 ≤ (ql 0 x).length)) = true ∧ Sp.bxM n.toNat k ms = Sp.bx4 l
def Sp.b3I (ms m : List (List C)) (i : Int) : Prop := 0 ≤ i ∧ i ≤ (ms.length : Int) ∧ True
def Sp.anT (ms m : List (List C)) (i : Int) : Bool := (ms.take i.toNat).any (Sp.bxQ m)
end Go
namespace Go
open Go.Sx
theorem Sp.mpV_len {x : Int} (h0 : 0 ≤ x) (h1 : x < 7) : 1 ≤ (Sp.mpV x).length ∧ (Sp.mpV x).length ≤ 8 := by
 rcases (show x = 0 ∨ x = 1 ∨ x = 2 ∨ x = 3 ∨ x = 4 ∨ x = 5 ∨ x = 6 by omega) with rfl | rfl | rfl | rfl | rfl | rfl | rfl <;> decide
theorem Sp.bx_sh {x : Int} (h0 : 0 ≤ x) (h1 : x < 7) : InR .i64 (1 + x) ∧ pSh 64 (1 + x) ∧ InR .i64 (iShl 1 (1 + x)) := by
 rcases (show x = 0 ∨ x = 1 ∨ x = 2 ∨ x = 3 ∨ x = 4 ∨ x = 5 ∨ x = 6 by omega) with rfl | rfl | rfl | rfl | rfl | rfl | rfl <;> simp [InR, pSh]
theorem Sp.an_s {ms m : List (List C)} {i : Int} (h0 : 0 ≤ i) (h1 : i < (ms.length : Int)) : Sp.anT ms m (i + 1) = (Sp.anT ms m i || Sp.bxQ m (rGet ms i)) := by
 unfold Sp.anT; rw [take_s h0 h1, List.any_append, List.any_cons, List.any_nil, Bool.or_false]
theorem Sp.an_e {ms m : List (List C)} {i : Int} (h1 : ¬ i < (ms.length : Int)) : Sp.anT ms m i = Sp.bxA ms m := by
 unfold Sp.anT Sp.bxA; rw [List.take_of_length_le (by omega)]
end Go
namespace Go.Sx
def A141 (l : List (List C)) : FuncId → Nat → LoopAnn := fun _ ii => bif Nat.beq ii 3 then .inv (Int × List (List C) × Int) (fun z => Sp.b1I l z.1 z.2.1 z.2.2) (fun z => [(4, .int .i64 z.1)]) (fun z => [(0, .box [.sl [.int .u8] z.2.1] 117), (2, .box [.int .i64 z.2.2, .nils, .nils, .nils] 110)]) [0, 2] [0, 2, 3, 4, 5, 6, 7, 9, 18, 50, 56, 57, 58, 59, 81] (fun z => z.1.toNat) else bif Nat.beq ii 9 then .ghostB 3 2 [.sl hI] 28 (.on (fun sv0 => match (sv0.heap[2]? : Option HB) with | some (.box [kd, rt, _, sz] _) => .inv (Int × List (List C) × List (List C)) (fun z => Sp.b2I l z.1 z.2.1 z.2.2) (fun z => [(5, .int .i64 z.1)]) (fun z => [(0, .box [.sl [.int .u8] z.2.1] 117), (2, .box [kd, rt, .own 3 0, sz] 110), (3, .row [.sl hI] 28 0 z.2.2)]) [0, 2, 3] [0, 2, 3, 4, 5, 6, 7, 9, 18, 50, 56, 57, 58, 59, 81] (fun z => z.1.toNat) | _ => .unroll 0)) else bif Nat.beq ii 14 then .on (fun sv0 => match sv0.tmps.getD 6 .undef with | .sl _ mm => (match (sv0.heap[3]? : Option HB) with | some (.row _ _ _ ms) => .inv Int (fun z => Sp.b3I ms mm z) (fun z => [(58, .int .i64 z), (7, .bool (Sp.anT ms mm z))]) (fun _ => []) [] ([0, 2, 3, 4, 5, 6, 7, 9, 18, 50, 56, 57, 58, 59, 81] ++ [1000003]) (fun z => ms.length - z.toNat) | _ => .unroll 0) | _ => .unroll 0) else .unroll 0
def m141_0 (x_1 : Int × List (List C) × List (List C)) : List (List C) := (Sp.mpV (Sp.dN x_1.2.1 7))
def m141_1 (x : Int × List (List C) × Int) : List (List C) := (Sp.mkS (Sp.seY Sp.bxZ (Sp.seT Sp.bxR x.2.1)))
theorem v141 (l : List (List C)) : WL hB l → True → True ∧ (InR .i64 (Sp.dN l 7) → InR .i64 (iAdd 1 (Sp.dN l 7)) ∧ (pSh 64 (iAdd 1 (Sp.dN l 7)) ∧ InR .i64 (iShl 1 (iAdd 1 (Sp.dN l 7)))) ∧ True ∧ (InR .i64 (Sp.dN (Sp.dT l 7) 3) → (∃ (x : Int × List (List C) × Int), Sp.b1I l x.1 x.2.1 x.2.2 ∧ Sp.dN (Sp.dT l 7) 3 = x.1 ∧ Sp.dT (Sp.dT l 7) 3 = x.2.1 ∧ iShl 1 (iAdd 1 (Sp.dN l 7)) = x.2.2) ∧ ∀ (x : Int × List (List C) × Int), Sp.b1I l x.1 x.2.1 x.2.2 → InR .i64 x.1 ∧ WL hB x.2.1 ∧ InR .i64 x.2.2 → Cn (bLt 0 x.1) (True ∧ (InR .i64 (Sp.dN x.2.1 7) → InR .i64 (iAdd 1 (Sp.dN x.2.1 7)) ∧ (pSh 64 (iAdd 1 (Sp.dN x.2.1 7)) ∧ InR .i64 (iShl 1 (iAdd 1 (Sp.dN x.2.1 7)))) ∧ InR .i64 (iSub x.1 1) ∧ ∃ (y : Int × List (List C) × Int), Sp.b1I l y.1 y.2.1 y.2.2 ∧ iSub x.1 1 = y.1 ∧ Sp.dT x.2.1 7 = y.2.1 ∧ iOr IntKind.i64 x.2.2 (iShl 1 (iAdd 1 (Sp.dN x.2.1 7))) = y.2.2 ∧ nLt y.1.toNat x.1.toNat)) ((pLe 1 (iLen Sp.bxR) ∧ pLe (iLen Sp.bxR) 100) ∧ (WL hII (Sp.mkS (Sp.seY Sp.bxR x.2.1)) → (pLe 1 (iLen Sp.bxZ) ∧ pLe (iLen Sp.bxZ) 100) ∧ (WL hII (m141_1 x) → True ∧ (InR .i64 (Sp.dN (Sp.seT Sp.bxZ (Sp.seT Sp.bxR x.2.1)) 3) → InR .i64 (iAdd 1 (Sp.dN (Sp.seT Sp.bxZ (Sp.seT Sp.bxR x.2.1)) 3)) ∧ (∃ (x_1 : Int × List (List C) × List (List C)), Sp.b2I l x_1.1 x_1.2.1 x_1.2.2 ∧ iAdd 1 (Sp.dN (Sp.seT Sp.bxZ (Sp.seT Sp.bxR x.2.1)) 3) = x_1.1 ∧ Sp.dT (Sp.seT Sp.bxZ (Sp.seT Sp.bxR x.2.1)) 3 = x_1.2.1 ∧ Sm x.2.2 ∧ Sm (Sp.mkS (Sp.seY Sp.bxR x.2.1)) ∧ Sm (m141_1 x) ∧ [] = x_1.2.2) ∧ ∀ (x_1 : Int × List (List C) × List (List C)), Sp.b2I l x_1.1 x_1.2.1 x_1.2.2 → InR .i64 x_1.1 ∧ WL hB x_1.2.1 ∧ InR .i64 x.2.2 ∧ WL hII (Sp.mkS (Sp.seY Sp.bxR x.2.1)) ∧ WL hII (m141_1 x) ∧ WL [Sh.sl hI] x_1.2.2 → Cn (bLt 0 x_1.1) (True ∧ (WL hI (m141_0 x_1) → pLe (iLen x_1.2.2) 9223372036854775807 → (∃ (x : Int), Sp.b3I x_1.2.2 (m141_0 x_1) x ∧ 0 = x ∧ false = Sp.anT x_1.2.2 (m141_0 x_1) x) ∧ ∀ (x_2 : Int), Sp.b3I x_1.2.2 (m141_0 x_1) x_2 → InR .i64 x_2 → Cn (bLt x_2 (iLen x_1.2.2)) (pIn 0 (iLen x_1.2.2) x_2 ∧ (WL hI (ql 0 (rGet x_1.2.2 x_2)) → Cn (Sp.anT x_1.2.2 (m141_0 x_1) x_2) (InR .i64 (iAdd x_2 1) ∧ Sm x.1 ∧ Sm x_1.1 ∧ Sm (m141_0 x_1) ∧ Sm (iLen x_1.2.2) ∧ Sm [C.l (Sp.dT x_1.2.1 7)] ∧ Sm x.2.2 ∧ Sm (Sp.mkS (Sp.seY Sp.bxR x.2.1)) ∧ Sm (m141_1 x) ∧ Sm x_1.2.2 ∧ ∃ (y : Int), Sp.b3I x_1.2.2 (m141_0 x_1) y ∧ iAdd x_2 1 = y ∧ true = Sp.anT x_1.2.2 (m141_0 x_1) y ∧ nLt (x_1.2.2.length - y.toNat) (x_1.2.2.length - x_2.toNat)) (pLe (iLen (ql 0 (rGet x_1.2.2 x_2))) 9223372036854775807 → pLe (iLen (m141_0 x_1)) 9223372036854775807 → Cn (bEq (iLen (ql 0 (rGet x_1.2.2 x_2))) (iLen (m141_0 x_1))) (pIn 0 (iLen (ql 0 (rGet x_1.2.2 x_2))) 0 ∧ (InR .i64 (qi 0 (rGet (ql 0 (rGet x_1.2.2 x_2)) 0)) → pIn 0 (iLen (m141_0 x_1)) 0 ∧ (InR .i64 (qi 0 (rGet (m141_0 x_1) 0)) → InR .i64 (iAdd x_2 1) ∧ Sm x.1 ∧ Sm x_1.1 ∧ Sm (m141_0 x_1) ∧ Sm (iLen x_1.2.2) ∧ Sm [C.l (Sp.dT x_1.2.1 7)] ∧ Sm x.2.2 ∧ Sm (Sp.mkS (Sp.seY Sp.bxR x.2.1)) ∧ Sm (m141_1 x) ∧ Sm x_1.2.2 ∧ ∃ (y : Int), Sp.b3I x_1.2.2 (m141_0 x_1) y ∧ iAdd x_2 1 = y ∧ bEq (qi 0 (rGet (ql 0 (rGet x_1.2.2 x_2)) 0)) (qi 0 (rGet (m141_0 x_1) 0)) = Sp.anT x_1.2.2 (m141_0 x_1) y ∧ nLt (x_1.2.2.length - y.toNat) (x_1.2.2.length - x_2.toNat)))) (InR .i64 (iAdd x_2 1) ∧ Sm x.1 ∧ Sm x_1.1 ∧ Sm (m141_0 x_1) ∧ Sm (iLen x_1.2.2) ∧ Sm [C.l (Sp.dT x_1.2.1 7)] ∧ Sm x.2.2 ∧ Sm (Sp.mkS (Sp.seY Sp.bxR x.2.1)) ∧ Sm (m141_1 x) ∧ Sm x_1.2.2 ∧ ∃ (y : Int), Sp.b3I x_1.2.2 (m141_0 x_1) y ∧ iAdd x_2 1 = y ∧ false = Sp.anT x_1.2.2 (m141_0 x_1) y ∧ nLt (x_1.2.2.length - y.toNat) (x_1.2.2.length - x_2.toNat))))) (True ∧ Cn (bNot (Sp.anT x_1.2.2 (m141_0 x_1) x_2)) (pRoom 24 (iLen (x_1.2.2 ++ [[C.l (m141_0 x_1)]])) ∧ InR .i64 (iSub x_1.1 1) ∧ Sm x.1 ∧ ∃ (y : Int × List (List C) × List (List C)), Sp.b2I l y.1 y.2.1 y.2.2 ∧ iSub x_1.1 1 = y.1 ∧ Sp.dT x_1.2.1 7 = y.2.1 ∧ Sm x.2.2 ∧ Sm (Sp.mkS (Sp.seY Sp.bxR x.2.1)) ∧ Sm (m141_1 x) ∧ x_1.2.2 ++ [[C.l (m141_0 x_1)]] = y.2.2 ∧ nLt y.1.toNat x_1.1.toNat) (InR .i64 (iSub x_1.1 1) ∧ Sm x.1 ∧ ∃ (y : Int × List (List C) × List (List C)), Sp.b2I l y.1 y.2.1 y.2.2 ∧ iSub x_1.1 1 = y.1 ∧ Sp.dT x_1.2.1 7 = y.2.1 ∧ Sm x.2.2 ∧ Sm (Sp.mkS (Sp.seY Sp.bxR x.2.1)) ∧ Sm (m141_1 x) ∧ x_1.2.2 = y.2.2 ∧ nLt y.1.toNat x_1.1.toNat)))) (x_1.2.1 = Sp.bxT l ∧ x.2.2 = qi 0 (Sp.bxV l) ∧ Sp.mkS (Sp.seY Sp.bxR x.2.1) = ql 1 (Sp.bxV l) ∧ x_1.2.2 = ql 2 (Sp.bxV l) ∧ Sp.mkS (Sp.seY Sp.bxZ (Sp.seT Sp.bxR x.2.1)) = ql 3 (Sp.bxV l)))))))) := by
 intro hw hp
 delta m141_0 m141_1
 have n1 := Sp.dN_bd (l := l) (n := 7) (by omega)
 have n2 := Sp.dN_bd (l := Sp.dT l 7) (n := 3) (by omega)
 have s1 := Sp.bx_sh n1.1 n1.2
 have lr : (Sp.bxR.length : Int) = 5 := rfl
 have lz : (Sp.bxZ.length : Int) = 4 := rfl
 simp only [D, E]
 refine fun _ => ⟨s1.1, s1.2, fun _ => ⟨⟨(Sp.dN (Sp.dT l 7) 3, Sp.dT (Sp.dT l 7) 3, _), ⟨⟨n2.1, by simp only; omega⟩, rfl⟩, rfl, rfl, rfl⟩, ?_⟩⟩
 rintro ⟨n, k, v⟩ ⟨⟨a0, a1⟩, a2⟩ _
 simp only at a0 a1 a2 ⊢
 have n3 := Sp.dN_bd (l := k) (n := 7) (by omega)
 have s2 := Sp.bx_sh n3.1 n3.2
 refine ⟨fun h _ => ⟨s2.1, s2.2, by simp only [InR]; omega, (n - 1, _, _), ⟨⟨by simp only; omega, by simp only; omega⟩, ?_⟩, rfl, rfl, rfl, by simp only; omega⟩, fun h => ⟨by omega, fun _ => ⟨by omega, fun _ _ => ?_⟩⟩⟩
 · rw [← a2, show n.toNat = (n - 1).toNat + 1 by omega, Sp.bxK]; rfl
 rw [show n.toNat = 0 by omega] at a2
 have e1 : Sp.bx1 l = (k, v) := a2.symm
 have e2 : Sp.bx2 l = Sp.seT Sp.bxR k := by unfold Sp.bx2; rw [e1]
 have e3 : Sp.bx3 l = Sp.seT Sp.bxZ (Sp.seT Sp.bxR k) := by unfold Sp.bx3; rw [e2]
 rw [← e2, ← show Sp.bx3 l = Sp.seT Sp.bxZ (Sp.bx2 l) from rfl]
 have n4 := Sp.dN_bd (l := Sp.bx3 l) (n := 3) (by omega)
 refine ⟨by simp only [InR]; omega, ⟨(1 + Sp.dN (Sp.bx3 l) 3, Sp.dT (Sp.bx3 l) 3, []), ⟨⟨by simp only; omega, by simp only; omega, by simp only [List.length_nil]; omega⟩, rfl, rfl⟩, rfl, rfl, rfl⟩, ?_⟩
 rintro ⟨c, g, ms⟩ ⟨⟨c0, c1, c2⟩, c3, c4⟩ _
 simp only at c0 c1 c2 c3 c4 ⊢
 have n5 := Sp.dN_bd (l := g) (n := 7) (by omega)
 have ml := Sp.mpV_len n5.1 n5.2
 refine ⟨fun h _ _ => ⟨⟨0, ⟨Int.le_refl _, by omega, trivial⟩, rfl, rfl⟩, ?_⟩, fun h => ?_⟩
 · intro j ⟨j0, j1, _⟩ _
   have st : j < (ms.length : Int) → ∀ {b : Bool}, b = (Sp.anT ms (Sp.mpV (Sp.dN g 7)) j || Sp.bxQ (Sp.mpV (Sp.dN g 7)) (rGet ms j)) → ∃ y, Sp.b3I ms (Sp.mpV (Sp.dN g 7)) y ∧ j + 1 = y ∧ b = Sp.anT ms (Sp.mpV (Sp.dN g 7)) y ∧ ms.length - y.toNat < ms.length - j.toNat := fun hl b e => ⟨j + 1, ⟨by omega, by omega, trivial⟩, rfl, by rw [Sp.an_s j0 hl]; exact e, by omega⟩
   have q : Sp.bxQ (Sp.mpV (Sp.dN g 7)) (rGet ms j) = (decide ((ql 0 (rGet ms j)).length = (Sp.mpV (Sp.dN g 7)).length) && decide (qi 0 (rGet (ql 0 (rGet ms j)) 0) = qi 0 (rGet (Sp.mpV (Sp.dN g 7)) 0))) := rfl
   have ix : j < (ms.length : Int) → InR .i64 (j + 1) := fun _ => by simp only [InR]; omega
   refine ⟨fun hl => ⟨⟨j0, hl⟩, fun _ => ⟨fun ha => ⟨ix hl, st hl (by rw [ha]; rfl)⟩, fun ha _ _ => ⟨fun hb => ⟨⟨by omega, by omega⟩, fun _ => ⟨⟨by omega, by omega⟩, fun _ => ⟨ix hl, st hl ?_⟩⟩⟩, fun hb => ⟨ix hl, st hl ?_⟩⟩⟩⟩, fun hl => ?_⟩
   · rw [ha, q, decide_eq_true (show (ql 0 (rGet ms j)).length = (Sp.mpV (Sp.dN g 7)).length by omega)]; rfl
   · rw [ha, q, decide_eq_false (show ¬ (ql 0 (rGet ms j)).length = (Sp.mpV (Sp.dN g 7)).length by omega)]; rfl
   · rw [Sp.an_e hl]
     rw [show c.toNat = (c - 1).toNat + 1 by omega, Sp.bxM] at c4
     refine ⟨fun hb => ⟨by rw [List.length_append, List.length_singleton]; omega, by simp only [InR]; omega, (c - 1, Sp.dT g 7, ms ++ [[C.l (Sp.mpV (Sp.dN g 7))]]), ⟨⟨by simp only; omega, by simp only; omega, by simp; omega⟩, by rw [List.all_append, c3, List.all_cons, List.all_nil, decide_eq_true (show 1 ≤ (ql 0 [C.l (Sp.mpV (Sp.dN g 7))]).length from ml.1)]; rfl, ?_⟩, rfl, rfl, rfl, by simp only; omega⟩, fun hb => ⟨by simp only [InR]; omega, (c - 1, Sp.dT g 7, ms), ⟨⟨by simp only; omega, by simp only; omega, by simp only; omega⟩, c3, ?_⟩, rfl, rfl, rfl, by simp only; omega⟩⟩
     · simp only; rw [← c4, if_neg (by simp [hb])]
     · simp only; rw [← c4, if_pos hb]
 · rw [show c.toNat = 0 by omega] at c4
   have e4 : Sp.bx4 l = (g, ms) := c4.symm
   unfold Sp.bxT Sp.bxV
   rw [e4, e1]
   exact ⟨rfl, rfl, rfl, rfl, rfl⟩
def r141 : Cr PR := KB [r40, r205, r81] 141 8 { ps := [], rs := [(true, hX)], pre := fun _ => True, out := fun a => [[.l (Sp.bxT (L a 0 0))], rb [0, 3, 3, 3] (Sp.bxV (L a 0 0))], bx := some (117, [.sl hB]) } (fun a => A141 (L a 0 0)) fun a => Y (v141 (L a 0 0))
end Go.Sx

set_option linter.unusedVariables false
set_option linter.unusedSimpArgs false
set_option maxRecDepth 100000
set_option maxHeartbeats 4000000
namespace Go
open Go.Sx
def Sp.bsL : Nat → List (List C) → List (List C) → List (List C) × List (List C)
 | 0, l, ys => (l, ys)
 | n + 1, l, ys => Sp.bsL n (Sp.bxT l) (ys ++ [Sp.bxV l])
def Sp.bs (l : List (List C)) (a b : Int) : List (List C) × List (List C) := Sp.bsL (a + Sp.dN l (b - a + 1)).toNat (Sp.dT l (b - a + 1)) []
def Sp.bsI (l : List (List C)) (a b n : Int) (k ys : List (List C)) : Prop := (0 ≤ n ∧ (ys.length : Int) + n ≤ 20) ∧ Sp.bsL n.toNat k ys = Sp.bs l a b
def Sp.d1 (l : List (List C)) : List (List C) := Sp.dT l 256
def Sp.d2 (l : List (List C)) : List (List C) := Sp.dT (Sp.d1 l) 3
def Sp.d3 (l : List (List C)) : List (List C) := Sp.dT (Sp.d2 l) 4
def Sp.d4 (l : List (List C)) : List (List C) := Sp.dT (Sp.d3 l) 200
def Sp.d5 (l : List (List C)) : List (List C) := Sp.dT (Sp.d4 l) 4
def Sp.d6 (l : List (List C)) : List (List C) := Sp.dT (Sp.d5 l) 4
def Sp.nmL : List (List C) := [[.s (ByteArray.mk (Array.mk [100, 97, 99]))], [.s (ByteArray.mk (Array.mk [104, 100, 109, 105, 45, 49]))], [.s (ByteArray.mk (Array.mk [77, 105, 99, 46, 50]))]]
def Sp.drL : List (List C) := [[.i 0], [.i 66], [.i 200], [.i 7]]
def Sp.bsT (l : List (List C)) (a b : Int) : List (List C) := (Sp.bs l a b).1
def Sp.bsY (l : List (List C)) (a b : Int) : List (List C) := (Sp.bs l a b).2
def Sp.dsT (l : List (List C)) : List (List C) := Sp.bsT (Sp.d6 l) 1 2
def Sp.dsM (l : List (List C)) (r : Int) : List C := [.i (iWrap .u64 (Sp.dN l 256)), .s (qs 0 (rGet Sp.nmL (Sp.dN (Sp.d1 l) 3))), .i r, .i (Sp.dN (Sp.d2 l) 4), .i (Sp.dN (Sp.d3 l) 200), .i (qi 0 (rGet Sp.drL (Sp.dN (Sp.d4 l) 4))), .i (Sp.dN (Sp.d5 l) 4), .l (Sp.bsY (Sp.d6 l) 1 2)]
end Go
namespace Go.Sx
def A80 (l : List (List C)) (a : Int) (b : Int) : FuncId → Nat → LoopAnn := fun _ ii => bif Nat.beq ii 3 then .ghost 7 hX 110 (.inv (Int × List (List C) × List (List C)) (fun z => Sp.bsI l a b z.1 z.2.1 z.2.2) (fun z => [(8, .int .i64 z.1), (7, .own 1 0)]) (fun z => [(0, .box [.sl [.int .u8] z.2.1] 117), (1, .row hX 110 0 z.2.2)]) [0, 1] [0, 1, 2, 6, 7, 8, 18] (fun z => z.1.toNat)) else .unroll 0
theorem v80 (l : List (List C)) (a : Int) (b : Int) : WL hB l ∧ InR .i64 a ∧ InR .i64 b → pLe 0 a ∧ pLe a b ∧ pLe b 10 → InR .i64 (iSub b a) ∧ InR .i64 (iAdd (iSub b a) 1) ∧ True ∧ (InR .i64 (Sp.dN l (iAdd (iSub b a) 1)) → InR .i64 (iAdd a (Sp.dN l (iAdd (iSub b a) 1))) ∧ (∃ (x : Int × List (List C) × List (List C)), Sp.bsI l a b x.1 x.2.1 x.2.2 ∧ iAdd a (Sp.dN l (iAdd (iSub b a) 1)) = x.1 ∧ Sp.dT l (iAdd (iSub b a) 1) = x.2.1 ∧ [] = x.2.2) ∧ ∀ (x : Int × List (List C) × List (List C)), Sp.bsI l a b x.1 x.2.1 x.2.2 → InR .i64 x.1 ∧ WL hB x.2.1 ∧ WL hX x.2.2 → Cn (bLt 0 x.1) (True ∧ (InR .i64 (qi 0 (Sp.bxV x.2.1)) ∧ WL hII (ql 1 (Sp.bxV x.2.1)) ∧ WL [Sh.sl hI] (ql 2 (Sp.bxV x.2.1)) ∧ WL hII (ql 3 (Sp.bxV x.2.1)) → pRoom 80 (iLen (x.2.2 ++ [sg 0 [0, 3, 3, 3] (Sp.bxV x.2.1)])) ∧ InR .i64 (iSub x.1 1) ∧ Sm a ∧ Sm b ∧ ∃ (y : Int × List (List C) × List (List C)), Sp.bsI l a b y.1 y.2.1 y.2.2 ∧ iSub x.1 1 = y.1 ∧ Sp.bxT x.2.1 = y.2.1 ∧ x.2.2 ++ [sg 0 [0, 3, 3, 3] (Sp.bxV x.2.1)] = y.2.2 ∧ nLt y.1.toNat x.1.toNat)) (x.2.1 = Sp.bsT l a b ∧ x.2.2 = Sp.bsY l a b)) := by
 intro hw hp
 simp only [D, E] at hp ⊢
 have d := Sp.dN_bd (l := l) (n := b - a + 1) (by omega)
 refine ⟨by simp only [InR]; omega, by simp only [InR]; omega, fun _ => ⟨by simp only [InR]; omega, ⟨(a + Sp.dN l (b - a + 1), Sp.dT l (b - a + 1), []), ⟨⟨by simp only; omega, by simp only [List.length_nil]; omega⟩, rfl⟩, rfl, rfl, rfl⟩, ?_⟩⟩
 rintro ⟨n, k, ys⟩ ⟨⟨n0, n1⟩, n2⟩ _
 simp only at n0 n1 n2 ⊢
 refine ⟨fun h _ => ⟨by simp; omega, by simp only [InR]; omega, (n - 1, Sp.bxT k, ys ++ [Sp.bxV k]), ⟨⟨by simp only; omega, by simp; omega⟩, ?_⟩, rfl, rfl, rfl, by simp only; omega⟩, fun h => ?_⟩
 · rw [← n2, show n.toNat = (n - 1).toNat + 1 by omega, Sp.bsL]
 · rw [show n.toNat = 0 by omega] at n2
   have e : Sp.bs l a b = (k, ys) := n2.symm
   unfold Sp.bsT Sp.bsY
   rw [e]; exact ⟨rfl, rfl⟩
def r80 : Cr PR := KB [r40, r141] 80 8 { ps := [(false, hI), (false, hI)], rs := [(false, [.sl hX])], pre := fun a => pLe 0 (I a 1 0) ∧ (pLe (I a 1 0) (I a 2 0) ∧ pLe (I a 2 0) 10), out := fun a => [[.l (Sp.bsT (L a 0 0) (I a 1 0) (I a 2 0))], [.l (Sp.bsY (L a 0 0) (I a 1 0) (I a 2 0))]], bx := some (117, [.sl hB]) } (fun a => A80 (L a 0 0) (I a 1 0) (I a 2 0)) fun a => Y (v80 (L a 0 0) (I a 1 0) (I a 2 0))
end Go.Sx
namespace Go.Sx
def m39_0 (l : List (List C)) : List (List C) := (Sp.dT (Sp.dT (Sp.dT (Sp.dT l 256) 3) 4) 200)
theorem v39 (l : List (List C)) (r : Int) : WL hB l ∧ InR .i64 r → True → True ∧ (InR .i64 (Sp.dN l 256) → True ∧ (InR .i64 (Sp.dN (Sp.dT l 256) 3) → pIn 0 (iLen Sp.nmL) (Sp.dN (Sp.dT l 256) 3) ∧ (StrOk (qs 0 (rGet Sp.nmL (Sp.dN (Sp.dT l 256) 3))) → True ∧ (InR .i64 (Sp.dN (Sp.dT (Sp.dT l 256) 3) 4) → True ∧ (InR .i64 (Sp.dN (Sp.dT (Sp.dT (Sp.dT l 256) 3) 4) 200) → True ∧ (InR .i64 (Sp.dN (m39_0 l) 4) → pIn 0 (iLen Sp.drL) (Sp.dN (m39_0 l) 4) ∧ (InR .i64 (qi 0 (rGet Sp.drL (Sp.dN (m39_0 l) 4))) → True ∧ (InR .i64 (Sp.dN (Sp.dT (m39_0 l) 4) 4) → (pLe 0 1 ∧ pLe 1 2 ∧ pLe 2 10) ∧ (WL hX (Sp.bsY (Sp.dT (Sp.dT (m39_0 l) 4) 4) 1 2) → Sp.bsT (Sp.dT (Sp.dT (m39_0 l) 4) 4) 1 2 = Sp.dsT l ∧ [C.i (iWrap .u64 (Sp.dN l 256)), C.s (qs 0 (rGet Sp.nmL (Sp.dN (Sp.dT l 256) 3))), C.i r, C.i (Sp.dN (Sp.dT (Sp.dT l 256) 3) 4), C.i (Sp.dN (Sp.dT (Sp.dT (Sp.dT l 256) 3) 4) 200), C.i (qi 0 (rGet Sp.drL (Sp.dN (m39_0 l) 4))), C.i (Sp.dN (Sp.dT (m39_0 l) 4) 4), C.l (Sp.bsY (Sp.dT (Sp.dT (m39_0 l) 4) 4) 1 2)] = sg 0 [0, 2, 0, 0, 0, 0, 0, 3] (Sp.dsM l r)))))))))) := by
 intro hw hp
 delta m39_0
 have a := Sp.dN_bd (l := Sp.d1 l) (n := 3) (by omega)
 have b := Sp.dN_bd (l := Sp.d4 l) (n := 4) (by omega)
 simp only [D, E]
 exact fun _ _ => ⟨a, fun _ _ _ _ => ⟨b, fun _ _ => ⟨⟨by omega, by omega, by omega⟩, fun _ => ⟨rfl, rfl⟩⟩⟩⟩
def r39 : Cr PR := KB [r40, r80, (mark 1000145), (mark 1000028)] 39 8 { ps := [(false, hI)], rs := [(true, hD)], pre := fun _ => True, out := fun a => [[.l (Sp.dsT (L a 0 0))], rb [0, 2, 0, 0, 0, 0, 0, 3] (Sp.dsM (L a 0 0) (I a 1 0))], bx := some (117, [.sl hB]) } U fun a => Y (v39 (L a 0 0) (I a 1 0))
end Go.Sx

set_option linter.unusedVariables false
set_option linter.unusedSimpArgs false
set_option maxRecDepth 100000
set_option maxHeartbeats 4000000
namespace Go
open Go.Sx
def Sp.paB : List (List C) := [[.i 4, .l [[.i 48000, .i 48000]], .l [[.l [[.i 3]]]], .l [[.i 64, .i 64]]]]
def Sp.paX : List C := sga 0 [0, 2, 0, 0, 0, 0, 0] (Sp.dsM [] 1) [.l Sp.paB]
def Sp.paV : List C := [.i 0, .s (ByteArray.mk (Array.mk [100, 97, 99])), .i 1, .i 0, .i 0, .i 0, .i 0, .l Sp.paB, .i 2, .i 48000, .l [[.i 3]], .i 64, .i 48000, .i 16, .l [[.i 0, .i 1, .i 1]], .b false, .i 0, .i 37, .i 29, .i 4, .i 16, .i 0, .i 1, .i 1, .i 1, .i 0, .i 0, .i 0, .l (Sp.zrs 13), .i 0, .i 0]
end Go
namespace Go
open Go.Sx
theorem Sp.pa_e : Sp.opE Sp.paX 2 48000 [[.i 3]] 64 [[.i 0, .i 1, .i 1]] 48000 16 = 0 := by kernel_rfl
theorem Sp.pa_v : Sp.opV Sp.paX 2 48000 [[.i 3]] 64 [[.i 0, .i 1, .i 1]] 48000 16 = Sp.paV := by kernel_rfl
end Go
namespace Go.Sx
theorem v12  : geB none (some (min 0 300)) 0 ∧ True ∧ (WD hD (Sp.dsM [] 1) → True ∧ (WD hV (Sp.opV Sp.paX 2 48000 [[C.i 3]] 64 [[C.i 0, C.i 1, C.i 1]] 48000 16) ∧ InR .i64 (Sp.opE Sp.paX 2 48000 [[C.i 3]] 64 [[C.i 0, C.i 1, C.i 1]] 48000 16) → sg 0 [0, 2, 0, 0, 0, 0, 0, 3, 0, 0, 3, 0, 0, 0, 3, 1, 0, 0, 0, 0, 0, 0, 0, 0, 0, 0, 0, 0, 3, 0, 0] (Sp.opV Sp.paX 2 48000 [[C.i 3]] 64 [[C.i 0, C.i 1, C.i 1]] 48000 16) = sg 0 [0, 2, 0, 0, 0, 0, 0, 3, 0, 0, 3, 0, 0, 0, 3, 1, 0, 0, 0, 0, 0, 0, 0, 0, 0, 0, 0, 0, 3, 0, 0] Sp.paV ∧ Sp.opE Sp.paX 2 48000 [[C.i 3]] 64 [[C.i 0, C.i 1, C.i 1]] 48000 16 = 0)) := by
 exact ⟨⟨by decide, by decide⟩, trivial, fun _ => ⟨trivial, fun _ => by rw [Sp.pa_e, Sp.pa_v]; exact ⟨rfl, rfl⟩⟩⟩
def r12 : Cr PR := K0 [r39, r48] 12 8 { ps := [], rs := [(true, hV), (false, hI)], pre := fun _ => True, out := fun _ => [rb [0, 2, 0, 0, 0, 0, 0, 3, 0, 0, 3, 0, 0, 0, 3, 1, 0, 0, 0, 0, 0, 0, 0, 0, 0, 0, 0, 0, 3, 0, 0] (Sp.paV), [.i 0]] } U fun a => Y (v12)
end Go.Sx
namespace Go.Sx
theorem cT {b : Bool} {X Y : Prop} (h : b = true) (x : X) : Cn b X Y := Cn_iff.2 ⟨fun _ => x, fun h' => by rw [h] at h'; cases h'⟩
end Go.Sx
namespace Go.Sx
def m11_0 : List (List C) := (Sp.pyD (Sp.stV Sp.paV 16) 1 (Sp.wv 1 1 16) 16 32)
def m11_1 : List C := (Sp.pyV (Sp.stV Sp.paV 16) 1 (Sp.wv 1 1 16) 16 32)
theorem v11  : True ∧ (WD hV Sp.paV ∧ InR .i64 0 → True ∧ (WD hV (Sp.stV Sp.paV 16) ∧ InR .i64 (Sp.stE Sp.paV 16) → True ∧ (InR .i64 (Sp.duV (Sp.stV Sp.paV 16) 16 32) ∧ InR .i64 (Sp.duE (Sp.stV Sp.paV 16) 16 32) → (Sm (0 : Int) ∧ pLe 0 1 ∧ pLe 1 100 ∧ pLe 1 12 ∧ pLe 16 70000) ∧ (InR .i64 1 ∧ WL hW (Sp.wv 1 1 16) → True ∧ (InR .i64 (Sp.pyC (Sp.stV Sp.paV 16) 1 (Sp.wv 1 1 16) 16 32) ∧ WL hW m11_0 ∧ InR .i64 (Sp.pyL (Sp.stV Sp.paV 16) 1 (Sp.wv 1 1 16) 16 32) ∧ InR .i64 (Sp.pyM (Sp.stV Sp.paV 16) 1 (Sp.wv 1 1 16) 16 32) ∧ WD hV m11_1 ∧ InR .i64 (Sp.pyE (Sp.stV Sp.paV 16) 1 (Sp.wv 1 1 16) 16 32) → Cn (bEq 0 0) (Cn (bEq (Sp.stE Sp.paV 16) 0) (Cn (bEq (Sp.duE (Sp.stV Sp.paV 16) 16 32) 0) (Cn (bEq (Sp.pyE (Sp.stV Sp.paV 16) 1 (Sp.wv 1 1 16) 16 32) 0) (Cn (bEq (Sp.duV (Sp.stV Sp.paV 16) 16 32) 16) (pLe (iLen m11_0) 9223372036854775807 → Cn (bEq (iLen m11_0) 16) (pIn 0 (iLen m11_0) 12 ∧ (InR .i32 (qi 0 (rGet m11_0 12)) → Cn (bEq (qi 0 (rGet m11_0 12)) 0) (pIn 0 (iLen m11_0) 13 ∧ (InR .i32 (qi 0 (rGet m11_0 13)) → pIn 0 (iLen (Sp.wv 1 1 16)) 0 ∧ (InR .i32 (qi 0 (rGet (Sp.wv 1 1 16) 0)) → Cn (bEq (qi 0 (rGet m11_0 13)) (qi 0 (rGet (Sp.wv 1 1 16) 0))) (Cn (bEq (Sp.pyL (Sp.stV Sp.paV 16) 1 (Sp.wv 1 1 16) 16 32) 0) (Cn (bEq (Sp.pyM (Sp.stV Sp.paV 16) 1 (Sp.wv 1 1 16) 16 32) 0) (True ∧ Cn (Sp.dvV m11_1) (True ∧ (InR .i64 (Sp.bgF (sg 17 [0, 0, 0, 0, 0, 0, 0, 0, 0, 0, 0, 3, 0, 0] m11_1)) → True ∧ (InR .i64 (Sp.bgF (sg 17 [0, 0, 0, 0, 0, 0, 0, 0, 0, 0, 0, 3, 0, 0] (Sp.stV Sp.paV 16))) → bEq (Sp.bgF (sg 17 [0, 0, 0, 0, 0, 0, 0, 0, 0, 0, 0, 3, 0, 0] m11_1)) (Sp.bgF (sg 17 [0, 0, 0, 0, 0, 0, 0, 0, 0, 0, 0, 3, 0, 0] (Sp.stV Sp.paV 16))) = true))) (false = true)) (false = true)) (false = true)) (false = true)))) (false = true))) (false = true)) (false = true)) (false = true)) (false = true)) (false = true)) (false = true)))))) := by
 delta m11_0 m11_1
 have l1 : iLen (Sp.pyD (Sp.stV Sp.paV 16) 1 (Sp.wv 1 1 16) 16 32) = 16 := by kernel_rfl
 have l2 : iLen (Sp.wv 1 1 16) = 16 := by kernel_rfl
 refine ⟨trivial, fun _ => ⟨trivial, fun _ => ⟨trivial, fun _ => ⟨⟨Sm_iff.2 trivial, by decide, by decide, by decide, by decide⟩, fun _ => ⟨trivial, fun _ => cT rfl (cT (by kernel_rfl) (cT (by kernel_rfl) (cT (by kernel_rfl) (cT (by kernel_rfl) fun _ => cT (by kernel_rfl) ⟨?_, fun _ => cT (by kernel_rfl) ⟨?_, fun _ => ⟨?_, fun _ => cT (by kernel_rfl) (cT (by kernel_rfl) (cT (by kernel_rfl) ⟨trivial, cT (by kernel_rfl) ⟨trivial, fun _ => ⟨trivial, fun _ => by kernel_rfl⟩⟩⟩))⟩⟩⟩))))⟩⟩⟩⟩⟩
 · rw [l1]; exact ⟨by decide, by decide⟩
 · rw [l1]; exact ⟨by decide, by decide⟩
 · rw [l2]; exact ⟨by decide, by decide⟩
def r11 : Cr PR := K0 [r12, r13, r24, r23, r18, r25, r15] 11 8 { ps := [], rs := [(false, [.bool])], pre := fun _ => True, out := fun _ => [[.b true]] } U fun a => Y (v11)
end Go.Sx

set_option linter.unusedVariables false
set_option linter.unusedSimpArgs false
set_option maxRecDepth 100000
set_option maxHeartbeats 4000000
namespace Go
open Go.Sx
theorem Sp.push_ok {g : List C} {ch : Int} {da : List (List C)} (hg : Sp.bgV g = true) (hb : Sp.blk ch da = true) (hc : ch = qi 5 g) (hl : qi 12 g ≤ 4611686018427387904) :
 Sp.puE g ch da = 0 ∧ (0 ≤ Sp.puN g ch da ∧ Sp.puN g ch da ≤ (da.length : Int) / ch ∧ Sp.puN g ch da ≤ qi 0 g - Sp.rsW (Sp.br g) ∧ (Sp.puN g ch da = (da.length : Int) / ch ∨ Sp.puN g ch da = qi 0 g - Sp.rsW (Sp.br g))) ∧ Sp.puL g ch da = (da.length : Int) / ch - Sp.puN g ch da ∧
 Sp.puV g ch da = sga 0 [0, 0, 0, 0, 0, 0, 0, 0, 0, 0, 0] g [.l (ql 11 g ++ da.take (Sp.puN g ch da * ch).toNat), .i (qi 12 g + Sp.puL g ch da), .i (qi 13 g)] ∧
 Sp.bgV (Sp.puV g ch da) = true ∧ Sp.rsW (Sp.br (Sp.puV g ch da)) = Sp.rsW (Sp.br g) + Sp.puN g ch da := by
 have v := Sp.bgV_of hg
 have l := Sp.blk_len hb
 have c := Sp.frm_of hb
 have e : Sp.puE g ch da = 0 := by unfold Sp.puE; rw [if_neg (by simp [hg, hb]), if_neg (by omega)]
 have nb : 0 ≤ Sp.puN g ch da ∧ Sp.puN g ch da ≤ (da.length : Int) / ch ∧ Sp.puN g ch da ≤ qi 0 g - Sp.rsW (Sp.br g) ∧ (Sp.puN g ch da = (da.length : Int) / ch ∨ Sp.puN g ch da = qi 0 g - Sp.rsW (Sp.br g)) := by unfold Sp.puN; omega
 have eL : Sp.puL g ch da = (da.length : Int) / ch - Sp.puN g ch da := if_pos e
 have t := Sp.blk_take hb nb.1 nb.2.1
 have r := Sp.rsV_of v.1
 have lr : ((ql 11 g).length : Int) = qi 5 g * Sp.rsW (Sp.br g) := by rw [Sp.rsW_of v.1]; exact (Sp.blk_len r.2).1
 have w := Sp.rsW_bd v.1
 have pv : Sp.puV g ch da = sga 0 [0, 0, 0, 0, 0, 0, 0, 0, 0, 0, 0] g [.l (ql 11 g ++ da.take (Sp.puN g ch da * ch).toNat), .i (qi 12 g + Sp.puL g ch da), .i (qi 13 g)] := by
  rw [show Sp.puV g ch da = _ from if_pos e, Sp.wrapi (by omega) (by omega)]; rfl
 have ql : ((ql 11 g ++ da.take (Sp.puN g ch da * ch).toNat).length : Int) = qi 5 g * (Sp.rsW (Sp.br g) + Sp.puN g ch da) := by
  rw [List.length_append, Int.natCast_add, lr, t.2, Int.mul_add, ← hc, Int.mul_comm ch (Sp.puN g ch da)]
 have qd : ((Go.Sx.ql 11 g ++ da.take (Sp.puN g ch da * ch).toNat).length : Int) / qi 5 g = Sp.rsW (Sp.br g) + Sp.puN g ch da := by rw [ql, Int.mul_ediv_cancel_left _ (by omega)]
 have bl : Sp.blk (qi 5 g) (Go.Sx.ql 11 g ++ da.take (Sp.puN g ch da * ch).toNat) = true := by
  rw [Sp.blk_yes ⟨by omega, by omega, by rw [ql, Int.mul_emod_right], by rw [qd]; omega⟩, List.all_append]
  exact Bool.and_eq_true_iff.2 ⟨Sp.blk_all r.2, Sp.blk_all t.1⟩
 have rv : Sp.rsV (Sp.br (Sp.puV g ch da)) = true := by
  rw [pv]
  show (Sp.phV (Sp.rp (Sp.br g)) && Sp.blk (qi 5 g) (Go.Sx.ql 11 g ++ da.take (Sp.puN g ch da * ch).toNat)) = true
  rw [r.1, bl]; rfl
 have rw' : Sp.rsW (Sp.br (Sp.puV g ch da)) = Sp.rsW (Sp.br g) + Sp.puN g ch da := by
  rw [Sp.rsW_of rv, ← qd, pv]; rfl
 refine ⟨e, nb, eL, pv, ?_, rw'⟩
 unfold Sp.bgV
 rw [rv, rw', pv]
 simp only [Bool.and_eq_true, decide_eq_true_eq]
 exact ⟨trivial, v.2.1, v.2.2.1, v.2.2.2.1, by show _ ≤ qi 0 g; omega, by show 0 ≤ qi 12 g + Sp.puL g ch da; omega, v.2.2.2.2.2.2⟩
theorem Sp.pull_ok {b : List C} {n : Int} (hb : Sp.bgV b = true) (h0 : 0 ≤ n) (h1 : n ≤ 65536) (hp : qi 9 b ≤ 1125899906777088) (hm : qi 13 b ≤ 4611686018427387904) :
 Sp.plE b n = 0 ∧ (0 ≤ Sp.plM b n ∧ Sp.plM b n ≤ n ∧ ∀ m, 0 ≤ m → m ≤ n → Sp.phN (Sp.pP b) m ≤ Sp.rsW (Sp.br b) → m ≤ Sp.plM b n) ∧ (0 ≤ Sp.frK (Sp.pR b) (Sp.plM b n) ∧ Sp.frK (Sp.pR b) (Sp.plM b n) ≤ Sp.rsW (Sp.br b)) ∧
 Sp.plV b n = [.i (qi 0 b), .i (qi 1 b), .i (qi 2 b), .i (qi 3 b), .i (qi 4 b), .i (qi 5 b), .i (qi 6 b), .i (qi 7 b), .i (Sp.pA b), .i (qi 9 b + Sp.frK (Sp.pR b) (Sp.plM b n)), .i (Sp.frF (Sp.pR b) (Sp.plM b n)), .l ((ql 11 b).drop (Sp.frK (Sp.pR b) (Sp.plM b n) * qi 5 b).toNat), .i (qi 12 b), .i (qi 13 b + (n - Sp.plM b n))] ∧
 Sp.bgV (Sp.plV b n) = true ∧ Sp.rsW (Sp.br (Sp.plV b n)) = Sp.rsW (Sp.br b) - Sp.frK (Sp.pR b) (Sp.plM b n) ∧ ((Sp.plD b n).length : Int) = n * qi 5 b ∧ Sp.plC b n = qi 5 b ∧ Sp.plN b n = n - Sp.plM b n := by
 have q := Sp.pull hb h0 h1
 have v := Sp.bgV_of hb
 have r := Sp.rsV_of v.1
 have c := Sp.frm_of r.2
 have c0 : 1 ≤ qi 5 b ∧ qi 5 b ≤ 8 := ⟨c.1, c.2.1⟩
 have w := Sp.rsW_bd v.1
 have p := Sp.pP_eq hb
 have er := q.2.2.1
 have M0 := q.2.2.2.1
 have M1 := q.2.2.2.2.1
 have kb := Sp.phA_bd (n := Sp.plM b n) p.2 M0 (by omega)
 have pe := Sp.phE0 (n := Sp.plM b n) p.2 M0 (by omega)
 have eK : Sp.frK (Sp.pR b) (Sp.plM b n) = Sp.phA (Sp.pP b) (Sp.plM b n) / Sp.phQ (Sp.pP b) := by unfold Sp.frK; rw [er]
 have eF : Sp.frF (Sp.pR b) (Sp.plM b n) = Sp.phA (Sp.pP b) (Sp.plM b n) % Sp.phQ (Sp.pP b) := by unfold Sp.frF; rw [er]
 have KW : Sp.frK (Sp.pR b) (Sp.plM b n) ≤ Sp.rsW (Sp.br b) := by
  have h := q.2.2.2.2.2.1
  rw [eK]
  by_cases hz : Sp.plM b n = 0
  · have pv := Sp.phV_of p.2
    rw [hz]
    unfold Sp.phA
    rw [Int.zero_mul, Int.add_zero, Int.ediv_eq_zero_of_lt (by omega) (by omega)]; omega
  · unfold Sp.phN at h; rw [if_neg hz] at h; omega
 have K0 : 0 ≤ Sp.frK (Sp.pR b) (Sp.plM b n) := by rw [eK]; omega
 have pos : qi 3 (Sp.pP b) = qi 9 b := by rw [p.1]; rfl
 have eX : Sp.phX (Sp.pP b) (Sp.plM b n) = qi 9 b + Sp.frK (Sp.pR b) (Sp.plM b n) := by rw [pe.2.1, eK, pos]
 have es : Sp.psE (Sp.pR b) (Sp.plM b n) = 0 := by
  unfold Sp.psE Sp.avE
  rw [er, if_neg (by rw [eX]; omega)]
  exact pe.1
 have e0 : Sp.plE b n = 0 := q.2.2.2.2.2.2.trans es
 have y := Sp.pl_yes e0
 have lr : ((ql 11 b).length : Int) = qi 5 b * Sp.rsW (Sp.br b) := by rw [Sp.rsW_of v.1]; exact (Sp.blk_len r.2).1
 have mb := mul_bd (x := Sp.frK (Sp.pR b) (Sp.plM b n)) (X := 65536) (y := qi 5 b) (Y := 8) K0 (by omega) (by omega) (by omega)
 have pg : Sp.psG (Sp.pR b) (Sp.plM b n) = Sp.frK (Sp.pR b) (Sp.plM b n) * qi 5 b := by
  unfold Sp.psG
  rw [q.2.1, Int.min_eq_left KW]; rfl
 have pv : Sp.plV b n = [.i (qi 0 b), .i (qi 1 b), .i (qi 2 b), .i (qi 3 b), .i (qi 4 b), .i (qi 5 b), .i (qi 6 b), .i (qi 7 b), .i (Sp.pA b), .i (qi 9 b + Sp.frK (Sp.pR b) (Sp.plM b n)), .i (Sp.frF (Sp.pR b) (Sp.plM b n)), .l ((ql 11 b).drop (Sp.frK (Sp.pR b) (Sp.plM b n) * qi 5 b).toNat), .i (qi 12 b), .i (qi 13 b + (n - Sp.plM b n))] := by
  rw [y.2.2.2, show Sp.psV (Sp.pR b) (Sp.plM b n) = _ from if_pos es, er, eX, pe.2.2, ← eF, pg, Sp.wrapi (by omega) (by omega)]
  unfold Sp.pR
  rw [p.1]; rfl
 have ld : (((ql 11 b).drop (Sp.frK (Sp.pR b) (Sp.plM b n) * qi 5 b).toNat).length : Int) = qi 5 b * (Sp.rsW (Sp.br b) - Sp.frK (Sp.pR b) (Sp.plM b n)) := by
  have m := Int.mul_le_mul_of_nonneg_right KW (show 0 ≤ qi 5 b by omega)
  rw [Int.mul_comm (Sp.rsW (Sp.br b))] at m
  rw [List.length_drop, Int.mul_sub, Int.mul_comm (qi 5 b) (Sp.frK (Sp.pR b) (Sp.plM b n))]; omega
 have qd : (((ql 11 b).drop (Sp.frK (Sp.pR b) (Sp.plM b n) * qi 5 b).toNat).length : Int) / qi 5 b = Sp.rsW (Sp.br b) - Sp.frK (Sp.pR b) (Sp.plM b n) := by rw [ld, Int.mul_ediv_cancel_left _ (by omega)]
 have bl : Sp.blk (qi 5 b) ((ql 11 b).drop (Sp.frK (Sp.pR b) (Sp.plM b n) * qi 5 b).toNat) = true := by
  rw [Sp.blk_yes ⟨by omega, by omega, by rw [ld, Int.mul_emod_right], by rw [qd]; omega⟩]
  exact List.all_eq_true.2 fun x hx => List.all_eq_true.1 (Sp.blk_all r.2) x (List.mem_of_mem_drop hx)
 have a := Sp.pA_bd hb
 have rv : Sp.rsV (Sp.br (Sp.plV b n)) = true := by
  rw [pv]
  show (Sp.phV [.i (qi 6 b), .i (qi 7 b), .i (Sp.pA b), .i (qi 9 b + Sp.frK (Sp.pR b) (Sp.plM b n)), .i (Sp.frF (Sp.pR b) (Sp.plM b n))] && Sp.blk (qi 5 b) ((ql 11 b).drop (Sp.frK (Sp.pR b) (Sp.plM b n) * qi 5 b).toNat)) = true
  rw [bl, Bool.and_true]
  have u := p.2
  have uv := Sp.phV_of p.2
  rw [p.1] at u
  unfold Sp.phV Sp.phQ at u ⊢
  rw [Bool.and_eq_true, decide_eq_true_eq] at u ⊢
  have eQ : Sp.phQ (Sp.pP b) = qi 7 b * 65536 := by rw [p.1]; rfl
  exact ⟨u.1, u.2.1, u.2.2.1, a.1, a.2, by show 0 ≤ qi 9 b + _; omega, by show qi 9 b + _ ≤ _; omega, by show 0 ≤ Sp.frF _ _; rw [eF]; omega, by show Sp.frF _ _ < qi 7 b * 65536; rw [eF, ← eQ]; omega⟩
 have rw' : Sp.rsW (Sp.br (Sp.plV b n)) = Sp.rsW (Sp.br b) - Sp.frK (Sp.pR b) (Sp.plM b n) := by rw [Sp.rsW_of rv, ← qd, pv]; rfl
 refine ⟨e0, ⟨M0, M1, fun m m0 m1 hn => ?_⟩, ⟨K0, KW⟩, pv, ?_, rw', ?_, y.1, y.2.2.1⟩
 · have i := (Sp.phM_iff (m := m) p.2 w.1 m0 (by omega)).1 hn
   have em : Sp.mkpV (Sp.pP b) (Sp.rsW (Sp.br b)) = Sp.phM (Sp.pP b) (Sp.rsW (Sp.br b)) := if_pos (Sp.mkpE0 p.2 w.1 (by omega))
   unfold Sp.plM
   rw [em]
   show m ≤ min _ n
   omega
 · unfold Sp.bgV
   rw [rv, rw', pv]
   simp only [Bool.and_eq_true, decide_eq_true_eq]
   exact ⟨trivial, v.2.1, v.2.2.1, v.2.2.2.1, by show _ ≤ qi 0 b; omega, v.2.2.2.2.2.1, by show 0 ≤ qi 13 b + (n - Sp.plM b n); omega⟩
 · have ln := Sp.frs_len (Sp.pR b) (Sp.plM b n) (by show 0 ≤ qi 5 b; omega)
   have z : 0 ≤ qi 5 b * (n - Sp.plM b n) := Int.mul_nonneg (by omega) (by omega)
   rw [y.2.1, List.length_append, Int.natCast_add, ln, Sp.zrs_len, Int.toNat_of_nonneg z, Int.toNat_of_nonneg M0, show qi 0 (Sp.pR b) = qi 5 b from rfl, Int.mul_comm (qi 5 b), ← Int.add_mul]
   congr 1; omega
end Go

set_option linter.unusedVariables false
set_option linter.unusedSimpArgs false
set_option maxRecDepth 100000
set_option maxHeartbeats 4000000
namespace Go
open Go.Sx
def Sp.paD (t p : Int) (xs : List (List C)) : List C := [.i 0, .s (ByteArray.mk (Array.mk [100, 97, 99])), .i 1, .i 0, .i 0, .i 0, .i 0, .l Sp.paB, .i 2, .i 48000, .l [[.i 3]], .i 64, .i 48000, .i 16, .l [[.i 0, .i 1, .i 1]], .b true, .i t, .i 37, .i 29, .i 4, .i 16, .i 0, .i 1, .i 1, .i 1, .i 0, .i p, .i 0, .l xs, .i 0, .i 0]
def Sp.plI (q k : Int) (xs ys : List (List C)) : Prop := (0 ≤ k ∧ k ≤ q ∧ (xs.length : Int) = 13 ∧ (ys.length : Int) = 16 * k) ∧ ys.all Sp.smpF = true ∧ xs.all Sp.smpF = true ∧ ∀ x ∈ ys ++ xs, x = [.i (qi 0 x)]
end Go
namespace Go
open Go.Sx
theorem Sp.frs_id {r : List C} (hv : Sp.rsV r = true) (hc : qi 0 r = 1) (hk : ∀ i, 0 ≤ i → i ≤ 65536 → Sp.frK r i = i ∧ Sp.frF r i = 0) (hx : ∀ x ∈ ql 6 r, x = [.i (qi 0 x)]) : ∀ n : Nat, (n : Int) ≤ Sp.rsW r → n ≤ 65536 → Sp.frs r n = (ql 6 r).take n
 | 0, _, _ => by rw [List.take_zero]; exact Sp.frs_0 r
 | n + 1, h, h' => by
  have ih := Sp.frs_id hv hc hk hx n (by omega) (by omega)
  have v := Sp.rsV_of hv
  have W := Sp.rsW_of hv
  rw [hc, Int.ediv_one] at W
  have k := hk n (by omega) (by omega)
  have q := Sp.ph_bd v.1
  have fa : Sp.frA r n = n := by unfold Sp.frA; rw [hc]; omega
  have s := Sp.smp_at (Sp.blk_all v.2) (i := (n : Int)) (by omega) (by omega)
  have row : Sp.frR r n 1 = [rGet (ql 6 r) n] := by
   show [Sp.smF r n 0] = _
   unfold Sp.smF Sp.btw
   rw [k.1, k.2, fa, Int.add_zero]
   have e : (qi 0 (rGet (ql 6 r) n) * (Sp.phQ (Sp.rp r) - 0) + qi 0 (rGet (ql 6 r) (Sp.frA r (n + 1) + 0)) * 0 + Sp.phQ (Sp.rp r) / 2) / Sp.phQ (Sp.rp r) = qi 0 (rGet (ql 6 r) n) := by
    rw [Int.sub_zero, Int.mul_zero, Int.add_zero, Int.add_comm, Int.add_mul_ediv_right _ _ (by omega), Int.ediv_eq_zero_of_lt (by omega) (by omega), Int.zero_add]
   rw [Int.add_zero] at e
   rw [show Sp.frA r (n + 1) + 0 = Sp.frA r (n + 1) from Int.add_zero _, e, show iWrap .i32 (qi 0 (rGet (ql 6 r) n)) = qi 0 (rGet (ql 6 r) n) from InR.wrap (by simp only [InR]; omega), ← hx _ (rGet_mem (by omega) (by omega))]
  rw [show ((n + 1 : Nat) : Int) = (n : Int) + 1 from rfl, Sp.frs_s r (by omega), ih, hc, row]
  have := take_s (xs := ql 6 r) (i := (n : Int)) (by omega) (by omega)
  rw [show ((n : Int) + 1).toNat = n + 1 by omega, Int.toNat_natCast] at this
  exact this.symm
open Go.Proofs in
theorem Sp.paK {s : Int} (h0 : 0 ≤ s) (h1 : s ≤ 1099511627776) : Sp.posn [[.i 0, .i 1, .i 1]] s = s := by
 rw [Sp.posn_at (k := 0) (by kernel_rfl) (by decide) h0 (by rw [show Sp.unt [[.i 0, .i 1, .i 1]] 0 = 1099511627776 from by kernel_rfl]; exact h1)]
 show Sp.beg [[.i 0, .i 1, .i 1]] 0 + (s - 0) * 1 / 1 = s
 rw [show Sp.beg [[.i 0, .i 1, .i 1]] 0 = 0 from by kernel_rfl]; omega
theorem Sp.plain_v {t p : Int} {xs : List (List C)} (ht : 0 ≤ t) (ht' : t ≤ 100000) (hp : 0 ≤ p) (hp' : p ≤ 1000) (hx : xs.length = 13) (hs : xs.all Sp.smpF = true) : Sp.dvV (Sp.paD t p xs) = true ∧ Sp.bgV (Sp.dg (Sp.paD t p xs)) = true ∧ Sp.rsW (Sp.br (Sp.dg (Sp.paD t p xs))) = 13 := by
 have hb : Sp.blk 1 xs = true := by rw [Sp.blk_yes (by rw [hx]; decide)]; exact hs
 have rv : Sp.rsV (Sp.br (Sp.dg (Sp.paD t p xs))) = true := by
  show (Sp.phV [.i 1, .i 1, .i 0, .i p, .i 0] && Sp.blk 1 xs) = true
  rw [hb, Bool.and_true]
  unfold Sp.phV Sp.phQ
  rw [Bool.and_eq_true, decide_eq_true_eq]
  exact ⟨by kernel_rfl, by show (1 : Int) ≤ 768000; decide, by show (1 : Int) ≤ 768000; decide, by show (-4096 : Int) ≤ 0; decide, by show (0 : Int) ≤ 4096; decide, hp, by show p ≤ 1125899906842624; omega, by show (0 : Int) ≤ 0; decide, by show (0 : Int) < 1 * 65536; decide⟩
 have rw' : Sp.rsW (Sp.br (Sp.dg (Sp.paD t p xs))) = 13 := by
  rw [Sp.rsW_of rv]
  show (xs.length : Int) / 1 = 13
  rw [hx]; rfl
 have hg : Sp.bgV (Sp.dg (Sp.paD t p xs)) = true := by
  unfold Sp.bgV
  rw [rv, rw']; rfl
 refine ⟨?_, hg, rw'⟩
 unfold Sp.dvV
 rw [hg]
 simp only [Bool.and_eq_true, decide_eq_true_eq]
 exact ⟨⟨by kernel_rfl, by kernel_rfl, by kernel_rfl, by kernel_rfl⟩, ⟨ht, by show t ≤ 1099511627776; omega⟩, trivial, by kernel_rfl, by kernel_rfl, by kernel_rfl⟩
theorem Sp.plain_s {t p : Int} {xs da : List (List C)} (ht : 0 ≤ t) (ht' : t ≤ 100000) (hp : 0 ≤ p) (hp' : p ≤ 1000) (hx : xs.length = 13) (hd : da.length = 16) (hs : xs.all Sp.smpF = true) (hs' : da.all Sp.smpF = true) (hc : ∀ x ∈ xs ++ da, x = [.i (qi 0 x)]) :
 Sp.pyE (Sp.paD t p xs) 1 da (t + p) (t + (p + 16)) = 0 ∧ Sp.pyC (Sp.paD t p xs) 1 da (t + p) (t + (p + 16)) = 1 ∧ Sp.pyD (Sp.paD t p xs) 1 da (t + p) (t + (p + 16)) = (xs ++ da).take 16 ∧ Sp.pyL (Sp.paD t p xs) 1 da (t + p) (t + (p + 16)) = 0 ∧ Sp.pyM (Sp.paD t p xs) 1 da (t + p) (t + (p + 16)) = 0 ∧ Sp.pyV (Sp.paD t p xs) 1 da (t + p) (t + (p + 16)) = Sp.paD t (p + 16) ((xs ++ da).drop 16) := by
 obtain ⟨hv, hg, hw⟩ := Sp.plain_v ht ht' hp hp' hx hs
 have hb : Sp.blk 1 da = true := by rw [Sp.blk_yes (by rw [hd]; decide)]; exact hs'
 have bt : Sp.btV [[.i 0, .i 1, .i 1]] (max (t + p) t) (t + (p + 16)) = 16 := by
  rw [Int.max_eq_left (by omega), show Sp.btV [[.i 0, .i 1, .i 1]] (t + p) (t + (p + 16)) = _ from if_pos (by unfold Sp.btE; rw [if_neg (by rw [show Sp.cval [[.i 0, .i 1, .i 1]] = true from by kernel_rfl]; simp), if_neg (by omega)]), Sp.paK (by omega) (by omega), Sp.paK (by omega) (by omega)]; omega
 have de : Sp.duE (Sp.paD t p xs) (t + p) (t + (p + 16)) = 0 := by
  unfold Sp.duE
  rw [if_neg (by simp [hv]), if_neg (by omega), if_neg]
  rintro ⟨_, _, h⟩
  have h : 65536 < Sp.btV [[.i 0, .i 1, .i 1]] (max (t + p) t) (t + (p + 16)) := h
  rw [bt] at h; omega
 have dv : Sp.duV (Sp.paD t p xs) (t + p) (t + (p + 16)) = 16 := by
  unfold Sp.duV
  rw [if_pos ⟨de, rfl, by show max (t + p) t < _; omega⟩]
  exact bt
 have c0 : Sp.ckE (Sp.paD t p xs) 1 1 da (t + p) (t + (p + 16)) = 0 := by
  unfold Sp.ckE
  rw [if_neg (by simp [hv, hb]; rfl), if_neg (by intro h; exact h rfl)]
  exact de
 have cv : Sp.ckV (Sp.paD t p xs) 1 1 da (t + p) (t + (p + 16)) = 16 := (if_pos c0).trans dv
 obtain ⟨pe, pn, pl, pv, pg, pw⟩ := Sp.push_ok hg hb (show 1 = qi 5 (Sp.dg (Sp.paD t p xs)) from rfl) (by show (0 : Int) ≤ _; decide)
 have n16 : Sp.puN (Sp.dg (Sp.paD t p xs)) 1 da = 16 := by
  have h : qi 0 (Sp.dg (Sp.paD t p xs)) = 37 := rfl
  rw [hw, h, hd] at pn; omega
 have l0 : Sp.puL (Sp.dg (Sp.paD t p xs)) 1 da = 0 := by rw [pl, n16, hd]; rfl
 have eB : Sp.mvB (Sp.paD t p xs) 1 da = [.i 37, .i 29, .i 4, .i 16, .i 0, .i 1, .i 1, .i 1, .i 0, .i p, .i 0, .l (xs ++ da), .i 0, .i 0] := by
  unfold Sp.mvB
  rw [pv, n16, l0, show ((16 : Int) * 1).toNat = 16 from rfl, List.take_of_length_le (by omega)]; rfl
 have gB : Sp.bgV (Sp.mvB (Sp.paD t p xs) 1 da) = true := pg
 have wB : Sp.rsW (Sp.br (Sp.mvB (Sp.paD t p xs) 1 da)) = 29 := by rw [show Sp.rsW (Sp.br (Sp.mvB (Sp.paD t p xs) 1 da)) = _ from pw, hw, n16]; rfl
 obtain ⟨le, lm, lk, lv, lg, lw, ln, lc, lq⟩ := Sp.pull_ok (n := 16) gB (by decide) (by decide) (by rw [eB]; show p ≤ _; omega) (by rw [eB]; show (0 : Int) ≤ _; decide)
 have a0 : Sp.pA (Sp.mvB (Sp.paD t p xs) 1 da) = 0 := by unfold Sp.pA; rw [wB, eB]; kernel_rfl
 have pP : Sp.pP (Sp.mvB (Sp.paD t p xs) 1 da) = [.i 1, .i 1, .i 0, .i p, .i 0] := by rw [(Sp.pP_eq gB).1, a0, eB]; rfl
 have pR := Sp.pull (n := 16) gB (by decide) (by decide)
 have fk : ∀ i, Sp.frK (Sp.pR (Sp.mvB (Sp.paD t p xs) 1 da)) i = i ∧ Sp.frF (Sp.pR (Sp.mvB (Sp.paD t p xs) 1 da)) i = 0 := fun i => by
  unfold Sp.frK Sp.frF
  rw [pR.2.2.1, pP]
  show (0 + i * (1 * (65536 + 0))) / (1 * 65536) = i ∧ (0 + i * (1 * (65536 + 0))) % (1 * 65536) = 0
  omega
 have m16 : Sp.plM (Sp.mvB (Sp.paD t p xs) 1 da) 16 = 16 := by
  have := lm.2.2 16 (by decide) (by decide) (by rw [pP, wB, show Sp.phN [.i 1, .i 1, .i 0, .i p, .i 0] 16 = 17 from by kernel_rfl]; decide)
  omega
 have me : Sp.mvE (Sp.paD t p xs) 1 da 16 = 0 := (if_neg (by omega)).trans le
 obtain ⟨_, _, o1, o2, o3, o4, o5, _⟩ := Sp.mv_in me
 have n0 : ¬ Sp.ckE (Sp.paD t p xs) 1 1 da (t + p) (t + (p + 16)) ≠ 0 := by omega
 have qb : qb 15 (Sp.paD t p xs) = true := rfl
 unfold Sp.pyE Sp.pyC Sp.pyD Sp.pyL Sp.pyM Sp.pyV
 rw [if_neg n0, if_neg n0, if_neg n0, if_neg n0, if_neg n0, if_neg n0, qb, cv]
 show Sp.mvE _ _ _ _ = 0 ∧ Sp.mvC _ _ _ _ = 1 ∧ Sp.mvD _ _ _ _ = _ ∧ Sp.mvL _ _ _ _ = 0 ∧ Sp.mvM _ _ _ _ = 0 ∧ Sp.mvV _ _ _ _ = _
 rw [me, o1, o2, o3, o4, o5, lc, lq, m16, l0, lv, m16, (fk 16).1, (fk 16).2, a0]
 refine ⟨rfl, by rw [eB]; rfl, ?_, rfl, rfl, ?_⟩
 · have y := Sp.pl_yes le
   rw [y.2.1, m16]
   have z : Sp.zrs (Go.Sx.qi 5 (Sp.mvB (Sp.paD t p xs) 1 da) * (16 - 16)) = [] := by rw [show (16 : Int) - 16 = 0 from rfl, Int.mul_zero]; rfl
   rw [z, List.append_nil]
   have q6 : ql 6 (Sp.pR (Sp.mvB (Sp.paD t p xs) 1 da)) = xs ++ da := by unfold Sp.pR; rw [pP, eB]; rfl
   have f := Sp.frs_id pR.1 (by show qi 5 (Sp.mvB (Sp.paD t p xs) 1 da) = 1; rw [eB]; rfl) (fun i _ _ => fk i) (by rw [q6]; exact hc) 16 (by rw [pR.2.1, wB]; decide) (by decide)
   rw [q6] at f
   exact f
 · rw [eB]; rfl
end Go
namespace Go
open Go.Sx
theorem Sp.smV_bd (l : List (List C)) : -8388608 ≤ Sp.smV l ∧ Sp.smV l ≤ 8388607 := by
 have b := Sp.dN_bd (l := Sp.dT l 8) (n := 256) (by omega)
 have c := Sp.dN_bd (l := Sp.dT (Sp.dT l 8) 256) (n := 256) (by omega)
 have e := Sp.dN_bd (l := Sp.dT (Sp.dT (Sp.dT l 8) 256) 256) (n := 256) (by omega)
 unfold Sp.smV
 split
 · omega
 split
 · omega
 split
 · omega
 split <;> omega
theorem Sp.bkD_ok : ∀ (n : Nat) (l : List (List C)), (Sp.bkD n l).length = n ∧ (Sp.bkD n l).all Sp.smpF = true ∧ ∀ x ∈ Sp.bkD n l, x = [.i (qi 0 x)]
 | 0, _ => ⟨rfl, rfl, fun _ h => by cases h⟩
 | n + 1, l => by
  obtain ⟨a, b, c⟩ := Sp.bkD_ok n (Sp.smT l)
  have s := Sp.smV_bd l
  refine ⟨by rw [Sp.bkD, List.length_cons, a], ?_, fun x h => ?_⟩
  · rw [Sp.bkD, List.all_cons, b, Bool.and_true]
    exact decide_eq_true s
  · rw [Sp.bkD] at h
    rcases List.mem_cons.1 h with rfl | h
    · rfl
    · exact c x h
theorem Sp.rl_self {g : List C → List C → Bool} (h : ∀ x, g x x = true) : ∀ xs : List (List C), Sp.rl g xs xs = true
 | [] => rfl
 | x :: r => by rw [Sp.rl, h, Sp.rl_self h r]; rfl
theorem Sp.blk1 {xs : List (List C)} (h : xs.all Sp.smpF = true) (hl : xs.length ≤ 65536) : Sp.blk 1 xs = true ∧ Sp.frm 1 xs = xs.length := by
 have b : Sp.blk 1 xs = true := by rw [Sp.blk_yes (by omega)]; exact h
 refine ⟨b, ?_⟩
 unfold Sp.frm
 rw [b, Int.ediv_one]; rfl
end Go
namespace Go.Sx
def A3 (q : Int) (st : Int) : FuncId → Nat → LoopAnn := fun _ _ => .inv (Int × List (List C) × List (List C) × List (List C)) (fun z => Sp.plI (iRem q 15) z.1 z.2.2.1 z.2.2.2) (fun z => [(15, .int .i64 z.1)]) (fun z => [(0, .box (ofCs hV (Sp.paD (iMul 16 st) (iMul 16 z.1) z.2.2.1)) 48), (1, .box [.int .i64 1, .sl hW (z.2.2.2 ++ z.2.2.1)] 54), (2, .box [.int .i64 1, .sl hW z.2.2.2] 54), (3, .box [.sl hB z.2.1] 117)]) [0, 1, 2, 3] [0, 1, 2, 6, 7, 8, 9, 10, 11, 13, 14, 15, 16, 17, 18, 19, 20, 21, 23, 42, 57, 89] (fun z => (iRem q 15 - z.1).toNat)
def m3_0 (st : Int) : Int := (Sp.bgF (sg 17 [0, 0, 0, 0, 0, 0, 0, 0, 0, 0, 0, 3, 0, 0] (Sp.stV Sp.paV (iMul 16 st))))
def m3_1 (st : Int) (x : Int × List (List C) × List (List C) × List (List C)) : List C := (Sp.paD (iMul 16 st) (iMul 16 x.1) x.2.2.1)
theorem v3 (s : List (List C)) (q : Int) (st : Int) : WL hB s ∧ InR .u8 q ∧ InR .u8 st → True ∧ True ∧ Cn (bNot true) (false = true) (True ∧ (WD hV Sp.paV ∧ InR .i64 0 → InR .i64 (iMul 16 st) ∧ True ∧ (WD hV (Sp.stV Sp.paV (iMul 16 st)) ∧ InR .i64 (Sp.stE Sp.paV (iMul 16 st)) → Cn (bNe 0 0) (false = true) (Cn (bNe (Sp.stE Sp.paV (iMul 16 st)) 0) (false = true) (True ∧ (InR .i64 (m3_0 st) → True ∧ (InR .i64 (Sp.silC 1 (m3_0 st)) ∧ WL hW (Sp.silD 1 (m3_0 st)) ∧ InR .i64 (Sp.silE 1 (m3_0 st)) → pLe (iLen s) 9223372036854775807 → geB none (some (iMin (iLen s) 300)) (iLen s) ∧ (∃ (x : Int × List (List C) × List (List C) × List (List C)), Sp.plI (iRem q 15) x.1 x.2.2.1 x.2.2.2 ∧ 0 = x.1 ∧ sg 0 [0, 2, 0, 0, 0, 0, 0, 3, 0, 0, 3, 0, 0, 0, 3, 1, 0, 0, 0, 0, 0, 0, 0, 0, 0, 0, 0, 0, 3, 0, 0] (Sp.stV Sp.paV (iMul 16 st)) = sg 0 [0, 2, 0, 0, 0, 0, 0, 3, 0, 0, 3, 0, 0, 0, 3, 1, 0, 0, 0, 0, 0, 0, 0, 0, 0, 0, 0, 0, 3, 0, 0] (m3_1 st x) ∧ Sp.silC 1 (m3_0 st) = 1 ∧ Sp.silD 1 (m3_0 st) = x.2.2.2 ++ x.2.2.1 ∧ Sm (1 : Int) ∧ x.2.2.2 = [] ∧ cutRows s none (some (iMin (iLen s) 300)) = x.2.1) ∧ ∀ (x : Int × List (List C) × List (List C) × List (List C)), Sp.plI (iRem q 15) x.1 x.2.2.1 x.2.2.2 → InR .i64 x.1 ∧ WD hV (m3_1 st x) ∧ InR .i64 1 ∧ WL hW (x.2.2.2 ++ x.2.2.1) ∧ InR .i64 1 ∧ WL hW x.2.2.2 ∧ WL hB x.2.1 → pNe 15 0 ∧ Cn (bLt x.1 (iRem q 15)) ((pLe 0 1 ∧ pLe 1 8 ∧ pLe 0 16 ∧ pLe 16 1000) ∧ (InR .i64 1 ∧ WL hW (Sp.bbD 1 16 x.2.1) → InR .i64 (iMul 16 x.1) ∧ InR .i64 (iAdd (iMul 16 st) (iMul 16 x.1)) ∧ InR .i64 (iMul 16 x.1) ∧ InR .i64 (iAdd (iMul 16 x.1) 16) ∧ InR .i64 (iAdd (iMul 16 st) (iAdd (iMul 16 x.1) 16)) ∧ True ∧ (InR .i64 (Sp.pyC (m3_1 st x) 1 (Sp.bbD 1 16 x.2.1) (iAdd (iMul 16 st) (iMul 16 x.1)) (iAdd (iMul 16 st) (iAdd (iMul 16 x.1) 16))) ∧ WL hW (Sp.pyD (m3_1 st x) 1 (Sp.bbD 1 16 x.2.1) (iAdd (iMul 16 st) (iMul 16 x.1)) (iAdd (iMul 16 st) (iAdd (iMul 16 x.1) 16))) ∧ InR .i64 (Sp.pyL (m3_1 st x) 1 (Sp.bbD 1 16 x.2.1) (iAdd (iMul 16 st) (iMul 16 x.1)) (iAdd (iMul 16 st) (iAdd (iMul 16 x.1) 16))) ∧ InR .i64 (Sp.pyM (m3_1 st x) 1 (Sp.bbD 1 16 x.2.1) (iAdd (iMul 16 st) (iMul 16 x.1)) (iAdd (iMul 16 st) (iAdd (iMul 16 x.1) 16))) ∧ WD hV (Sp.pyV (m3_1 st x) 1 (Sp.bbD 1 16 x.2.1) (iAdd (iMul 16 st) (iMul 16 x.1)) (iAdd (iMul 16 st) (iAdd (iMul 16 x.1) 16))) ∧ InR .i64 (Sp.pyE (m3_1 st x) 1 (Sp.bbD 1 16 x.2.1) (iAdd (iMul 16 st) (iMul 16 x.1)) (iAdd (iMul 16 st) (iAdd (iMul 16 x.1) 16))) → Cn (bNe (Sp.pyE (m3_1 st x) 1 (Sp.bbD 1 16 x.2.1) (iAdd (iMul 16 st) (iMul 16 x.1)) (iAdd (iMul 16 st) (iAdd (iMul 16 x.1) 16))) 0) (false = true) (Cn (bNe (Sp.pyL (m3_1 st x) 1 (Sp.bbD 1 16 x.2.1) (iAdd (iMul 16 st) (iMul 16 x.1)) (iAdd (iMul 16 st) (iAdd (iMul 16 x.1) 16))) 0) (false = true) (Cn (bNe (Sp.pyM (m3_1 st x) 1 (Sp.bbD 1 16 x.2.1) (iAdd (iMul 16 st) (iMul 16 x.1)) (iAdd (iMul 16 st) (iAdd (iMul 16 x.1) 16))) 0) (false = true) ((pLe (iLen (x.2.2.2 ++ x.2.2.1)) 1000000000 ∧ pLe (iLen (Sp.bbD 1 16 x.2.1)) 1000000000) ∧ (InR .i64 1 ∧ WL hW (x.2.2.2 ++ x.2.2.1 ++ Sp.bbD 1 16 x.2.1) → (pLe (iLen x.2.2.2) 1000000000 ∧ pLe (iLen (Sp.pyD (m3_1 st x) 1 (Sp.bbD 1 16 x.2.1) (iAdd (iMul 16 st) (iMul 16 x.1)) (iAdd (iMul 16 st) (iAdd (iMul 16 x.1) 16)))) 1000000000) ∧ (InR .i64 1 ∧ WL hW (x.2.2.2 ++ Sp.pyD (m3_1 st x) 1 (Sp.bbD 1 16 x.2.1) (iAdd (iMul 16 st) (iMul 16 x.1)) (iAdd (iMul 16 st) (iAdd (iMul 16 x.1) 16))) → InR .i64 (iAdd x.1 1) ∧ Sm s ∧ Sm q ∧ Sm st ∧ Sm (0 : Int) ∧ Sm (iMul 16 st) ∧ Sm (Sp.stE Sp.paV (iMul 16 st)) ∧ ∃ (y : Int × List (List C) × List (List C) × List (List C)), Sp.plI (iRem q 15) y.1 y.2.2.1 y.2.2.2 ∧ iAdd x.1 1 = y.1 ∧ sg 0 [0, 2, 0, 0, 0, 0, 0, 3, 0, 0, 3, 0, 0, 0, 3, 1, 0, 0, 0, 0, 0, 0, 0, 0, 0, 0, 0, 0, 3, 0, 0] (Sp.pyV (m3_1 st x) 1 (Sp.bbD 1 16 x.2.1) (iAdd (iMul 16 st) (iMul 16 x.1)) (iAdd (iMul 16 st) (iAdd (iMul 16 x.1) 16))) = sg 0 [0, 2, 0, 0, 0, 0, 0, 3, 0, 0, 3, 0, 0, 0, 3, 1, 0, 0, 0, 0, 0, 0, 0, 0, 0, 0, 0, 0, 3, 0, 0] (Sp.paD (iMul 16 st) (iMul 16 y.1) y.2.2.1) ∧ Sm (1 : Int) ∧ x.2.2.2 ++ x.2.2.1 ++ Sp.bbD 1 16 x.2.1 = y.2.2.2 ++ y.2.2.1 ∧ Sm (1 : Int) ∧ x.2.2.2 ++ Sp.pyD (m3_1 st x) 1 (Sp.bbD 1 16 x.2.1) (iAdd (iMul 16 st) (iMul 16 x.1)) (iAdd (iMul 16 st) (iAdd (iMul 16 x.1) 16)) = y.2.2.2 ∧ Sp.bbT 1 16 x.2.1 = y.2.1 ∧ nLt (iRem q 15 - y.1).toNat (iRem q 15 - x.1).toNat)))))))) (True ∧ (InR .i64 (Sp.frm 1 x.2.2.2) → True ∧ Cn (Sp.blk 1 x.2.2.2) (True ∧ (InR .i64 (Sp.frm 1 (x.2.2.2 ++ x.2.2.1)) → Cn (bLe (Sp.frm 1 x.2.2.2) (Sp.frm 1 (x.2.2.2 ++ x.2.2.1))) ((pLe 0 0 ∧ pLe 0 (Sp.frm 1 x.2.2.2) ∧ pLe 1 1 ∧ pLe (iMul (Sp.frm 1 x.2.2.2) 1) (iLen (x.2.2.2 ++ x.2.2.1)) ∧ pLe (iLen (x.2.2.2 ++ x.2.2.1)) 1000000000) ∧ (InR .i64 1 ∧ WL hW (cutRows (x.2.2.2 ++ x.2.2.1) (some (iMul 0 1)) (some (iMul (Sp.frm 1 x.2.2.2) 1))) → True ∧ Cn (bAnd (bEq 1 1) (Sp.rl Sp.e0 x.2.2.2 (cutRows (x.2.2.2 ++ x.2.2.1) (some (iMul 0 1)) (some (iMul (Sp.frm 1 x.2.2.2) 1))))) (True ∧ (InR .i64 (Sp.frm 1 x.2.2.2) → pNe 15 0 ∧ InR .i64 (iMul 16 (iRem q 15)) ∧ bEq (Sp.frm 1 x.2.2.2) (iMul 16 (iRem q 15)) = true)) (false = true))) (false = true))) (false = true)))))))))) := by
 intro hw
 delta m3_0 m3_1
 have st0 : 0 ≤ st ∧ st ≤ 255 := by have := hw.2.2; simp only [InR] at this; omega
 have q0 : 0 ≤ q ∧ q ≤ 255 := by have := hw.2.1; simp only [InR] at this; omega
 have sE : Sp.stE Sp.paV (iMul 16 st) = 0 := by
  unfold Sp.stE
  rw [if_neg (by rw [show Sp.dvV Sp.paV = true from by kernel_rfl]; simp), if_neg (by show ¬ (16 * st < 0 ∨ 1099511627776 < 16 * st); omega), if_neg (by show ¬ (16 * st % 16 ≠ 0); omega)]; rfl
 have sv : Sp.stV Sp.paV (iMul 16 st) = Sp.paD (iMul 16 st) 0 (Sp.zrs 13) := by unfold Sp.stV; rw [if_pos sE]; rfl
 have pv := Sp.plain_v (t := iMul 16 st) (p := 0) (xs := Sp.zrs 13) (by show 0 ≤ 16 * st; omega) (by show 16 * st ≤ _; omega) (by decide) (by decide) rfl rfl
 have bF : Sp.bgF (sg 17 [0, 0, 0, 0, 0, 0, 0, 0, 0, 0, 0, 3, 0, 0] (Sp.paD (iMul 16 st) 0 (Sp.zrs 13))) = 13 := (if_pos pv.2.1).trans pv.2.2
 have z1 : Sp.silC 1 13 = 1 := by kernel_rfl
 have z2 : Sp.silD 1 13 = Sp.zrs 13 := by kernel_rfl
 have z3 : Sp.silE 1 13 = 0 := by kernel_rfl
 rw [sE, sv, bF, z1, z2, z3]
 simp only [D, E, F]
 have ix : ∀ {k : Int}, -100000 ≤ k → k ≤ 100000 → InR .i64 k := fun a b => by simp only [InR]; omega
 have qm : q.tmod 15 = q % 15 := Int.tmod_eq_emod_of_nonneg q0.1
 rw [qm]
 refine fun _ => ⟨ix (by omega) (by omega), fun _ _ _ _ => ⟨⟨by omega, by omega⟩, ⟨(0, _, Sp.zrs 13, []), ⟨⟨by simp only; omega, by simp only; omega, rfl, rfl⟩, rfl, rfl, fun x h => by rw [List.eq_of_mem_replicate h]; rfl⟩, rfl, rfl, rfl, rfl, rfl⟩, ?_⟩⟩
 rintro ⟨k, l, xs, ys⟩ ⟨⟨k0, k1, lx, ly⟩, sy, sx, cn⟩ _
 simp only at k0 k1 lx ly sy sx cn ⊢
 obtain ⟨lb, sb, cb⟩ := Sp.bkD_ok 16 l
 refine ⟨by decide, fun hl => ⟨⟨by decide, by decide, by decide, by decide⟩, fun _ => ⟨ix (by omega) (by omega), ix (by omega) (by omega), ix (by omega) (by omega), ix (by omega) (by omega), ix (by omega) (by omega), fun _ => ?_⟩⟩, fun hl _ => ?_⟩
 · have B : Sp.bbD 1 16 l = Sp.bkD 16 l := rfl
   rw [B]
   obtain ⟨s1, s2, s3, s4, s5, s6⟩ := Sp.plain_s (t := 16 * st) (p := 16 * k) (xs := xs) (da := Sp.bkD 16 l) (by omega) (by omega) (by omega) (by omega) (by omega) lb sx sb (fun x h => (List.mem_append.1 h).elim (fun h => cn x (List.mem_append_right _ h)) (cb x))
   have sall : (xs ++ Sp.bkD 16 l).all Sp.smpF = true := by rw [List.all_append, sx, sb]; rfl
   rw [s1, s4, s5, s3, s6]
   refine ⟨fun h => h rfl, fun _ => ⟨fun h => h rfl, fun _ => ⟨fun h => h rfl, fun _ => ⟨⟨by rw [List.length_append]; omega, by omega⟩, fun _ => ⟨⟨by omega, by rw [List.length_take]; omega⟩, fun _ => ⟨ix (by omega) (by omega), (k + 1, Sp.bbT 1 16 l, (xs ++ Sp.bkD 16 l).drop 16, ys ++ (xs ++ Sp.bkD 16 l).take 16), ⟨⟨by simp only; omega, by simp only; omega, ?_, ?_⟩, ?_, ?_, ?_⟩, rfl, ?_, ?_, rfl, rfl, by simp only; omega⟩⟩⟩⟩⟩⟩
   · simp only [List.length_drop, List.length_append]; omega
   · simp only [List.length_take, List.length_append]; omega
   · simp only
     rw [List.all_append, sy, Bool.true_and]
     exact List.all_eq_true.2 fun x h => List.all_eq_true.1 sall x (List.mem_of_mem_take h)
   · exact List.all_eq_true.2 fun x h => List.all_eq_true.1 sall x (List.mem_of_mem_drop h)
   · simp only
     rw [List.append_assoc, List.take_append_drop, ← List.append_assoc]
     exact fun x h => (List.mem_append.1 h).elim (cn x) (cb x)
   · simp only; rw [show 16 * (k + 1) = 16 * k + 16 by omega]
   · simp only; rw [List.append_assoc, List.append_assoc, List.take_append_drop]
 · have b1 := Sp.blk1 sy (by omega)
   have b2 := Sp.blk1 (xs := ys ++ xs) (by rw [List.all_append, sy, sx]; rfl) (by rw [List.length_append]; omega)
   have cut : cutRows (ys ++ xs) (some (0 * 1)) (some ((ys.length : Int) * 1)) = ys := by
    show ((ys ++ xs).take ((ys.length : Int) * 1).toNat).drop 0 = ys
    rw [Int.mul_one, Int.toNat_natCast, List.take_left, List.drop_zero]
   rw [b1.1, b1.2, b2.2, cut, Sp.rl_self (g := Sp.e0) (fun x => decide_eq_true rfl) ys]
   have la : ((ys ++ xs).length : Int) = ys.length + xs.length := by rw [List.length_append]; rfl
   simp only [E, F]
   exact fun _ => ⟨fun _ => ⟨⟨by omega, by omega, by omega, by omega, by omega⟩, fun _ => ⟨fun _ _ => ⟨by decide, ix (by omega) (by omega), by omega⟩, fun h => by simp at h⟩⟩, fun h => h (by omega)⟩
theorem u3 (s : List (List C)) (q : Int) (st : Int) : Holds (hyp (wfP.go [.sl [.int .u8] s, .int .u8 q, .int .u8 st]) (vcF PR (look (tbR [r11, r12, r13, r14, r15, r17, r18, r19, r21, r59, r60, r31])) (fun _ => false) (A3 q st) 8 3 [.sl [.int .u8] s, .int .u8 q, .int .u8 st] [] (fun sv _ => isTrue sv))) := Y (v3 s q st)
end Go.Sx

