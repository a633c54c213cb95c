import Derived.Test.YtphaelepnjekoaaGreatSxUse
import Derived.Test.YtphaelepnjekoaaGreatZ27f
import Derived.KernelRfl
set_option linter.unusedVariables false
set_option linter.unusedSimpArgs false
set_option maxRecDepth 100000
set_option maxHeartbeats 4000000
namespace Go
open Go.Sx
def Sp.r2 (x : List C) : List C := [.i (Sp.c0 x), .i (Sp.c1 x)]
def Sp.ldI (xs : List (List C)) (key i : Int) : Prop := 0 ≤ i ∧ i ≤ (xs.length : Int) ∧ ∀ k : Int, 0 ≤ k → k < i → Sp.c0 (rGet xs k) < key
def Sp.lead (xs : List (List C)) (key : Int) : Int := ((xs.takeWhile (fun x => decide (Sp.c0 x < key))).length : Int)
def Sp.wH (ds : List (List C)) (id ch : Int) : List (List C) := (ds.take (Sp.lead ds id).toNat).map Sp.r2 ++ [[.i id, .i ch]] ++ ds.drop (Sp.lead ds id).toNat
def Sp.wS (ss : List (List C)) (s0 s1 s2 s3 : Int) : List (List C) := (ss.take (Sp.lead ss s0).toNat).map Sp.r4 ++ [[.i s0, .i s1, .i s2, .i s3]] ++ ss.drop (Sp.lead ss s0).toNat
def Sp.wm2 (xs : List (List C)) (i : Int) : List (List C) := (xs.take i.toNat).map Sp.r2
def Sp.wm4 (xs : List (List C)) (i : Int) : List (List C) := (xs.take i.toNat).map Sp.r4
end Go
namespace Go
open Go.Sx
theorem Sp.rget_map {f : List C → List C} {xs : List (List C)} {i : Int} : rGet (xs.map f) i = if i.toNat < xs.length then f (rGet xs i) else [] := by
 unfold rGet
 rw [List.getD_eq_getElem?_getD, List.getElem?_map, List.getD_eq_getElem?_getD]
 split
 · rename_i h; rw [List.getElem?_eq_getElem h]; rfl
 · rename_i h; rw [List.getElem?_eq_none (by omega)]; rfl
theorem Sp.rget_out {xs : List (List C)} {i : Int} (h : ¬ i.toNat < xs.length) : rGet xs i = [] := by
 unfold rGet
 rw [List.getD_eq_getElem?_getD, List.getElem?_eq_none (by omega)]; rfl
theorem Sp.m2_0 {xs : List (List C)} {i : Int} : Sp.c0 (rGet (xs.map Sp.r2) i) = Sp.c0 (rGet xs i) := by
 rw [Sp.rget_map]; split
 · rfl
 · rename_i h; rw [Sp.rget_out h]
theorem Sp.m2_1 {xs : List (List C)} {i : Int} : Sp.c1 (rGet (xs.map Sp.r2) i) = Sp.c1 (rGet xs i) := by
 rw [Sp.rget_map]; split
 · rfl
 · rename_i h; rw [Sp.rget_out h]
theorem Sp.m4_0 {xs : List (List C)} {i : Int} : Sp.c0 (rGet (xs.map Sp.r4) i) = Sp.c0 (rGet xs i) := by
 rw [Sp.rget_map]; split
 · rfl
 · rename_i h; rw [Sp.rget_out h]
theorem Sp.m4_1 {xs : List (List C)} {i : Int} : Sp.c1 (rGet (xs.map Sp.r4) i) = Sp.c1 (rGet xs i) := by
 rw [Sp.rget_map]; split
 · rfl
 · rename_i h; rw [Sp.rget_out h]
theorem Sp.m4_2 {xs : List (List C)} {i : Int} : Sp.c2 (rGet (xs.map Sp.r4) i) = Sp.c2 (rGet xs i) := by
 rw [Sp.rget_map]; split
 · rfl
 · rename_i h; rw [Sp.rget_out h]
theorem Sp.m4_3 {xs : List (List C)} {i : Int} : Sp.c3 (rGet (xs.map Sp.r4) i) = Sp.c3 (rGet xs i) := by
 rw [Sp.rget_map]; split
 · rfl
 · rename_i h; rw [Sp.rget_out h]
theorem Sp.idx_map {f : List C → List C} {p : List C → Bool} (h : ∀ x, p (f x) = p x) : ∀ (xs : List (List C)) (i : Int), Sp.idx p (xs.map f) i = Sp.idx p xs i
 | [], _ => rfl
 | x :: r, i => by simp only [List.map_cons, Sp.idx, h, Sp.idx_map h r]
theorem Sp.nix_m2 {xs : List (List C)} {n : Int} : Sp.nix (xs.map Sp.r2) n = Sp.nix xs n := Sp.idx_map (f := Sp.r2) (p := Sp.isI n) (fun _ => rfl) xs 0
theorem Sp.has_m2 {xs : List (List C)} {n : Int} : Sp.has (xs.map Sp.r2) n = Sp.has xs n := by unfold Sp.has; rw [Sp.nix_m2]
theorem Sp.dok_m {ds : List (List C)} : Sp.dokI (ds.map Sp.r2) = Sp.dokI ds := funext fun i => by unfold Sp.dokI; rw [Sp.m2_0, Sp.m2_0, Sp.m2_1]
theorem Sp.sok_m {ds ss : List (List C)} : Sp.sokI (ds.map Sp.r2) (ss.map Sp.r4) = Sp.sokI ds ss := funext fun i => by unfold Sp.sokI; rw [Sp.m4_0, Sp.m4_0, Sp.m4_1, Sp.m4_2, Sp.m4_3, Sp.has_m2]
section
variable {w c p : Int} {ds ss : List (List C)}
theorem Sp.prop_m : Sp.prop w c p (ds.map Sp.r2) (ss.map Sp.r4) = Sp.prop w c p ds ss := by unfold Sp.prop; rw [Sp.dok_m, Sp.sok_m, List.length_map, List.length_map]
theorem Sp.gC1_m : ∀ n, Sp.gC1 p (ds.map Sp.r2) n = Sp.gC1 p ds n
 | 0 => rfl
 | n + 1 => by simp only [Sp.gC1, Sp.gC1_m n, Sp.m2_1]
theorem Sp.gL2_m : ∀ n, Sp.gL2 (ds.map Sp.r2) (ss.map Sp.r4) n = Sp.gL2 ds ss n
 | 0 => rfl
 | n + 1 => by simp only [Sp.gL2, Sp.gL2_m n, Sp.m4_1, Sp.nix_m2]
theorem Sp.gC2_m : ∀ n, Sp.gC2 p (ds.map Sp.r2) (ss.map Sp.r4) n = Sp.gC2 p ds ss n
 | 0 => rfl
 | n + 1 => by simp only [Sp.gC2, Sp.gC2_m n, Sp.m4_1, Sp.m4_2, Sp.nix_m2, Sp.m2_1]
theorem Sp.ld_m : Sp.ld w c p (ds.map Sp.r2) (ss.map Sp.r4) = Sp.ld w c p ds ss := by
 unfold Sp.ld Sp.bN Sp.bL Sp.bC
 rw [Sp.prop_m, Sp.gC1_m, Sp.gL2_m, Sp.gC2_m, List.length_map, List.length_map]
end
theorem Sp.ld_eq {w c p : Int} {ds ss ds' ss' : List (List C)} (h1 : ds.map Sp.r2 = ds'.map Sp.r2) (h2 : ss.map Sp.r4 = ss'.map Sp.r4) : Sp.ld w c p ds ss = Sp.ld w c p ds' ss' := by
 rw [← Sp.ld_m, h1, h2, Sp.ld_m]
theorem Sp.r2_r2 (xs : List (List C)) : (xs.map Sp.r2).map Sp.r2 = xs.map Sp.r2 := by rw [List.map_map]; rfl
theorem Sp.r4_r4 (xs : List (List C)) : (xs.map Sp.r4).map Sp.r4 = xs.map Sp.r4 := by rw [List.map_map]; rfl
theorem Sp.ld_init {xs : List (List C)} {key : Int} : Sp.ldI xs key 0 := ⟨by omega, by omega, fun k h0 h1 => by omega⟩
theorem Sp.ld_step {xs : List (List C)} {key i : Int} (h : Sp.ldI xs key i) (hi : i < (xs.length : Int)) (hc : Sp.c0 (rGet xs i) < key) : Sp.ldI xs key (i + 1) := by
 obtain ⟨h0, h1, h2⟩ := h
 refine ⟨by omega, by omega, fun k k0 k1 => ?_⟩
 by_cases hk : k = i
 · rw [hk]; exact hc
 · exact h2 k k0 (by omega)
theorem Sp.lead_nat {key : Int} : ∀ (xs : List (List C)) (i : Nat), i ≤ xs.length → (∀ k : Nat, k < i → Sp.c0 (xs.getD k []) < key) → (i < xs.length → ¬ Sp.c0 (xs.getD i []) < key) → (xs.takeWhile (fun x => decide (Sp.c0 x < key))).length = i
 | [], i, h, _, _ => by simp at h; simp [h]
 | x :: r, 0, _, _, h3 => by
  have := h3 (by simp)
  rw [List.takeWhile_cons_of_neg (by simpa using this)]; rfl
 | x :: r, i + 1, h, h2, h3 => by
  have h0 := h2 0 (by omega)
  rw [List.takeWhile_cons_of_pos (by simpa using h0), List.length_cons, Sp.lead_nat r i (by simpa using h) (fun k hk => by simpa using h2 (k + 1) (by omega)) (fun hi => by simpa using h3 (by simpa using hi))]
theorem Sp.lead_eq {xs : List (List C)} {key i : Int} (h : Sp.ldI xs key i) (hc : i < (xs.length : Int) → ¬ Sp.c0 (rGet xs i) < key) : Sp.lead xs key = i := by
 obtain ⟨h0, h1, h2⟩ := h
 unfold Sp.lead
 have := Sp.lead_nat (key := key) xs i.toNat (by omega) (fun k hk => by
  have := h2 k (by omega) (by omega)
  unfold rGet at this
  simpa using this) (fun hi => by
  have := hc (by omega)
  unfold rGet at this
  exact this)
 omega
theorem Sp.lead_bsx {xs : List (List C)} (ha : Sp.asc xs) (key : Int) : Sp.lead xs key = Sp.bsx xs key := by
 obtain ⟨b0, b1, b2, b3⟩ := Sp.bsx_ok ha key
 exact Sp.lead_eq ⟨b0, b1, b2⟩ fun h => b3 _ (Int.le_refl _) h
theorem Sp.wm2_0 {xs : List (List C)} : Sp.wm2 xs 0 = [] := by simp [Sp.wm2]
theorem Sp.wm4_0 {xs : List (List C)} : Sp.wm4 xs 0 = [] := by simp [Sp.wm4]
theorem Sp.wm2_s {xs : List (List C)} {i : Int} (h0 : 0 ≤ i) (h1 : i < (xs.length : Int)) : Sp.wm2 xs (i + 1) = Sp.wm2 xs i ++ [Sp.r2 (rGet xs i)] := by
 unfold Sp.wm2; rw [Sp.take_succ h0 h1, List.map_append]; rfl
theorem Sp.wm4_s {xs : List (List C)} {i : Int} (h0 : 0 ≤ i) (h1 : i < (xs.length : Int)) : Sp.wm4 xs (i + 1) = Sp.wm4 xs i ++ [Sp.r4 (rGet xs i)] := by
 unfold Sp.wm4; rw [Sp.take_succ h0 h1, List.map_append]; rfl
theorem Sp.wm2_len {xs : List (List C)} {i : Int} (h0 : 0 ≤ i) (h1 : i ≤ (xs.length : Int)) : ((Sp.wm2 xs i).length : Int) = i := by
 unfold Sp.wm2; rw [List.length_map, List.length_take]; omega
theorem Sp.wm4_len {xs : List (List C)} {i : Int} (h0 : 0 ≤ i) (h1 : i ≤ (xs.length : Int)) : ((Sp.wm4 xs i).length : Int) = i := by
 unfold Sp.wm4; rw [List.length_map, List.length_take]; omega
theorem Sp.inD_m {ds : List (List C)} {id ch : Int} (ha : Sp.asc ds) : (Sp.wH ds id ch).map Sp.r2 = (Sp.inD ds id ch).map Sp.r2 := by
 unfold Sp.wH Sp.inD Sp.ins
 rw [Sp.lead_bsx ha]
 simp only [List.map_append, Sp.r2_r2]
theorem Sp.inS_m {ss : List (List C)} {s0 s1 s2 s3 : Int} (ha : Sp.asc ss) : (Sp.wS ss s0 s1 s2 s3).map Sp.r4 = (Sp.inS ss s0 s1 s2 s3).map Sp.r4 := by
 unfold Sp.wS Sp.inS Sp.ins
 rw [Sp.lead_bsx ha]
 simp only [List.map_append, Sp.r4_r4]
theorem Sp.get_del {xs : List (List C)} {i k : Int} (h0 : 0 ≤ i) (h1 : i < (xs.length : Int)) (k0 : 0 ≤ k) : rGet (Sp.del xs i (i + 1)) k = if k < i then rGet xs k else rGet xs (k + 1) := by
 unfold Sp.del rGet
 simp only [List.getD_eq_getElem?_getD]
 congr 1
 split
 · rw [List.getElem?_append_left (by rw [List.length_take]; omega), List.getElem?_take, if_pos (by omega)]
 · rw [List.getElem?_append_right (by rw [List.length_take]; omega), List.getElem?_drop, List.length_take]
   rw [show (i + 1).toNat + (k.toNat - min i.toNat xs.length) = (k + 1).toNat by omega]
theorem Sp.del_len {xs : List (List C)} {i : Int} (h0 : 0 ≤ i) (h1 : i < (xs.length : Int)) : ((Sp.del xs i (i + 1)).length : Int) = (xs.length : Int) - 1 := by
 unfold Sp.del
 rw [List.length_append, List.length_take, List.length_drop]
 omega
theorem Sp.del_asc {xs : List (List C)} (ha : Sp.asc xs) {i : Int} (h0 : 0 ≤ i) (h1 : i < (xs.length : Int)) : Sp.asc (Sp.del xs i (i + 1)) := by
 intro a b a0 ab hb
 rw [Sp.del_len h0 h1] at hb
 rw [Sp.get_del h0 h1 a0, Sp.get_del h0 h1 (by omega)]
 split <;> split
 · exact ha a b a0 ab (by omega)
 · exact ha a (b + 1) a0 (by omega) (by omega)
 · omega
 · exact ha (a + 1) (b + 1) (by omega) (by omega) (by omega)
theorem Sp.has_t {xs : List (List C)} {n : Int} (h : 0 ≤ Sp.nix xs n) : Sp.has xs n = true := by unfold Sp.has; exact decide_eq_true h
theorem Sp.has_f {xs : List (List C)} {n : Int} (h : ¬ 0 ≤ Sp.nix xs n) : Sp.has xs n = false := by unfold Sp.has; exact decide_eq_false h
end Go
namespace Go.Sx
def ct45 : Ct := { ps := [(true, [.int .i64, .int .i64, .int .i64, .sl [.int .u64, .int .i64], .sl [.int .i64, .int .u64, .int .i64, .int .i64]]), (true, [.int .u64, .int .i64])], rs := [(true, [.int .i64, .int .i64, .int .i64, .sl [.int .u64, .int .i64], .sl [.int .i64, .int .u64, .int .i64, .int .i64]])], pre := fun a => pLe (iLen (cel 3 (arg 0 a)).list) 1000 ∧ True, out := fun a => [[.i (cel 0 (arg 0 a)).int, .i (cel 1 (arg 0 a)).int, .i (cel 2 (arg 0 a)).int, .l (Sp.wH (cel 3 (arg 0 a)).list (cel 0 (arg 1 a)).int (cel 1 (arg 1 a)).int), .l (cel 4 (arg 0 a)).list]] }
def tb45 : List (Nat × Ct) := []
def A45 (ds : List (List C)) (id : Int) : FuncId → Nat → LoopAnn := fun _ ii => bif Nat.beq ii 3 then .ghost 5 [.int .u64, .int .i64] 61 (.on (fun sv0 => match sv0.tmps.getD 5 .undef with | .own rc _ => .inv Int (fun z => Sp.ldI ds id z) (fun z => [(6, .int .i64 z), (5, .own rc 0)]) (fun z => [(rc, .row [.int .u64, .int .i64] 61 0 (Sp.wm2 ds z))]) [rc] [0, 1, 2, 3, 4, 5, 6, 22] (fun z => ds.length - z.toNat) | _ => .unroll 0)) else bif Nat.beq ii 1000007 then .mark 5 (.unroll 0) else .unroll 0
abbrev B45 (w : Int) (c : Int) (p : Int) (ds : List (List C)) (ss : List (List C)) (id : Int) (ch : Int) : Prop := vcF Go.Proofs.Tryz.prog (look tb45) (fun _ => false) (A45 ds id) 6 45 [.agg [.int .i64 w, .int .i64 c, .int .i64 p, .sl [.int .u64, .int .i64] ds, .sl [.int .i64, .int .u64, .int .i64, .int .i64] ss], .agg [.int .u64 id, .int .i64 ch]] [] (fun sv heap => Gives [(true, [.int .i64, .int .i64, .int .i64, .sl [.int .u64, .int .i64], .sl [.int .i64, .int .u64, .int .i64, .int .i64]])] [[.i w, .i c, .i p, .l (Sp.wH ds id ch), .l ss]] sv heap)
def h45_0 : Int → Int → Int → List (List C) → List (List C) → Int → Int → List SV := fun (w c p : Int) (ds ss : List (List C)) (id ch : Int) => [SV.agg [SV.int .i64 w, SV.int .i64 c, SV.int .i64 p, SV.sl [.int .u64, .int .i64] ds, SV.sl [.int .i64, .int .u64, .int .i64, .int .i64] ss], SV.agg [SV.int .u64 id, SV.int .i64 ch], SV.ref 0 0, SV.ref 1 0, SV.ref 2 0]
def h45_1 : Int → Int → Int → List (List C) → List (List C) → Int → Int → List HB := fun (w c p : Int) (ds ss : List (List C)) (id ch : Int) => [HB.box [SV.int .i64 w, SV.int .i64 c, SV.int .i64 p, SV.sl [.int .u64, .int .i64] ds, SV.sl [.int .i64, .int .u64, .int .i64, .int .i64] ss] 31, HB.box [SV.int .u64 id, SV.int .i64 ch] 61, HB.box [SV.lit .i64 0, SV.lit .i64 0, SV.lit .i64 0, SV.nils, SV.nils] 31, HB.gone]
def m45_0 (w : Int) (c : Int) (p : Int) (ds : List (List C)) (ss : List (List C)) (id : Int) (ch : Int) (x : Int) : Prop := pRoom 16 (iLen (Sp.wm2 ds x ++ [[C.i id, C.i ch]])) ∧ pLe (iLen (Sp.wm2 ds x)) 9223372036854775807 ∧ geB (some (iLen (Sp.wm2 ds x))) none (iLen ds) ∧ pRoom 16 (iLen (Sp.wm2 ds x ++ [[C.i id, C.i ch]] ++ cutRows ds (some (iLen (Sp.wm2 ds x))) none)) ∧ (w = w ∧ c = c ∧ p = p ∧ Sp.wm2 ds x ++ [[C.i id, C.i ch]] ++ cutRows ds (some (iLen (Sp.wm2 ds x))) none = Sp.wH ds id ch ∧ ss = ss ∧ True) ∧ True
theorem e45 (w : Int) (c : Int) (p : Int) (ds : List (List C)) (ss : List (List C)) (id : Int) (ch : Int) : B45 w c p ds ss id ch = ((∃ (x : Int), Sp.ldI ds id x ∧ true = true ∧ ((IntKind.i64 = IntKind.i64 ∧ 0 = x) ∧ (3 = 3 ∧ 0 + 1 = 0 + 1) ∧ True) ∧ ([Sh.int .u64, Sh.int .i64] = [Sh.int .u64, Sh.int .i64] ∧ 61 = 61 ∧ 0 + 1 = 0 + 1 ∧ [] = Sp.wm2 ds x) ∧ True) ∧ (∀ (x : Int), true = true ∧ true = true) ∧ ∀ (x : Int), Sp.ldI ds id x → InR .i64 x ∧ True ∧ True → ((WL [.int .u64, .int .i64] (Sp.wm2 ds x))) ∧ True → pLe (iLen ds) 9223372036854775807 → (bLt x (iLen ds) = true → pIn 0 (iLen ds) x ∧ (InR .u64 (q0 (rGet ds x)) → (bLt (q0 (rGet ds x)) id = true → pIn 0 (iLen ds) x ∧ (InR .u64 (q0 (rGet ds x)) ∧ InR .i64 (q1 (rGet ds x)) ∧ True → pRoom 16 (iLen (Sp.wm2 ds x ++ [[C.i (q0 (rGet ds x)), C.i (q1 (rGet ds x))]])) ∧ InR .i64 (iAdd x 1) ∧ (true = true ∧ h45_0 w c p ds ss id ch = h45_0 w c p ds ss id ch) ∧ h45_1 w c p ds ss id ch = h45_1 w c p ds ss id ch ∧ ∃ (y : Int), Sp.ldI ds id y ∧ true = true ∧ ((IntKind.i64 = IntKind.i64 ∧ iAdd x 1 = y) ∧ (3 = 3 ∧ 0 + 1 = 0 + 1) ∧ True) ∧ (([Sh.int .u64] ++ ([Sh.int .i64] ++ []) = [Sh.int .u64, Sh.int .i64] ∧ 61 = 61 ∧ 0 + 1 = 0 + 1 ∧ Sp.wm2 ds x ++ [[C.i (q0 (rGet ds x)), C.i (q1 (rGet ds x))]] = Sp.wm2 ds y) ∧ True) ∧ ds.length - y.toNat < ds.length - x.toNat)) ∧ (bLt (q0 (rGet ds x)) id = false → (m45_0 w c p ds ss id ch x)))) ∧ (bLt x (iLen ds) = false → (m45_0 w c p ds ss id ch x))) := by kernel_rfl
theorem v45 (w : Int) (c : Int) (p : Int) (ds : List (List C)) (ss : List (List C)) (id : Int) (ch : Int) : Holds (Wfs [.agg [.int .i64 w, .int .i64 c, .int .i64 p, .sl [.int .u64, .int .i64] ds, .sl [.int .i64, .int .u64, .int .i64, .int .i64] ss], .agg [.int .u64 id, .int .i64 ch]] → pLe (iLen ds) 1000 ∧ True → B45 w c p ds ss id ch) := by
 refine ⟨fun hw hp => ?_⟩
 rw [e45]
 delta WL q0 q1 m45_0
 simp only [Wfs, Wf, InR, and_true] at hw
 simp only [eq_self, true_and, and_true, true_implies, implies_true, iAdd, iSub, iMul, iLen, bEq, bNe, bLt, bLe, bNot, pIn, pLe, pNe, InR, decide_eq_true_eq, decide_eq_false_iff_not, Bool.not_eq_true', Bool.not_eq_false', decide_eq_decide]
 simp only [pLe, iLen] at hp
 refine ⟨⟨0, Sp.ld_init, rfl, Sp.wm2_0.symm⟩, ?_⟩
 intro x hx _ _ _
 have x0 := hx.1
 have x1 := hx.2.1
 have wl := Sp.wm2_len x0 x1
 have fin : (x < (ds.length : Int) → ¬ Sp.c0 (rGet ds x) < id) → pRoom 16 ((Sp.wm2 ds x ++ [[C.i id, C.i ch]]).length : Int) ∧ ((Sp.wm2 ds x).length : Int) ≤ 9223372036854775807 ∧ geB (some ((Sp.wm2 ds x).length : Int)) none (ds.length : Int) ∧ pRoom 16 ((Sp.wm2 ds x ++ [[C.i id, C.i ch]] ++ cutRows ds (some ((Sp.wm2 ds x).length : Int)) none).length : Int) ∧ Sp.wm2 ds x ++ [[C.i id, C.i ch]] ++ cutRows ds (some ((Sp.wm2 ds x).length : Int)) none = Sp.wH ds id ch := fun h => by
  have e := Sp.lead_eq hx h
  have cl : (cutRows ds (some ((Sp.wm2 ds x).length : Int)) none).length ≤ ds.length := by show (ds.drop _).length ≤ _; rw [List.length_drop]; omega
  refine ⟨by simp only [pRoom, List.length_append, List.length_singleton]; omega, by omega, by simp only [geB]; omega, by simp only [pRoom, List.length_append, List.length_singleton]; omega, ?_⟩
  rw [wl]
  unfold Sp.wH
  rw [e]; rfl
 refine ⟨fun hlt => ⟨⟨x0, hlt⟩, fun _ => ⟨fun hc => ⟨⟨x0, hlt⟩, fun _ => ⟨by simp only [pRoom, List.length_append, List.length_singleton]; omega, by omega, x + 1, Sp.ld_step hx hlt hc, rfl, ⟨rfl, (Sp.wm2_s x0 hlt).symm⟩, by omega⟩⟩, fun hc => fin fun _ => hc⟩⟩, fun hge => fin fun h => absurd h hge⟩
theorem s45 : SoundCt Go.Proofs.Tryz.prog 45 ct45 :=
 contractH followsMixed (look_sound (show Tb Go.Proofs.Tryz.prog tb45 from trivial)) (fun _ => false) (fun a => A45 ((cel 3 (arg 0 a)).list) ((cel 0 (arg 1 a)).int)) 6 45 ct45 rfl (by simp [ct45]) fun a => Eq.mp (by kernel_rfl) (v45 ((cel 0 (arg 0 a)).int) ((cel 1 (arg 0 a)).int) ((cel 2 (arg 0 a)).int) ((cel 3 (arg 0 a)).list) ((cel 4 (arg 0 a)).list) ((cel 0 (arg 1 a)).int) ((cel 1 (arg 1 a)).int))
end Go.Sx
namespace Go.Sx
def ct48 : Ct := { ps := [(true, [.int .i64, .int .i64, .int .i64, .sl [.int .u64, .int .i64], .sl [.int .i64, .int .u64, .int .i64, .int .i64]]), (true, [.int .i64, .int .u64, .int .i64, .int .i64])], rs := [(true, [.int .i64, .int .i64, .int .i64, .sl [.int .u64, .int .i64], .sl [.int .i64, .int .u64, .int .i64, .int .i64]])], pre := fun a => pLe (iLen (cel 4 (arg 0 a)).list) 1000 ∧ True, out := fun a => [[.i (cel 0 (arg 0 a)).int, .i (cel 1 (arg 0 a)).int, .i (cel 2 (arg 0 a)).int, .l (cel 3 (arg 0 a)).list, .l (Sp.wS (cel 4 (arg 0 a)).list (cel 0 (arg 1 a)).int (cel 1 (arg 1 a)).int (cel 2 (arg 1 a)).int (cel 3 (arg 1 a)).int)]] }
def tb48 : List (Nat × Ct) := []
def A48 (ss : List (List C)) (s0 : Int) : FuncId → Nat → LoopAnn := fun _ ii => bif Nat.beq ii 3 then .ghost 5 [.int .i64, .int .u64, .int .i64, .int .i64] 41 (.on (fun sv0 => match sv0.tmps.getD 5 .undef with | .own rc _ => .inv Int (fun z => Sp.ldI ss s0 z) (fun z => [(6, .int .i64 z), (5, .own rc 0)]) (fun z => [(rc, .row [.int .i64, .int .u64, .int .i64, .int .i64] 41 0 (Sp.wm4 ss z))]) [rc] [0, 1, 2, 3, 4, 5, 6, 22] (fun z => ss.length - z.toNat) | _ => .unroll 0)) else bif Nat.beq ii 1000007 then .mark 5 (.unroll 0) else .unroll 0
abbrev B48 (w : Int) (c : Int) (p : Int) (ds : List (List C)) (ss : List (List C)) (s0 : Int) (s1 : Int) (s2 : Int) (s3 : Int) : Prop := vcF Go.Proofs.Tryz.prog (look tb48) (fun _ => false) (A48 ss s0) 6 48 [.agg [.int .i64 w, .int .i64 c, .int .i64 p, .sl [.int .u64, .int .i64] ds, .sl [.int .i64, .int .u64, .int .i64, .int .i64] ss], .agg [.int .i64 s0, .int .u64 s1, .int .i64 s2, .int .i64 s3]] [] (fun sv heap => Gives [(true, [.int .i64, .int .i64, .int .i64, .sl [.int .u64, .int .i64], .sl [.int .i64, .int .u64, .int .i64, .int .i64]])] [[.i w, .i c, .i p, .l ds, .l (Sp.wS ss s0 s1 s2 s3)]] sv heap)
def h48_0 : Int → Int → Int → List (List C) → List (List C) → Int → Int → Int → Int → List SV := fun (w c p : Int) (ds ss : List (List C)) (s0 s1 s2 s3 : Int) => [SV.agg [SV.int .i64 w, SV.int .i64 c, SV.int .i64 p, SV.sl [.int .u64, .int .i64] ds, SV.sl [.int .i64, .int .u64, .int .i64, .int .i64] ss], SV.agg [SV.int .i64 s0, SV.int .u64 s1, SV.int .i64 s2, SV.int .i64 s3], SV.ref 0 0, SV.ref 1 0, SV.ref 2 0]
def h48_1 : Int → Int → Int → List (List C) → List (List C) → Int → Int → Int → Int → List HB := fun (w c p : Int) (ds ss : List (List C)) (s0 s1 s2 s3 : Int) => [HB.box [SV.int .i64 w, SV.int .i64 c, SV.int .i64 p, SV.sl [.int .u64, .int .i64] ds, SV.sl [.int .i64, .int .u64, .int .i64, .int .i64] ss] 31, HB.box [SV.int .i64 s0, SV.int .u64 s1, SV.int .i64 s2, SV.int .i64 s3] 41, HB.box [SV.lit .i64 0, SV.lit .i64 0, SV.lit .i64 0, SV.nils, SV.nils] 31, HB.gone]
def m48_0 (w : Int) (c : Int) (p : Int) (ds : List (List C)) (ss : List (List C)) (s0 : Int) (s1 : Int) (s2 : Int) (s3 : Int) (x : Int) : Prop := pRoom 32 (iLen (Sp.wm4 ss x ++ [[C.i s0, C.i s1, C.i s2, C.i s3]])) ∧ pLe (iLen (Sp.wm4 ss x)) 9223372036854775807 ∧ geB (some (iLen (Sp.wm4 ss x))) none (iLen ss) ∧ pRoom 32 (iLen (Sp.wm4 ss x ++ [[C.i s0, C.i s1, C.i s2, C.i s3]] ++ cutRows ss (some (iLen (Sp.wm4 ss x))) none)) ∧ (w = w ∧ c = c ∧ p = p ∧ ds = ds ∧ Sp.wm4 ss x ++ [[C.i s0, C.i s1, C.i s2, C.i s3]] ++ cutRows ss (some (iLen (Sp.wm4 ss x))) none = Sp.wS ss s0 s1 s2 s3 ∧ True) ∧ True
theorem e48 (w : Int) (c : Int) (p : Int) (ds : List (List C)) (ss : List (List C)) (s0 : Int) (s1 : Int) (s2 : Int) (s3 : Int) : B48 w c p ds ss s0 s1 s2 s3 = ((∃ (x : Int), Sp.ldI ss s0 x ∧ true = true ∧ ((IntKind.i64 = IntKind.i64 ∧ 0 = x) ∧ (3 = 3 ∧ 0 + 1 = 0 + 1) ∧ True) ∧ ([Sh.int .i64, Sh.int .u64, Sh.int .i64, Sh.int .i64] = [Sh.int .i64, Sh.int .u64, Sh.int .i64, Sh.int .i64] ∧ 41 = 41 ∧ 0 + 1 = 0 + 1 ∧ [] = Sp.wm4 ss x) ∧ True) ∧ (∀ (x : Int), true = true ∧ true = true) ∧ ∀ (x : Int), Sp.ldI ss s0 x → InR .i64 x ∧ True ∧ True → ((WL [.int .i64, .int .u64, .int .i64, .int .i64] (Sp.wm4 ss x))) ∧ True → pLe (iLen ss) 9223372036854775807 → (bLt x (iLen ss) = true → pIn 0 (iLen ss) x ∧ (InR .i64 (q0 (rGet ss x)) → (bLt (q0 (rGet ss x)) s0 = true → pIn 0 (iLen ss) x ∧ (InR .i64 (q0 (rGet ss x)) ∧ InR .u64 (q1 (rGet ss x)) ∧ InR .i64 (q2 (rGet ss x)) ∧ InR .i64 (q3 (rGet ss x)) ∧ True → pRoom 32 (iLen (Sp.wm4 ss x ++ [[C.i (q0 (rGet ss x)), C.i (q1 (rGet ss x)), C.i (q2 (rGet ss x)), C.i (q3 (rGet ss x))]])) ∧ InR .i64 (iAdd x 1) ∧ (true = true ∧ h48_0 w c p ds ss s0 s1 s2 s3 = h48_0 w c p ds ss s0 s1 s2 s3) ∧ h48_1 w c p ds ss s0 s1 s2 s3 = h48_1 w c p ds ss s0 s1 s2 s3 ∧ ∃ (y : Int), Sp.ldI ss s0 y ∧ true = true ∧ ((IntKind.i64 = IntKind.i64 ∧ iAdd x 1 = y) ∧ (3 = 3 ∧ 0 + 1 = 0 + 1) ∧ True) ∧ (([Sh.int .i64] ++ ([Sh.int .u64] ++ ([Sh.int .i64] ++ ([Sh.int .i64] ++ []))) = [Sh.int .i64, Sh.int .u64, Sh.int .i64, Sh.int .i64] ∧ 41 = 41 ∧ 0 + 1 = 0 + 1 ∧ Sp.wm4 ss x ++ [[C.i (q0 (rGet ss x)), C.i (q1 (rGet ss x)), C.i (q2 (rGet ss x)), C.i (q3 (rGet ss x))]] = Sp.wm4 ss y) ∧ True) ∧ ss.length - y.toNat < ss.length - x.toNat)) ∧ (bLt (q0 (rGet ss x)) s0 = false → (m48_0 w c p ds ss s0 s1 s2 s3 x)))) ∧ (bLt x (iLen ss) = false → (m48_0 w c p ds ss s0 s1 s2 s3 x))) := by kernel_rfl
theorem v48 (w : Int) (c : Int) (p : Int) (ds : List (List C)) (ss : List (List C)) (s0 : Int) (s1 : Int) (s2 : Int) (s3 : Int) : Holds (Wfs [.agg [.int .i64 w, .int .i64 c, .int .i64 p, .sl [.int .u64, .int .i64] ds, .sl [.int .i64, .int .u64, .int .i64, .int .i64] ss], .agg [.int .i64 s0, .int .u64 s1, .int .i64 s2, .int .i64 s3]] → pLe (iLen ss) 1000 ∧ True → B48 w c p ds ss s0 s1 s2 s3) := by
 refine ⟨fun hw hp => ?_⟩
 rw [e48]
 delta WL q0 q1 q2 q3 m48_0
 simp only [Wfs, Wf, InR, and_true] at hw
 simp only [eq_self, true_and, and_true, true_implies, implies_true, iAdd, iSub, iMul, iLen, bEq, bNe, bLt, bLe, bNot, pIn, pLe, pNe, InR, decide_eq_true_eq, decide_eq_false_iff_not, Bool.not_eq_true', Bool.not_eq_false', decide_eq_decide]
 simp only [pLe, iLen] at hp
 refine ⟨⟨0, Sp.ld_init, rfl, Sp.wm4_0.symm⟩, ?_⟩
 intro x hx _ _ _
 have x0 := hx.1
 have x1 := hx.2.1
 have wl := Sp.wm4_len x0 x1
 have fin : (x < (ss.length : Int) → ¬ Sp.c0 (rGet ss x) < s0) → pRoom 32 ((Sp.wm4 ss x ++ [[C.i s0, C.i s1, C.i s2, C.i s3]]).length : Int) ∧ ((Sp.wm4 ss x).length : Int) ≤ 9223372036854775807 ∧ geB (some ((Sp.wm4 ss x).length : Int)) none (ss.length : Int) ∧ pRoom 32 ((Sp.wm4 ss x ++ [[C.i s0, C.i s1, C.i s2, C.i s3]] ++ cutRows ss (some ((Sp.wm4 ss x).length : Int)) none).length : Int) ∧ Sp.wm4 ss x ++ [[C.i s0, C.i s1, C.i s2, C.i s3]] ++ cutRows ss (some ((Sp.wm4 ss x).length : Int)) none = Sp.wS ss s0 s1 s2 s3 := fun h => by
  have e := Sp.lead_eq hx h
  have cl : (cutRows ss (some ((Sp.wm4 ss x).length : Int)) none).length ≤ ss.length := by show (ss.drop _).length ≤ _; rw [List.length_drop]; omega
  refine ⟨by simp only [pRoom, List.length_append, List.length_singleton]; omega, by omega, by simp only [geB]; omega, by simp only [pRoom, List.length_append, List.length_singleton]; omega, ?_⟩
  rw [wl]
  unfold Sp.wS
  rw [e]; rfl
 refine ⟨fun hlt => ⟨⟨x0, hlt⟩, fun _ => ⟨fun hc => ⟨⟨x0, hlt⟩, fun _ => ⟨by simp only [pRoom, List.length_append, List.length_singleton]; omega, by omega, x + 1, Sp.ld_step hx hlt hc, rfl, ⟨rfl, (Sp.wm4_s x0 hlt).symm⟩, by omega⟩⟩, fun hc => fin fun _ => hc⟩⟩, fun hge => fin fun h => absurd h hge⟩
theorem s48 : SoundCt Go.Proofs.Tryz.prog 48 ct48 :=
 contractH followsMixed (look_sound (show Tb Go.Proofs.Tryz.prog tb48 from trivial)) (fun _ => false) (fun a => A48 ((cel 4 (arg 0 a)).list) ((cel 0 (arg 1 a)).int)) 6 48 ct48 rfl (by simp [ct48]) fun a => Eq.mp (by kernel_rfl) (v48 ((cel 0 (arg 0 a)).int) ((cel 1 (arg 0 a)).int) ((cel 2 (arg 0 a)).int) ((cel 3 (arg 0 a)).list) ((cel 4 (arg 0 a)).list) ((cel 0 (arg 1 a)).int) ((cel 1 (arg 1 a)).int) ((cel 2 (arg 1 a)).int) ((cel 3 (arg 1 a)).int))
end Go.Sx
namespace Go.Sx
def ct19 : Ct := { ps := [(true, [.int .i64, .int .i64, .int .i64, .sl [.int .u64, .int .i64], .sl [.int .i64, .int .u64, .int .i64, .int .i64]]), (true, [.int .u64, .int .i64])], rs := [(true, [.int .i64, .int .i64, .int .i64, .sl [.int .u64, .int .i64], .sl [.int .i64, .int .u64, .int .i64, .int .i64]]), (false, [.int .i64])], pre := fun _ => True, out := fun a => [[.i (Sp.zI (Sp.hoE (cel 0 (arg 0 a)).int (cel 1 (arg 0 a)).int (cel 2 (arg 0 a)).int (cel 3 (arg 0 a)).list (cel 4 (arg 0 a)).list (cel 0 (arg 1 a)).int (cel 1 (arg 1 a)).int) (cel 0 (arg 0 a)).int), .i (Sp.zI (Sp.hoE (cel 0 (arg 0 a)).int (cel 1 (arg 0 a)).int (cel 2 (arg 0 a)).int (cel 3 (arg 0 a)).list (cel 4 (arg 0 a)).list (cel 0 (arg 1 a)).int (cel 1 (arg 1 a)).int) (cel 1 (arg 0 a)).int), .i (Sp.zI (Sp.hoE (cel 0 (arg 0 a)).int (cel 1 (arg 0 a)).int (cel 2 (arg 0 a)).int (cel 3 (arg 0 a)).list (cel 4 (arg 0 a)).list (cel 0 (arg 1 a)).int (cel 1 (arg 1 a)).int) (cel 2 (arg 0 a)).int), .l (Sp.zL (Sp.hoE (cel 0 (arg 0 a)).int (cel 1 (arg 0 a)).int (cel 2 (arg 0 a)).int (cel 3 (arg 0 a)).list (cel 4 (arg 0 a)).list (cel 0 (arg 1 a)).int (cel 1 (arg 1 a)).int) (Sp.wH (cel 3 (arg 0 a)).list (cel 0 (arg 1 a)).int (cel 1 (arg 1 a)).int)), .l (Sp.zL (Sp.hoE (cel 0 (arg 0 a)).int (cel 1 (arg 0 a)).int (cel 2 (arg 0 a)).int (cel 3 (arg 0 a)).list (cel 4 (arg 0 a)).list (cel 0 (arg 1 a)).int (cel 1 (arg 1 a)).int) ((cel 4 (arg 0 a)).list))], [.i (Sp.hoE (cel 0 (arg 0 a)).int (cel 1 (arg 0 a)).int (cel 2 (arg 0 a)).int (cel 3 (arg 0 a)).list (cel 4 (arg 0 a)).list (cel 0 (arg 1 a)).int (cel 1 (arg 1 a)).int)]] }
def tb19 : List (Nat × Ct) := [(44, ct44), (42, ct42), (43, ct43), (46, ct46), (45, ct45)]
def A19  : FuncId → Nat → LoopAnn := fun _ _ => LoopAnn.unroll 200
abbrev B19 (w : Int) (c : Int) (p : Int) (ds : List (List C)) (ss : List (List C)) (id : Int) (ch : Int) : Prop := vcF Go.Proofs.Tryz.prog (look tb19) (fun _ => false) (A19) 6 19 [.agg [.int .i64 w, .int .i64 c, .int .i64 p, .sl [.int .u64, .int .i64] ds, .sl [.int .i64, .int .u64, .int .i64, .int .i64] ss], .agg [.int .u64 id, .int .i64 ch]] [] (fun sv heap => Gives [(true, [.int .i64, .int .i64, .int .i64, .sl [.int .u64, .int .i64], .sl [.int .i64, .int .u64, .int .i64, .int .i64]]), (false, [.int .i64])] [[.i (Sp.zI (Sp.hoE w c p ds ss id ch) w), .i (Sp.zI (Sp.hoE w c p ds ss id ch) c), .i (Sp.zI (Sp.hoE w c p ds ss id ch) p), .l (Sp.zL (Sp.hoE w c p ds ss id ch) (Sp.wH ds id ch)), .l (Sp.zL (Sp.hoE w c p ds ss id ch) (ss))], [.i (Sp.hoE w c p ds ss id ch)]] sv heap)
def m19_0 (w : Int) (c : Int) (p : Int) (ds : List (List C)) (ss : List (List C)) (id : Int) (ch : Int) : Prop := 0 = Sp.zI (Sp.hoE w c p ds ss id ch) w ∧ 0 = Sp.zI (Sp.hoE w c p ds ss id ch) c ∧ 0 = Sp.zI (Sp.hoE w c p ds ss id ch) p ∧ [] = Sp.zL (Sp.hoE w c p ds ss id ch) (Sp.wH ds id ch) ∧ [] = Sp.zL (Sp.hoE w c p ds ss id ch) ss ∧ True
theorem e19 (w : Int) (c : Int) (p : Int) (ds : List (List C)) (ss : List (List C)) (id : Int) (ch : Int) : B19 w c p ds ss id ch = (True ∧ (True → True ∧ (bNot (Sp.bval w c p ds ss) = true → ((m19_0 w c p ds ss id ch)) ∧ (1 = Sp.hoE w c p ds ss id ch ∧ True) ∧ True) ∧ (bNot (Sp.bval w c p ds ss) = false → (bEq id 0 = false → True ∧ (True → True ∧ (bNot (decide (1 ≤ ch ∧ ch ≤ 8)) = true → ((m19_0 w c p ds ss id ch)) ∧ (2 = Sp.hoE w c p ds ss id ch ∧ True) ∧ True) ∧ (bNot (decide (1 ≤ ch ∧ ch ≤ 8)) = false → True ∧ (InR .i64 (Sp.nix ds id) → (bLe 0 (Sp.nix ds id) = true → ((m19_0 w c p ds ss id ch)) ∧ (8 = Sp.hoE w c p ds ss id ch ∧ True) ∧ True) ∧ (bLe 0 (Sp.nix ds id) = false → pLe (iLen ds) 9223372036854775807 → (bLe 8 (iLen ds) = true → ((m19_0 w c p ds ss id ch)) ∧ (3 = Sp.hoE w c p ds ss id ch ∧ True) ∧ True) ∧ (bLe 8 (iLen ds) = false → (pLe (iLen ds) 1000 ∧ True) ∧ (InR .i64 w ∧ InR .i64 c ∧ InR .i64 p ∧ ((WL [.int .u64, .int .i64] (Sp.wH ds id ch))) ∧ ((WL [.int .i64, .int .u64, .int .i64, .int .i64] ss)) ∧ True → True ∧ (InR .i64 (Sp.ld w c p (Sp.wH ds id ch) ss) → (bLt c (Sp.ld w c p (Sp.wH ds id ch) ss) = true → ((m19_0 w c p ds ss id ch)) ∧ (10 = Sp.hoE w c p ds ss id ch ∧ True) ∧ True) ∧ (bLt c (Sp.ld w c p (Sp.wH ds id ch) ss) = false → (w = Sp.zI (Sp.hoE w c p ds ss id ch) w ∧ c = Sp.zI (Sp.hoE w c p ds ss id ch) c ∧ p = Sp.zI (Sp.hoE w c p ds ss id ch) p ∧ Sp.wH ds id ch = Sp.zL (Sp.hoE w c p ds ss id ch) (Sp.wH ds id ch) ∧ ss = Sp.zL (Sp.hoE w c p ds ss id ch) ss ∧ True) ∧ (0 = Sp.hoE w c p ds ss id ch ∧ True) ∧ True))))))))) ∧ (bEq id 0 = true → ((m19_0 w c p ds ss id ch)) ∧ (2 = Sp.hoE w c p ds ss id ch ∧ True) ∧ True)))) := by kernel_rfl
theorem v19 (w : Int) (c : Int) (p : Int) (ds : List (List C)) (ss : List (List C)) (id : Int) (ch : Int) : Holds (Wfs [.agg [.int .i64 w, .int .i64 c, .int .i64 p, .sl [.int .u64, .int .i64] ds, .sl [.int .i64, .int .u64, .int .i64, .int .i64] ss], .agg [.int .u64 id, .int .i64 ch]] → True → B19 w c p ds ss id ch) := by
 refine ⟨fun hw hp => ?_⟩
 rw [e19]
 delta WL m19_0
 simp only [Wfs, Wf, InR, and_true] at hw
 simp only [eq_self, true_and, and_true, true_implies, implies_true, iAdd, iSub, iMul, iLen, bEq, bNe, bLt, bLe, bNot, pIn, pLe, pNe, InR, decide_eq_true_eq, decide_eq_false_iff_not, Bool.not_eq_true', Bool.not_eq_false', decide_eq_decide]
 refine ⟨fun h => Sp.bk_err (Sp.ho1 h) (by omega), fun hv => ?_⟩
 have hA := Sp.bval_asc hv
 have hl := Sp.bval_len hv
 have eW : Sp.ld w c p (Sp.wH ds id ch) ss = Sp.ld w c p (Sp.inD ds id ch) ss := Sp.ld_eq (Sp.inD_m hA.1) rfl
 rw [eW]
 refine ⟨fun hi => ⟨fun hc => Sp.bk_err (Sp.ho2 hv (.inr hc)) (by omega), fun hc _ => ?_⟩, fun hi => Sp.bk_err (Sp.ho2 hv (.inl hi)) (by omega)⟩
 have h2 : ¬ (id = 0 ∨ ¬ (1 ≤ ch ∧ ch ≤ 8)) := fun h => h.elim hi fun h => h hc
 refine ⟨fun h3 => Sp.bk_err (Sp.ho8 hv h2 (Sp.has_t h3)) (by omega), fun h3 _ => ⟨fun h4 => Sp.bk_err (Sp.ho3 hv h2 (Sp.has_f h3) (by omega)) (by omega), fun h4 => ⟨by omega, fun _ _ => ⟨fun h5 => Sp.bk_err (Sp.ho10 hv h2 (Sp.has_f h3) (by omega) h5) (by omega), fun h5 => Sp.bk_ok (Sp.ho0 hv h2 (Sp.has_f h3) (by omega) h5)⟩⟩⟩⟩
theorem s19 : SoundCt Go.Proofs.Tryz.prog 19 ct19 :=
 contractH followsMixed (look_sound (show Tb Go.Proofs.Tryz.prog tb19 from ⟨s44, ⟨s42, ⟨s43, ⟨s46, ⟨s45, trivial⟩⟩⟩⟩⟩)) (fun _ => false) (fun _ => A19) 6 19 ct19 rfl (by simp [ct19]) fun a => Eq.mp (by kernel_rfl) (v19 ((cel 0 (arg 0 a)).int) ((cel 1 (arg 0 a)).int) ((cel 2 (arg 0 a)).int) ((cel 3 (arg 0 a)).list) ((cel 4 (arg 0 a)).list) ((cel 0 (arg 1 a)).int) ((cel 1 (arg 1 a)).int))
end Go.Sx
namespace Go.Sx
def ct20 : Ct := { ps := [(true, [.int .i64, .int .i64, .int .i64, .sl [.int .u64, .int .i64], .sl [.int .i64, .int .u64, .int .i64, .int .i64]]), (true, [.int .i64, .int .u64, .int .i64, .int .i64]), (false, [.int .i64])], rs := [(true, [.int .i64, .int .i64, .int .i64, .sl [.int .u64, .int .i64], .sl [.int .i64, .int .u64, .int .i64, .int .i64]]), (true, [.int .i64, .int .i64, .int .i64]), (false, [.int .i64])], pre := fun _ => True, out := fun a => [[.i (Sp.zI (Sp.adE (cel 0 (arg 0 a)).int (cel 1 (arg 0 a)).int (cel 2 (arg 0 a)).int (cel 3 (arg 0 a)).list (cel 4 (arg 0 a)).list (cel 0 (arg 1 a)).int (cel 1 (arg 1 a)).int (cel 2 (arg 1 a)).int (cel 3 (arg 1 a)).int (cel 0 (arg 2 a)).int) (cel 0 (arg 0 a)).int), .i (Sp.zI (Sp.adE (cel 0 (arg 0 a)).int (cel 1 (arg 0 a)).int (cel 2 (arg 0 a)).int (cel 3 (arg 0 a)).list (cel 4 (arg 0 a)).list (cel 0 (arg 1 a)).int (cel 1 (arg 1 a)).int (cel 2 (arg 1 a)).int (cel 3 (arg 1 a)).int (cel 0 (arg 2 a)).int) (cel 1 (arg 0 a)).int), .i (Sp.zI (Sp.adE (cel 0 (arg 0 a)).int (cel 1 (arg 0 a)).int (cel 2 (arg 0 a)).int (cel 3 (arg 0 a)).list (cel 4 (arg 0 a)).list (cel 0 (arg 1 a)).int (cel 1 (arg 1 a)).int (cel 2 (arg 1 a)).int (cel 3 (arg 1 a)).int (cel 0 (arg 2 a)).int) (cel 2 (arg 0 a)).int), .l (Sp.zL (Sp.adE (cel 0 (arg 0 a)).int (cel 1 (arg 0 a)).int (cel 2 (arg 0 a)).int (cel 3 (arg 0 a)).list (cel 4 (arg 0 a)).list (cel 0 (arg 1 a)).int (cel 1 (arg 1 a)).int (cel 2 (arg 1 a)).int (cel 3 (arg 1 a)).int (cel 0 (arg 2 a)).int) ((cel 3 (arg 0 a)).list)), .l (Sp.zL (Sp.adE (cel 0 (arg 0 a)).int (cel 1 (arg 0 a)).int (cel 2 (arg 0 a)).int (cel 3 (arg 0 a)).list (cel 4 (arg 0 a)).list (cel 0 (arg 1 a)).int (cel 1 (arg 1 a)).int (cel 2 (arg 1 a)).int (cel 3 (arg 1 a)).int (cel 0 (arg 2 a)).int) (Sp.wS (cel 4 (arg 0 a)).list (cel 0 (arg 1 a)).int (cel 1 (arg 1 a)).int (cel 2 (arg 1 a)).int (cel 0 (arg 2 a)).int))], [.i (Sp.adK (cel 0 (arg 0 a)).int (cel 1 (arg 0 a)).int (cel 2 (arg 0 a)).int (cel 3 (arg 0 a)).list (cel 4 (arg 0 a)).list (cel 0 (arg 1 a)).int (cel 1 (arg 1 a)).int (cel 2 (arg 1 a)).int (cel 3 (arg 1 a)).int (cel 0 (arg 2 a)).int), .i (Sp.adN (cel 0 (arg 0 a)).int (cel 1 (arg 0 a)).int (cel 2 (arg 0 a)).int (cel 3 (arg 0 a)).list (cel 4 (arg 0 a)).list (cel 0 (arg 1 a)).int (cel 1 (arg 1 a)).int (cel 2 (arg 1 a)).int (cel 3 (arg 1 a)).int (cel 0 (arg 2 a)).int), .i (Sp.adH (cel 0 (arg 0 a)).int (cel 1 (arg 0 a)).int (cel 2 (arg 0 a)).int (cel 3 (arg 0 a)).list (cel 4 (arg 0 a)).list (cel 0 (arg 1 a)).int (cel 1 (arg 1 a)).int (cel 2 (arg 1 a)).int (cel 3 (arg 1 a)).int (cel 0 (arg 2 a)).int)], [.i (Sp.adE (cel 0 (arg 0 a)).int (cel 1 (arg 0 a)).int (cel 2 (arg 0 a)).int (cel 3 (arg 0 a)).list (cel 4 (arg 0 a)).list (cel 0 (arg 1 a)).int (cel 1 (arg 1 a)).int (cel 2 (arg 1 a)).int (cel 3 (arg 1 a)).int (cel 0 (arg 2 a)).int)]] }
def tb20 : List (Nat × Ct) := [(47, ct47), (44, ct44), (42, ct42), (43, ct43), (46, ct46), (48, ct48)]
def A20  : FuncId → Nat → LoopAnn := fun _ _ => LoopAnn.unroll 200
abbrev B20 (w : Int) (c : Int) (p : Int) (ds : List (List C)) (ss : List (List C)) (s0 : Int) (s1 : Int) (s2 : Int) (s3 : Int) (n : Int) : Prop := vcF Go.Proofs.Tryz.prog (look tb20) (fun _ => false) (A20) 6 20 [.agg [.int .i64 w, .int .i64 c, .int .i64 p, .sl [.int .u64, .int .i64] ds, .sl [.int .i64, .int .u64, .int .i64, .int .i64] ss], .agg [.int .i64 s0, .int .u64 s1, .int .i64 s2, .int .i64 s3], .int .i64 n] [] (fun sv heap => Gives [(true, [.int .i64, .int .i64, .int .i64, .sl [.int .u64, .int .i64], .sl [.int .i64, .int .u64, .int .i64, .int .i64]]), (true, [.int .i64, .int .i64, .int .i64]), (false, [.int .i64])] [[.i (Sp.zI (Sp.adE w c p ds ss s0 s1 s2 s3 n) w), .i (Sp.zI (Sp.adE w c p ds ss s0 s1 s2 s3 n) c), .i (Sp.zI (Sp.adE w c p ds ss s0 s1 s2 s3 n) p), .l (Sp.zL (Sp.adE w c p ds ss s0 s1 s2 s3 n) (ds)), .l (Sp.zL (Sp.adE w c p ds ss s0 s1 s2 s3 n) (Sp.wS ss s0 s1 s2 n))], [.i (Sp.adK w c p ds ss s0 s1 s2 s3 n), .i (Sp.adN w c p ds ss s0 s1 s2 s3 n), .i (Sp.adH w c p ds ss s0 s1 s2 s3 n)], [.i (Sp.adE w c p ds ss s0 s1 s2 s3 n)]] sv heap)
def m20_0 (w : Int) (c : Int) (p : Int) (ds : List (List C)) (ss : List (List C)) (s0 : Int) (s1 : Int) (s2 : Int) (s3 : Int) (n : Int) : Prop := 0 = Sp.zI (Sp.adE w c p ds ss s0 s1 s2 s3 n) w ∧ 0 = Sp.zI (Sp.adE w c p ds ss s0 s1 s2 s3 n) c ∧ 0 = Sp.zI (Sp.adE w c p ds ss s0 s1 s2 s3 n) p ∧ [] = Sp.zL (Sp.adE w c p ds ss s0 s1 s2 s3 n) ds ∧ [] = Sp.zL (Sp.adE w c p ds ss s0 s1 s2 s3 n) (Sp.wS ss s0 s1 s2 n) ∧ True
def m20_1 (w : Int) (c : Int) (p : Int) (ds : List (List C)) (ss : List (List C)) (s0 : Int) (s1 : Int) (s2 : Int) (s3 : Int) (n : Int) : Prop := ((m20_0 w c p ds ss s0 s1 s2 s3 n)) ∧ (0 = Sp.adK w c p ds ss s0 s1 s2 s3 n ∧ 0 = Sp.adN w c p ds ss s0 s1 s2 s3 n ∧ 0 = Sp.adH w c p ds ss s0 s1 s2 s3 n ∧ True) ∧ (2 = Sp.adE w c p ds ss s0 s1 s2 s3 n ∧ True) ∧ True
def m20_2 (w : Int) (c : Int) (p : Int) (ds : List (List C)) (ss : List (List C)) (s0 : Int) (s1 : Int) (s2 : Int) (s3 : Int) (n : Int) : Prop := 0 = Sp.adK w c p ds ss s0 s1 s2 s3 n ∧ 0 = Sp.adN w c p ds ss s0 s1 s2 s3 n ∧ 0 = Sp.adH w c p ds ss s0 s1 s2 s3 n ∧ True
theorem e20 (w : Int) (c : Int) (p : Int) (ds : List (List C)) (ss : List (List C)) (s0 : Int) (s1 : Int) (s2 : Int) (s3 : Int) (n : Int) : B20 w c p ds ss s0 s1 s2 s3 n = (True ∧ (True → True ∧ (bNot (Sp.bval w c p ds ss) = true → ((m20_0 w c p ds ss s0 s1 s2 s3 n)) ∧ ((m20_2 w c p ds ss s0 s1 s2 s3 n)) ∧ (1 = Sp.adE w c p ds ss s0 s1 s2 s3 n ∧ True) ∧ True) ∧ (bNot (Sp.bval w c p ds ss) = false → (bLt s0 1 = false → True ∧ (True → True ∧ (bNot (decide (1 ≤ s2 ∧ s2 ≤ 8)) = false → (bLt s3 0 = false → (bLt 1099511627776 s3 = false → (bLt n 0 = false → (bLt 1099511627776 n = true → (m20_1 w c p ds ss s0 s1 s2 s3 n)) ∧ (bLt 1099511627776 n = false → True ∧ (InR .i64 (Sp.nix ss s0) → (bLe 0 (Sp.nix ss s0) = true → ((m20_0 w c p ds ss s0 s1 s2 s3 n)) ∧ ((m20_2 w c p ds ss s0 s1 s2 s3 n)) ∧ (8 = Sp.adE w c p ds ss s0 s1 s2 s3 n ∧ True) ∧ True) ∧ (bLe 0 (Sp.nix ss s0) = false → True ∧ (InR .i64 (Sp.nix ds s1) → (bLt (Sp.nix ds s1) 0 = true → ((m20_0 w c p ds ss s0 s1 s2 s3 n)) ∧ (1 = Sp.adK w c p ds ss s0 s1 s2 s3 n ∧ 0 = Sp.adN w c p ds ss s0 s1 s2 s3 n ∧ 0 = Sp.adH w c p ds ss s0 s1 s2 s3 n ∧ True) ∧ (7 = Sp.adE w c p ds ss s0 s1 s2 s3 n ∧ True) ∧ True) ∧ (bLt (Sp.nix ds s1) 0 = false → pLe (iLen ss) 9223372036854775807 → (bLe 24 (iLen ss) = true → pLe (iLen ss) 9223372036854775807 → InR .i64 (iAdd (iLen ss) 1) ∧ ((m20_0 w c p ds ss s0 s1 s2 s3 n)) ∧ (2 = Sp.adK w c p ds ss s0 s1 s2 s3 n ∧ iAdd (iLen ss) 1 = Sp.adN w c p ds ss s0 s1 s2 s3 n ∧ 24 = Sp.adH w c p ds ss s0 s1 s2 s3 n ∧ True) ∧ (10 = Sp.adE w c p ds ss s0 s1 s2 s3 n ∧ True) ∧ True) ∧ (bLe 24 (iLen ss) = false → (bLt s3 n = true → ((m20_0 w c p ds ss s0 s1 s2 s3 n)) ∧ (3 = Sp.adK w c p ds ss s0 s1 s2 s3 n ∧ n = Sp.adN w c p ds ss s0 s1 s2 s3 n ∧ s3 = Sp.adH w c p ds ss s0 s1 s2 s3 n ∧ True) ∧ (10 = Sp.adE w c p ds ss s0 s1 s2 s3 n ∧ True) ∧ True) ∧ (bLt s3 n = false → (pLe (iLen ss) 1000 ∧ True) ∧ (InR .i64 w ∧ InR .i64 c ∧ InR .i64 p ∧ ((WL [.int .u64, .int .i64] ds)) ∧ ((WL [.int .i64, .int .u64, .int .i64, .int .i64] (Sp.wS ss s0 s1 s2 n))) ∧ True → True ∧ (InR .i64 (Sp.ld w c p ds (Sp.wS ss s0 s1 s2 n)) → (bLt c (Sp.ld w c p ds (Sp.wS ss s0 s1 s2 n)) = true → ((m20_0 w c p ds ss s0 s1 s2 s3 n)) ∧ (4 = Sp.adK w c p ds ss s0 s1 s2 s3 n ∧ Sp.ld w c p ds (Sp.wS ss s0 s1 s2 n) = Sp.adN w c p ds ss s0 s1 s2 s3 n ∧ c = Sp.adH w c p ds ss s0 s1 s2 s3 n ∧ True) ∧ (10 = Sp.adE w c p ds ss s0 s1 s2 s3 n ∧ True) ∧ True) ∧ (bLt c (Sp.ld w c p ds (Sp.wS ss s0 s1 s2 n)) = false → (w = Sp.zI (Sp.adE w c p ds ss s0 s1 s2 s3 n) w ∧ c = Sp.zI (Sp.adE w c p ds ss s0 s1 s2 s3 n) c ∧ p = Sp.zI (Sp.adE w c p ds ss s0 s1 s2 s3 n) p ∧ ds = Sp.zL (Sp.adE w c p ds ss s0 s1 s2 s3 n) ds ∧ Sp.wS ss s0 s1 s2 n = Sp.zL (Sp.adE w c p ds ss s0 s1 s2 s3 n) (Sp.wS ss s0 s1 s2 n) ∧ True) ∧ ((m20_2 w c p ds ss s0 s1 s2 s3 n)) ∧ (0 = Sp.adE w c p ds ss s0 s1 s2 s3 n ∧ True) ∧ True))))))))))) ∧ (bLt n 0 = true → (m20_1 w c p ds ss s0 s1 s2 s3 n))) ∧ (bLt 1099511627776 s3 = true → (m20_1 w c p ds ss s0 s1 s2 s3 n))) ∧ (bLt s3 0 = true → (m20_1 w c p ds ss s0 s1 s2 s3 n))) ∧ (bNot (decide (1 ≤ s2 ∧ s2 ≤ 8)) = true → (m20_1 w c p ds ss s0 s1 s2 s3 n)))) ∧ (bLt s0 1 = true → (m20_1 w c p ds ss s0 s1 s2 s3 n))))) := by kernel_rfl
theorem v20 (w : Int) (c : Int) (p : Int) (ds : List (List C)) (ss : List (List C)) (s0 : Int) (s1 : Int) (s2 : Int) (s3 : Int) (n : Int) : Holds (Wfs [.agg [.int .i64 w, .int .i64 c, .int .i64 p, .sl [.int .u64, .int .i64] ds, .sl [.int .i64, .int .u64, .int .i64, .int .i64] ss], .agg [.int .i64 s0, .int .u64 s1, .int .i64 s2, .int .i64 s3], .int .i64 n] → True → B20 w c p ds ss s0 s1 s2 s3 n) := by
 refine ⟨fun hw hp => ?_⟩
 rw [e20]
 delta WL m20_0 m20_1 m20_2
 simp only [Wfs, Wf, InR, and_true] at hw
 simp only [eq_self, true_and, and_true, true_implies, implies_true, iAdd, iSub, iMul, iLen, bEq, bNe, bLt, bLe, bNot, pIn, pLe, pNe, InR, decide_eq_true_eq, decide_eq_false_iff_not, Bool.not_eq_true', Bool.not_eq_false', decide_eq_decide]
 refine ⟨fun h => Sp.ad_e (Sp.ad1 h) (by omega) (by omega) (by omega), fun hv => ?_⟩
 have hA := Sp.bval_asc hv
 have hl := Sp.bval_len hv
 have eW : Sp.ld w c p ds (Sp.wS ss s0 s1 s2 n) = Sp.ld w c p ds (Sp.inS ss s0 s1 s2 n) := Sp.ld_eq rfl (Sp.inS_m hA.2)
 rw [eW]
 have E2 : Sp.adB s0 s2 s3 n → _ := fun h => Sp.ad_e (ss2 := Sp.wS ss s0 s1 s2 n) (Sp.ad2 (p := p) (s1 := s1) hv h) (by omega) (by omega) (by omega)
 refine ⟨fun a1 => ⟨fun a2 => ⟨fun a3 => ⟨fun a4 => ⟨fun a5 => ⟨fun a6 => E2 (by unfold Sp.adB; omega), fun a6 _ => ?_⟩, fun a => E2 (by unfold Sp.adB; omega)⟩, fun a => E2 (by unfold Sp.adB; omega)⟩, fun a => E2 (by unfold Sp.adB; omega)⟩, fun a => E2 (by unfold Sp.adB; omega)⟩, fun a => E2 (by unfold Sp.adB; omega)⟩
 have h2 : ¬ Sp.adB s0 s2 s3 n := by unfold Sp.adB; omega
 refine ⟨fun h3 => Sp.ad_e (Sp.ad8 hv h2 (Sp.has_t h3)) (by omega) (by omega) (by omega), fun h3 _ => ⟨fun h4 => Sp.ad_e7 (Sp.ad7 hv h2 (Sp.has_f h3) (Sp.has_f (by omega))), fun h4 _ => ?_⟩⟩
 have hx := Sp.adx (p := p) hv h2 (Sp.has_f h3) (Sp.has_t (by omega : 0 ≤ Sp.nix ds s1))
 refine ⟨fun h5 _ => ⟨by omega, ?_⟩, fun h5 => ⟨fun h6 => ?_, fun h6 => ⟨by omega, fun _ _ => ⟨fun h7 => ?_, fun h7 => ?_⟩⟩⟩⟩
 · rw [decide_eq_true (show 24 ≤ ss.length by omega)] at hx
   have := Sp.ad_e10 (ss2 := Sp.wS ss s0 s1 s2 n) hx
   rw [decide_eq_true (show 24 ≤ ss.length by omega)] at this
   exact this
 · rw [decide_eq_false (show ¬ 24 ≤ ss.length by omega), decide_eq_true h6] at hx
   have := Sp.ad_e10 (ss2 := Sp.wS ss s0 s1 s2 n) hx
   rw [decide_eq_false (show ¬ 24 ≤ ss.length by omega), decide_eq_true h6] at this
   exact this
 · rw [decide_eq_false (show ¬ 24 ≤ ss.length by omega), decide_eq_false h6, decide_eq_true h7] at hx
   have := Sp.ad_e10 (ss2 := Sp.wS ss s0 s1 s2 n) hx
   rw [decide_eq_false (show ¬ 24 ≤ ss.length by omega), decide_eq_false h6] at this
   exact this
 · rw [decide_eq_false (show ¬ 24 ≤ ss.length by omega), decide_eq_false h6, decide_eq_false h7] at hx
   exact Sp.ad_e0 (ss2 := Sp.wS ss s0 s1 s2 n) hx
theorem s20 : SoundCt Go.Proofs.Tryz.prog 20 ct20 :=
 contractH followsMixed (look_sound (show Tb Go.Proofs.Tryz.prog tb20 from ⟨s47, ⟨s44, ⟨s42, ⟨s43, ⟨s46, ⟨s48, trivial⟩⟩⟩⟩⟩⟩)) (fun _ => false) (fun _ => A20) 6 20 ct20 rfl (by simp [ct20]) fun a => Eq.mp (by kernel_rfl) (v20 ((cel 0 (arg 0 a)).int) ((cel 1 (arg 0 a)).int) ((cel 2 (arg 0 a)).int) ((cel 3 (arg 0 a)).list) ((cel 4 (arg 0 a)).list) ((cel 0 (arg 1 a)).int) ((cel 1 (arg 1 a)).int) ((cel 2 (arg 1 a)).int) ((cel 3 (arg 1 a)).int) ((cel 0 (arg 2 a)).int))
end Go.Sx
