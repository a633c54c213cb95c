import Derived.Test.YtphaelepnjekoaaSxUse
import Derived.Test.YtphaelepnjekoaaS27f
import Derived.KernelRfl
set_option linter.unusedVariables false
set_option linter.unusedSimpArgs false
set_option maxRecDepth 100000
set_option maxHeartbeats 4000000
namespace Go
open Go.Sx
def Sp.r2 (x : List C) : List C := [.i (Sp.c0 x), .i (Sp.c1 x)]
def Sp.ldI (xs : List (List C)) (key i : Int) : Prop := 0 ≤ i ∧ i ≤ (xs.length : Int) ∧ ∀ k : Int, 0 ≤ k → k < i → Sp.c0 (rGet xs k) < key
def Sp.lead (xs : List (List C)) (key : Int) : Int := ((xs.takeWhile (fun x => decide (Sp.c0 x < key))).length : Int)
def Sp.wH (ds : List (List C)) (id ch : Int) : List (List C) := (ds.take (Sp.lead ds id).toNat).map Sp.r2 ++ [[.i id, .i ch]] ++ ds.drop (Sp.lead ds id).toNat
def Sp.wS (ss : List (List C)) (s0 s1 s2 s3 : Int) : List (List C) := (ss.take (Sp.lead ss s0).toNat).map Sp.r4 ++ [[.i s0, .i s1, .i s2, .i s3]] ++ ss.drop (Sp.lead ss s0).toNat
def Sp.wm2 (xs : List (List C)) (i : Int) : List (List C) := (xs.take i.toNat).map Sp.r2
def Sp.wm4 (xs : List (List C)) (i : Int) : List (List C) := (xs.take i.toNat).map Sp.r4
end Go
namespace Go
open Go.Sx
theorem Sp.rget_map {f : List C → List C} {xs : List (List C)} {i : Int} : rGet (xs.map f) i = if i.toNat < xs.length then f (rGet xs i) else [] := by
  unfold rGet
  rw [List.getD_eq_getElem?_getD, List.getElem?_map, List.getD_eq_getElem?_getD]
  split
  · rename_i h; rw [List.getElem?_eq_getElem h]; rfl
  · rename_i h; rw [List.getElem?_eq_none (by omega)]; rfl
theorem Sp.rget_out {xs : List (List C)} {i : Int} (h : ¬ i.toNat < xs.length) : rGet xs i = [] := by
  unfold rGet
  rw [List.getD_eq_getElem?_getD, List.getElem?_eq_none (by omega)]; rfl
theorem Sp.m2_0 {xs : List (List C)} {i : Int} : Sp.c0 (rGet (xs.map Sp.r2) i) = Sp.c0 (rGet xs i) := by
  rw [Sp.rget_map]; split
  · rfl
  · rename_i h; rw [Sp.rget_out h]
theorem Sp.m2_1 {xs : List (List C)} {i : Int} : Sp.c1 (rGet (xs.map Sp.r2) i) = Sp.c1 (rGet xs i) := by
  rw [Sp.rget_map]; split
  · rfl
  · rename_i h; rw [Sp.rget_out h]
theorem Sp.m4_0 {xs : List (List C)} {i : Int} : Sp.c0 (rGet (xs.map Sp.r4) i) = Sp.c0 (rGet xs i) := by
  rw [Sp.rget_map]; split
  · rfl
  · rename_i h; rw [Sp.rget_out h]
theorem Sp.m4_1 {xs : List (List C)} {i : Int} : Sp.c1 (rGet (xs.map Sp.r4) i) = Sp.c1 (rGet xs i) := by
  rw [Sp.rget_map]; split
  · rfl
  · rename_i h; rw [Sp.rget_out h]
theorem Sp.m4_2 {xs : List (List C)} {i : Int} : Sp.c2 (rGet (xs.map Sp.r4) i) = Sp.c2 (rGet xs i) := by
  rw [Sp.rget_map]; split
  · rfl
  · rename_i h; rw [Sp.rget_out h]
theorem Sp.m4_3 {xs : List (List C)} {i : Int} : Sp.c3 (rGet (xs.map Sp.r4) i) = Sp.c3 (rGet xs i) := by
  rw [Sp.rget_map]; split
  · rfl
  · rename_i h; rw [Sp.rget_out h]
theorem Sp.idx_map {f : List C → List C} {p : List C → Bool} (h : ∀ x, p (f x) = p x) : ∀ (xs : List (List C)) (i : Int), Sp.idx p (xs.map f) i = Sp.idx p xs i
  | [], _ => rfl
  | x :: r, i => by simp only [List.map_cons, Sp.idx, h, Sp.idx_map h r]
theorem Sp.nix_m2 {xs : List (List C)} {n : Int} : Sp.nix (xs.map Sp.r2) n = Sp.nix xs n := Sp.idx_map (f := Sp.r2) (p := Sp.isI n) (fun _ => rfl) xs 0
theorem Sp.nix_m4 {xs : List (List C)} {n : Int} : Sp.nix (xs.map Sp.r4) n = Sp.nix xs n := Sp.idx_map (f := Sp.r4) (p := Sp.isI n) (fun _ => rfl) xs 0
theorem Sp.has_m2 {xs : List (List C)} {n : Int} : Sp.has (xs.map Sp.r2) n = Sp.has xs n := by unfold Sp.has; rw [Sp.nix_m2]
theorem Sp.has_m4 {xs : List (List C)} {n : Int} : Sp.has (xs.map Sp.r4) n = Sp.has xs n := by unfold Sp.has; rw [Sp.nix_m4]
theorem Sp.dok_m {ds : List (List C)} : Sp.dokI (ds.map Sp.r2) = Sp.dokI ds := funext fun i => by unfold Sp.dokI; rw [Sp.m2_0, Sp.m2_0, Sp.m2_1]
theorem Sp.sok_m {ds ss : List (List C)} : Sp.sokI (ds.map Sp.r2) (ss.map Sp.r4) = Sp.sokI ds ss := funext fun i => by unfold Sp.sokI; rw [Sp.m4_0, Sp.m4_0, Sp.m4_1, Sp.m4_2, Sp.m4_3, Sp.has_m2]
section
variable {w c p : Int} {ds ss : List (List C)}
theorem Sp.prop_m : Sp.prop w c p (ds.map Sp.r2) (ss.map Sp.r4) = Sp.prop w c p ds ss := by unfold Sp.prop; rw [Sp.dok_m, Sp.sok_m, List.length_map, List.length_map]
theorem Sp.gC1_m : ∀ n, Sp.gC1 p (ds.map Sp.r2) n = Sp.gC1 p ds n
  | 0 => rfl
  | n + 1 => by simp only [Sp.gC1, Sp.gC1_m n, Sp.m2_1]
theorem Sp.gL2_m : ∀ n, Sp.gL2 (ds.map Sp.r2) (ss.map Sp.r4) n = Sp.gL2 ds ss n
  | 0 => rfl
  | n + 1 => by simp only [Sp.gL2, Sp.gL2_m n, Sp.m4_1, Sp.nix_m2]
theorem Sp.gC2_m : ∀ n, Sp.gC2 p (ds.map Sp.r2) (ss.map Sp.r4) n = Sp.gC2 p ds ss n
  | 0 => rfl
  | n + 1 => by simp only [Sp.gC2, Sp.gC2_m n, Sp.m4_1, Sp.m4_2, Sp.nix_m2, Sp.m2_1]
theorem Sp.ld_m : Sp.ld w c p (ds.map Sp.r2) (ss.map Sp.r4) = Sp.ld w c p ds ss := by
  unfold Sp.ld Sp.bN Sp.bL Sp.bC
  rw [Sp.prop_m, Sp.gC1_m, Sp.gL2_m, Sp.gC2_m, List.length_map, List.length_map]
end
theorem Sp.ld_eq {w c p : Int} {ds ss ds' ss' : List (List C)} (h1 : ds.map Sp.r2 = ds'.map Sp.r2) (h2 : ss.map Sp.r4 = ss'.map Sp.r4) : Sp.ld w c p ds ss = Sp.ld w c p ds' ss' := by
  rw [← Sp.ld_m, h1, h2, Sp.ld_m]
theorem Sp.r2_r2 (xs : List (List C)) : (xs.map Sp.r2).map Sp.r2 = xs.map Sp.r2 := by rw [List.map_map]; rfl
theorem Sp.r4_r4 (xs : List (List C)) : (xs.map Sp.r4).map Sp.r4 = xs.map Sp.r4 := by rw [List.map_map]; rfl
theorem Sp.ld_init {xs : List (List C)} {key : Int} : Sp.ldI xs key 0 := ⟨by omega, by omega, fun k h0 h1 => by omega⟩
theorem Sp.ld_step {xs : List (List C)} {key i : Int} (h : Sp.ldI xs key i) (hi : i < (xs.length : Int)) (hc : Sp.c0 (rGet xs i) < key) : Sp.ldI xs key (i + 1) := by
  obtain ⟨h0, h1, h2⟩ := h
  refine ⟨by omega, by omega, fun k k0 k1 => ?_⟩
  by_cases hk : k = i
  · rw [hk]; exact hc
  · exact h2 k k0 (by omega)
theorem Sp.lead_nat {key : Int} : ∀ (xs : List (List C)) (i : Nat), i ≤ xs.length → (∀ k : Nat, k < i → Sp.c0 (xs.getD k []) < key) → (i < xs.length → ¬ Sp.c0 (xs.getD i []) < key) → (xs.takeWhile (fun x => decide (Sp.c0 x < key))).length = i
  | [], i, h, _, _ => by simp at h; simp [h]
  | x :: r, 0, _, _, h3 => by
    have := h3 (by simp)
    rw [List.takeWhile_cons_of_neg (by simpa using this)]; rfl
  | x :: r, i + 1, h, h2, h3 => by
    have h0 := h2 0 (by omega)
    rw [List.takeWhile_cons_of_pos (by simpa using h0), List.length_cons, Sp.lead_nat r i (by simpa using h) (fun k hk => by simpa using h2 (k + 1) (by omega)) (fun hi => by simpa using h3 (by simpa using hi))]
theorem Sp.lead_eq {xs : List (List C)} {key i : Int} (h : Sp.ldI xs key i) (hc : i < (xs.length : Int) → ¬ Sp.c0 (rGet xs i) < key) : Sp.lead xs key = i := by
  obtain ⟨h0, h1, h2⟩ := h
  unfold Sp.lead
  have := Sp.lead_nat (key := key) xs i.toNat (by omega) (fun k hk => by
    have := h2 k (by omega) (by omega)
    unfold rGet at this
    simpa using this) (fun hi => by
    have := hc (by omega)
    unfold rGet at this
    exact this)
  omega
theorem Sp.lead_bsx {xs : List (List C)} (ha : Sp.asc xs) (key : Int) : Sp.lead xs key = Sp.bsx xs key := by
  obtain ⟨b0, b1, b2, b3⟩ := Sp.bsx_ok ha key
  exact Sp.lead_eq ⟨b0, b1, b2⟩ fun h => b3 _ (Int.le_refl _) h
theorem Sp.wm2_0 {xs : List (List C)} : Sp.wm2 xs 0 = [] := by simp [Sp.wm2]
theorem Sp.wm4_0 {xs : List (List C)} : Sp.wm4 xs 0 = [] := by simp [Sp.wm4]
theorem Sp.wm2_s {xs : List (List C)} {i : Int} (h0 : 0 ≤ i) (h1 : i < (xs.length : Int)) : Sp.wm2 xs (i + 1) = Sp.wm2 xs i ++ [Sp.r2 (rGet xs i)] := by
  unfold Sp.wm2; rw [Sp.take_succ h0 h1, List.map_append]; rfl
theorem Sp.wm4_s {xs : List (List C)} {i : Int} (h0 : 0 ≤ i) (h1 : i < (xs.length : Int)) : Sp.wm4 xs (i + 1) = Sp.wm4 xs i ++ [Sp.r4 (rGet xs i)] := by
  unfold Sp.wm4; rw [Sp.take_succ h0 h1, List.map_append]; rfl
theorem Sp.wm2_len {xs : List (List C)} {i : Int} (h0 : 0 ≤ i) (h1 : i ≤ (xs.length : Int)) : ((Sp.wm2 xs i).length : Int) = i := by
  unfold Sp.wm2; rw [List.length_map, List.length_take]; omega
theorem Sp.wm4_len {xs : List (List C)} {i : Int} (h0 : 0 ≤ i) (h1 : i ≤ (xs.length : Int)) : ((Sp.wm4 xs i).length : Int) = i := by
  unfold Sp.wm4; rw [List.length_map, List.length_take]; omega
theorem Sp.inD_m {ds : List (List C)} {id ch : Int} (ha : Sp.asc ds) : (Sp.wH ds id ch).map Sp.r2 = (Sp.inD ds id ch).map Sp.r2 := by
  unfold Sp.wH Sp.inD Sp.ins
  rw [Sp.lead_bsx ha]
  simp only [List.map_append, Sp.r2_r2]
theorem Sp.inS_m {ss : List (List C)} {s0 s1 s2 s3 : Int} (ha : Sp.asc ss) : (Sp.wS ss s0 s1 s2 s3).map Sp.r4 = (Sp.inS ss s0 s1 s2 s3).map Sp.r4 := by
  unfold Sp.wS Sp.inS Sp.ins
  rw [Sp.lead_bsx ha]
  simp only [List.map_append, Sp.r4_r4]
theorem Sp.get_del {xs : List (List C)} {i k : Int} (h0 : 0 ≤ i) (h1 : i < (xs.length : Int)) (k0 : 0 ≤ k) : rGet (Sp.del xs i (i + 1)) k = if k < i then rGet xs k else rGet xs (k + 1) := by
  unfold Sp.del rGet
  simp only [List.getD_eq_getElem?_getD]
  congr 1
  split
  · rw [List.getElem?_append_left (by rw [List.length_take]; omega), List.getElem?_take, if_pos (by omega)]
  · rw [List.getElem?_append_right (by rw [List.length_take]; omega), List.getElem?_drop, List.length_take]
    rw [show (i + 1).toNat + (k.toNat - min i.toNat xs.length) = (k + 1).toNat by omega]
theorem Sp.del_len {xs : List (List C)} {i : Int} (h0 : 0 ≤ i) (h1 : i < (xs.length : Int)) : ((Sp.del xs i (i + 1)).length : Int) = (xs.length : Int) - 1 := by
  unfold Sp.del
  rw [List.length_append, List.length_take, List.length_drop]
  omega
theorem Sp.del_asc {xs : List (List C)} (ha : Sp.asc xs) {i : Int} (h0 : 0 ≤ i) (h1 : i < (xs.length : Int)) : Sp.asc (Sp.del xs i (i + 1)) := by
  intro a b a0 ab hb
  rw [Sp.del_len h0 h1] at hb
  rw [Sp.get_del h0 h1 a0, Sp.get_del h0 h1 (by omega)]
  split <;> split
  · exact ha a b a0 ab (by omega)
  · exact ha a (b + 1) a0 (by omega) (by omega)
  · omega
  · exact ha (a + 1) (b + 1) (by omega) (by omega) (by omega)
theorem Sp.mvS_m {ss : List (List C)} {id dv : Int} (ha : Sp.asc ss) (hh : Sp.has ss id = true) :
    (Sp.wS (Sp.del ss (Sp.nix ss id) (Sp.nix ss id + 1)) (Sp.c0 (rGet ss (Sp.nix ss id))) dv (Sp.c2 (rGet ss (Sp.nix ss id))) (Sp.c3 (rGet ss (Sp.nix ss id)))).map Sp.r4 = (Sp.mvS ss id dv).map Sp.r4 := by
  obtain ⟨n0, n1, n2⟩ := Sp.nix_has hh
  have hl : Sp.lead (Sp.del ss (Sp.nix ss id) (Sp.nix ss id + 1)) (Sp.c0 (rGet ss (Sp.nix ss id))) = Sp.nix ss id := by
    refine Sp.lead_eq ⟨n0, by rw [Sp.del_len n0 n1]; omega, fun k k0 k1 => ?_⟩ fun h => ?_
    · rw [Sp.get_del n0 n1 k0, if_pos k1]
      exact ha k _ k0 k1 n1
    · rw [Sp.del_len n0 n1] at h
      rw [Sp.get_del n0 n1 n0, if_neg (by omega)]
      have := ha (Sp.nix ss id) (Sp.nix ss id + 1) n0 (by omega) (by omega)
      omega
  unfold Sp.wS
  rw [hl]
  simp only [List.map_append, Sp.r4_r4]
  unfold Sp.mvS rSet
  generalize Sp.nix ss id = i at *
  have e1 : (Sp.del ss i (i + 1)).take i.toNat = ss.take i.toNat := by
    unfold Sp.del
    rw [List.take_append_of_le_length (by rw [List.length_take]; omega), List.take_take]
    congr 1; omega
  have e2 : (Sp.del ss i (i + 1)).drop i.toNat = ss.drop (i.toNat + 1) := by
    unfold Sp.del
    rw [List.drop_append, List.drop_eq_nil_of_le (by rw [List.length_take]; omega), List.nil_append, List.length_take, List.drop_drop]
    congr 1; omega
  rw [e1, e2, List.set_eq_take_append_cons_drop, if_pos (by omega), List.map_append, List.map_cons, List.append_assoc]
  rfl
theorem Sp.has_t {xs : List (List C)} {n : Int} (h : 0 ≤ Sp.nix xs n) : Sp.has xs n = true := by unfold Sp.has; exact decide_eq_true h
theorem Sp.has_f {xs : List (List C)} {n : Int} (h : ¬ 0 ≤ Sp.nix xs n) : Sp.has xs n = false := by unfold Sp.has; exact decide_eq_false h
theorem Sp.room_ok {a : Int} {k : Nat} (h0 : 0 ≤ a) (h : a ≤ 1000) (hk : k ≤ 32) : pRoom k a := by
  show a * (k : Int) ≤ 140737488355328
  have : a * (k : Int) ≤ 1000 * 32 := Int.mul_le_mul h (by omega) (by omega) (by omega)
  omega
theorem Sp.cut_side {xs : List (List C)} {i : Int} {k : Nat} (h0 : 0 ≤ i) (h1 : i < (xs.length : Int)) (hl : (xs.length : Int) ≤ 1000) (hk : k ≤ 32) :
    geB none (some i) (xs.length : Int) ∧ pRoom k ((cutRows xs none (some i)).length : Int) ∧ (-9223372036854775808 ≤ i + 1 ∧ i + 1 ≤ 9223372036854775807) ∧ geB (some (i + 1)) none (xs.length : Int) ∧
      pRoom k ((cutRows xs none (some i) ++ cutRows xs (some (i + 1)) none).length : Int) := by
  have d : cutRows xs none (some i) ++ cutRows xs (some (i + 1)) none = Sp.del xs i (i + 1) := rfl
  have l := Sp.del_len (xs := xs) h0 h1
  have c1 : (cutRows xs none (some i)).length ≤ xs.length := by show (xs.take _).length ≤ _; rw [List.length_take]; omega
  rw [d]
  exact ⟨by simp only [geB]; omega, Sp.room_ok (by omega) (by omega) hk, by omega, by simp only [geB]; omega, Sp.room_ok (by omega) (by omega) hk⟩
end Go
namespace Go.Sx
def ct54 : Ct := { ps := [(true, [.int .i64, .int .i64, .int .i64, .sl [.int .u64, .int .i64], .sl [.int .i64, .int .u64, .int .i64, .int .i64]]), (true, [.int .u64, .int .i64])], rs := [(true, [.int .i64, .int .i64, .int .i64, .sl [.int .u64, .int .i64], .sl [.int .i64, .int .u64, .int .i64, .int .i64]])], pre := fun a => pLe (iLen (cel 3 (arg 0 a)).list) 1000 ∧ True, out := fun a => [[.i (cel 0 (arg 0 a)).int, .i (cel 1 (arg 0 a)).int, .i (cel 2 (arg 0 a)).int, .l (Sp.wH (cel 3 (arg 0 a)).list (cel 0 (arg 1 a)).int (cel 1 (arg 1 a)).int), .l (cel 4 (arg 0 a)).list]] }
def tb54 : List (Nat × Ct) := []
def A54 (ds : List (List C)) (id : Int) : FuncId → Nat → LoopAnn := fun _ ii => bif Nat.beq ii 3 then .ghost 5 [.int .u64, .int .i64] 60 (.on (fun sv0 => match sv0.tmps.getD 5 .undef with | .own rc _ => .inv Int (fun z => Sp.ldI ds id z) (fun z => [(6, .int .i64 z), (5, .own rc 0)]) (fun z => [(rc, .row [.int .u64, .int .i64] 60 0 (Sp.wm2 ds z))]) [rc] [0, 1, 2, 3, 4, 5, 6, 22] (fun z => ds.length - z.toNat) | _ => .unroll 0)) else bif Nat.beq ii 1000007 then .mark 5 (.unroll 0) else .unroll 0
abbrev B54 (w : Int) (c : Int) (p : Int) (ds : List (List C)) (ss : List (List C)) (id : Int) (ch : Int) : Prop := vcF Go.Proofs.Try.prog (look tb54) (fun _ => false) (A54 ds id) 6 54 [.agg [.int .i64 w, .int .i64 c, .int .i64 p, .sl [.int .u64, .int .i64] ds, .sl [.int .i64, .int .u64, .int .i64, .int .i64] ss], .agg [.int .u64 id, .int .i64 ch]] [] (fun sv heap => Gives [(true, [.int .i64, .int .i64, .int .i64, .sl [.int .u64, .int .i64], .sl [.int .i64, .int .u64, .int .i64, .int .i64]])] [[.i w, .i c, .i p, .l (Sp.wH ds id ch), .l ss]] sv heap)
def h54_0 : Int → Int → Int → List (List C) → List (List C) → Int → Int → List SV := fun (w c p : Int) (ds ss : List (List C)) (id ch : Int) => [SV.agg [SV.int .i64 w, SV.int .i64 c, SV.int .i64 p, SV.sl [.int .u64, .int .i64] ds, SV.sl [.int .i64, .int .u64, .int .i64, .int .i64] ss], SV.agg [SV.int .u64 id, SV.int .i64 ch], SV.ref 0 0, SV.ref 1 0, SV.ref 2 0]
def h54_1 : Int → Int → Int → List (List C) → List (List C) → Int → Int → List HB := fun (w c p : Int) (ds ss : List (List C)) (id ch : Int) => [HB.box [SV.int .i64 w, SV.int .i64 c, SV.int .i64 p, SV.sl [.int .u64, .int .i64] ds, SV.sl [.int .i64, .int .u64, .int .i64, .int .i64] ss] 28, HB.box [SV.int .u64 id, SV.int .i64 ch] 60, HB.box [SV.lit .i64 0, SV.lit .i64 0, SV.lit .i64 0, SV.nils, SV.nils] 28, HB.gone]
theorem e54 (w : Int) (c : Int) (p : Int) (ds : List (List C)) (ss : List (List C)) (id : Int) (ch : Int) : B54 w c p ds ss id ch = ((∃ (x : Int), Sp.ldI ds id x ∧ true = true ∧ ((IntKind.i64 = IntKind.i64 ∧ 0 = x) ∧ (3 = 3 ∧ 0 + 1 = 0 + 1) ∧ True) ∧ ([Sh.int .u64, Sh.int .i64] = [Sh.int .u64, Sh.int .i64] ∧ 60 = 60 ∧ 0 + 1 = 0 + 1 ∧ [] = Sp.wm2 ds x) ∧ True) ∧ (∀ (x : Int), true = true ∧ true = true) ∧ ∀ (x : Int), Sp.ldI ds id x → InR .i64 x ∧ True ∧ True → ((WL [.int .u64, .int .i64] (Sp.wm2 ds x))) ∧ True → pLe (iLen ds) 9223372036854775807 → (bLt x (iLen ds) = true → pIn 0 (iLen ds) x ∧ (InR .u64 (q0 (rGet ds x)) → (bLt (q0 (rGet ds x)) id = true → pIn 0 (iLen ds) x ∧ (InR .u64 (q0 (rGet ds x)) ∧ InR .i64 (q1 (rGet ds x)) ∧ True → pRoom 16 (iLen (Sp.wm2 ds x ++ [[C.i (q0 (rGet ds x)), C.i (q1 (rGet ds x))]])) ∧ InR .i64 (iAdd x 1) ∧ (true = true ∧ h54_0 w c p ds ss id ch = h54_0 w c p ds ss id ch) ∧ h54_1 w c p ds ss id ch = h54_1 w c p ds ss id ch ∧ ∃ (y : Int), Sp.ldI ds id y ∧ true = true ∧ ((IntKind.i64 = IntKind.i64 ∧ iAdd x 1 = y) ∧ (3 = 3 ∧ 0 + 1 = 0 + 1) ∧ True) ∧ (([Sh.int .u64] ++ ([Sh.int .i64] ++ []) = [Sh.int .u64, Sh.int .i64] ∧ 60 = 60 ∧ 0 + 1 = 0 + 1 ∧ Sp.wm2 ds x ++ [[C.i (q0 (rGet ds x)), C.i (q1 (rGet ds x))]] = Sp.wm2 ds y) ∧ True) ∧ ds.length - y.toNat < ds.length - x.toNat)) ∧ (bLt (q0 (rGet ds x)) id = false → pRoom 16 (iLen (Sp.wm2 ds x ++ [[C.i id, C.i ch]])) ∧ pLe (iLen (Sp.wm2 ds x)) 9223372036854775807 ∧ geB (some (iLen (Sp.wm2 ds x))) none (iLen ds) ∧ pRoom 16 (iLen (Sp.wm2 ds x ++ [[C.i id, C.i ch]] ++ cutRows ds (some (iLen (Sp.wm2 ds x))) none)) ∧ (w = w ∧ c = c ∧ p = p ∧ Sp.wm2 ds x ++ [[C.i id, C.i ch]] ++ cutRows ds (some (iLen (Sp.wm2 ds x))) none = Sp.wH ds id ch ∧ ss = ss ∧ True) ∧ True))) ∧ (bLt x (iLen ds) = false → pRoom 16 (iLen (Sp.wm2 ds x ++ [[C.i id, C.i ch]])) ∧ pLe (iLen (Sp.wm2 ds x)) 9223372036854775807 ∧ geB (some (iLen (Sp.wm2 ds x))) none (iLen ds) ∧ pRoom 16 (iLen (Sp.wm2 ds x ++ [[C.i id, C.i ch]] ++ cutRows ds (some (iLen (Sp.wm2 ds x))) none)) ∧ (w = w ∧ c = c ∧ p = p ∧ Sp.wm2 ds x ++ [[C.i id, C.i ch]] ++ cutRows ds (some (iLen (Sp.wm2 ds x))) none = Sp.wH ds id ch ∧ ss = ss ∧ True) ∧ True)) := by kernel_rfl
theorem v54 (w : Int) (c : Int) (p : Int) (ds : List (List C)) (ss : List (List C)) (id : Int) (ch : Int) : Holds (Wfs [.agg [.int .i64 w, .int .i64 c, .int .i64 p, .sl [.int .u64, .int .i64] ds, .sl [.int .i64, .int .u64, .int .i64, .int .i64] ss], .agg [.int .u64 id, .int .i64 ch]] → pLe (iLen ds) 1000 ∧ True → B54 w c p ds ss id ch) := by
  refine ⟨fun hw hp => ?_⟩
  rw [e54]
  unfold WL q0 q1
  simp only [Wfs, Wf, InR, and_true] at hw
  simp only [eq_self, true_and, and_true, true_implies, implies_true, iAdd, iSub, iMul, iLen, bEq, bNe, bLt, bLe, bNot, pIn, pLe, pNe, InR, decide_eq_true_eq, decide_eq_false_iff_not, Bool.not_eq_true', Bool.not_eq_false', decide_eq_decide]
  simp only [pLe, iLen] at hp
  refine ⟨⟨0, Sp.ld_init, rfl, Sp.wm2_0.symm⟩, ?_⟩
  intro x hx _ _ _
  have x0 := hx.1
  have x1 := hx.2.1
  have wl := Sp.wm2_len x0 x1
  have fin : (x < (ds.length : Int) → ¬ Sp.c0 (rGet ds x) < id) → pRoom 16 ((Sp.wm2 ds x ++ [[C.i id, C.i ch]]).length : Int) ∧ ((Sp.wm2 ds x).length : Int) ≤ 9223372036854775807 ∧ geB (some ((Sp.wm2 ds x).length : Int)) none (ds.length : Int) ∧ pRoom 16 ((Sp.wm2 ds x ++ [[C.i id, C.i ch]] ++ cutRows ds (some ((Sp.wm2 ds x).length : Int)) none).length : Int) ∧ Sp.wm2 ds x ++ [[C.i id, C.i ch]] ++ cutRows ds (some ((Sp.wm2 ds x).length : Int)) none = Sp.wH ds id ch := fun h => by
    have e := Sp.lead_eq hx h
    have cl : (cutRows ds (some ((Sp.wm2 ds x).length : Int)) none).length ≤ ds.length := by show (ds.drop _).length ≤ _; rw [List.length_drop]; omega
    refine ⟨by simp only [pRoom, List.length_append, List.length_singleton]; omega, by omega, by simp only [geB]; omega, by simp only [pRoom, List.length_append, List.length_singleton]; omega, ?_⟩
    rw [wl]
    unfold Sp.wH
    rw [e]; rfl
  refine ⟨fun hlt => ⟨⟨x0, hlt⟩, fun _ => ⟨fun hc => ⟨⟨x0, hlt⟩, fun _ => ⟨by simp only [pRoom, List.length_append, List.length_singleton]; omega, by omega, x + 1, Sp.ld_step hx hlt hc, rfl, ⟨rfl, (Sp.wm2_s x0 hlt).symm⟩, by omega⟩⟩, fun hc => fin fun _ => hc⟩⟩, fun hge => fin fun h => absurd h hge⟩
theorem s54 : SoundCt Go.Proofs.Try.prog 54 ct54 :=
  contractH followsMixed (look_sound (show Tb Go.Proofs.Try.prog tb54 from trivial)) (fun _ => false) (fun a => A54 ((cel 3 (arg 0 a)).list) ((cel 0 (arg 1 a)).int)) 6 54 ct54 rfl (by simp [ct54]) fun a => Eq.mp (by kernel_rfl) (v54 ((cel 0 (arg 0 a)).int) ((cel 1 (arg 0 a)).int) ((cel 2 (arg 0 a)).int) ((cel 3 (arg 0 a)).list) ((cel 4 (arg 0 a)).list) ((cel 0 (arg 1 a)).int) ((cel 1 (arg 1 a)).int))
end Go.Sx
namespace Go.Sx
def ct59 : Ct := { ps := [(true, [.int .i64, .int .i64, .int .i64, .sl [.int .u64, .int .i64], .sl [.int .i64, .int .u64, .int .i64, .int .i64]]), (true, [.int .i64, .int .u64, .int .i64, .int .i64])], rs := [(true, [.int .i64, .int .i64, .int .i64, .sl [.int .u64, .int .i64], .sl [.int .i64, .int .u64, .int .i64, .int .i64]])], pre := fun a => pLe (iLen (cel 4 (arg 0 a)).list) 1000 ∧ True, out := fun a => [[.i (cel 0 (arg 0 a)).int, .i (cel 1 (arg 0 a)).int, .i (cel 2 (arg 0 a)).int, .l (cel 3 (arg 0 a)).list, .l (Sp.wS (cel 4 (arg 0 a)).list (cel 0 (arg 1 a)).int (cel 1 (arg 1 a)).int (cel 2 (arg 1 a)).int (cel 3 (arg 1 a)).int)]] }
def tb59 : List (Nat × Ct) := []
def A59 (ss : List (List C)) (s0 : Int) : FuncId → Nat → LoopAnn := fun _ ii => bif Nat.beq ii 3 then .ghost 5 [.int .i64, .int .u64, .int .i64, .int .i64] 47 (.on (fun sv0 => match sv0.tmps.getD 5 .undef with | .own rc _ => .inv Int (fun z => Sp.ldI ss s0 z) (fun z => [(6, .int .i64 z), (5, .own rc 0)]) (fun z => [(rc, .row [.int .i64, .int .u64, .int .i64, .int .i64] 47 0 (Sp.wm4 ss z))]) [rc] [0, 1, 2, 3, 4, 5, 6, 22] (fun z => ss.length - z.toNat) | _ => .unroll 0)) else bif Nat.beq ii 1000007 then .mark 5 (.unroll 0) else .unroll 0
abbrev B59 (w : Int) (c : Int) (p : Int) (ds : List (List C)) (ss : List (List C)) (s0 : Int) (s1 : Int) (s2 : Int) (s3 : Int) : Prop := vcF Go.Proofs.Try.prog (look tb59) (fun _ => false) (A59 ss s0) 6 59 [.agg [.int .i64 w, .int .i64 c, .int .i64 p, .sl [.int .u64, .int .i64] ds, .sl [.int .i64, .int .u64, .int .i64, .int .i64] ss], .agg [.int .i64 s0, .int .u64 s1, .int .i64 s2, .int .i64 s3]] [] (fun sv heap => Gives [(true, [.int .i64, .int .i64, .int .i64, .sl [.int .u64, .int .i64], .sl [.int .i64, .int .u64, .int .i64, .int .i64]])] [[.i w, .i c, .i p, .l ds, .l (Sp.wS ss s0 s1 s2 s3)]] sv heap)
def h59_0 : Int → Int → Int → List (List C) → List (List C) → Int → Int → Int → Int → List SV := fun (w c p : Int) (ds ss : List (List C)) (s0 s1 s2 s3 : Int) => [SV.agg [SV.int .i64 w, SV.int .i64 c, SV.int .i64 p, SV.sl [.int .u64, .int .i64] ds, SV.sl [.int .i64, .int .u64, .int .i64, .int .i64] ss], SV.agg [SV.int .i64 s0, SV.int .u64 s1, SV.int .i64 s2, SV.int .i64 s3], SV.ref 0 0, SV.ref 1 0, SV.ref 2 0]
def h59_1 : Int → Int → Int → List (List C) → List (List C) → Int → Int → Int → Int → List HB := fun (w c p : Int) (ds ss : List (List C)) (s0 s1 s2 s3 : Int) => [HB.box [SV.int .i64 w, SV.int .i64 c, SV.int .i64 p, SV.sl [.int .u64, .int .i64] ds, SV.sl [.int .i64, .int .u64, .int .i64, .int .i64] ss] 28, HB.box [SV.int .i64 s0, SV.int .u64 s1, SV.int .i64 s2, SV.int .i64 s3] 47, HB.box [SV.lit .i64 0, SV.lit .i64 0, SV.lit .i64 0, SV.nils, SV.nils] 28, HB.gone]
theorem e59 (w : Int) (c : Int) (p : Int) (ds : List (List C)) (ss : List (List C)) (s0 : Int) (s1 : Int) (s2 : Int) (s3 : Int) : B59 w c p ds ss s0 s1 s2 s3 = ((∃ (x : Int), Sp.ldI ss s0 x ∧ true = true ∧ ((IntKind.i64 = IntKind.i64 ∧ 0 = x) ∧ (3 = 3 ∧ 0 + 1 = 0 + 1) ∧ True) ∧ ([Sh.int .i64, Sh.int .u64, Sh.int .i64, Sh.int .i64] = [Sh.int .i64, Sh.int .u64, Sh.int .i64, Sh.int .i64] ∧ 47 = 47 ∧ 0 + 1 = 0 + 1 ∧ [] = Sp.wm4 ss x) ∧ True) ∧ (∀ (x : Int), true = true ∧ true = true) ∧ ∀ (x : Int), Sp.ldI ss s0 x → InR .i64 x ∧ True ∧ True → ((WL [.int .i64, .int .u64, .int .i64, .int .i64] (Sp.wm4 ss x))) ∧ True → pLe (iLen ss) 9223372036854775807 → (bLt x (iLen ss) = true → pIn 0 (iLen ss) x ∧ (InR .i64 (q0 (rGet ss x)) → (bLt (q0 (rGet ss x)) s0 = true → pIn 0 (iLen ss) x ∧ (InR .i64 (q0 (rGet ss x)) ∧ InR .u64 (q1 (rGet ss x)) ∧ InR .i64 (q2 (rGet ss x)) ∧ InR .i64 (q3 (rGet ss x)) ∧ True → pRoom 32 (iLen (Sp.wm4 ss x ++ [[C.i (q0 (rGet ss x)), C.i (q1 (rGet ss x)), C.i (q2 (rGet ss x)), C.i (q3 (rGet ss x))]])) ∧ InR .i64 (iAdd x 1) ∧ (true = true ∧ h59_0 w c p ds ss s0 s1 s2 s3 = h59_0 w c p ds ss s0 s1 s2 s3) ∧ h59_1 w c p ds ss s0 s1 s2 s3 = h59_1 w c p ds ss s0 s1 s2 s3 ∧ ∃ (y : Int), Sp.ldI ss s0 y ∧ true = true ∧ ((IntKind.i64 = IntKind.i64 ∧ iAdd x 1 = y) ∧ (3 = 3 ∧ 0 + 1 = 0 + 1) ∧ True) ∧ (([Sh.int .i64] ++ ([Sh.int .u64] ++ ([Sh.int .i64] ++ ([Sh.int .i64] ++ []))) = [Sh.int .i64, Sh.int .u64, Sh.int .i64, Sh.int .i64] ∧ 47 = 47 ∧ 0 + 1 = 0 + 1 ∧ Sp.wm4 ss x ++ [[C.i (q0 (rGet ss x)), C.i (q1 (rGet ss x)), C.i (q2 (rGet ss x)), C.i (q3 (rGet ss x))]] = Sp.wm4 ss y) ∧ True) ∧ ss.length - y.toNat < ss.length - x.toNat)) ∧ (bLt (q0 (rGet ss x)) s0 = false → pRoom 32 (iLen (Sp.wm4 ss x ++ [[C.i s0, C.i s1, C.i s2, C.i s3]])) ∧ pLe (iLen (Sp.wm4 ss x)) 9223372036854775807 ∧ geB (some (iLen (Sp.wm4 ss x))) none (iLen ss) ∧ pRoom 32 (iLen (Sp.wm4 ss x ++ [[C.i s0, C.i s1, C.i s2, C.i s3]] ++ cutRows ss (some (iLen (Sp.wm4 ss x))) none)) ∧ (w = w ∧ c = c ∧ p = p ∧ ds = ds ∧ Sp.wm4 ss x ++ [[C.i s0, C.i s1, C.i s2, C.i s3]] ++ cutRows ss (some (iLen (Sp.wm4 ss x))) none = Sp.wS ss s0 s1 s2 s3 ∧ True) ∧ True))) ∧ (bLt x (iLen ss) = false → pRoom 32 (iLen (Sp.wm4 ss x ++ [[C.i s0, C.i s1, C.i s2, C.i s3]])) ∧ pLe (iLen (Sp.wm4 ss x)) 9223372036854775807 ∧ geB (some (iLen (Sp.wm4 ss x))) none (iLen ss) ∧ pRoom 32 (iLen (Sp.wm4 ss x ++ [[C.i s0, C.i s1, C.i s2, C.i s3]] ++ cutRows ss (some (iLen (Sp.wm4 ss x))) none)) ∧ (w = w ∧ c = c ∧ p = p ∧ ds = ds ∧ Sp.wm4 ss x ++ [[C.i s0, C.i s1, C.i s2, C.i s3]] ++ cutRows ss (some (iLen (Sp.wm4 ss x))) none = Sp.wS ss s0 s1 s2 s3 ∧ True) ∧ True)) := by kernel_rfl
theorem v59 (w : Int) (c : Int) (p : Int) (ds : List (List C)) (ss : List (List C)) (s0 : Int) (s1 : Int) (s2 : Int) (s3 : Int) : Holds (Wfs [.agg [.int .i64 w, .int .i64 c, .int .i64 p, .sl [.int .u64, .int .i64] ds, .sl [.int .i64, .int .u64, .int .i64, .int .i64] ss], .agg [.int .i64 s0, .int .u64 s1, .int .i64 s2, .int .i64 s3]] → pLe (iLen ss) 1000 ∧ True → B59 w c p ds ss s0 s1 s2 s3) := by
  refine ⟨fun hw hp => ?_⟩
  rw [e59]
  unfold WL q0 q1 q2 q3
  simp only [Wfs, Wf, InR, and_true] at hw
  simp only [eq_self, true_and, and_true, true_implies, implies_true, iAdd, iSub, iMul, iLen, bEq, bNe, bLt, bLe, bNot, pIn, pLe, pNe, InR, decide_eq_true_eq, decide_eq_false_iff_not, Bool.not_eq_true', Bool.not_eq_false', decide_eq_decide]
  simp only [pLe, iLen] at hp
  refine ⟨⟨0, Sp.ld_init, rfl, Sp.wm4_0.symm⟩, ?_⟩
  intro x hx _ _ _
  have x0 := hx.1
  have x1 := hx.2.1
  have wl := Sp.wm4_len x0 x1
  have fin : (x < (ss.length : Int) → ¬ Sp.c0 (rGet ss x) < s0) → pRoom 32 ((Sp.wm4 ss x ++ [[C.i s0, C.i s1, C.i s2, C.i s3]]).length : Int) ∧ ((Sp.wm4 ss x).length : Int) ≤ 9223372036854775807 ∧ geB (some ((Sp.wm4 ss x).length : Int)) none (ss.length : Int) ∧ pRoom 32 ((Sp.wm4 ss x ++ [[C.i s0, C.i s1, C.i s2, C.i s3]] ++ cutRows ss (some ((Sp.wm4 ss x).length : Int)) none).length : Int) ∧ Sp.wm4 ss x ++ [[C.i s0, C.i s1, C.i s2, C.i s3]] ++ cutRows ss (some ((Sp.wm4 ss x).length : Int)) none = Sp.wS ss s0 s1 s2 s3 := fun h => by
    have e := Sp.lead_eq hx h
    have cl : (cutRows ss (some ((Sp.wm4 ss x).length : Int)) none).length ≤ ss.length := by show (ss.drop _).length ≤ _; rw [List.length_drop]; omega
    refine ⟨by simp only [pRoom, List.length_append, List.length_singleton]; omega, by omega, by simp only [geB]; omega, by simp only [pRoom, List.length_append, List.length_singleton]; omega, ?_⟩
    rw [wl]
    unfold Sp.wS
    rw [e]; rfl
  refine ⟨fun hlt => ⟨⟨x0, hlt⟩, fun _ => ⟨fun hc => ⟨⟨x0, hlt⟩, fun _ => ⟨by simp only [pRoom, List.length_append, List.length_singleton]; omega, by omega, x + 1, Sp.ld_step hx hlt hc, rfl, ⟨rfl, (Sp.wm4_s x0 hlt).symm⟩, by omega⟩⟩, fun hc => fin fun _ => hc⟩⟩, fun hge => fin fun h => absurd h hge⟩
theorem s59 : SoundCt Go.Proofs.Try.prog 59 ct59 :=
  contractH followsMixed (look_sound (show Tb Go.Proofs.Try.prog tb59 from trivial)) (fun _ => false) (fun a => A59 ((cel 4 (arg 0 a)).list) ((cel 0 (arg 1 a)).int)) 6 59 ct59 rfl (by simp [ct59]) fun a => Eq.mp (by kernel_rfl) (v59 ((cel 0 (arg 0 a)).int) ((cel 1 (arg 0 a)).int) ((cel 2 (arg 0 a)).int) ((cel 3 (arg 0 a)).list) ((cel 4 (arg 0 a)).list) ((cel 0 (arg 1 a)).int) ((cel 1 (arg 1 a)).int) ((cel 2 (arg 1 a)).int) ((cel 3 (arg 1 a)).int))
end Go.Sx
namespace Go.Sx
def ct60 : Ct := { ps := [(true, [.int .i64, .int .i64, .int .i64, .sl [.int .u64, .int .i64], .sl [.int .i64, .int .u64, .int .i64, .int .i64]]), (false, [.int .i64])], rs := [(true, [.int .i64, .int .i64, .int .i64, .sl [.int .u64, .int .i64], .sl [.int .i64, .int .u64, .int .i64, .int .i64]])], pre := fun a => pIn 0 (iLen (cel 4 (arg 0 a)).list) (cel 0 (arg 1 a)).int ∧ pLe (iLen (cel 4 (arg 0 a)).list) 1000, out := fun a => [[.i (cel 0 (arg 0 a)).int, .i (cel 1 (arg 0 a)).int, .i (cel 2 (arg 0 a)).int, .l (cel 3 (arg 0 a)).list, .l (Sp.del (cel 4 (arg 0 a)).list (cel 0 (arg 1 a)).int ((cel 0 (arg 1 a)).int + 1))]] }
def tb60 : List (Nat × Ct) := []
def A60  : FuncId → Nat → LoopAnn := fun _ _ => LoopAnn.unroll 200
abbrev B60 (w : Int) (c : Int) (p : Int) (ds : List (List C)) (ss : List (List C)) (i : Int) : Prop := vcF Go.Proofs.Try.prog (look tb60) (fun _ => false) (A60) 6 60 [.agg [.int .i64 w, .int .i64 c, .int .i64 p, .sl [.int .u64, .int .i64] ds, .sl [.int .i64, .int .u64, .int .i64, .int .i64] ss], .int .i64 i] [] (fun sv heap => Gives [(true, [.int .i64, .int .i64, .int .i64, .sl [.int .u64, .int .i64], .sl [.int .i64, .int .u64, .int .i64, .int .i64]])] [[.i w, .i c, .i p, .l ds, .l (Sp.del ss i (i + 1))]] sv heap)
theorem e60 (w : Int) (c : Int) (p : Int) (ds : List (List C)) (ss : List (List C)) (i : Int) : B60 w c p ds ss i = (geB none (some i) (iLen ss) ∧ pRoom 32 (iLen (cutRows ss none (some i))) ∧ InR .i64 (iAdd i 1) ∧ geB (some (iAdd i 1)) none (iLen ss) ∧ pRoom 32 (iLen (cutRows ss none (some i) ++ cutRows ss (some (iAdd i 1)) none)) ∧ (w = w ∧ c = c ∧ p = p ∧ ds = ds ∧ cutRows ss none (some i) ++ cutRows ss (some (iAdd i 1)) none = Sp.del ss i (i + 1) ∧ True) ∧ True) := by kernel_rfl
theorem v60 (w : Int) (c : Int) (p : Int) (ds : List (List C)) (ss : List (List C)) (i : Int) : Holds (Wfs [.agg [.int .i64 w, .int .i64 c, .int .i64 p, .sl [.int .u64, .int .i64] ds, .sl [.int .i64, .int .u64, .int .i64, .int .i64] ss], .int .i64 i] → pIn 0 (iLen ss) i ∧ pLe (iLen ss) 1000 → B60 w c p ds ss i) := by
  refine ⟨fun hw hp => ?_⟩
  rw [e60]
  simp only [Wfs, Wf, InR, and_true] at hw
  simp only [eq_self, true_and, and_true, true_implies, implies_true, iAdd, iSub, iMul, iLen, bEq, bNe, bLt, bLe, bNot, pIn, pLe, pNe, InR, decide_eq_true_eq, decide_eq_false_iff_not, Bool.not_eq_true', Bool.not_eq_false', decide_eq_decide]
  simp only [pIn, pLe, iLen] at hp
  obtain ⟨a, b, c', d, e⟩ := Sp.cut_side (k := 32) hp.1.1 hp.1.2 hp.2 (by omega)
  exact ⟨a, b, c', d, e, rfl⟩
theorem s60 : SoundCt Go.Proofs.Try.prog 60 ct60 :=
  contractH followsMixed (look_sound (show Tb Go.Proofs.Try.prog tb60 from trivial)) (fun _ => false) (fun _ => A60) 6 60 ct60 rfl (by simp [ct60]) fun a => Eq.mp (by kernel_rfl) (v60 ((cel 0 (arg 0 a)).int) ((cel 1 (arg 0 a)).int) ((cel 2 (arg 0 a)).int) ((cel 3 (arg 0 a)).list) ((cel 4 (arg 0 a)).list) ((cel 0 (arg 1 a)).int))
end Go.Sx
namespace Go.Sx
def ct25 : Ct := { ps := [(true, [.int .i64, .int .i64, .int .i64, .sl [.int .u64, .int .i64], .sl [.int .i64, .int .u64, .int .i64, .int .i64]]), (true, [.int .u64, .int .i64])], rs := [(true, [.int .i64, .int .i64, .int .i64, .sl [.int .u64, .int .i64], .sl [.int .i64, .int .u64, .int .i64, .int .i64]]), (false, [.int .i64])], pre := fun _ => True, out := fun a => [[.i (Sp.zI (Sp.hoE (cel 0 (arg 0 a)).int (cel 1 (arg 0 a)).int (cel 2 (arg 0 a)).int (cel 3 (arg 0 a)).list (cel 4 (arg 0 a)).list (cel 0 (arg 1 a)).int (cel 1 (arg 1 a)).int) (cel 0 (arg 0 a)).int), .i (Sp.zI (Sp.hoE (cel 0 (arg 0 a)).int (cel 1 (arg 0 a)).int (cel 2 (arg 0 a)).int (cel 3 (arg 0 a)).list (cel 4 (arg 0 a)).list (cel 0 (arg 1 a)).int (cel 1 (arg 1 a)).int) (cel 1 (arg 0 a)).int), .i (Sp.zI (Sp.hoE (cel 0 (arg 0 a)).int (cel 1 (arg 0 a)).int (cel 2 (arg 0 a)).int (cel 3 (arg 0 a)).list (cel 4 (arg 0 a)).list (cel 0 (arg 1 a)).int (cel 1 (arg 1 a)).int) (cel 2 (arg 0 a)).int), .l (Sp.zL (Sp.hoE (cel 0 (arg 0 a)).int (cel 1 (arg 0 a)).int (cel 2 (arg 0 a)).int (cel 3 (arg 0 a)).list (cel 4 (arg 0 a)).list (cel 0 (arg 1 a)).int (cel 1 (arg 1 a)).int) (Sp.wH (cel 3 (arg 0 a)).list (cel 0 (arg 1 a)).int (cel 1 (arg 1 a)).int)), .l (Sp.zL (Sp.hoE (cel 0 (arg 0 a)).int (cel 1 (arg 0 a)).int (cel 2 (arg 0 a)).int (cel 3 (arg 0 a)).list (cel 4 (arg 0 a)).list (cel 0 (arg 1 a)).int (cel 1 (arg 1 a)).int) ((cel 4 (arg 0 a)).list))], [.i (Sp.hoE (cel 0 (arg 0 a)).int (cel 1 (arg 0 a)).int (cel 2 (arg 0 a)).int (cel 3 (arg 0 a)).list (cel 4 (arg 0 a)).list (cel 0 (arg 1 a)).int (cel 1 (arg 1 a)).int)]] }
def tb25 : List (Nat × Ct) := [(40, ct40), (15, ct15), (53, ct53), (17, ct17), (54, ct54)]
def A25  : FuncId → Nat → LoopAnn := fun _ _ => LoopAnn.unroll 200
abbrev B25 (w : Int) (c : Int) (p : Int) (ds : List (List C)) (ss : List (List C)) (id : Int) (ch : Int) : Prop := vcF Go.Proofs.Try.prog (look tb25) (fun _ => false) (A25) 6 25 [.agg [.int .i64 w, .int .i64 c, .int .i64 p, .sl [.int .u64, .int .i64] ds, .sl [.int .i64, .int .u64, .int .i64, .int .i64] ss], .agg [.int .u64 id, .int .i64 ch]] [] (fun sv heap => Gives [(true, [.int .i64, .int .i64, .int .i64, .sl [.int .u64, .int .i64], .sl [.int .i64, .int .u64, .int .i64, .int .i64]]), (false, [.int .i64])] [[.i (Sp.zI (Sp.hoE w c p ds ss id ch) w), .i (Sp.zI (Sp.hoE w c p ds ss id ch) c), .i (Sp.zI (Sp.hoE w c p ds ss id ch) p), .l (Sp.zL (Sp.hoE w c p ds ss id ch) (Sp.wH ds id ch)), .l (Sp.zL (Sp.hoE w c p ds ss id ch) (ss))], [.i (Sp.hoE w c p ds ss id ch)]] sv heap)
theorem e25 (w : Int) (c : Int) (p : Int) (ds : List (List C)) (ss : List (List C)) (id : Int) (ch : Int) (Z1 : Int) (hZ1 : Z1 = Sp.hoE w c p ds ss id ch) (Z2 : List (List C)) (hZ2 : Z2 = Sp.wH ds id ch) : B25 w c p ds ss id ch = (True ∧ (True → True ∧ (bNot (Sp.bval w c p ds ss) = true → (0 = Sp.zI Z1 w ∧ 0 = Sp.zI Z1 c ∧ 0 = Sp.zI Z1 p ∧ [] = Sp.zL Z1 Z2 ∧ [] = Sp.zL Z1 ss ∧ True) ∧ (1 = Sp.hoE w c p ds ss id ch ∧ True) ∧ True) ∧ (bNot (Sp.bval w c p ds ss) = false → (bEq id 0 = false → True ∧ (True → True ∧ (bNot (decide (1 ≤ ch ∧ ch ≤ 8)) = true → (0 = Sp.zI Z1 w ∧ 0 = Sp.zI Z1 c ∧ 0 = Sp.zI Z1 p ∧ [] = Sp.zL Z1 Z2 ∧ [] = Sp.zL Z1 ss ∧ True) ∧ (2 = Sp.hoE w c p ds ss id ch ∧ True) ∧ True) ∧ (bNot (decide (1 ≤ ch ∧ ch ≤ 8)) = false → True ∧ (InR .i64 (Sp.nix ds id) → (bLe 0 (Sp.nix ds id) = true → (0 = Sp.zI Z1 w ∧ 0 = Sp.zI Z1 c ∧ 0 = Sp.zI Z1 p ∧ [] = Sp.zL Z1 Z2 ∧ [] = Sp.zL Z1 ss ∧ True) ∧ (8 = Sp.hoE w c p ds ss id ch ∧ True) ∧ True) ∧ (bLe 0 (Sp.nix ds id) = false → pLe (iLen ds) 9223372036854775807 → (bLe 8 (iLen ds) = true → (0 = Sp.zI Z1 w ∧ 0 = Sp.zI Z1 c ∧ 0 = Sp.zI Z1 p ∧ [] = Sp.zL Z1 Z2 ∧ [] = Sp.zL Z1 ss ∧ True) ∧ (3 = Sp.hoE w c p ds ss id ch ∧ True) ∧ True) ∧ (bLe 8 (iLen ds) = false → (pLe (iLen ds) 1000 ∧ True) ∧ (InR .i64 w ∧ InR .i64 c ∧ InR .i64 p ∧ ((WL [.int .u64, .int .i64] Z2)) ∧ ((WL [.int .i64, .int .u64, .int .i64, .int .i64] ss)) ∧ True → True ∧ (InR .i64 (Sp.ld w c p Z2 ss) → (bLt c (Sp.ld w c p Z2 ss) = true → (0 = Sp.zI Z1 w ∧ 0 = Sp.zI Z1 c ∧ 0 = Sp.zI Z1 p ∧ [] = Sp.zL Z1 Z2 ∧ [] = Sp.zL Z1 ss ∧ True) ∧ (10 = Sp.hoE w c p ds ss id ch ∧ True) ∧ True) ∧ (bLt c (Sp.ld w c p Z2 ss) = false → (w = Sp.zI Z1 w ∧ c = Sp.zI Z1 c ∧ p = Sp.zI Z1 p ∧ Sp.wH ds id ch = Sp.zL Z1 Z2 ∧ ss = Sp.zL Z1 ss ∧ True) ∧ (0 = Sp.hoE w c p ds ss id ch ∧ True) ∧ True))))))))) ∧ (bEq id 0 = true → (0 = Sp.zI Z1 w ∧ 0 = Sp.zI Z1 c ∧ 0 = Sp.zI Z1 p ∧ [] = Sp.zL Z1 Z2 ∧ [] = Sp.zL Z1 ss ∧ True) ∧ (2 = Sp.hoE w c p ds ss id ch ∧ True) ∧ True)))) := by subst hZ2; subst hZ1; kernel_rfl
theorem v25 (w : Int) (c : Int) (p : Int) (ds : List (List C)) (ss : List (List C)) (id : Int) (ch : Int) : Holds (Wfs [.agg [.int .i64 w, .int .i64 c, .int .i64 p, .sl [.int .u64, .int .i64] ds, .sl [.int .i64, .int .u64, .int .i64, .int .i64] ss], .agg [.int .u64 id, .int .i64 ch]] → True → B25 w c p ds ss id ch) := by
  refine ⟨fun hw hp => ?_⟩
  rw [e25 _ _ _ _ _ _ _ _ rfl _ rfl]
  unfold WL
  simp only [Wfs, Wf, InR, and_true] at hw
  simp only [eq_self, true_and, and_true, true_implies, implies_true, iAdd, iSub, iMul, iLen, bEq, bNe, bLt, bLe, bNot, pIn, pLe, pNe, InR, decide_eq_true_eq, decide_eq_false_iff_not, Bool.not_eq_true', Bool.not_eq_false', decide_eq_decide]
  refine ⟨fun h => Sp.bk_err (Sp.ho1 h) (by omega), fun hv => ?_⟩
  have hA := Sp.bval_asc hv
  have hl := Sp.bval_len hv
  have eW : Sp.ld w c p (Sp.wH ds id ch) ss = Sp.ld w c p (Sp.inD ds id ch) ss := Sp.ld_eq (Sp.inD_m hA.1) rfl
  rw [eW]
  refine ⟨fun hi => ⟨fun hc => Sp.bk_err (Sp.ho2 hv (.inr hc)) (by omega), fun hc _ => ?_⟩, fun hi => Sp.bk_err (Sp.ho2 hv (.inl hi)) (by omega)⟩
  have h2 : ¬ (id = 0 ∨ ¬ (1 ≤ ch ∧ ch ≤ 8)) := fun h => h.elim hi fun h => h hc
  refine ⟨fun h3 => Sp.bk_err (Sp.ho8 hv h2 (Sp.has_t h3)) (by omega), fun h3 _ => ⟨fun h4 => Sp.bk_err (Sp.ho3 hv h2 (Sp.has_f h3) (by omega)) (by omega), fun h4 => ⟨by omega, fun _ _ => ⟨fun h5 => Sp.bk_err (Sp.ho10 hv h2 (Sp.has_f h3) (by omega) h5) (by omega), fun h5 => Sp.bk_ok (Sp.ho0 hv h2 (Sp.has_f h3) (by omega) h5)⟩⟩⟩⟩
theorem s25 : SoundCt Go.Proofs.Try.prog 25 ct25 :=
  contractH followsMixed (look_sound (show Tb Go.Proofs.Try.prog tb25 from ⟨s40, ⟨s15, ⟨s53, ⟨s17, ⟨s54, trivial⟩⟩⟩⟩⟩)) (fun _ => false) (fun _ => A25) 6 25 ct25 rfl (by simp [ct25]) fun a => Eq.mp (by kernel_rfl) (v25 ((cel 0 (arg 0 a)).int) ((cel 1 (arg 0 a)).int) ((cel 2 (arg 0 a)).int) ((cel 3 (arg 0 a)).list) ((cel 4 (arg 0 a)).list) ((cel 0 (arg 1 a)).int) ((cel 1 (arg 1 a)).int))
end Go.Sx
namespace Go.Sx
def ct27 : Ct := { ps := [(true, [.int .i64, .int .i64, .int .i64, .sl [.int .u64, .int .i64], .sl [.int .i64, .int .u64, .int .i64, .int .i64]]), (false, [.int .u64])], rs := [(true, [.int .i64, .int .i64, .int .i64, .sl [.int .u64, .int .i64], .sl [.int .i64, .int .u64, .int .i64, .int .i64]]), (false, [.int .i64])], pre := fun _ => True, out := fun a => [[.i (Sp.zI (Sp.drE (cel 0 (arg 0 a)).int (cel 1 (arg 0 a)).int (cel 2 (arg 0 a)).int (cel 3 (arg 0 a)).list (cel 4 (arg 0 a)).list (cel 0 (arg 1 a)).int) (cel 0 (arg 0 a)).int), .i (Sp.zI (Sp.drE (cel 0 (arg 0 a)).int (cel 1 (arg 0 a)).int (cel 2 (arg 0 a)).int (cel 3 (arg 0 a)).list (cel 4 (arg 0 a)).list (cel 0 (arg 1 a)).int) (cel 1 (arg 0 a)).int), .i (Sp.zI (Sp.drE (cel 0 (arg 0 a)).int (cel 1 (arg 0 a)).int (cel 2 (arg 0 a)).int (cel 3 (arg 0 a)).list (cel 4 (arg 0 a)).list (cel 0 (arg 1 a)).int) (cel 2 (arg 0 a)).int), .l (Sp.zL (Sp.drE (cel 0 (arg 0 a)).int (cel 1 (arg 0 a)).int (cel 2 (arg 0 a)).int (cel 3 (arg 0 a)).list (cel 4 (arg 0 a)).list (cel 0 (arg 1 a)).int) (Sp.del (cel 3 (arg 0 a)).list (Sp.nix (cel 3 (arg 0 a)).list (cel 0 (arg 1 a)).int) (Sp.nix (cel 3 (arg 0 a)).list (cel 0 (arg 1 a)).int + 1))), .l (Sp.zL (Sp.drE (cel 0 (arg 0 a)).int (cel 1 (arg 0 a)).int (cel 2 (arg 0 a)).int (cel 3 (arg 0 a)).list (cel 4 (arg 0 a)).list (cel 0 (arg 1 a)).int) ((cel 4 (arg 0 a)).list))], [.i (Sp.drE (cel 0 (arg 0 a)).int (cel 1 (arg 0 a)).int (cel 2 (arg 0 a)).int (cel 3 (arg 0 a)).list (cel 4 (arg 0 a)).list (cel 0 (arg 1 a)).int)]] }
def tb27 : List (Nat × Ct) := [(40, ct40), (15, ct15)]
def A27 (ss : List (List C)) (id : Int) : FuncId → Nat → LoopAnn := fun _ ii => bif Nat.beq ii 7 then .inv (Int) (fun z => Sp.at (Sp.isD id) ss z) (fun z => [(7, .int .i64 z)]) (fun z => []) [] [0, 1, 2, 4, 5, 6, 7, 10, 16, 22, 32] (fun z => ss.length - z.toNat) else .unroll 0
abbrev B27 (w : Int) (c : Int) (p : Int) (ds : List (List C)) (ss : List (List C)) (id : Int) : Prop := vcF Go.Proofs.Try.prog (look tb27) (fun _ => false) (A27 ss id) 6 27 [.agg [.int .i64 w, .int .i64 c, .int .i64 p, .sl [.int .u64, .int .i64] ds, .sl [.int .i64, .int .u64, .int .i64, .int .i64] ss], .int .u64 id] [] (fun sv heap => Gives [(true, [.int .i64, .int .i64, .int .i64, .sl [.int .u64, .int .i64], .sl [.int .i64, .int .u64, .int .i64, .int .i64]]), (false, [.int .i64])] [[.i (Sp.zI (Sp.drE w c p ds ss id) w), .i (Sp.zI (Sp.drE w c p ds ss id) c), .i (Sp.zI (Sp.drE w c p ds ss id) p), .l (Sp.zL (Sp.drE w c p ds ss id) (Sp.del ds (Sp.nix ds id) (Sp.nix ds id + 1))), .l (Sp.zL (Sp.drE w c p ds ss id) (ss))], [.i (Sp.drE w c p ds ss id)]] sv heap)
def h27_0 : Int → Int → Int → List (List C) → List (List C) → Int → List SV := fun (w c p : Int) (ds ss : List (List C)) (id : Int) => [SV.agg [SV.int .i64 w, SV.int .i64 c, SV.int .i64 p, SV.sl [.int .u64, .int .i64] ds, SV.sl [.int .i64, .int .u64, .int .i64, .int .i64] ss], SV.int .u64 id, SV.ref 0 0, SV.ref 1 0, SV.int .i64 (Sp.nix ds id), SV.blit false, SV.blit false]
def h27_1 : Int → Int → Int → List (List C) → List (List C) → List HB := fun (w c p : Int) (ds ss : List (List C)) => [HB.box [SV.int .i64 w, SV.int .i64 c, SV.int .i64 p, SV.sl [.int .u64, .int .i64] ds, SV.sl [.int .i64, .int .u64, .int .i64, .int .i64] ss] 28, HB.box [SV.lit .i64 0, SV.lit .i64 0, SV.lit .i64 0, SV.nils, SV.nils] 28]
theorem e27 (w : Int) (c : Int) (p : Int) (ds : List (List C)) (ss : List (List C)) (id : Int) (Z1 : Int) (hZ1 : Z1 = Sp.drE w c p ds ss id) (Z2 : Int) (hZ2 : Z2 = Sp.nix ds id) : B27 w c p ds ss id = (True ∧ (True → True ∧ (bNot (Sp.bval w c p ds ss) = true → (0 = Sp.zI Z1 w ∧ 0 = Sp.zI Z1 c ∧ 0 = Sp.zI Z1 p ∧ [] = Sp.zL Z1 (Sp.del ds Z2 (Sp.nix ds id + 1)) ∧ [] = Sp.zL Z1 ss ∧ True) ∧ (1 = Sp.drE w c p ds ss id ∧ True) ∧ True) ∧ (bNot (Sp.bval w c p ds ss) = false → True ∧ (InR .i64 Z2 → (bLt Z2 0 = true → (0 = Sp.zI Z1 w ∧ 0 = Sp.zI Z1 c ∧ 0 = Sp.zI Z1 p ∧ [] = Sp.zL Z1 (Sp.del ds Z2 (Sp.nix ds id + 1)) ∧ [] = Sp.zL Z1 ss ∧ True) ∧ (7 = Sp.drE w c p ds ss id ∧ True) ∧ True) ∧ (bLt Z2 0 = false → (∃ (x : Int), Sp.at (Sp.isD id) ss x ∧ true = true ∧ ((IntKind.i64 = IntKind.i64 ∧ 0 = x) ∧ True) ∧ True) ∧ (∀ (x : Int), true = true ∧ true = true) ∧ ∀ (x : Int), Sp.at (Sp.isD id) ss x → InR .i64 x ∧ True → True → pLe (iLen ss) 9223372036854775807 → (bLt x (iLen ss) = true → pIn 0 (iLen ss) x ∧ (InR .u64 (q1 (rGet ss x)) → (bEq (q1 (rGet ss x)) id = true → (0 = Sp.zI Z1 w ∧ 0 = Sp.zI Z1 c ∧ 0 = Sp.zI Z1 p ∧ [] = Sp.zL Z1 (Sp.del ds Z2 (Sp.nix ds id + 1)) ∧ [] = Sp.zL Z1 ss ∧ True) ∧ (9 = Sp.drE w c p ds ss id ∧ True) ∧ True) ∧ (bEq (q1 (rGet ss x)) id = false → InR .i64 (iAdd x 1) ∧ (true = true ∧ h27_0 w c p ds ss id = h27_0 w c p ds ss id) ∧ h27_1 w c p ds ss = h27_1 w c p ds ss ∧ ∃ (y : Int), Sp.at (Sp.isD id) ss y ∧ true = true ∧ ((IntKind.i64 = IntKind.i64 ∧ iAdd x 1 = y) ∧ True) ∧ True ∧ ss.length - y.toNat < ss.length - x.toNat))) ∧ (bLt x (iLen ss) = false → geB none (some Z2) (iLen ds) ∧ pRoom 16 (iLen (cutRows ds none (some Z2))) ∧ InR .i64 (iAdd Z2 1) ∧ geB (some (iAdd Z2 1)) none (iLen ds) ∧ pRoom 16 (iLen (cutRows ds none (some Z2) ++ cutRows ds (some (iAdd Z2 1)) none)) ∧ (w = Sp.zI Z1 w ∧ c = Sp.zI Z1 c ∧ p = Sp.zI Z1 p ∧ cutRows ds none (some Z2) ++ cutRows ds (some (iAdd Z2 1)) none = Sp.zL Z1 (Sp.del ds Z2 (Sp.nix ds id + 1)) ∧ ss = Sp.zL Z1 ss ∧ True) ∧ (0 = Sp.drE w c p ds ss id ∧ True) ∧ True)))))) := by subst hZ2; subst hZ1; kernel_rfl
theorem v27 (w : Int) (c : Int) (p : Int) (ds : List (List C)) (ss : List (List C)) (id : Int) : Holds (Wfs [.agg [.int .i64 w, .int .i64 c, .int .i64 p, .sl [.int .u64, .int .i64] ds, .sl [.int .i64, .int .u64, .int .i64, .int .i64] ss], .int .u64 id] → True → B27 w c p ds ss id) := by
  refine ⟨fun hw hp => ?_⟩
  rw [e27 _ _ _ _ _ _ _ rfl _ rfl]
  unfold q1
  simp only [Wfs, Wf, InR, and_true] at hw
  simp only [eq_self, true_and, and_true, true_implies, implies_true, iAdd, iSub, iMul, iLen, bEq, bNe, bLt, bLe, bNot, pIn, pLe, pNe, InR, decide_eq_true_eq, decide_eq_false_iff_not, Bool.not_eq_true', Bool.not_eq_false', decide_eq_decide]
  refine ⟨fun h => Sp.bk_err (Sp.dr1 h) (by omega), fun hv _ => ⟨fun h2 => Sp.bk_err (Sp.dr7 hv (Sp.has_f (by omega))) (by omega), fun h2 => ?_⟩⟩
  have hl := Sp.bval_len hv
  have h2 : Sp.has ds id = true := Sp.has_t (by omega)
  refine ⟨⟨0, Sp.at_init, rfl⟩, fun x hx hx1 _ => ⟨fun hlt => ⟨⟨hx.1, hlt⟩, fun _ => ⟨fun hc => Sp.bk_err (Sp.dr9 hv h2 (by rw [Sp.at_hit hx hlt (decide_eq_true hc)]; exact hx.1)) (by omega), fun hc => ⟨by omega, x + 1, Sp.at_step hx hlt (decide_eq_false hc), rfl, by have := hx.1; omega⟩⟩⟩, fun hge => ?_⟩⟩
  have h3 := Sp.nix_has h2
  obtain ⟨a, b, c', d, e⟩ := Sp.cut_side (k := 16) h3.1 h3.2.1 (by omega) (by omega)
  exact ⟨a, b, c', d, e, Sp.bk_ok (Sp.dr0 hv h2 (by rw [Sp.at_end hx hge]; omega))⟩
theorem s27 : SoundCt Go.Proofs.Try.prog 27 ct27 :=
  contractH followsMixed (look_sound (show Tb Go.Proofs.Try.prog tb27 from ⟨s40, ⟨s15, trivial⟩⟩)) (fun _ => false) (fun a => A27 ((cel 4 (arg 0 a)).list) ((cel 0 (arg 1 a)).int)) 6 27 ct27 rfl (by simp [ct27]) fun a => Eq.mp (by kernel_rfl) (v27 ((cel 0 (arg 0 a)).int) ((cel 1 (arg 0 a)).int) ((cel 2 (arg 0 a)).int) ((cel 3 (arg 0 a)).list) ((cel 4 (arg 0 a)).list) ((cel 0 (arg 1 a)).int))
end Go.Sx
namespace Go.Sx
def ct28 : Ct := { ps := [(true, [.int .i64, .int .i64, .int .i64, .sl [.int .u64, .int .i64], .sl [.int .i64, .int .u64, .int .i64, .int .i64]]), (true, [.int .i64, .int .u64, .int .i64, .int .i64]), (false, [.int .i64])], rs := [(true, [.int .i64, .int .i64, .int .i64, .sl [.int .u64, .int .i64], .sl [.int .i64, .int .u64, .int .i64, .int .i64]]), (true, [.int .i64, .int .i64, .int .i64]), (false, [.int .i64])], pre := fun _ => True, out := fun a => [[.i (Sp.zI (Sp.adE (cel 0 (arg 0 a)).int (cel 1 (arg 0 a)).int (cel 2 (arg 0 a)).int (cel 3 (arg 0 a)).list (cel 4 (arg 0 a)).list (cel 0 (arg 1 a)).int (cel 1 (arg 1 a)).int (cel 2 (arg 1 a)).int (cel 3 (arg 1 a)).int (cel 0 (arg 2 a)).int) (cel 0 (arg 0 a)).int), .i (Sp.zI (Sp.adE (cel 0 (arg 0 a)).int (cel 1 (arg 0 a)).int (cel 2 (arg 0 a)).int (cel 3 (arg 0 a)).list (cel 4 (arg 0 a)).list (cel 0 (arg 1 a)).int (cel 1 (arg 1 a)).int (cel 2 (arg 1 a)).int (cel 3 (arg 1 a)).int (cel 0 (arg 2 a)).int) (cel 1 (arg 0 a)).int), .i (Sp.zI (Sp.adE (cel 0 (arg 0 a)).int (cel 1 (arg 0 a)).int (cel 2 (arg 0 a)).int (cel 3 (arg 0 a)).list (cel 4 (arg 0 a)).list (cel 0 (arg 1 a)).int (cel 1 (arg 1 a)).int (cel 2 (arg 1 a)).int (cel 3 (arg 1 a)).int (cel 0 (arg 2 a)).int) (cel 2 (arg 0 a)).int), .l (Sp.zL (Sp.adE (cel 0 (arg 0 a)).int (cel 1 (arg 0 a)).int (cel 2 (arg 0 a)).int (cel 3 (arg 0 a)).list (cel 4 (arg 0 a)).list (cel 0 (arg 1 a)).int (cel 1 (arg 1 a)).int (cel 2 (arg 1 a)).int (cel 3 (arg 1 a)).int (cel 0 (arg 2 a)).int) ((cel 3 (arg 0 a)).list)), .l (Sp.zL (Sp.adE (cel 0 (arg 0 a)).int (cel 1 (arg 0 a)).int (cel 2 (arg 0 a)).int (cel 3 (arg 0 a)).list (cel 4 (arg 0 a)).list (cel 0 (arg 1 a)).int (cel 1 (arg 1 a)).int (cel 2 (arg 1 a)).int (cel 3 (arg 1 a)).int (cel 0 (arg 2 a)).int) (Sp.wS (cel 4 (arg 0 a)).list (cel 0 (arg 1 a)).int (cel 1 (arg 1 a)).int (cel 2 (arg 1 a)).int (cel 0 (arg 2 a)).int))], [.i (Sp.adK (cel 0 (arg 0 a)).int (cel 1 (arg 0 a)).int (cel 2 (arg 0 a)).int (cel 3 (arg 0 a)).list (cel 4 (arg 0 a)).list (cel 0 (arg 1 a)).int (cel 1 (arg 1 a)).int (cel 2 (arg 1 a)).int (cel 3 (arg 1 a)).int (cel 0 (arg 2 a)).int), .i (Sp.adN (cel 0 (arg 0 a)).int (cel 1 (arg 0 a)).int (cel 2 (arg 0 a)).int (cel 3 (arg 0 a)).list (cel 4 (arg 0 a)).list (cel 0 (arg 1 a)).int (cel 1 (arg 1 a)).int (cel 2 (arg 1 a)).int (cel 3 (arg 1 a)).int (cel 0 (arg 2 a)).int), .i (Sp.adH (cel 0 (arg 0 a)).int (cel 1 (arg 0 a)).int (cel 2 (arg 0 a)).int (cel 3 (arg 0 a)).list (cel 4 (arg 0 a)).list (cel 0 (arg 1 a)).int (cel 1 (arg 1 a)).int (cel 2 (arg 1 a)).int (cel 3 (arg 1 a)).int (cel 0 (arg 2 a)).int)], [.i (Sp.adE (cel 0 (arg 0 a)).int (cel 1 (arg 0 a)).int (cel 2 (arg 0 a)).int (cel 3 (arg 0 a)).list (cel 4 (arg 0 a)).list (cel 0 (arg 1 a)).int (cel 1 (arg 1 a)).int (cel 2 (arg 1 a)).int (cel 3 (arg 1 a)).int (cel 0 (arg 2 a)).int)]] }
def tb28 : List (Nat × Ct) := [(58, ct58), (40, ct40), (15, ct15), (53, ct53), (17, ct17), (59, ct59)]
def A28  : FuncId → Nat → LoopAnn := fun _ _ => LoopAnn.unroll 200
abbrev B28 (w : Int) (c : Int) (p : Int) (ds : List (List C)) (ss : List (List C)) (s0 : Int) (s1 : Int) (s2 : Int) (s3 : Int) (n : Int) : Prop := vcF Go.Proofs.Try.prog (look tb28) (fun _ => false) (A28) 6 28 [.agg [.int .i64 w, .int .i64 c, .int .i64 p, .sl [.int .u64, .int .i64] ds, .sl [.int .i64, .int .u64, .int .i64, .int .i64] ss], .agg [.int .i64 s0, .int .u64 s1, .int .i64 s2, .int .i64 s3], .int .i64 n] [] (fun sv heap => Gives [(true, [.int .i64, .int .i64, .int .i64, .sl [.int .u64, .int .i64], .sl [.int .i64, .int .u64, .int .i64, .int .i64]]), (true, [.int .i64, .int .i64, .int .i64]), (false, [.int .i64])] [[.i (Sp.zI (Sp.adE w c p ds ss s0 s1 s2 s3 n) w), .i (Sp.zI (Sp.adE w c p ds ss s0 s1 s2 s3 n) c), .i (Sp.zI (Sp.adE w c p ds ss s0 s1 s2 s3 n) p), .l (Sp.zL (Sp.adE w c p ds ss s0 s1 s2 s3 n) (ds)), .l (Sp.zL (Sp.adE w c p ds ss s0 s1 s2 s3 n) (Sp.wS ss s0 s1 s2 n))], [.i (Sp.adK w c p ds ss s0 s1 s2 s3 n), .i (Sp.adN w c p ds ss s0 s1 s2 s3 n), .i (Sp.adH w c p ds ss s0 s1 s2 s3 n)], [.i (Sp.adE w c p ds ss s0 s1 s2 s3 n)]] sv heap)
theorem e28 (w : Int) (c : Int) (p : Int) (ds : List (List C)) (ss : List (List C)) (s0 : Int) (s1 : Int) (s2 : Int) (s3 : Int) (n : Int) (Z1 : Int) (hZ1 : Z1 = Sp.adE w c p ds ss s0 s1 s2 s3 n) (Z2 : List (List C)) (hZ2 : Z2 = Sp.wS ss s0 s1 s2 n) : B28 w c p ds ss s0 s1 s2 s3 n = (True ∧ (True → True ∧ (bNot (Sp.bval w c p ds ss) = true → (0 = Sp.zI Z1 w ∧ 0 = Sp.zI Z1 c ∧ 0 = Sp.zI Z1 p ∧ [] = Sp.zL Z1 ds ∧ [] = Sp.zL Z1 Z2 ∧ True) ∧ (0 = Sp.adK w c p ds ss s0 s1 s2 s3 n ∧ 0 = Sp.adN w c p ds ss s0 s1 s2 s3 n ∧ 0 = Sp.adH w c p ds ss s0 s1 s2 s3 n ∧ True) ∧ (1 = Sp.adE w c p ds ss s0 s1 s2 s3 n ∧ True) ∧ True) ∧ (bNot (Sp.bval w c p ds ss) = false → (bLt s0 1 = false → True ∧ (True → True ∧ (bNot (decide (1 ≤ s2 ∧ s2 ≤ 8)) = false → (bLt s3 0 = false → (bLt 1099511627776 s3 = false → (bLt n 0 = false → (bLt 1099511627776 n = true → (0 = Sp.zI Z1 w ∧ 0 = Sp.zI Z1 c ∧ 0 = Sp.zI Z1 p ∧ [] = Sp.zL Z1 ds ∧ [] = Sp.zL Z1 Z2 ∧ True) ∧ (0 = Sp.adK w c p ds ss s0 s1 s2 s3 n ∧ 0 = Sp.adN w c p ds ss s0 s1 s2 s3 n ∧ 0 = Sp.adH w c p ds ss s0 s1 s2 s3 n ∧ True) ∧ (2 = Sp.adE w c p ds ss s0 s1 s2 s3 n ∧ True) ∧ True) ∧ (bLt 1099511627776 n = false → True ∧ (InR .i64 (Sp.nix ss s0) → (bLe 0 (Sp.nix ss s0) = true → (0 = Sp.zI Z1 w ∧ 0 = Sp.zI Z1 c ∧ 0 = Sp.zI Z1 p ∧ [] = Sp.zL Z1 ds ∧ [] = Sp.zL Z1 Z2 ∧ True) ∧ (0 = Sp.adK w c p ds ss s0 s1 s2 s3 n ∧ 0 = Sp.adN w c p ds ss s0 s1 s2 s3 n ∧ 0 = Sp.adH w c p ds ss s0 s1 s2 s3 n ∧ True) ∧ (8 = Sp.adE w c p ds ss s0 s1 s2 s3 n ∧ True) ∧ True) ∧ (bLe 0 (Sp.nix ss s0) = false → True ∧ (InR .i64 (Sp.nix ds s1) → (bLt (Sp.nix ds s1) 0 = true → (0 = Sp.zI Z1 w ∧ 0 = Sp.zI Z1 c ∧ 0 = Sp.zI Z1 p ∧ [] = Sp.zL Z1 ds ∧ [] = Sp.zL Z1 Z2 ∧ True) ∧ (1 = Sp.adK w c p ds ss s0 s1 s2 s3 n ∧ 0 = Sp.adN w c p ds ss s0 s1 s2 s3 n ∧ 0 = Sp.adH w c p ds ss s0 s1 s2 s3 n ∧ True) ∧ (7 = Sp.adE w c p ds ss s0 s1 s2 s3 n ∧ True) ∧ True) ∧ (bLt (Sp.nix ds s1) 0 = false → pLe (iLen ss) 9223372036854775807 → (bLe 24 (iLen ss) = true → pLe (iLen ss) 9223372036854775807 → InR .i64 (iAdd (iLen ss) 1) ∧ (0 = Sp.zI Z1 w ∧ 0 = Sp.zI Z1 c ∧ 0 = Sp.zI Z1 p ∧ [] = Sp.zL Z1 ds ∧ [] = Sp.zL Z1 Z2 ∧ True) ∧ (2 = Sp.adK w c p ds ss s0 s1 s2 s3 n ∧ iAdd (iLen ss) 1 = Sp.adN w c p ds ss s0 s1 s2 s3 n ∧ 24 = Sp.adH w c p ds ss s0 s1 s2 s3 n ∧ True) ∧ (10 = Sp.adE w c p ds ss s0 s1 s2 s3 n ∧ True) ∧ True) ∧ (bLe 24 (iLen ss) = false → (bLt s3 n = true → (0 = Sp.zI Z1 w ∧ 0 = Sp.zI Z1 c ∧ 0 = Sp.zI Z1 p ∧ [] = Sp.zL Z1 ds ∧ [] = Sp.zL Z1 Z2 ∧ True) ∧ (3 = Sp.adK w c p ds ss s0 s1 s2 s3 n ∧ n = Sp.adN w c p ds ss s0 s1 s2 s3 n ∧ s3 = Sp.adH w c p ds ss s0 s1 s2 s3 n ∧ True) ∧ (10 = Sp.adE w c p ds ss s0 s1 s2 s3 n ∧ True) ∧ True) ∧ (bLt s3 n = false → (pLe (iLen ss) 1000 ∧ True) ∧ (InR .i64 w ∧ InR .i64 c ∧ InR .i64 p ∧ ((WL [.int .u64, .int .i64] ds)) ∧ ((WL [.int .i64, .int .u64, .int .i64, .int .i64] Z2)) ∧ True → True ∧ (InR .i64 (Sp.ld w c p ds Z2) → (bLt c (Sp.ld w c p ds Z2) = true → (0 = Sp.zI Z1 w ∧ 0 = Sp.zI Z1 c ∧ 0 = Sp.zI Z1 p ∧ [] = Sp.zL Z1 ds ∧ [] = Sp.zL Z1 Z2 ∧ True) ∧ (4 = Sp.adK w c p ds ss s0 s1 s2 s3 n ∧ Sp.ld w c p ds Z2 = Sp.adN w c p ds ss s0 s1 s2 s3 n ∧ c = Sp.adH w c p ds ss s0 s1 s2 s3 n ∧ True) ∧ (10 = Sp.adE w c p ds ss s0 s1 s2 s3 n ∧ True) ∧ True) ∧ (bLt c (Sp.ld w c p ds Z2) = false → (w = Sp.zI Z1 w ∧ c = Sp.zI Z1 c ∧ p = Sp.zI Z1 p ∧ ds = Sp.zL Z1 ds ∧ Sp.wS ss s0 s1 s2 n = Sp.zL Z1 Z2 ∧ True) ∧ (0 = Sp.adK w c p ds ss s0 s1 s2 s3 n ∧ 0 = Sp.adN w c p ds ss s0 s1 s2 s3 n ∧ 0 = Sp.adH w c p ds ss s0 s1 s2 s3 n ∧ True) ∧ (0 = Sp.adE w c p ds ss s0 s1 s2 s3 n ∧ True) ∧ True))))))))))) ∧ (bLt n 0 = true → (0 = Sp.zI Z1 w ∧ 0 = Sp.zI Z1 c ∧ 0 = Sp.zI Z1 p ∧ [] = Sp.zL Z1 ds ∧ [] = Sp.zL Z1 Z2 ∧ True) ∧ (0 = Sp.adK w c p ds ss s0 s1 s2 s3 n ∧ 0 = Sp.adN w c p ds ss s0 s1 s2 s3 n ∧ 0 = Sp.adH w c p ds ss s0 s1 s2 s3 n ∧ True) ∧ (2 = Sp.adE w c p ds ss s0 s1 s2 s3 n ∧ True) ∧ True)) ∧ (bLt 1099511627776 s3 = true → (0 = Sp.zI Z1 w ∧ 0 = Sp.zI Z1 c ∧ 0 = Sp.zI Z1 p ∧ [] = Sp.zL Z1 ds ∧ [] = Sp.zL Z1 Z2 ∧ True) ∧ (0 = Sp.adK w c p ds ss s0 s1 s2 s3 n ∧ 0 = Sp.adN w c p ds ss s0 s1 s2 s3 n ∧ 0 = Sp.adH w c p ds ss s0 s1 s2 s3 n ∧ True) ∧ (2 = Sp.adE w c p ds ss s0 s1 s2 s3 n ∧ True) ∧ True)) ∧ (bLt s3 0 = true → (0 = Sp.zI Z1 w ∧ 0 = Sp.zI Z1 c ∧ 0 = Sp.zI Z1 p ∧ [] = Sp.zL Z1 ds ∧ [] = Sp.zL Z1 Z2 ∧ True) ∧ (0 = Sp.adK w c p ds ss s0 s1 s2 s3 n ∧ 0 = Sp.adN w c p ds ss s0 s1 s2 s3 n ∧ 0 = Sp.adH w c p ds ss s0 s1 s2 s3 n ∧ True) ∧ (2 = Sp.adE w c p ds ss s0 s1 s2 s3 n ∧ True) ∧ True)) ∧ (bNot (decide (1 ≤ s2 ∧ s2 ≤ 8)) = true → (0 = Sp.zI Z1 w ∧ 0 = Sp.zI Z1 c ∧ 0 = Sp.zI Z1 p ∧ [] = Sp.zL Z1 ds ∧ [] = Sp.zL Z1 Z2 ∧ True) ∧ (0 = Sp.adK w c p ds ss s0 s1 s2 s3 n ∧ 0 = Sp.adN w c p ds ss s0 s1 s2 s3 n ∧ 0 = Sp.adH w c p ds ss s0 s1 s2 s3 n ∧ True) ∧ (2 = Sp.adE w c p ds ss s0 s1 s2 s3 n ∧ True) ∧ True))) ∧ (bLt s0 1 = true → (0 = Sp.zI Z1 w ∧ 0 = Sp.zI Z1 c ∧ 0 = Sp.zI Z1 p ∧ [] = Sp.zL Z1 ds ∧ [] = Sp.zL Z1 Z2 ∧ True) ∧ (0 = Sp.adK w c p ds ss s0 s1 s2 s3 n ∧ 0 = Sp.adN w c p ds ss s0 s1 s2 s3 n ∧ 0 = Sp.adH w c p ds ss s0 s1 s2 s3 n ∧ True) ∧ (2 = Sp.adE w c p ds ss s0 s1 s2 s3 n ∧ True) ∧ True)))) := by subst hZ2; subst hZ1; kernel_rfl
theorem v28 (w : Int) (c : Int) (p : Int) (ds : List (List C)) (ss : List (List C)) (s0 : Int) (s1 : Int) (s2 : Int) (s3 : Int) (n : Int) : Holds (Wfs [.agg [.int .i64 w, .int .i64 c, .int .i64 p, .sl [.int .u64, .int .i64] ds, .sl [.int .i64, .int .u64, .int .i64, .int .i64] ss], .agg [.int .i64 s0, .int .u64 s1, .int .i64 s2, .int .i64 s3], .int .i64 n] → True → B28 w c p ds ss s0 s1 s2 s3 n) := by
  refine ⟨fun hw hp => ?_⟩
  rw [e28 _ _ _ _ _ _ _ _ _ _ _ rfl _ rfl]
  unfold WL
  simp only [Wfs, Wf, InR, and_true] at hw
  simp only [eq_self, true_and, and_true, true_implies, implies_true, iAdd, iSub, iMul, iLen, bEq, bNe, bLt, bLe, bNot, pIn, pLe, pNe, InR, decide_eq_true_eq, decide_eq_false_iff_not, Bool.not_eq_true', Bool.not_eq_false', decide_eq_decide]
  refine ⟨fun h => Sp.ad_e (Sp.ad1 h) (by omega) (by omega) (by omega), fun hv => ?_⟩
  have hA := Sp.bval_asc hv
  have hl := Sp.bval_len hv
  have eW : Sp.ld w c p ds (Sp.wS ss s0 s1 s2 n) = Sp.ld w c p ds (Sp.inS ss s0 s1 s2 n) := Sp.ld_eq rfl (Sp.inS_m hA.2)
  rw [eW]
  have E2 : Sp.adB s0 s2 s3 n → _ := fun h => Sp.ad_e (ss2 := Sp.wS ss s0 s1 s2 n) (Sp.ad2 (p := p) (s1 := s1) hv h) (by omega) (by omega) (by omega)
  refine ⟨fun a1 => ⟨fun a2 => ⟨fun a3 => ⟨fun a4 => ⟨fun a5 => ⟨fun a6 => E2 (by unfold Sp.adB; omega), fun a6 _ => ?_⟩, fun a => E2 (by unfold Sp.adB; omega)⟩, fun a => E2 (by unfold Sp.adB; omega)⟩, fun a => E2 (by unfold Sp.adB; omega)⟩, fun a => E2 (by unfold Sp.adB; omega)⟩, fun a => E2 (by unfold Sp.adB; omega)⟩
  have h2 : ¬ Sp.adB s0 s2 s3 n := by unfold Sp.adB; omega
  refine ⟨fun h3 => Sp.ad_e (Sp.ad8 hv h2 (Sp.has_t h3)) (by omega) (by omega) (by omega), fun h3 _ => ⟨fun h4 => Sp.ad_e7 (Sp.ad7 hv h2 (Sp.has_f h3) (Sp.has_f (by omega))), fun h4 _ => ?_⟩⟩
  have hx := Sp.adx (p := p) hv h2 (Sp.has_f h3) (Sp.has_t (by omega : 0 ≤ Sp.nix ds s1))
  refine ⟨fun h5 _ => ⟨by omega, ?_⟩, fun h5 => ⟨fun h6 => ?_, fun h6 => ⟨by omega, fun _ _ => ⟨fun h7 => ?_, fun h7 => ?_⟩⟩⟩⟩
  · rw [decide_eq_true (show 24 ≤ ss.length by omega)] at hx
    have := Sp.ad_e10 (ss2 := Sp.wS ss s0 s1 s2 n) hx
    rw [decide_eq_true (show 24 ≤ ss.length by omega)] at this
    exact this
  · rw [decide_eq_false (show ¬ 24 ≤ ss.length by omega), decide_eq_true h6] at hx
    have := Sp.ad_e10 (ss2 := Sp.wS ss s0 s1 s2 n) hx
    rw [decide_eq_false (show ¬ 24 ≤ ss.length by omega), decide_eq_true h6] at this
    exact this
  · rw [decide_eq_false (show ¬ 24 ≤ ss.length by omega), decide_eq_false h6, decide_eq_true h7] at hx
    have := Sp.ad_e10 (ss2 := Sp.wS ss s0 s1 s2 n) hx
    rw [decide_eq_false (show ¬ 24 ≤ ss.length by omega), decide_eq_false h6] at this
    exact this
  · rw [decide_eq_false (show ¬ 24 ≤ ss.length by omega), decide_eq_false h6, decide_eq_false h7] at hx
    exact Sp.ad_e0 (ss2 := Sp.wS ss s0 s1 s2 n) hx
theorem s28 : SoundCt Go.Proofs.Try.prog 28 ct28 :=
  contractH followsMixed (look_sound (show Tb Go.Proofs.Try.prog tb28 from ⟨s58, ⟨s40, ⟨s15, ⟨s53, ⟨s17, ⟨s59, trivial⟩⟩⟩⟩⟩⟩)) (fun _ => false) (fun _ => A28) 6 28 ct28 rfl (by simp [ct28]) fun a => Eq.mp (by kernel_rfl) (v28 ((cel 0 (arg 0 a)).int) ((cel 1 (arg 0 a)).int) ((cel 2 (arg 0 a)).int) ((cel 3 (arg 0 a)).list) ((cel 4 (arg 0 a)).list) ((cel 0 (arg 1 a)).int) ((cel 1 (arg 1 a)).int) ((cel 2 (arg 1 a)).int) ((cel 3 (arg 1 a)).int) ((cel 0 (arg 2 a)).int))
end Go.Sx
namespace Go.Sx
def ct29 : Ct := { ps := [(true, [.int .i64, .int .i64, .int .i64, .sl [.int .u64, .int .i64], .sl [.int .i64, .int .u64, .int .i64, .int .i64]]), (false, [.int .i64])], rs := [(true, [.int .i64, .int .i64, .int .i64, .sl [.int .u64, .int .i64], .sl [.int .i64, .int .u64, .int .i64, .int .i64]]), (false, [.int .i64])], pre := fun _ => True, out := fun a => [[.i (Sp.zI (Sp.leE (cel 0 (arg 0 a)).int (cel 1 (arg 0 a)).int (cel 2 (arg 0 a)).int (cel 3 (arg 0 a)).list (cel 4 (arg 0 a)).list (cel 0 (arg 1 a)).int) (cel 0 (arg 0 a)).int), .i (Sp.zI (Sp.leE (cel 0 (arg 0 a)).int (cel 1 (arg 0 a)).int (cel 2 (arg 0 a)).int (cel 3 (arg 0 a)).list (cel 4 (arg 0 a)).list (cel 0 (arg 1 a)).int) (cel 1 (arg 0 a)).int), .i (Sp.zI (Sp.leE (cel 0 (arg 0 a)).int (cel 1 (arg 0 a)).int (cel 2 (arg 0 a)).int (cel 3 (arg 0 a)).list (cel 4 (arg 0 a)).list (cel 0 (arg 1 a)).int) (cel 2 (arg 0 a)).int), .l (Sp.zL (Sp.leE (cel 0 (arg 0 a)).int (cel 1 (arg 0 a)).int (cel 2 (arg 0 a)).int (cel 3 (arg 0 a)).list (cel 4 (arg 0 a)).list (cel 0 (arg 1 a)).int) ((cel 3 (arg 0 a)).list)), .l (Sp.zL (Sp.leE (cel 0 (arg 0 a)).int (cel 1 (arg 0 a)).int (cel 2 (arg 0 a)).int (cel 3 (arg 0 a)).list (cel 4 (arg 0 a)).list (cel 0 (arg 1 a)).int) (Sp.del (cel 4 (arg 0 a)).list (Sp.nix (cel 4 (arg 0 a)).list (cel 0 (arg 1 a)).int) (Sp.nix (cel 4 (arg 0 a)).list (cel 0 (arg 1 a)).int + 1)))], [.i (Sp.leE (cel 0 (arg 0 a)).int (cel 1 (arg 0 a)).int (cel 2 (arg 0 a)).int (cel 3 (arg 0 a)).list (cel 4 (arg 0 a)).list (cel 0 (arg 1 a)).int)]] }
def tb29 : List (Nat × Ct) := [(58, ct58), (15, ct15), (60, ct60)]
def A29  : FuncId → Nat → LoopAnn := fun _ _ => LoopAnn.unroll 200
abbrev B29 (w : Int) (c : Int) (p : Int) (ds : List (List C)) (ss : List (List C)) (id : Int) : Prop := vcF Go.Proofs.Try.prog (look tb29) (fun _ => false) (A29) 6 29 [.agg [.int .i64 w, .int .i64 c, .int .i64 p, .sl [.int .u64, .int .i64] ds, .sl [.int .i64, .int .u64, .int .i64, .int .i64] ss], .int .i64 id] [] (fun sv heap => Gives [(true, [.int .i64, .int .i64, .int .i64, .sl [.int .u64, .int .i64], .sl [.int .i64, .int .u64, .int .i64, .int .i64]]), (false, [.int .i64])] [[.i (Sp.zI (Sp.leE w c p ds ss id) w), .i (Sp.zI (Sp.leE w c p ds ss id) c), .i (Sp.zI (Sp.leE w c p ds ss id) p), .l (Sp.zL (Sp.leE w c p ds ss id) (ds)), .l (Sp.zL (Sp.leE w c p ds ss id) (Sp.del ss (Sp.nix ss id) (Sp.nix ss id + 1)))], [.i (Sp.leE w c p ds ss id)]] sv heap)
theorem e29 (w : Int) (c : Int) (p : Int) (ds : List (List C)) (ss : List (List C)) (id : Int) (Z1 : Int) (hZ1 : Z1 = Sp.leE w c p ds ss id) (Z2 : List (List C)) (hZ2 : Z2 = Sp.del ss (Sp.nix ss id) (Sp.nix ss id + 1)) : B29 w c p ds ss id = (True ∧ (True → True ∧ (bNot (Sp.bval w c p ds ss) = true → (0 = Sp.zI Z1 w ∧ 0 = Sp.zI Z1 c ∧ 0 = Sp.zI Z1 p ∧ [] = Sp.zL Z1 ds ∧ [] = Sp.zL Z1 Z2 ∧ True) ∧ (1 = Sp.leE w c p ds ss id ∧ True) ∧ True) ∧ (bNot (Sp.bval w c p ds ss) = false → True ∧ (InR .i64 (Sp.nix ss id) → (bLt (Sp.nix ss id) 0 = true → (0 = Sp.zI Z1 w ∧ 0 = Sp.zI Z1 c ∧ 0 = Sp.zI Z1 p ∧ [] = Sp.zL Z1 ds ∧ [] = Sp.zL Z1 Z2 ∧ True) ∧ (7 = Sp.leE w c p ds ss id ∧ True) ∧ True) ∧ (bLt (Sp.nix ss id) 0 = false → (pIn 0 (iLen ss) (Sp.nix ss id) ∧ pLe (iLen ss) 1000) ∧ (InR .i64 w ∧ InR .i64 c ∧ InR .i64 p ∧ ((WL [.int .u64, .int .i64] ds)) ∧ ((WL [.int .i64, .int .u64, .int .i64, .int .i64] Z2)) ∧ True → (w = Sp.zI Z1 w ∧ c = Sp.zI Z1 c ∧ p = Sp.zI Z1 p ∧ ds = Sp.zL Z1 ds ∧ Sp.del ss (Sp.nix ss id) (Sp.nix ss id + 1) = Sp.zL Z1 Z2 ∧ True) ∧ (0 = Sp.leE w c p ds ss id ∧ True) ∧ True)))))) := by subst hZ2; subst hZ1; kernel_rfl
theorem v29 (w : Int) (c : Int) (p : Int) (ds : List (List C)) (ss : List (List C)) (id : Int) : Holds (Wfs [.agg [.int .i64 w, .int .i64 c, .int .i64 p, .sl [.int .u64, .int .i64] ds, .sl [.int .i64, .int .u64, .int .i64, .int .i64] ss], .int .i64 id] → True → B29 w c p ds ss id) := by
  refine ⟨fun hw hp => ?_⟩
  rw [e29 _ _ _ _ _ _ _ rfl _ rfl]
  unfold WL
  simp only [Wfs, Wf, InR, and_true] at hw
  simp only [eq_self, true_and, and_true, true_implies, implies_true, iAdd, iSub, iMul, iLen, bEq, bNe, bLt, bLe, bNot, pIn, pLe, pNe, InR, decide_eq_true_eq, decide_eq_false_iff_not, Bool.not_eq_true', Bool.not_eq_false', decide_eq_decide]
  refine ⟨fun h => Sp.bk_err (Sp.le1 h) (by omega), fun hv _ => ⟨fun h2 => Sp.bk_err (Sp.le7 hv (Sp.has_f (by omega))) (by omega), fun h2 => ?_⟩⟩
  have hl := Sp.bval_len hv
  have h2 : Sp.has ss id = true := Sp.has_t (by omega)
  have h3 := Sp.nix_has h2
  exact ⟨⟨⟨h3.1, h3.2.1⟩, by omega⟩, fun _ => Sp.bk_ok (Sp.le0 hv h2)⟩
theorem s29 : SoundCt Go.Proofs.Try.prog 29 ct29 :=
  contractH followsMixed (look_sound (show Tb Go.Proofs.Try.prog tb29 from ⟨s58, ⟨s15, ⟨s60, trivial⟩⟩⟩)) (fun _ => false) (fun _ => A29) 6 29 ct29 rfl (by simp [ct29]) fun a => Eq.mp (by kernel_rfl) (v29 ((cel 0 (arg 0 a)).int) ((cel 1 (arg 0 a)).int) ((cel 2 (arg 0 a)).int) ((cel 3 (arg 0 a)).list) ((cel 4 (arg 0 a)).list) ((cel 0 (arg 1 a)).int))
end Go.Sx
namespace Go.Sx
def ct31 : Ct := { ps := [(true, [.int .i64, .int .i64, .int .i64, .sl [.int .u64, .int .i64], .sl [.int .i64, .int .u64, .int .i64, .int .i64]]), (false, [.int .i64]), (false, [.int .u64])], rs := [(true, [.int .i64, .int .i64, .int .i64, .sl [.int .u64, .int .i64], .sl [.int .i64, .int .u64, .int .i64, .int .i64]]), (false, [.int .i64])], pre := fun _ => True, out := fun a => [[.i (Sp.zI (Sp.moE (cel 0 (arg 0 a)).int (cel 1 (arg 0 a)).int (cel 2 (arg 0 a)).int (cel 3 (arg 0 a)).list (cel 4 (arg 0 a)).list (cel 0 (arg 1 a)).int (cel 0 (arg 2 a)).int) (cel 0 (arg 0 a)).int), .i (Sp.zI (Sp.moE (cel 0 (arg 0 a)).int (cel 1 (arg 0 a)).int (cel 2 (arg 0 a)).int (cel 3 (arg 0 a)).list (cel 4 (arg 0 a)).list (cel 0 (arg 1 a)).int (cel 0 (arg 2 a)).int) (cel 1 (arg 0 a)).int), .i (Sp.zI (Sp.moE (cel 0 (arg 0 a)).int (cel 1 (arg 0 a)).int (cel 2 (arg 0 a)).int (cel 3 (arg 0 a)).list (cel 4 (arg 0 a)).list (cel 0 (arg 1 a)).int (cel 0 (arg 2 a)).int) (cel 2 (arg 0 a)).int), .l (Sp.zL (Sp.moE (cel 0 (arg 0 a)).int (cel 1 (arg 0 a)).int (cel 2 (arg 0 a)).int (cel 3 (arg 0 a)).list (cel 4 (arg 0 a)).list (cel 0 (arg 1 a)).int (cel 0 (arg 2 a)).int) ((cel 3 (arg 0 a)).list)), .l (Sp.zL (Sp.moE (cel 0 (arg 0 a)).int (cel 1 (arg 0 a)).int (cel 2 (arg 0 a)).int (cel 3 (arg 0 a)).list (cel 4 (arg 0 a)).list (cel 0 (arg 1 a)).int (cel 0 (arg 2 a)).int) (Sp.wS (Sp.del (cel 4 (arg 0 a)).list (Sp.nix (cel 4 (arg 0 a)).list (cel 0 (arg 1 a)).int) (Sp.nix (cel 4 (arg 0 a)).list (cel 0 (arg 1 a)).int + 1)) (Sp.c0 (rGet (cel 4 (arg 0 a)).list (Sp.nix (cel 4 (arg 0 a)).list (cel 0 (arg 1 a)).int))) (cel 0 (arg 2 a)).int (Sp.c2 (rGet (cel 4 (arg 0 a)).list (Sp.nix (cel 4 (arg 0 a)).list (cel 0 (arg 1 a)).int))) (Sp.c3 (rGet (cel 4 (arg 0 a)).list (Sp.nix (cel 4 (arg 0 a)).list (cel 0 (arg 1 a)).int)))))], [.i (Sp.moE (cel 0 (arg 0 a)).int (cel 1 (arg 0 a)).int (cel 2 (arg 0 a)).int (cel 3 (arg 0 a)).list (cel 4 (arg 0 a)).list (cel 0 (arg 1 a)).int (cel 0 (arg 2 a)).int)]] }
def tb31 : List (Nat × Ct) := [(58, ct58), (40, ct40), (15, ct15), (17, ct17), (59, ct59), (60, ct60)]
def A31  : FuncId → Nat → LoopAnn := fun _ _ => LoopAnn.unroll 200
abbrev B31 (w : Int) (c : Int) (p : Int) (ds : List (List C)) (ss : List (List C)) (id : Int) (dv : Int) : Prop := vcF Go.Proofs.Try.prog (look tb31) (fun _ => false) (A31) 6 31 [.agg [.int .i64 w, .int .i64 c, .int .i64 p, .sl [.int .u64, .int .i64] ds, .sl [.int .i64, .int .u64, .int .i64, .int .i64] ss], .int .i64 id, .int .u64 dv] [] (fun sv heap => Gives [(true, [.int .i64, .int .i64, .int .i64, .sl [.int .u64, .int .i64], .sl [.int .i64, .int .u64, .int .i64, .int .i64]]), (false, [.int .i64])] [[.i (Sp.zI (Sp.moE w c p ds ss id dv) w), .i (Sp.zI (Sp.moE w c p ds ss id dv) c), .i (Sp.zI (Sp.moE w c p ds ss id dv) p), .l (Sp.zL (Sp.moE w c p ds ss id dv) (ds)), .l (Sp.zL (Sp.moE w c p ds ss id dv) (Sp.wS (Sp.del ss (Sp.nix ss id) (Sp.nix ss id + 1)) (Sp.c0 (rGet ss (Sp.nix ss id))) dv (Sp.c2 (rGet ss (Sp.nix ss id))) (Sp.c3 (rGet ss (Sp.nix ss id)))))], [.i (Sp.moE w c p ds ss id dv)]] sv heap)
theorem e31 (w : Int) (c : Int) (p : Int) (ds : List (List C)) (ss : List (List C)) (id : Int) (dv : Int) (Z1 : List C) (hZ1 : Z1 = rGet ss (Sp.nix ss id)) (Z2 : Int) (hZ2 : Z2 = Sp.moE w c p ds ss id dv) (Z3 : List (List C)) (hZ3 : Z3 = Sp.del ss (Sp.nix ss id) (Sp.nix ss id + 1)) (Z4 : List (List C)) (hZ4 : Z4 = Sp.wS Z3 (Sp.c0 Z1) dv (Sp.c2 Z1) (Sp.c3 Z1)) : B31 w c p ds ss id dv = (True ∧ (True → True ∧ (bNot (Sp.bval w c p ds ss) = true → (0 = Sp.zI Z2 w ∧ 0 = Sp.zI Z2 c ∧ 0 = Sp.zI Z2 p ∧ [] = Sp.zL Z2 ds ∧ [] = Sp.zL Z2 Z4 ∧ True) ∧ (1 = Sp.moE w c p ds ss id dv ∧ True) ∧ True) ∧ (bNot (Sp.bval w c p ds ss) = false → True ∧ (InR .i64 (Sp.nix ss id) → (bLt (Sp.nix ss id) 0 = false → True ∧ (InR .i64 (Sp.nix ds dv) → (bLt (Sp.nix ds dv) 0 = true → (0 = Sp.zI Z2 w ∧ 0 = Sp.zI Z2 c ∧ 0 = Sp.zI Z2 p ∧ [] = Sp.zL Z2 ds ∧ [] = Sp.zL Z2 Z4 ∧ True) ∧ (7 = Sp.moE w c p ds ss id dv ∧ True) ∧ True) ∧ (bLt (Sp.nix ds dv) 0 = false → pIn 0 (iLen ss) (Sp.nix ss id) ∧ (InR .i64 (q0 Z1) ∧ InR .u64 (q1 Z1) ∧ InR .i64 (q2 Z1) ∧ InR .i64 (q3 Z1) ∧ True → (pIn 0 (iLen ss) (Sp.nix ss id) ∧ pLe (iLen ss) 1000) ∧ (InR .i64 w ∧ InR .i64 c ∧ InR .i64 p ∧ ((WL [.int .u64, .int .i64] ds)) ∧ ((WL [.int .i64, .int .u64, .int .i64, .int .i64] Z3)) ∧ True → (pLe (iLen Z3) 1000 ∧ True) ∧ (InR .i64 w ∧ InR .i64 c ∧ InR .i64 p ∧ ((WL [.int .u64, .int .i64] ds)) ∧ ((WL [.int .i64, .int .u64, .int .i64, .int .i64] (Sp.wS Z3 (q0 Z1) dv (q2 Z1) (q3 Z1)))) ∧ True → True ∧ (InR .i64 (Sp.ld w c p ds (Sp.wS Z3 (q0 Z1) dv (q2 Z1) (q3 Z1))) → (bLt c (Sp.ld w c p ds (Sp.wS Z3 (q0 Z1) dv (q2 Z1) (q3 Z1))) = true → (0 = Sp.zI Z2 w ∧ 0 = Sp.zI Z2 c ∧ 0 = Sp.zI Z2 p ∧ [] = Sp.zL Z2 ds ∧ [] = Sp.zL Z2 Z4 ∧ True) ∧ (10 = Sp.moE w c p ds ss id dv ∧ True) ∧ True) ∧ (bLt c (Sp.ld w c p ds (Sp.wS Z3 (q0 Z1) dv (q2 Z1) (q3 Z1))) = false → (w = Sp.zI Z2 w ∧ c = Sp.zI Z2 c ∧ p = Sp.zI Z2 p ∧ ds = Sp.zL Z2 ds ∧ Sp.wS Z3 (q0 Z1) dv (q2 Z1) (q3 Z1) = Sp.zL Z2 Z4 ∧ True) ∧ (0 = Sp.moE w c p ds ss id dv ∧ True) ∧ True)))))))) ∧ (bLt (Sp.nix ss id) 0 = true → (0 = Sp.zI Z2 w ∧ 0 = Sp.zI Z2 c ∧ 0 = Sp.zI Z2 p ∧ [] = Sp.zL Z2 ds ∧ [] = Sp.zL Z2 Z4 ∧ True) ∧ (7 = Sp.moE w c p ds ss id dv ∧ True) ∧ True))))) := by subst hZ4; subst hZ3; subst hZ2; subst hZ1; kernel_rfl
theorem v31 (w : Int) (c : Int) (p : Int) (ds : List (List C)) (ss : List (List C)) (id : Int) (dv : Int) : Holds (Wfs [.agg [.int .i64 w, .int .i64 c, .int .i64 p, .sl [.int .u64, .int .i64] ds, .sl [.int .i64, .int .u64, .int .i64, .int .i64] ss], .int .i64 id, .int .u64 dv] → True → B31 w c p ds ss id dv) := by
  refine ⟨fun hw hp => ?_⟩
  rw [e31 _ _ _ _ _ _ _ _ rfl _ rfl _ rfl _ rfl]
  unfold WL q0 q1 q2 q3
  simp only [Wfs, Wf, InR, and_true] at hw
  simp only [eq_self, true_and, and_true, true_implies, implies_true, iAdd, iSub, iMul, iLen, bEq, bNe, bLt, bLe, bNot, pIn, pLe, pNe, InR, decide_eq_true_eq, decide_eq_false_iff_not, Bool.not_eq_true', Bool.not_eq_false', decide_eq_decide]
  refine ⟨fun h => Sp.bk_err (Sp.mo1 h) (by omega), fun hv _ => ⟨fun h2 _ => ⟨fun h3 => Sp.bk_err (Sp.mo7 hv (.inr (Sp.has_f (by omega)))) (by omega), fun h3 => ?_⟩, fun h2 => Sp.bk_err (Sp.mo7 hv (.inl (Sp.has_f (by omega)))) (by omega)⟩⟩
  have hA := Sp.bval_asc hv
  have hl := Sp.bval_len hv
  have h2 : Sp.has ss id = true := Sp.has_t (by omega)
  have h3 : Sp.has ds dv = true := Sp.has_t (by omega)
  have hn := Sp.nix_has h2
  have eW : Sp.ld w c p ds (Sp.wS (Sp.del ss (Sp.nix ss id) (Sp.nix ss id + 1)) ((rGet ss (Sp.nix ss id)).headD default).int dv ((rGet ss (Sp.nix ss id)).tail.tail.headD default).int ((rGet ss (Sp.nix ss id)).tail.tail.tail.headD default).int) = Sp.ld w c p ds (Sp.mvS ss id dv) := Sp.ld_eq rfl (Sp.mvS_m hA.2 h2)
  have dl := Sp.del_len hn.1 hn.2.1
  rw [eW]
  exact ⟨⟨hn.1, hn.2.1⟩, fun _ => ⟨⟨⟨hn.1, hn.2.1⟩, by omega⟩, fun _ => ⟨by omega, fun _ _ => ⟨fun h4 => Sp.bk_err (Sp.mo10 hv h2 h3 h4) (by omega), fun h4 => Sp.bk_ok (Sp.mo0 hv h2 h3 h4)⟩⟩⟩⟩
theorem s31 : SoundCt Go.Proofs.Try.prog 31 ct31 :=
  contractH followsMixed (look_sound (show Tb Go.Proofs.Try.prog tb31 from ⟨s58, ⟨s40, ⟨s15, ⟨s17, ⟨s59, ⟨s60, trivial⟩⟩⟩⟩⟩⟩)) (fun _ => false) (fun _ => A31) 6 31 ct31 rfl (by simp [ct31]) fun a => Eq.mp (by kernel_rfl) (v31 ((cel 0 (arg 0 a)).int) ((cel 1 (arg 0 a)).int) ((cel 2 (arg 0 a)).int) ((cel 3 (arg 0 a)).list) ((cel 4 (arg 0 a)).list) ((cel 0 (arg 1 a)).int) ((cel 0 (arg 2 a)).int))
end Go.Sx
