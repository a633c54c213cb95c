import Derived.Test.YtphaelepnjekoaaGreatSxUse
import Derived.Test.YtphaelepnjekoaaGreatH27a
import Derived.KernelRfl
set_option linter.unusedVariables false
set_option linter.unusedSimpArgs false
set_option maxRecDepth 100000
set_option maxHeartbeats 4000000
namespace Go
open Go.Sx
def Sp.cnt (ls out : List (List C)) (n : Int) : Nat := (ls.filter (fun l => decide (Sp.c2 l = n) && !Sp.has out (Sp.c0 l))).length
def Sp.rem (ns out : List (List C)) : Nat := (ns.filter (fun x => !Sp.has out (Sp.c0 x))).length
def Sp.oI (ns ls out : List (List C)) : Prop := out.length + Sp.rem ns out ≤ ns.length ∧ ∃ f : Nat, Sp.rem ns out ≤ f ∧ Sp.ordF ns ls f out = Sp.ord ns ls
def Sp.nxtP (ns ls out : List (List C)) (i n : Int) : Prop := 0 ≤ i ∧ i ≤ (ns.length : Int) ∧ (n = 0 ∧ (∀ k : Int, 0 ≤ k → k < i → Sp.rdy ls out (rGet ns k) = false) ∨ ∃ k : Int, 0 ≤ k ∧ k < i ∧ Sp.idx (Sp.rdy ls out) ns 0 = k ∧ n = Sp.c0 (rGet ns k))
def Sp.frP (ls out : List (List C)) (id : Int) (b0 : Bool) (i : Int) (f : Bool) : Prop := 0 ≤ i ∧ i ≤ (ls.length : Int) ∧ f = (b0 && Sp.free (ls.take i.toNat) out id)
end Go
namespace Go
open Go.Sx
theorem Sp.take_succ {xs : List (List C)} {k : Int} (h0 : 0 ≤ k) (h1 : k < (xs.length : Int)) : xs.take (k + 1).toNat = xs.take k.toNat ++ [rGet xs k] := by
 rw [show (k + 1).toNat = k.toNat + 1 by omega, List.take_add_one]
 congr 1
 simp [rGet, List.getD_eq_getElem?_getD, show k.toNat < xs.length by omega]
theorem Sp.row_mem {xs : List (List C)} {k : Int} (h0 : 0 ≤ k) (h1 : k < (xs.length : Int)) : rGet xs k ∈ xs := by
 unfold rGet
 rw [List.getD_eq_getElem?_getD, List.getElem?_eq_getElem (by omega)]
 exact List.getElem_mem _
theorem Sp.mem_row {xs : List (List C)} {x : List C} (h : x ∈ xs) : ∃ k : Int, 0 ≤ k ∧ k < (xs.length : Int) ∧ x = rGet xs k := by
 obtain ⟨i, hi, he⟩ := List.mem_iff_getElem.1 h
 refine ⟨(i : Int), by omega, by omega, ?_⟩
 simp [rGet, List.getD_eq_getElem?_getD, hi, he]
theorem Sp.at_of {p : List C → Bool} {xs : List (List C)} : ∀ (n : Nat), (n : Int) ≤ (xs.length : Int) → (∀ k : Int, 0 ≤ k → k < n → p (rGet xs k) = false) → Sp.at p xs n
 | 0, _, _ => Sp.at_init
 | n + 1, hn, h => by
  have := Sp.at_step (Sp.at_of n (by omega) fun k h0 h1 => h k h0 (by omega)) (by omega) (h n (by omega) (by omega))
  exact this
theorem Sp.idx_first {p : List C → Bool} {xs : List (List C)} {k : Int} (h0 : 0 ≤ k) (h1 : k < (xs.length : Int)) (h : ∀ j : Int, 0 ≤ j → j < k → p (rGet xs j) = false) (hk : p (rGet xs k) = true) : Sp.idx p xs 0 = k := by
 have := Sp.at_of (p := p) (xs := xs) k.toNat (by omega) fun j j0 j1 => h j j0 (by omega)
 rw [show ((k.toNat : Nat) : Int) = k by omega] at this
 exact Sp.at_hit this h1 hk
theorem Sp.has_app (l : List (List C)) (a n : Int) : Sp.has (l ++ [[.i a]]) n = (Sp.has l n || decide (a = n)) := by
 rw [Bool.eq_iff_iff, Sp.has_iff, Bool.or_eq_true, Sp.has_iff, decide_eq_true_eq]
 constructor
 · rintro ⟨x, hx, hn⟩
   rcases List.mem_append.1 hx with hx | hx
   · exact .inl ⟨x, hx, hn⟩
   · simp only [List.mem_singleton] at hx
     subst hx; exact .inr hn
 · rintro (⟨x, hx, hn⟩ | h)
   · exact ⟨x, by simp [hx], hn⟩
   · exact ⟨[.i a], by simp, h⟩
theorem Sp.filter_lt {p q : List C → Bool} : ∀ {l : List (List C)} {x : List C}, (∀ y ∈ l, p y = true → q y = true) → x ∈ l → q x = true → p x = false → (l.filter p).length + 1 ≤ (l.filter q).length
 | [], _, _, h, _, _ => by simp at h
 | y :: r, x, hpq, hx, hq, hp => by
  have le : (r.filter p).length ≤ (r.filter q).length := by
   rw [← List.countP_eq_length_filter, ← List.countP_eq_length_filter]
   exact List.countP_mono_left fun z hz => hpq z (by simp [hz])
  rcases List.mem_cons.1 hx with rfl | hx
  · rw [List.filter_cons, List.filter_cons, hp, hq]
    simp; omega
  · have ih := Sp.filter_lt (fun z hz => hpq z (by simp [hz])) hx hq hp
    rw [List.filter_cons, List.filter_cons]
    have := hpq y (by simp)
    cases h1 : p y <;> cases h2 : q y <;> simp_all <;> omega
theorem Sp.rem_nil (ns : List (List C)) : Sp.rem ns [] = ns.length := by
 unfold Sp.rem
 rw [List.filter_eq_self.2]
 intro x _
 rfl
theorem Sp.oI_init (ns ls : List (List C)) : Sp.oI ns ls [] := ⟨by simp [Sp.rem_nil], ns.length, by simp [Sp.rem_nil], rfl⟩
section
variable {ns ls out : List (List C)} {i n : Int}
theorem Sp.oI_end (h : Sp.oI ns ls out) (hi : Sp.idx (Sp.rdy ls out) ns 0 < 0) : out = Sp.ord ns ls := by
 obtain ⟨_, f, _, hf⟩ := h
 rw [← hf]
 cases f with
 | zero => rfl
 | succ k => rw [Sp.ordF, decide_eq_true hi]; rfl
theorem Sp.rdy_at (h : 0 ≤ Sp.idx (Sp.rdy ls out) ns 0) : Sp.idx (Sp.rdy ls out) ns 0 < (ns.length : Int) ∧ Sp.rdy ls out (rGet ns (Sp.idx (Sp.rdy ls out) ns 0)) = true := by
 have h1 := Sp.idx_bd (p := Sp.rdy ls out) ns 0
 have h2 := Sp.idx_row (p := Sp.rdy ls out) ns 0 (by omega)
 refine ⟨by omega, ?_⟩
 rcases h2 with h2 | h2
 · omega
 · rw [Int.sub_zero] at h2; exact h2
theorem Sp.oI_step (h : Sp.oI ns ls out) (hi : 0 ≤ Sp.idx (Sp.rdy ls out) ns 0) (hn : n = Sp.c0 (rGet ns (Sp.idx (Sp.rdy ls out) ns 0))) :
 Sp.oI ns ls (out ++ [[.i n]]) ∧ Sp.rem ns (out ++ [[.i n]]) < Sp.rem ns out := by
 obtain ⟨h0, f, hf, he⟩ := h
 obtain ⟨r1, r2⟩ := Sp.rdy_at hi
 have hlt : Sp.rem ns (out ++ [[.i n]]) + 1 ≤ Sp.rem ns out := by
  unfold Sp.rem
  refine Sp.filter_lt (x := rGet ns (Sp.idx (Sp.rdy ls out) ns 0)) (fun y _ hy => ?_) (Sp.row_mem hi r1) ?_ ?_
  · rw [Sp.has_app] at hy
    cases hb : Sp.has out (Sp.c0 y) <;> simp_all
  · unfold Sp.rdy at r2
    rw [Bool.and_eq_true] at r2
    exact r2.1
  · rw [Sp.has_app, hn]; simp
 refine ⟨⟨by simp only [List.length_append, List.length_singleton]; omega, f - 1, by omega, ?_⟩, by omega⟩
 obtain ⟨g, rfl⟩ : ∃ g, f = g + 1 := ⟨f - 1, by omega⟩
 rw [Sp.ordF, decide_eq_false (by omega)] at he
 rw [← he, hn]; rfl
theorem Sp.nxt_init : Sp.nxtP ns ls out 0 0 := ⟨by omega, by omega, .inl ⟨rfl, fun k h0 h1 => by omega⟩⟩
theorem Sp.nxt_skip (h : Sp.nxtP ns ls out i n) (hi : i < (ns.length : Int)) (hr : Sp.rdy ls out (rGet ns i) = false) : Sp.nxtP ns ls out (i + 1) n := by
 obtain ⟨h0, h1, h2⟩ := h
 refine ⟨by omega, by omega, h2.imp (fun ⟨a, b⟩ => ⟨a, fun k k0 k1 => ?_⟩) fun ⟨k, k0, k1, k2⟩ => ⟨k, k0, by omega, k2⟩⟩
 by_cases hk : k = i
 · rw [hk]; exact hr
 · exact b k k0 (by omega)
theorem Sp.nxt_keep (h : Sp.nxtP ns ls out i n) (hi : i < (ns.length : Int)) (hn : ¬ n = 0) : Sp.nxtP ns ls out (i + 1) n := by
 obtain ⟨h0, h1, h2⟩ := h
 exact ⟨by omega, by omega, .inr (h2.elim (fun ⟨a, _⟩ => (hn a).elim) fun ⟨k, k0, k1, k2⟩ => ⟨k, k0, by omega, k2⟩)⟩
theorem Sp.nxt_take (h : Sp.nxtP ns ls out i n) (hi : i < (ns.length : Int)) (hn : n = 0) (hp : ∀ x ∈ ns, 1 ≤ Sp.c0 x) (hr : Sp.rdy ls out (rGet ns i) = true) : Sp.nxtP ns ls out (i + 1) (Sp.c0 (rGet ns i)) := by
 obtain ⟨h0, h1, h2⟩ := h
 rcases h2 with ⟨_, h2⟩ | ⟨k, k0, k1, k2, k3⟩
 · exact ⟨by omega, by omega, .inr ⟨i, h0, by omega, Sp.idx_first h0 hi h2 hr, rfl⟩⟩
 · have := hp _ (Sp.row_mem k0 (show k < (ns.length : Int) by omega))
   omega
theorem Sp.nxt_none (h : Sp.nxtP ns ls out i n) (hi : ¬ i < (ns.length : Int)) (hn : n = 0) (hp : ∀ x ∈ ns, 1 ≤ Sp.c0 x) : Sp.idx (Sp.rdy ls out) ns 0 < 0 := by
 obtain ⟨h0, h1, h2⟩ := h
 rcases h2 with ⟨_, h2⟩ | ⟨k, k0, k1, k2, k3⟩
 · refine (Sp.idx_no ns 0 (by omega)).2 fun x hx => ?_
   obtain ⟨k, k0, k1, rfl⟩ := Sp.mem_row hx
   exact h2 k k0 (by omega)
 · have := hp _ (Sp.row_mem k0 (show k < (ns.length : Int) by omega))
   omega
theorem Sp.nxt_some (h : Sp.nxtP ns ls out i n) (hn : ¬ n = 0) : 0 ≤ Sp.idx (Sp.rdy ls out) ns 0 ∧ n = Sp.c0 (rGet ns (Sp.idx (Sp.rdy ls out) ns 0)) := by
 obtain ⟨h0, h1, h2⟩ := h
 rcases h2 with ⟨a, _⟩ | ⟨k, k0, k1, k2, k3⟩
 · exact (hn a).elim
 · rw [k2]; exact ⟨k0, k3⟩
theorem Sp.fr_init {id : Int} {b : Bool} : Sp.frP ls out id b 0 b := ⟨by omega, by omega, by simp [Sp.free]⟩
theorem Sp.fr_step {id : Int} {b f : Bool} (h : Sp.frP ls out id b i f) (hi : i < (ls.length : Int)) : Sp.frP ls out id b (i + 1) (f && (!decide (Sp.c2 (rGet ls i) = id) || Sp.has out (Sp.c0 (rGet ls i)))) := by
 obtain ⟨h0, h1, h2⟩ := h
 refine ⟨by omega, by omega, ?_⟩
 rw [h2, Sp.take_succ h0 hi]
 simp [Sp.free, Bool.and_assoc]
theorem Sp.fr_end {id : Int} {b f : Bool} (h : Sp.frP ls out id b i f) (hi : ¬ i < (ls.length : Int)) : f = (b && Sp.free ls out id) := by
 obtain ⟨h0, h1, h2⟩ := h
 rw [h2, List.take_of_length_le (by omega)]
end
end Go
namespace Go.Sx
def ct59 : Ct := { ps := [(true, [.sl [.int .i64, .int .i64, .int .i64, .int .i64], .sl [.int .i64, .int .i64, .int .i64, .int .i64]])], rs := [(false, [.sl [.int .i64]])], pre := fun a => (∀ x ∈ (cel 0 (arg 0 a)).list, 1 ≤ Sp.c0 x) ∧ pLe ((cel 0 (arg 0 a)).list.length : Int) 1000000, out := fun a => [[.l (Sp.ord (cel 0 (arg 0 a)).list (cel 1 (arg 0 a)).list)]] }
def tb59 : List (Nat × Ct) := [(80, ct80)]
def A59 (ns : List (List C)) (ls : List (List C)) : FuncId → Nat → LoopAnn := fun _ ii => bif Nat.beq ii 2 then .ghost 3 [.int .i64] 3 (.on (fun sv0 => match sv0.tmps.getD 3 .undef with | .own rr _ => .inv (List (List C)) (fun z => Sp.oI ns ls z) (fun z => [(3, .own rr 0)]) (fun z => [(rr, .row [.int .i64] 3 0 (z))]) [rr] [0, 1, 2, 3, 4, 6, 7, 9, 11, 12, 13, 14, 23, 24, 25, 26, 48, 53] (fun z => Sp.rem ns z) | _ => .unroll 0)) else bif Nat.beq ii 4 then .on (fun sv0 => match sv0.tmps.getD 3 .undef with | .own rr _ => (match curOf sv0.heap rr with | some (_, _, out) => .inv (Int × Int) (fun z => Sp.nxtP ns ls out z.1 z.2) (fun z => [(13, .int .i64 z.1), (4, .int .i64 z.2)]) (fun z => []) [] [0, 1, 2, 3, 4, 6, 7, 9, 11, 12, 13, 14, 23, 24, 25, 26, 48, 53] (fun z => ns.length - z.1.toNat) | none => .unroll 0) | _ => .unroll 0) else bif Nat.beq ii 8 then .on (fun sv0 => match sv0.tmps.getD 3 .undef with | .own rr _ => (match curOf sv0.heap rr with | some (_, _, out) => (match sv0.tmps.getD 19 .undef, sv0.tmps.getD 7 .undef with | .int _ id, .bool b0 => .inv (Int × Bool) (fun z => Sp.frP ls out id b0 z.1 z.2) (fun z => [(25, .int .i64 z.1), (7, .bool z.2)]) (fun z => []) [] [0, 1, 2, 3, 4, 6, 7, 9, 11, 12, 13, 14, 23, 24, 25, 26, 48, 53] (fun z => ls.length - z.1.toNat) | _, _ => .unroll 0) | none => .unroll 0) | _ => .unroll 0) else .unroll 0
abbrev B59 (ns : List (List C)) (ls : List (List C)) : Prop := vcF Go.Proofs.Tryz.prog (look tb59) (fun _ => false) (A59 ns ls) 6 59 [.agg [.sl [.int .i64, .int .i64, .int .i64, .int .i64] ns, .sl [.int .i64, .int .i64, .int .i64, .int .i64] ls]] [] (fun sv heap => Gives [(false, [.sl [.int .i64]])] [[.l (Sp.ord ns ls)]] sv heap)
def h59_0 : List (List C) → List (List C) → Int × Int → List SV := fun (ns ls : List (List C)) (x : Int × Int) => [SV.agg [SV.sl [.int .i64, .int .i64, .int .i64, .int .i64] ns, SV.sl [.int .i64, .int .i64, .int .i64, .int .i64] ls], SV.ref 0 0, SV.any, SV.own 1 (0 + 1), SV.int .i64 x.2, SV.ref 2 0, SV.sl [.int .i64, .int .i64, .int .i64, .int .i64] ns, SV.int .i64 (iLen ns), SV.int .i64 x.1, SV.blit true, SV.sl [.int .i64, .int .i64, .int .i64, .int .i64] ls, SV.int .i64 (iLen ls), SV.any, SV.any]
def h59_1 : List (List C) → List (List C) → List (List C) → Int × Int → List HB := fun (ns ls x : List (List C)) (x_1 : Int × Int) => [HB.box [SV.sl [.int .i64, .int .i64, .int .i64, .int .i64] ns, SV.sl [.int .i64, .int .i64, .int .i64, .int .i64] ls] 50, HB.row [.int .i64] 3 (0 + 1) x, HB.box [SV.int .i64 ((rGet ns x_1.1).headD default).int, SV.int .i64 ((rGet ns x_1.1).tail.headD default).int, SV.int .i64 ((rGet ns x_1.1).tail.tail.headD default).int, SV.int .i64 ((rGet ns x_1.1).tail.tail.tail.headD default).int] 74]
def h59_2 : List (List C) → List (List C) → List SV := fun (ns ls : List (List C)) => [SV.agg [SV.sl [.int .i64, .int .i64, .int .i64, .int .i64] ns, SV.sl [.int .i64, .int .i64, .int .i64, .int .i64] ls], SV.ref 0 0, SV.any, SV.own 1 (0 + 1), SV.sl [.int .i64, .int .i64, .int .i64, .int .i64] ns, SV.int .i64 (iLen ns), SV.any]
def h59_3 : List (List C) → List (List C) → List (List C) → List HB := fun (ns ls x : List (List C)) => [HB.box [SV.sl [.int .i64, .int .i64, .int .i64, .int .i64] ns, SV.sl [.int .i64, .int .i64, .int .i64, .int .i64] ls] 50, HB.row [.int .i64] 3 (0 + 1) x]
def m59_0 (ns : List (List C)) (ls : List (List C)) (x : List (List C)) (x_1 : Int × Int) : Prop := InR .i64 (iAdd x_1.1 1) ∧ (true = true ∧ h59_2 ns ls = h59_2 ns ls) ∧ h59_3 ns ls x = h59_3 ns ls x ∧ ∃ (y : Int × Int), Sp.nxtP ns ls x y.1 y.2 ∧ true = true ∧ ((IntKind.i64 = IntKind.i64 ∧ iAdd x_1.1 1 = y.1) ∧ (IntKind.i64 = IntKind.i64 ∧ x_1.2 = y.2) ∧ True) ∧ True ∧ ns.length - y.1.toNat < ns.length - x_1.1.toNat
def m59_1 : Prop := IntKind.i64 = IntKind.i64
theorem e59 (ns : List (List C)) (ls : List (List C)) : B59 ns ls = ((∃ (x : List (List C)), Sp.oI ns ls x ∧ true = true ∧ ((1 = 1 ∧ 0 + 1 = 0 + 1) ∧ True) ∧ ([Sh.int .i64] = [Sh.int .i64] ∧ 3 = 3 ∧ 0 + 1 = 0 + 1 ∧ [] = x) ∧ True) ∧ (∀ (x : List (List C)), true = true ∧ true = true) ∧ ∀ (x : List (List C)), Sp.oI ns ls x → True ∧ True → ((WL [.int .i64] x)) ∧ True → pLe (iLen ns) 9223372036854775807 → (∃ (x_1 : Int × Int), Sp.nxtP ns ls x x_1.1 x_1.2 ∧ true = true ∧ ((m59_1 ∧ 0 = x_1.1) ∧ (m59_1 ∧ 0 = x_1.2) ∧ True) ∧ True) ∧ (∀ (x : Int × Int), true = true ∧ true = true) ∧ ∀ (x_1 : Int × Int), Sp.nxtP ns ls x x_1.1 x_1.2 → InR .i64 x_1.1 ∧ InR .i64 x_1.2 ∧ True → True → (bLt x_1.1 (iLen ns) = true → pIn 0 (iLen ns) x_1.1 ∧ (InR .i64 (q0 (rGet ns x_1.1)) ∧ InR .i64 (q1 (rGet ns x_1.1)) ∧ InR .i64 (q2 (rGet ns x_1.1)) ∧ InR .i64 (q3 (rGet ns x_1.1)) ∧ True → True ∧ (True → True ∧ (pLe (iLen ls) 9223372036854775807 → (∃ (x_2 : Int × Bool), Sp.frP ls x (q0 (rGet ns x_1.1)) (bNot (Sp.has x (q0 (rGet ns x_1.1)))) x_2.1 x_2.2 ∧ true = true ∧ ((m59_1 ∧ 0 = x_2.1) ∧ bNot (Sp.has x (q0 (rGet ns x_1.1))) = x_2.2 ∧ True) ∧ True) ∧ (∀ (x : Int × Bool), true = true ∧ true = true) ∧ ∀ (x_2 : Int × Bool), Sp.frP ls x (q0 (rGet ns x_1.1)) (bNot (Sp.has x (q0 (rGet ns x_1.1)))) x_2.1 x_2.2 → InR .i64 x_2.1 ∧ True ∧ True → True → (bLt x_2.1 (iLen ls) = true → pIn 0 (iLen ls) x_2.1 ∧ (InR .i64 (q0 (rGet ls x_2.1)) ∧ InR .i64 (q1 (rGet ls x_2.1)) ∧ InR .i64 (q2 (rGet ls x_2.1)) ∧ InR .i64 (q3 (rGet ls x_2.1)) ∧ True → (x_2.2 = true → (bNe (q2 (rGet ls x_2.1)) (q0 (rGet ns x_1.1)) = false → True ∧ (True → InR .i64 (iAdd x_2.1 1) ∧ (true = true ∧ h59_0 ns ls x_1 = h59_0 ns ls x_1) ∧ h59_1 ns ls x x_1 = h59_1 ns ls x x_1 ∧ ∃ (y : Int × Bool), Sp.frP ls x (q0 (rGet ns x_1.1)) (bNot (Sp.has x (q0 (rGet ns x_1.1)))) y.1 y.2 ∧ true = true ∧ ((m59_1 ∧ iAdd x_2.1 1 = y.1) ∧ Sp.has x (q0 (rGet ls x_2.1)) = y.2 ∧ True) ∧ True ∧ ls.length - y.1.toNat < ls.length - x_2.1.toNat)) ∧ (bNe (q2 (rGet ls x_2.1)) (q0 (rGet ns x_1.1)) = true → InR .i64 (iAdd x_2.1 1) ∧ (true = true ∧ h59_0 ns ls x_1 = h59_0 ns ls x_1) ∧ h59_1 ns ls x x_1 = h59_1 ns ls x x_1 ∧ ∃ (y : Int × Bool), Sp.frP ls x (q0 (rGet ns x_1.1)) (bNot (Sp.has x (q0 (rGet ns x_1.1)))) y.1 y.2 ∧ true = true ∧ ((m59_1 ∧ iAdd x_2.1 1 = y.1) ∧ true = y.2 ∧ True) ∧ True ∧ ls.length - y.1.toNat < ls.length - x_2.1.toNat)) ∧ (x_2.2 = false → InR .i64 (iAdd x_2.1 1) ∧ (true = true ∧ h59_0 ns ls x_1 = h59_0 ns ls x_1) ∧ h59_1 ns ls x x_1 = h59_1 ns ls x x_1 ∧ ∃ (y : Int × Bool), Sp.frP ls x (q0 (rGet ns x_1.1)) (bNot (Sp.has x (q0 (rGet ns x_1.1)))) y.1 y.2 ∧ true = true ∧ ((m59_1 ∧ iAdd x_2.1 1 = y.1) ∧ false = y.2 ∧ True) ∧ True ∧ ls.length - y.1.toNat < ls.length - x_2.1.toNat))) ∧ (bLt x_2.1 (iLen ls) = false → (x_2.2 = true → (bEq x_1.2 0 = true → InR .i64 (iAdd x_1.1 1) ∧ (true = true ∧ h59_2 ns ls = h59_2 ns ls) ∧ h59_3 ns ls x = h59_3 ns ls x ∧ ∃ (y : Int × Int), Sp.nxtP ns ls x y.1 y.2 ∧ true = true ∧ ((m59_1 ∧ iAdd x_1.1 1 = y.1) ∧ (m59_1 ∧ (q0 (rGet ns x_1.1)) = y.2) ∧ True) ∧ True ∧ ns.length - y.1.toNat < ns.length - x_1.1.toNat) ∧ (bEq x_1.2 0 = false → (m59_0 ns ls x x_1))) ∧ (x_2.2 = false → (m59_0 ns ls x x_1))))))) ∧ (bLt x_1.1 (iLen ns) = false → (bEq x_1.2 0 = true → (x = Sp.ord ns ls ∧ True) ∧ True) ∧ (bEq x_1.2 0 = false → pRoom 8 (iLen (x ++ [[C.i x_1.2]])) ∧ (true = true ∧ (fun z => z = z) [SV.agg [SV.sl [.int .i64, .int .i64, .int .i64, .int .i64] ns, SV.sl [.int .i64, .int .i64, .int .i64, .int .i64] ls], SV.ref 0 0]) ∧ (fun z => z = z) [HB.box [SV.sl [.int .i64, .int .i64, .int .i64, .int .i64] ns, SV.sl [.int .i64, .int .i64, .int .i64, .int .i64] ls] 50, HB.gone] ∧ ∃ (y : List (List C)), Sp.oI ns ls y ∧ true = true ∧ ((1 = 1 ∧ 0 + 1 = 0 + 1) ∧ True) ∧ (([Sh.int .i64] = [Sh.int .i64] ∧ 3 = 3 ∧ 0 + 1 = 0 + 1 ∧ x ++ [[C.i x_1.2]] = y) ∧ True) ∧ Sp.rem ns y < Sp.rem ns x))) := by kernel_rfl
theorem v59 (ns : List (List C)) (ls : List (List C)) : Holds (Wfs [.agg [.sl [.int .i64, .int .i64, .int .i64, .int .i64] ns, .sl [.int .i64, .int .i64, .int .i64, .int .i64] ls]] → (∀ x ∈ ns, 1 ≤ Sp.c0 x) ∧ pLe (ns.length : Int) 1000000 → B59 ns ls) := by
 refine ⟨fun hw hp => ?_⟩
 rw [e59]
 delta WL q0 q1 q2 q3 m59_0 m59_1
 simp only [Wfs, Wf, InR, and_true] at hw
 simp only [eq_self, true_and, and_true, true_implies, implies_true, iAdd, iSub, iMul, iLen, bEq, bNe, bLt, bLe, bNot, pIn, pLe, pNe, InR, decide_eq_true_eq, decide_eq_false_iff_not, Bool.not_eq_true', Bool.not_eq_false', decide_eq_decide]
 simp only [pLe] at hp
 obtain ⟨hp, hsz⟩ := hp
 refine ⟨⟨[], Sp.oI_init ns ls, rfl⟩, fun out ho _ hlen => ⟨⟨(0, 0), Sp.nxt_init, rfl, rfl⟩, ?_⟩⟩
 rintro ⟨i, n⟩ hx hx1
 simp only at hx hx1 ⊢
 have i0 := hx.1
 refine ⟨fun hlt => ⟨⟨i0, hlt⟩, fun _ hll => ⟨⟨(0, _), Sp.fr_init, rfl, rfl⟩, ?_⟩⟩, fun hge => ⟨fun hn => Sp.oI_end ho (Sp.nxt_none hx hge hn hp), fun hn => ?_⟩⟩
 · rintro ⟨j, f⟩ hf hf1
   simp only at hf hf1 ⊢
   have j0 := hf.1
   refine ⟨fun hjl => ⟨⟨j0, hjl⟩, fun _ => ?_⟩, fun hjg => ?_⟩
   · have S := Sp.fr_step hf hjl
     have fin : ∀ g : Bool, (f && (!decide (Sp.c2 (rGet ls j) = Sp.c0 (rGet ns i)) || Sp.has out (Sp.c0 (rGet ls j)))) = g → (-9223372036854775808 ≤ j + 1 ∧ j + 1 ≤ 9223372036854775807) ∧ ∃ y : Int × Bool, Sp.frP ls out ((rGet ns i).headD default).int (!Sp.has out ((rGet ns i).headD default).int) y.fst y.snd ∧ (j + 1 = y.fst ∧ g = y.snd) ∧ ls.length - y.fst.toNat < ls.length - j.toNat := fun g hg => by
      subst hg
      exact ⟨by omega, (j + 1, _), S, ⟨rfl, rfl⟩, by simp only; omega⟩
     refine ⟨fun hft => ⟨fun hc => fin _ ?_, fun hc => fin _ ?_⟩, fun hff => fin _ (by rw [hff]; rfl)⟩
     · rw [hft, decide_eq_true (show Sp.c2 (rGet ls j) = Sp.c0 (rGet ns i) from hc)]; rfl
     · rw [hft, decide_eq_false (show ¬ Sp.c2 (rGet ls j) = Sp.c0 (rGet ns i) from hc)]; rfl
   · have E := Sp.fr_end hf hjg
     have hr : Sp.rdy ls out (rGet ns i) = f := E.symm
     refine ⟨fun hft => ⟨fun hn => ⟨by omega, (i + 1, _), Sp.nxt_take hx hlt hn hp (by rw [hr, hft]), ⟨rfl, rfl⟩, by simp only; omega⟩, fun hn => ⟨by omega, (i + 1, n), Sp.nxt_keep hx hlt hn, ⟨rfl, rfl⟩, by simp only; omega⟩⟩,
      fun hff => ⟨by omega, (i + 1, n), Sp.nxt_skip hx hlt (by rw [hr, hff]), ⟨rfl, rfl⟩, by simp only; omega⟩⟩
 · obtain ⟨h1, h2⟩ := Sp.nxt_some hx hn
   obtain ⟨h3, h4⟩ := Sp.oI_step ho h1 h2
   have h5 := h3.1
   simp only [List.length_append, List.length_singleton] at h5
   refine ⟨by simp only [pRoom, List.length_append, List.length_singleton]; omega, _, h3, rfl, h4⟩
theorem s59 : SoundCt Go.Proofs.Tryz.prog 59 ct59 :=
 contractH followsMixed (look_sound (show Tb Go.Proofs.Tryz.prog tb59 from ⟨s80, trivial⟩)) (fun _ => false) (fun a => A59 ((cel 0 (arg 0 a)).list) ((cel 1 (arg 0 a)).list)) 6 59 ct59 rfl (by simp [ct59]) fun a => Eq.mp (by kernel_rfl) (v59 ((cel 0 (arg 0 a)).list) ((cel 1 (arg 0 a)).list))
end Go.Sx
