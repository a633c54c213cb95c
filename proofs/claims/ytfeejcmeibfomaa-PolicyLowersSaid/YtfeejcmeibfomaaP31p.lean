/- Contracts and conditions, continued. -/
import Derived.Test.YtfeejcmeibfomaaSxUse
import Derived.Test.YtfeejcmeibfomaaP31o
import Derived.KernelRfl
set_option linter.unusedVariables false
set_option linter.unusedSimpArgs false
set_option maxRecDepth 100000
set_option maxHeartbeats 4000000

namespace Go
open Go.Sx
def Sp.itr {α : Type} (f : α → α) : Nat → α → α
  | 0, x => x
  | n + 1, x => Sp.itr f n (f x)
theorem Sp.itr_step {α : Type} {f : α → α} {k : Int} {x : α} (h : 0 < k) : Sp.itr f k.toNat x = Sp.itr f (k - 1).toNat (f x) := by
  rw [show k.toNat = (k - 1).toNat + 1 by omega]; rfl
theorem Sp.itr_end {α : Type} {f : α → α} {k : Int} {x : α} (h : ¬ 0 < k) : Sp.itr f k.toNat x = x := by
  rw [show k.toNat = 0 by omega]; rfl
theorem Sp.w64 {x : Int} (h0 : 0 ≤ x) (h1 : x ≤ 1000) : iWrap .u64 x = x := by
  show IntKind.u64.wrap x = x
  rw [IntKind.wrap_u64]; omega
theorem Sp.quo_bd {x n m : Int} (h0 : 0 ≤ x) (h1 : x < n) (hm : 0 < m) : 0 ≤ iQuo x m ∧ iQuo x m < n := by
  show 0 ≤ x.tdiv m ∧ x.tdiv m < n
  rw [Int.tdiv_eq_ediv_of_nonneg h0]
  exact ⟨Int.ediv_nonneg h0 (by omega), Int.lt_of_le_of_lt (Int.ediv_le_self _ h0) h1⟩
end Go

namespace Go
open Go.Sx
def Sp.rol (n : Int) : ByteArray := ((rGet [[.s (ByteArray.mk (Array.mk [109, 117, 115, 105, 99]))], [.s (ByteArray.mk (Array.mk [118, 111, 105, 99, 101]))], [.s (ByteArray.mk (Array.mk [97, 108, 97, 114, 109]))], [.s (ByteArray.mk (Array.mk [103, 97, 109, 101]))]] n).headD default).str
def Sp.cl4 (n : Int) : ByteArray := ((rGet [[.s (ByteArray.mk (Array.mk [115, 112, 101, 97, 107, 101, 114]))], [.s (ByteArray.mk (Array.mk [104, 101, 97, 100, 115, 101, 116]))], [.s (ByteArray.mk (Array.mk [109, 105, 99]))], [.s (ByteArray.mk (Array.mk [97, 110, 121]))]] n).headD default).str
def Sp.cl3 (n : Int) : ByteArray := ((rGet [[.s (ByteArray.mk (Array.mk [115, 112, 101, 97, 107, 101, 114]))], [.s (ByteArray.mk (Array.mk [104, 101, 97, 100, 115, 101, 116]))], [.s (ByteArray.mk (Array.mk [109, 105, 99]))]] n).headD default).str
def Sp.eS : ByteArray := ByteArray.mk (Array.mk [])
def Sp.seF (l : List (List C)) (s : Int × Int × List (List C)) : Int × Int × List (List C) := (s.1 + 1, Sp.ka l s.2.1, bif decide (Sp.kn l s.2.1 2 = 0) then s.2.2 ++ [[.i s.1]] else s.2.2)
def Sp.seY (l : List (List C)) (a : Int) : Int × Int × List (List C) := Sp.itr (Sp.seF l) 6 (1, a, [])
def Sp.seA (l : List (List C)) (a : Int) : Int := (Sp.seY l a).2.1
def Sp.seO (l : List (List C)) (a : Int) : List (List C) := bif decide ((Sp.seY l a).2.2.length = 0) then [[.i 7]] else (Sp.seY l a).2.2
def Sp.seK (l : List (List C)) (a id b : Int) (o : List (List C)) : Prop := 0 ≤ b ∧ 1 ≤ id ∧ id ≤ 7 ∧ (o.length : Int) < id ∧ Sp.itr (Sp.seF l) (7 - id).toNat (id, b, o) = Sp.seY l a
def Sp.skF (l : List (List C)) (s : Int × List (List C)) : Int × List (List C) := (Sp.ka3 l s.1, s.2 ++ [[.i (Sp.kn l s.1 7), .s (Sp.cl3 (Sp.kn l (Sp.ka l s.1) 3)), .i (1 + iQuo (Sp.kn l (Sp.ka2 l s.1) 4) 3)]])
def Sp.skZ (l : List (List C)) (a : Int) : Int × List (List C) := Sp.itr (Sp.skF l) (Sp.kn l a 6).toNat (Sp.ka l a, [])
def Sp.skA (l : List (List C)) (a : Int) : Int := (Sp.skZ l a).1
def Sp.skO (l : List (List C)) (a : Int) : List (List C) := (Sp.skZ l a).2
def Sp.skI (l : List (List C)) (a k b : Int) (o : List (List C)) : Prop := 0 ≤ b ∧ 0 ≤ k ∧ k + (o.length : Int) ≤ 5 ∧ Sp.itr (Sp.skF l) k.toNat (b, o) = Sp.skZ l a
def Sp.wtF (l : List (List C)) (s : Int × List (List C)) : Int × List (List C) := (Sp.ka4 l s.1, s.2 ++ [[.i ((s.2.length : Int) + 1), .s (Sp.rol (Sp.kn l s.1 4)), .i (1 + iQuo (Sp.kn l (Sp.ka l s.1) 4) 3), .b (decide (Sp.kn l (Sp.ka2 l s.1) 2 = 0)), .i (iQuo (Sp.kn l (Sp.ka3 l s.1) 12) 2)]])
def Sp.wtZ (l : List (List C)) (a : Int) : Int × List (List C) := Sp.itr (Sp.wtF l) (Sp.kn l a 5).toNat (Sp.ka l a, [])
def Sp.wtA (l : List (List C)) (a : Int) : Int := (Sp.wtZ l a).1
def Sp.wtO (l : List (List C)) (a : Int) : List (List C) := (Sp.wtZ l a).2
def Sp.wtI (l : List (List C)) (a k b : Int) (o : List (List C)) : Prop := 0 ≤ b ∧ 0 ≤ k ∧ k + (o.length : Int) ≤ 4 ∧ Sp.itr (Sp.wtF l) k.toNat (b, o) = Sp.wtZ l a
def Sp.cdF (l : List (List C)) (s : Int × Int × List (List C)) : Int × Int × List (List C) := bif decide (Sp.kn l s.1 5 = 0) && decide (1 ≤ s.2.1) then (Sp.ka l s.1, s.2.1, s.2.2 ++ [[.i 3, .s Sp.eS]]) else bif decide (Sp.kn l s.1 5 ≤ 2) && decide (2 ≤ s.2.1) then (Sp.ka l s.1, s.2.1 - 1, s.2.2 ++ [[.i (4 + Sp.kn l s.1 5 - 1), .s Sp.eS]]) else bif decide (Sp.kn l s.1 5 = 3) then (Sp.ka2 l s.1, s.2.1 + 1, s.2.2 ++ [[.i 2, .s (Sp.cl4 (Sp.kn l (Sp.ka l s.1) 4))]]) else (Sp.ka2 l s.1, s.2.1 + 1, s.2.2 ++ [[.i 1, .s (Sp.rol (Sp.kn l (Sp.ka l s.1) 4))]])
def Sp.cdG (l : List (List C)) (s : Int × Int × List (List C)) : Int × Int × List (List C) := (Sp.ka l s.1, s.2.1 - 1, s.2.2 ++ [[.i (4 + Sp.kn l s.1 2), .s Sp.eS]])
def Sp.cdY (l : List (List C)) (a : Int) : Int × Int × List (List C) := Sp.itr (Sp.cdF l) (Sp.kn l a 9).toNat (Sp.ka l a, 0, [])
def Sp.cdZ (l : List (List C)) (a : Int) : Int × Int × List (List C) := Sp.itr (Sp.cdG l) ((Sp.cdY l a).2.1 - 1).toNat (Sp.cdY l a)
def Sp.cdA (l : List (List C)) (a : Int) : Int := (Sp.cdZ l a).1
def Sp.cdO (l : List (List C)) (a : Int) : List (List C) := bif decide (16 < ((Sp.cdZ l a).2.2.length : Int)) then [] else (Sp.cdZ l a).2.2
def Sp.cdI (l : List (List C)) (a k b dp : Int) (o : List (List C)) : Prop := 0 ≤ b ∧ 0 ≤ k ∧ 0 ≤ dp ∧ dp + k ≤ 8 ∧ (o.length : Int) + k ≤ 8 ∧ Sp.itr (Sp.cdF l) k.toNat (b, dp, o) = Sp.cdY l a
def Sp.cdJ (l : List (List C)) (a b dp : Int) (o : List (List C)) : Prop := 0 ≤ b ∧ 0 ≤ dp ∧ dp ≤ 8 ∧ (o.length : Int) + dp ≤ 16 ∧ Sp.itr (Sp.cdG l) (dp - 1).toNat (b, dp, o) = Sp.cdZ l a
def Sp.ruB (l : List (List C)) (a : Int) : Int := Sp.cdA l (Sp.ka2 l a)
def Sp.ruK (l : List (List C)) (a : Int) : Int := 1 + Sp.kn l a 3
def Sp.ruR (l : List (List C)) (a : Int) : ByteArray := bif decide (Sp.kn l (Sp.ruB l a) 4 = 0) then Sp.any3 else Sp.rol (Sp.kn l (Sp.ka l a) 4)
def Sp.ruC (l : List (List C)) (a : Int) : ByteArray := bif decide (Sp.ruK l a = 1) then Sp.cl4 (Sp.kn l (Sp.ka l (Sp.ruB l a)) 4) else Sp.eS
def Sp.ruP (l : List (List C)) (a : Int) : Int := bif decide (Sp.ruK l a = 2) then Sp.kn l (Sp.ka l (Sp.ruB l a)) 101 else 0
def Sp.ruA (l : List (List C)) (a : Int) : Int := bif decide (Sp.ruK l a = 3) then Sp.ka l (Sp.ruB l a) else Sp.ka2 l (Sp.ruB l a)
def Sp.rsF (l : List (List C)) (s : Int × List (List C)) : Int × List (List C) := (Sp.ruA l s.1, s.2 ++ [[.i (Sp.ruK l s.1), .s (Sp.ruR l s.1), .s (Sp.ruC l s.1), .i (Sp.ruP l s.1), .l (Sp.cdO l (Sp.ka2 l s.1))]])
def Sp.rsZ (l : List (List C)) (a : Int) : Int × List (List C) := Sp.itr (Sp.rsF l) (Sp.kn l a 6).toNat (Sp.ka l a, [])
def Sp.rsA (l : List (List C)) (a : Int) : Int := (Sp.rsZ l a).1
def Sp.rsO (l : List (List C)) (a : Int) : List (List C) := (Sp.rsZ l a).2
def Sp.rsI (l : List (List C)) (a k b : Int) (o : List (List C)) : Prop := 0 ≤ b ∧ 0 ≤ k ∧ k + (o.length : Int) ≤ 5 ∧ Sp.itr (Sp.rsF l) k.toNat (b, o) = Sp.rsZ l a
def Sp.chS (l : List (List C)) (a : Int) : List (List C) := Sp.seO l (Sp.ka l a)
def Sp.chD (l : List (List C)) (a : Int) : Int := ((rGet (Sp.chS l a) (Sp.kn l (Sp.seA l (Sp.ka l a)) ((Sp.chS l a).length : Int))).headD default).int
def Sp.chA (l : List (List C)) (a : Int) : Int := Sp.ka l (Sp.seA l (Sp.ka l a))
def Sp.meF (l : List (List C)) (s : Int × List (List C)) : Int × List (List C) := (Sp.chA l s.1, Sp.rmL s.2 [.s (Sp.rol (Sp.kn l s.1 4)), .l (Sp.chS l s.1), .i (Sp.chD l s.1)])
def Sp.meZ (l : List (List C)) (a : Int) : Int × List (List C) := Sp.itr (Sp.meF l) (Sp.kn l a 7).toNat (Sp.ka l a, [])
def Sp.meA (l : List (List C)) (a : Int) : Int := (Sp.meZ l a).1
def Sp.meO (l : List (List C)) (a : Int) : List (List C) := (Sp.meZ l a).2
def Sp.meI (l : List (List C)) (a k b : Int) (o : List (List C)) : Prop := 0 ≤ b ∧ 0 ≤ k ∧ Sp.itr (Sp.meF l) k.toNat (b, o) = Sp.meZ l a
end Go

namespace Go
open Go.Sx
section
variable {l : List (List C)} {a k b : Int} {o : List (List C)}
theorem Sp.seK_init (h : 0 ≤ a) : Sp.seK l a 1 a [] := ⟨h, by omega, by omega, by simp, rfl⟩
theorem Sp.seK_yes {id : Int} (h : Sp.seK l a id b o) (h6 : id ≤ 6) (hk : Sp.kn l b 2 = 0) : Sp.seK l a (id + 1) (Sp.ka l b) (o ++ [[.i id]]) := by
  obtain ⟨h0, h1, h2, h3, h4⟩ := h
  refine ⟨Sp.ka_nn h0, by omega, by omega, by simp only [List.length_append, List.length_singleton]; omega, ?_⟩
  rw [← h4, Sp.itr_step (k := 7 - id) (by omega), show 7 - id - 1 = 7 - (id + 1) by omega]
  unfold Sp.seF; simp only; rw [decide_eq_true hk]; rfl
theorem Sp.seK_no {id : Int} (h : Sp.seK l a id b o) (h6 : id ≤ 6) (hk : ¬ Sp.kn l b 2 = 0) : Sp.seK l a (id + 1) (Sp.ka l b) o := by
  obtain ⟨h0, h1, h2, h3, h4⟩ := h
  refine ⟨Sp.ka_nn h0, by omega, by omega, by omega, ?_⟩
  rw [← h4, Sp.itr_step (k := 7 - id) (by omega), show 7 - id - 1 = 7 - (id + 1) by omega]
  unfold Sp.seF; simp only; rw [decide_eq_false hk]; rfl
theorem Sp.seK_end {id : Int} (h : Sp.seK l a id b o) (h6 : ¬ id ≤ 6) : (id, b, o) = Sp.seY l a := by
  obtain ⟨h0, h1, h2, h3, h4⟩ := h
  rw [← h4, Sp.itr_end (by omega)]
theorem Sp.skI_init (h : 0 ≤ a) : Sp.skI l a (Sp.kn l a 6) (Sp.ka l a) [] := by
  have b := Sp.kn_bd (l := l) (a := a) (n := 6) (by omega)
  exact ⟨Sp.ka_nn h, b.1, by simp only [List.length_nil]; omega, rfl⟩
theorem Sp.skI_next (h : Sp.skI l a k b o) (hk : 0 < k) : Sp.skI l a (k - 1) (Sp.skF l (b, o)).1 (Sp.skF l (b, o)).2 := by
  obtain ⟨h0, h1, h2, h3⟩ := h
  exact ⟨Sp.ka_nn (Sp.ka_nn (Sp.ka_nn h0)), by omega, by simp only [Sp.skF, List.length_append, List.length_singleton]; omega, by rw [← h3, Sp.itr_step hk]⟩
theorem Sp.skI_end (h : Sp.skI l a k b o) (hk : ¬ 0 < k) : (b, o) = Sp.skZ l a := by
  rw [← h.2.2.2, Sp.itr_end hk]
theorem Sp.wtI_init (h : 0 ≤ a) : Sp.wtI l a (Sp.kn l a 5) (Sp.ka l a) [] := by
  have b := Sp.kn_bd (l := l) (a := a) (n := 5) (by omega)
  exact ⟨Sp.ka_nn h, b.1, by simp only [List.length_nil]; omega, rfl⟩
theorem Sp.wtI_next (h : Sp.wtI l a k b o) (hk : 0 < k) : Sp.wtI l a (k - 1) (Sp.wtF l (b, o)).1 (Sp.wtF l (b, o)).2 := by
  obtain ⟨h0, h1, h2, h3⟩ := h
  exact ⟨Sp.ka_nn (Sp.ka_nn (Sp.ka_nn (Sp.ka_nn h0))), by omega, by simp only [Sp.wtF, List.length_append, List.length_singleton]; omega, by rw [← h3, Sp.itr_step hk]⟩
theorem Sp.wtI_end (h : Sp.wtI l a k b o) (hk : ¬ 0 < k) : (b, o) = Sp.wtZ l a := by
  rw [← h.2.2.2, Sp.itr_end hk]
theorem Sp.cdI_init (h : 0 ≤ a) : Sp.cdI l a (Sp.kn l a 9) (Sp.ka l a) 0 [] := by
  have b := Sp.kn_bd (l := l) (a := a) (n := 9) (by omega)
  exact ⟨Sp.ka_nn h, b.1, by omega, by omega, by simp only [List.length_nil]; omega, rfl⟩
theorem Sp.cdF_nn {dp : Int} (h : 0 ≤ b) : 0 ≤ (Sp.cdF l (b, dp, o)).1 := by
  have h1 := Sp.ka_nn (l := l) h
  have h2 := Sp.ka_nn (l := l) h1
  unfold Sp.cdF
  simp only
  cases (decide (Sp.kn l b 5 = 0) && decide (1 ≤ dp)) <;> cases (decide (Sp.kn l b 5 ≤ 2) && decide (2 ≤ dp)) <;> cases decide (Sp.kn l b 5 = 3) <;> assumption
theorem Sp.cdI_next {dp : Int} (h : Sp.cdI l a k b dp o) (hk : 0 < k) (h1 : 0 ≤ (Sp.cdF l (b, dp, o)).2.1) (h2 : (Sp.cdF l (b, dp, o)).2.1 ≤ dp + 1) (h3 : ((Sp.cdF l (b, dp, o)).2.2.length : Int) = o.length + 1) : Sp.cdI l a (k - 1) (Sp.cdF l (b, dp, o)).1 (Sp.cdF l (b, dp, o)).2.1 (Sp.cdF l (b, dp, o)).2.2 := by
  obtain ⟨a0, a1, a2, a3, a4, a5⟩ := h
  exact ⟨Sp.cdF_nn a0, by omega, h1, by omega, by omega, by rw [← a5, Sp.itr_step hk]⟩
theorem Sp.cdI_end {dp : Int} (h : Sp.cdI l a k b dp o) (hk : ¬ 0 < k) : Sp.cdJ l a b dp o := by
  obtain ⟨a0, a1, a2, a3, a4, a5⟩ := h
  rw [Sp.itr_end hk] at a5
  refine ⟨a0, a2, by omega, by omega, ?_⟩
  unfold Sp.cdZ
  rw [← a5]
theorem Sp.cdJ_next {dp : Int} (h : Sp.cdJ l a b dp o) (hk : 1 < dp) : Sp.cdJ l a (Sp.ka l b) (dp - 1) (o ++ [[.i (4 + Sp.kn l b 2), .s Sp.eS]]) := by
  obtain ⟨a0, a1, a2, a3, a4⟩ := h
  refine ⟨Sp.ka_nn a0, by omega, by omega, by simp only [List.length_append, List.length_singleton]; omega, ?_⟩
  rw [← a4, Sp.itr_step (k := dp - 1) (by omega)]; rfl
theorem Sp.cdJ_end {dp : Int} (h : Sp.cdJ l a b dp o) (hk : ¬ 1 < dp) : (b, dp, o) = Sp.cdZ l a := by
  obtain ⟨a0, a1, a2, a3, a4⟩ := h
  rw [← a4, Sp.itr_end (by omega)]
theorem Sp.itr_ind {α : Type} {f : α → α} {P : α → Prop} (h : ∀ x, P x → P (f x)) : ∀ (n : Nat) (x : α), P x → P (Sp.itr f n x)
  | 0, _, hx => hx
  | n + 1, x, hx => Sp.itr_ind h n (f x) (h x hx)
theorem Sp.cdA_nn (h : 0 ≤ a) : 0 ≤ Sp.cdA l a := by
  unfold Sp.cdA Sp.cdZ
  refine Sp.itr_ind (P := fun s : Int × Int × List (List C) => 0 ≤ s.1) (fun s hs => Sp.ka_nn hs) _ _ ?_
  unfold Sp.cdY
  exact Sp.itr_ind (P := fun s : Int × Int × List (List C) => 0 ≤ s.1) (fun s hs => Sp.cdF_nn hs) _ _ (Sp.ka_nn h)
theorem Sp.seA_nn (h : 0 ≤ a) : 0 ≤ Sp.seA l a := by
  unfold Sp.seA Sp.seY
  exact Sp.itr_ind (P := fun s : Int × Int × List (List C) => 0 ≤ s.2.1) (fun s hs => Sp.ka_nn hs) _ _ h
theorem Sp.seO_len : 1 ≤ (Sp.seO l a).length := by
  unfold Sp.seO
  by_cases h : (Sp.seY l a).2.2.length = 0
  · rw [decide_eq_true h]; simp
  · rw [decide_eq_false h, cond_false]; omega
theorem Sp.ruB_nn (h : 0 ≤ a) : 0 ≤ Sp.ruB l a := Sp.cdA_nn (Sp.ka_nn (Sp.ka_nn h))
theorem Sp.ruA_nn (h : 0 ≤ a) : 0 ≤ Sp.ruA l a := by
  have h1 := Sp.ka_nn (l := l) (Sp.ruB_nn (l := l) h)
  have h2 := Sp.ka_nn (l := l) h1
  unfold Sp.ruA
  cases decide (Sp.ruK l a = 3) <;> assumption
theorem Sp.ruR_y (h : Sp.kn l (Sp.ruB l a) 4 = 0) : ByteArray.mk (Array.mk [97, 110, 121]) = Sp.ruR l a := by unfold Sp.ruR; rw [decide_eq_true h]; rfl
theorem Sp.ruR_n (h : ¬ Sp.kn l (Sp.ruB l a) 4 = 0) : Sp.rol (Sp.kn l (Sp.ka l a) 4) = Sp.ruR l a := by unfold Sp.ruR; rw [decide_eq_false h]; rfl
theorem Sp.ruC_y (h : Sp.ruK l a = 1) : Sp.cl4 (Sp.kn l (Sp.ka l (Sp.ruB l a)) 4) = Sp.ruC l a := by unfold Sp.ruC; rw [decide_eq_true h]; rfl
theorem Sp.ruC_n (h : ¬ Sp.ruK l a = 1) : ByteArray.mk (Array.mk []) = Sp.ruC l a := by unfold Sp.ruC; rw [decide_eq_false h]; rfl
theorem Sp.ruP_y (h : Sp.ruK l a = 2) : Sp.kn l (Sp.ka l (Sp.ruB l a)) 101 = Sp.ruP l a := by unfold Sp.ruP; rw [decide_eq_true h]; rfl
theorem Sp.ruP_n (h : ¬ Sp.ruK l a = 2) : 0 = Sp.ruP l a := by unfold Sp.ruP; rw [decide_eq_false h]; rfl
theorem Sp.ruA_y (h : Sp.ruK l a = 3) : Sp.ka l (Sp.ruB l a) = Sp.ruA l a := by unfold Sp.ruA; rw [decide_eq_true h]; rfl
theorem Sp.ruA_n (h : ¬ Sp.ruK l a = 3) : Sp.ka l (Sp.ka l (Sp.ruB l a)) = Sp.ruA l a := by unfold Sp.ruA; rw [decide_eq_false h]; rfl
theorem Sp.rsI_init (h : 0 ≤ a) : Sp.rsI l a (Sp.kn l a 6) (Sp.ka l a) [] := by
  have b := Sp.kn_bd (l := l) (a := a) (n := 6) (by omega)
  exact ⟨Sp.ka_nn h, b.1, by simp only [List.length_nil]; omega, rfl⟩
theorem Sp.rsI_next (h : Sp.rsI l a k b o) (hk : 0 < k) : Sp.rsI l a (k - 1) (Sp.rsF l (b, o)).1 (Sp.rsF l (b, o)).2 := by
  obtain ⟨h0, h1, h2, h3⟩ := h
  exact ⟨Sp.ruA_nn h0, by omega, by simp only [Sp.rsF, List.length_append, List.length_singleton]; omega, by rw [← h3, Sp.itr_step hk]⟩
theorem Sp.rsI_end (h : Sp.rsI l a k b o) (hk : ¬ 0 < k) : (b, o) = Sp.rsZ l a := by
  rw [← h.2.2.2, Sp.itr_end hk]
theorem Sp.chA_nn (h : 0 ≤ a) : 0 ≤ Sp.chA l a := Sp.ka_nn (Sp.seA_nn (Sp.ka_nn h))
theorem Sp.meI_init (h : 0 ≤ a) : Sp.meI l a (Sp.kn l a 7) (Sp.ka l a) [] := by
  have b := Sp.kn_bd (l := l) (a := a) (n := 7) (by omega)
  exact ⟨Sp.ka_nn h, b.1, rfl⟩
theorem Sp.meI_next (h : Sp.meI l a k b o) (hk : 0 < k) : Sp.meI l a (k - 1) (Sp.meF l (b, o)).1 (Sp.meF l (b, o)).2 := by
  obtain ⟨h0, h1, h3⟩ := h
  exact ⟨Sp.chA_nn h0, by omega, by rw [← h3, Sp.itr_step hk]⟩
theorem Sp.meI_end (h : Sp.meI l a k b o) (hk : ¬ 0 < k) : (b, o) = Sp.meZ l a := by
  rw [← h.2.2, Sp.itr_end hk]
end
end Go

namespace Go.Sx
/-! ### function 26: mill.Role -/
def ct26 : Ct := { ps := [], rs := [(false, [.str])], pre := fun a => pLe 0 (cel 1 (arg 0 a)).int ∧ True, out := fun a => [[.l (cel 0 (arg 0 a)).list, .i (Sp.ka (cel 0 (arg 0 a)).list (cel 1 (arg 0 a)).int)], [.s (Sp.rol (Sp.kn (cel 0 (arg 0 a)).list (cel 1 (arg 0 a)).int 4))]], bx := some (59, [.sl [.int .i64], .int .i64]) }
def tb26 : List (Nat × Ct) := [(22, ct22)]
def A26  : FuncId → Nat → LoopAnn := fun _ _ => LoopAnn.unroll 200
abbrev B26 (l : List (List C)) (a : Int) : Prop := vcF Go.Proofs.Try.prog (look tb26) (fun _ => false) (A26) 6 26 [.ref 0 0] [.box [.sl [.int .i64] l, .int .i64 a] 59] (fun sv heap => GivesB 59 [.sl [.int .i64], .int .i64] [(false, [.str])] [[.l l, .i (Sp.ka l a)], [.s (Sp.rol (Sp.kn l a 4))]] sv heap)
theorem e26 (l : List (List C)) (a : Int) : B26 l a = ((pLe 0 a ∧ pLe 1 4) ∧ (InR .i64 (Sp.kn l a 4) → pIn 0 (↑4) (Sp.kn l a 4) ∧ ((List.brecOn.go ((rGet ((fun (x : List (List C)) => [C.s (ByteArray.mk #[109, 117, 115, 105, 99])] :: x) ((fun (x : List (List C)) => [C.s (ByteArray.mk #[118, 111, 105, 99, 101])] :: x) ((fun (x : List (List C)) => [C.s (ByteArray.mk #[97, 108, 97, 114, 109])] :: x) ((fun (x : List (List C)) => [C.s (ByteArray.mk #[103, 97, 109, 101])] :: x) [])))) (q0 (((22, ct22).snd.outs [[C.l l, C.i a], [C.i 4]]).headD []))).headD default).str.1.toList List.length._f).1.le 9223372036854775807 → 59 = 59 ∧ (l = l ∧ Sp.ka l a = Sp.ka l a ∧ True) ∧ (((rGet [[C.s (ByteArray.mk (Array.mk [109, 117, 115, 105, 99]))], [C.s (ByteArray.mk (Array.mk [118, 111, 105, 99, 101]))], [C.s (ByteArray.mk (Array.mk [97, 108, 97, 114, 109]))], [C.s (ByteArray.mk (Array.mk [103, 97, 109, 101]))]] (Sp.kn l a 4)).headD default).str = Sp.rol (Sp.kn l a 4) ∧ True) ∧ True))) := by kernel_rfl
theorem v26 (l : List (List C)) (a : Int) : Holds (Wfs [.agg [.sl [.int .i64] l, .int .i64 a]] → pLe 0 a ∧ True → B26 l a) := by
  refine ⟨fun hw hp => ?_⟩
  rw [e26]
  unfold q0
  simp only [Wfs, Wf, InR, and_true] at hw
  have hm : maxLen = 9223372036854775807 := rfl
  simp only [hm] at hw
  simp only [iAdd, iSub, iMul, iLen, iSize, bLt, bLe, bEq, bNe, bNot, bSame, bDiff, sSame, sDiff, bIf, bAnd, InR, pLe, pIn, pRoom, eq_self, true_and, and_true, true_implies, implies_true, decide_eq_true_eq, decide_eq_false_iff_not, Bool.not_eq_true', Bool.not_eq_false', Bool.true_eq_false, Bool.false_eq_true, false_implies]
  simp only [pLe] at hp
  have hp := hp.1
  clear hw
  have b := Sp.kn_bd (l := l) (a := a) (n := 4) (by omega)
  exact ⟨⟨hp, by omega⟩, fun _ => ⟨b, fun _ => rfl⟩⟩
theorem s26 : SoundCt Go.Proofs.Try.prog 26 ct26 :=
  contractHB followsMixed (look_sound (show Tb Go.Proofs.Try.prog tb26 from ⟨s22, trivial⟩)) (fun _ => false) (fun _ => A26) 6 26 ct26 rfl (by simp [ct26]) fun a => Eq.mp (by kernel_rfl) (v26 ((cel 0 (arg 0 a)).list) ((cel 1 (arg 0 a)).int))
end Go.Sx

namespace Go.Sx
/-! ### function 39: mill.Class -/
def ct39 : Ct := { ps := [], rs := [(false, [.str])], pre := fun a => pLe 0 (cel 1 (arg 0 a)).int ∧ True, out := fun a => [[.l (cel 0 (arg 0 a)).list, .i (Sp.ka (cel 0 (arg 0 a)).list (cel 1 (arg 0 a)).int)], [.s (Sp.cl4 (Sp.kn (cel 0 (arg 0 a)).list (cel 1 (arg 0 a)).int 4))]], bx := some (59, [.sl [.int .i64], .int .i64]) }
def tb39 : List (Nat × Ct) := [(22, ct22)]
def A39  : FuncId → Nat → LoopAnn := fun _ _ => LoopAnn.unroll 200
abbrev B39 (l : List (List C)) (a : Int) : Prop := vcF Go.Proofs.Try.prog (look tb39) (fun _ => false) (A39) 6 39 [.ref 0 0] [.box [.sl [.int .i64] l, .int .i64 a] 59] (fun sv heap => GivesB 59 [.sl [.int .i64], .int .i64] [(false, [.str])] [[.l l, .i (Sp.ka l a)], [.s (Sp.cl4 (Sp.kn l a 4))]] sv heap)
theorem e39 (l : List (List C)) (a : Int) : B39 l a = ((pLe 0 a ∧ pLe 1 4) ∧ (InR .i64 (Sp.kn l a 4) → pIn 0 (↑4) (Sp.kn l a 4) ∧ ((List.brecOn.go ((rGet ((fun (x : List (List C)) => [C.s (ByteArray.mk #[115, 112, 101, 97, 107, 101, 114])] :: x) ((fun (x : List (List C)) => [C.s (ByteArray.mk #[104, 101, 97, 100, 115, 101, 116])] :: x) ((fun (x : List (List C)) => [C.s (ByteArray.mk #[109, 105, 99])] :: x) ((fun (x : List (List C)) => [C.s (ByteArray.mk #[97, 110, 121])] :: x) [])))) (q0 (((22, ct22).snd.outs [[C.l l, C.i a], [C.i 4]]).headD []))).headD default).str.1.toList List.length._f).1.le 9223372036854775807 → 59 = 59 ∧ (l = l ∧ Sp.ka l a = Sp.ka l a ∧ True) ∧ (((rGet [[C.s (ByteArray.mk (Array.mk [115, 112, 101, 97, 107, 101, 114]))], [C.s (ByteArray.mk (Array.mk [104, 101, 97, 100, 115, 101, 116]))], [C.s (ByteArray.mk (Array.mk [109, 105, 99]))], [C.s (ByteArray.mk (Array.mk [97, 110, 121]))]] (Sp.kn l a 4)).headD default).str = Sp.cl4 (Sp.kn l a 4) ∧ True) ∧ True))) := by kernel_rfl
theorem v39 (l : List (List C)) (a : Int) : Holds (Wfs [.agg [.sl [.int .i64] l, .int .i64 a]] → pLe 0 a ∧ True → B39 l a) := by
  refine ⟨fun hw hp => ?_⟩
  rw [e39]
  unfold q0
  simp only [Wfs, Wf, InR, and_true] at hw
  have hm : maxLen = 9223372036854775807 := rfl
  simp only [hm] at hw
  simp only [iAdd, iSub, iMul, iLen, iSize, bLt, bLe, bEq, bNe, bNot, bSame, bDiff, sSame, sDiff, bIf, bAnd, InR, pLe, pIn, pRoom, eq_self, true_and, and_true, true_implies, implies_true, decide_eq_true_eq, decide_eq_false_iff_not, Bool.not_eq_true', Bool.not_eq_false', Bool.true_eq_false, Bool.false_eq_true, false_implies]
  simp only [pLe] at hp
  have hp := hp.1
  clear hw
  have b := Sp.kn_bd (l := l) (a := a) (n := 4) (by omega)
  exact ⟨⟨hp, by omega⟩, fun _ => ⟨b, fun _ => rfl⟩⟩
theorem s39 : SoundCt Go.Proofs.Try.prog 39 ct39 :=
  contractHB followsMixed (look_sound (show Tb Go.Proofs.Try.prog tb39 from ⟨s22, trivial⟩)) (fun _ => false) (fun _ => A39) 6 39 ct39 rfl (by simp [ct39]) fun a => Eq.mp (by kernel_rfl) (v39 ((cel 0 (arg 0 a)).list) ((cel 1 (arg 0 a)).int))
end Go.Sx

namespace Go.Sx
/-! ### function 43: mill.Set -/
def ct43 : Ct := { ps := [], rs := [(false, [.sl [.int .u64]])], pre := fun a => pLe 0 (cel 1 (arg 0 a)).int ∧ True, out := fun a => [[.l (cel 0 (arg 0 a)).list, .i (Sp.seA (cel 0 (arg 0 a)).list (cel 1 (arg 0 a)).int)], [.l (Sp.seO (cel 0 (arg 0 a)).list (cel 1 (arg 0 a)).int)]], bx := some (59, [.sl [.int .i64], .int .i64]) }
def tb43 : List (Nat × Ct) := [(22, ct22)]
def A43 (l : List (List C)) (a : Int) : FuncId → Nat → LoopAnn := fun ff ii => bif Nat.beq ii 3 then .ghost 3 [.int .u64] 47 (.on (fun sv0 => match sv0.tmps.getD 3 .undef, sv0.tmps.getD 0 .undef with | .own rr _, .ref dk _ => .inv (Int × Int × List (List C)) (fun z => Sp.seK l a z.1 z.2.1 z.2.2) (fun z => [(3, .own rr 0), (4, .int .i64 z.1)]) (fun z => [(dk, .box [.sl [.int .i64] l, .int .i64 (z.2.1)] 59), (rr, .row [.int .u64] 47 0 (z.2.2))]) [dk, rr] [0, 2, 3, 4, 6, 11, 19] (fun z => 7 - z.1.toNat) | _, _ => .unroll 0)) else .unroll 0
abbrev B43 (l : List (List C)) (a : Int) : Prop := vcF Go.Proofs.Try.prog (look tb43) (fun _ => false) (A43 l a) 6 43 [.ref 0 0] [.box [.sl [.int .i64] l, .int .i64 a] 59] (fun sv heap => GivesB 59 [.sl [.int .i64], .int .i64] [(false, [.sl [.int .u64]])] [[.l l, .i (Sp.seA l a)], [.l (Sp.seO l a)]] sv heap)
theorem e43 (l : List (List C)) (a : Int) : B43 l a = ((∃ (x : Int × Int × List (List C)), Sp.seK l a x.1 x.snd.1 x.snd.2 ∧ true = true ∧ ((1 = 1 ∧ 0 + 1 = 0 + 1) ∧ (IntKind.i64 = IntKind.i64 ∧ 1 = x.1) ∧ True) ∧ ((([Sh.int .i64] = [Sh.int .i64] ∧ l = l) ∧ (IntKind.i64 = IntKind.i64 ∧ a = x.snd.1) ∧ True) ∧ 59 = 59) ∧ ([Sh.int .u64] = [Sh.int .u64] ∧ 47 = 47 ∧ 0 + 1 = 0 + 1 ∧ [] = x.snd.2) ∧ True) ∧ (∀ (x : Int × Int × List (List C)), true = true ∧ true = true) ∧ ∀ (x : Int × Int × List (List C)), Sp.seK l a x.1 x.snd.1 x.snd.2 → True ∧ InR .i64 x.1 ∧ True → (((WL [.int .i64] l)) ∧ InR .i64 x.snd.1 ∧ True) ∧ ((WL [.int .u64] x.snd.2)) ∧ True → (bLe x.1 6 = true → (pLe 0 x.snd.1 ∧ pLe 1 2) ∧ (InR .i64 (Sp.kn l x.snd.1 2) → (bEq (Sp.kn l x.snd.1 2) 0 = true → pRoom 8 (iLen (x.snd.2 ++ [[C.i (iWrap .u64 x.1)]])) ∧ InR .i64 (iAdd x.1 1) ∧ (true = true ∧ [SV.ref 0 0, SV.nils, SV.undef] = [SV.ref 0 0, SV.nils, SV.undef]) ∧ [HB.gone, HB.gone] = [HB.gone, HB.gone] ∧ ∃ (y : Int × Int × List (List C)), Sp.seK l a y.1 y.snd.1 y.snd.2 ∧ true = true ∧ ((1 = 1 ∧ 0 + 1 = 0 + 1) ∧ (IntKind.i64 = IntKind.i64 ∧ iAdd x.1 1 = y.1) ∧ True) ∧ (((([Sh.int .i64] = [Sh.int .i64] ∧ l = l) ∧ (IntKind.i64 = IntKind.i64 ∧ Sp.ka l x.snd.1 = y.snd.1) ∧ True) ∧ 59 = 59) ∧ ([Sh.int .u64] = [Sh.int .u64] ∧ 47 = 47 ∧ 0 + 1 = 0 + 1 ∧ x.snd.2 ++ [[C.i (iWrap .u64 x.1)]] = y.snd.2) ∧ True) ∧ 7 - y.1.toNat < 7 - x.1.toNat) ∧ (bEq (Sp.kn l x.snd.1 2) 0 = false → InR .i64 (iAdd x.1 1) ∧ (true = true ∧ [SV.ref 0 0, SV.nils, SV.undef] = [SV.ref 0 0, SV.nils, SV.undef]) ∧ [HB.gone, HB.gone] = [HB.gone, HB.gone] ∧ ∃ (y : Int × Int × List (List C)), Sp.seK l a y.1 y.snd.1 y.snd.2 ∧ true = true ∧ ((1 = 1 ∧ 0 + 1 = 0 + 1) ∧ (IntKind.i64 = IntKind.i64 ∧ iAdd x.1 1 = y.1) ∧ True) ∧ (((([Sh.int .i64] = [Sh.int .i64] ∧ l = l) ∧ (IntKind.i64 = IntKind.i64 ∧ Sp.ka l x.snd.1 = y.snd.1) ∧ True) ∧ 59 = 59) ∧ ([Sh.int .u64] = [Sh.int .u64] ∧ 47 = 47 ∧ 0 + 1 = 0 + 1 ∧ x.snd.2 = y.snd.2) ∧ True) ∧ 7 - y.1.toNat < 7 - x.1.toNat))) ∧ (bLe x.1 6 = false → pLe (iLen x.snd.2) 9223372036854775807 → (bEq (iLen x.snd.2) 0 = true → 59 = 59 ∧ (l = l ∧ x.snd.1 = Sp.seA l a ∧ True) ∧ ([[C.i 7]] = Sp.seO l a ∧ True) ∧ True) ∧ (bEq (iLen x.snd.2) 0 = false → 59 = 59 ∧ (l = l ∧ x.snd.1 = Sp.seA l a ∧ True) ∧ (x.snd.2 = Sp.seO l a ∧ True) ∧ True))) := by kernel_rfl
theorem v43 (l : List (List C)) (a : Int) : Holds (Wfs [.agg [.sl [.int .i64] l, .int .i64 a]] → pLe 0 a ∧ True → B43 l a) := by
  refine ⟨fun hw hp => ?_⟩
  rw [e43]
  unfold WL
  simp only [Wfs, Wf, InR, and_true] at hw
  have hm : maxLen = 9223372036854775807 := rfl
  simp only [hm] at hw
  simp only [iAdd, iSub, iMul, iLen, iSize, bLt, bLe, bEq, bNe, bNot, bSame, bDiff, sSame, sDiff, bIf, bAnd, InR, pLe, pIn, pRoom, eq_self, true_and, and_true, true_implies, implies_true, decide_eq_true_eq, decide_eq_false_iff_not, Bool.not_eq_true', Bool.not_eq_false', Bool.true_eq_false, Bool.false_eq_true, false_implies]
  simp only [pLe] at hp
  have hp := hp.1
  clear hw
  refine ⟨⟨(1, a, []), Sp.seK_init hp, rfl, rfl, rfl⟩, ?_⟩
  rintro ⟨id, b, o⟩ hx _ _
  simp only at hx ⊢
  have b0 := hx.1
  have i1 := hx.2.1
  have ho := hx.2.2.2.1
  refine ⟨fun h6 => ?_, fun h6 _ => ?_⟩
  · rw [show iWrap IntKind.u64 id = id from Sp.w64 (by omega) (by omega)]
    exact ⟨⟨b0, by omega⟩, fun _ => ⟨fun h => ⟨by simp only [List.length_append, List.length_singleton]; omega, by omega, (id + 1, _, _), Sp.seK_yes hx h6 h, rfl, ⟨rfl, rfl⟩, by simp only; omega⟩, fun h => ⟨by omega, (id + 1, _, _), Sp.seK_no hx h6 h, rfl, ⟨rfl, rfl⟩, by simp only; omega⟩⟩⟩
  · have e := Sp.seK_end hx h6
    have e1 : (Sp.seY l a).2.1 = b := by rw [← e]
    have e2 : (Sp.seY l a).2.2 = o := by rw [← e]
    unfold Sp.seA Sp.seO
    rw [e1, e2]
    exact ⟨fun h => ⟨rfl, by rw [decide_eq_true (show o.length = 0 by omega)]; rfl⟩, fun h => ⟨rfl, by rw [decide_eq_false (show ¬ o.length = 0 by omega)]; rfl⟩⟩
theorem s43 : SoundCt Go.Proofs.Try.prog 43 ct43 :=
  contractHB followsMixed (look_sound (show Tb Go.Proofs.Try.prog tb43 from ⟨s22, trivial⟩)) (fun _ => false) (fun a => A43 ((cel 0 (arg 0 a)).list) ((cel 1 (arg 0 a)).int)) 6 43 ct43 rfl (by simp [ct43]) fun a => Eq.mp (by kernel_rfl) (v43 ((cel 0 (arg 0 a)).list) ((cel 1 (arg 0 a)).int))
end Go.Sx

namespace Go.Sx
/-! ### function 12: mill.Sinks -/
def ct12 : Ct := { ps := [], rs := [(false, [.sl [.int .u64, .str, .int .i64]])], pre := fun a => pLe 0 (cel 1 (arg 0 a)).int ∧ True, out := fun a => [[.l (cel 0 (arg 0 a)).list, .i (Sp.skA (cel 0 (arg 0 a)).list (cel 1 (arg 0 a)).int)], [.l (Sp.skO (cel 0 (arg 0 a)).list (cel 1 (arg 0 a)).int)]], bx := some (59, [.sl [.int .i64], .int .i64]) }
def tb12 : List (Nat × Ct) := [(22, ct22)]
def A12 (l : List (List C)) (a : Int) : FuncId → Nat → LoopAnn := fun ff ii => bif Nat.beq ii 3 then .ghost 3 [.int .u64, .str, .int .i64] 51 (.on (fun sv0 => match sv0.tmps.getD 3 .undef, sv0.tmps.getD 0 .undef with | .own rr _, .ref dk _ => .inv (Int × Int × List (List C)) (fun z => Sp.skI l a z.1 z.2.1 z.2.2) (fun z => [(3, .own rr 0), (4, .int .i64 z.1)]) (fun z => [(dk, .box [.sl [.int .i64] l, .int .i64 (z.2.1)] 59), (rr, .row [.int .u64, .str, .int .i64] 51 0 (z.2.2))]) [dk, rr] [0, 2, 3, 4, 8] (fun z => z.1.toNat) | _, _ => .unroll 0)) else .unroll 0
abbrev B12 (l : List (List C)) (a : Int) : Prop := vcF Go.Proofs.Try.prog (look tb12) (fun _ => false) (A12 l a) 6 12 [.ref 0 0] [.box [.sl [.int .i64] l, .int .i64 a] 59] (fun sv heap => GivesB 59 [.sl [.int .i64], .int .i64] [(false, [.sl [.int .u64, .str, .int .i64]])] [[.l l, .i (Sp.skA l a)], [.l (Sp.skO l a)]] sv heap)
theorem e12 (l : List (List C)) (a : Int) : B12 l a = ((pLe 0 a ∧ pLe 1 6) ∧ (InR .i64 (Sp.kn l a 6) → (∃ (x : Int × Int × List (List C)), Sp.skI l a x.1 x.snd.1 x.snd.2 ∧ true = true ∧ ((1 = 1 ∧ 0 + 1 = 0 + 1) ∧ (IntKind.i64 = IntKind.i64 ∧ Sp.kn l a 6 = x.1) ∧ True) ∧ ((([Sh.int .i64] = [Sh.int .i64] ∧ l = l) ∧ (IntKind.i64 = IntKind.i64 ∧ Sp.ka l a = x.snd.1) ∧ True) ∧ 59 = 59) ∧ ([Sh.int .u64, Sh.str, Sh.int .i64] = [Sh.int .u64, Sh.str, Sh.int .i64] ∧ 51 = 51 ∧ 0 + 1 = 0 + 1 ∧ [] = x.snd.2) ∧ True) ∧ (∀ (x : Int × Int × List (List C)), true = true ∧ true = true) ∧ ∀ (x : Int × Int × List (List C)), Sp.skI l a x.1 x.snd.1 x.snd.2 → True ∧ InR .i64 x.1 ∧ True → (((WL [.int .i64] l)) ∧ InR .i64 x.snd.1 ∧ True) ∧ ((WL [.int .u64, .str, .int .i64] x.snd.2)) ∧ True → (bLt 0 x.1 = true → (pLe 0 x.snd.1 ∧ pLe 1 7) ∧ (InR .i64 (Sp.kn l x.snd.1 7) → (pLe 0 (Sp.ka l x.snd.1) ∧ pLe 1 3) ∧ (InR .i64 (Sp.kn l (Sp.ka l x.snd.1) 3) → pIn 0 (↑3) (Sp.kn l (Sp.ka l x.snd.1) 3) ∧ ((List.brecOn.go ((rGet ((fun (x : List (List C)) => [C.s (ByteArray.mk #[115, 112, 101, 97, 107, 101, 114])] :: x) ((fun (x : List (List C)) => [C.s (ByteArray.mk #[104, 101, 97, 100, 115, 101, 116])] :: x) ((fun (x : List (List C)) => [C.s (ByteArray.mk #[109, 105, 99])] :: x) []))) (q0 (((22, ct22).snd.outs [[C.l ((((22, ct22).snd.out [[C.l l, C.i x.snd.fst], [C.i 7]]).headD []).headD default).list, C.i (q1 (((22, ct22).snd.out [[C.l l, C.i x.snd.fst], [C.i 7]]).headD []))], [C.i 3]]).headD []))).headD default).str.1.toList List.length._f).1.le 9223372036854775807 → (pLe 0 (Sp.ka l (Sp.ka l x.snd.1)) ∧ pLe 1 4) ∧ (InR .i64 (Sp.kn l (Sp.ka l (Sp.ka l x.snd.1)) 4) → (pNe 3 0 ∧ InR .i64 (iQuo (Sp.kn l (Sp.ka l (Sp.ka l x.snd.1)) 4) 3)) ∧ InR .i64 (iAdd 1 (iQuo (Sp.kn l (Sp.ka l (Sp.ka l x.snd.1)) 4) 3)) ∧ pRoom 32 (iLen (x.snd.2 ++ [[C.i (iWrap .u64 (Sp.kn l x.snd.1 7)), C.s ((rGet [[C.s { data := { toList := [115, 112, 101, 97, 107, 101, 114] } }], [C.s { data := { toList := [104, 101, 97, 100, 115, 101, 116] } }], [C.s (ByteArray.mk (Array.mk [109, 105, 99]))]] (Sp.kn l (Sp.ka l x.snd.1) 3)).headD default).str, C.i (iAdd 1 (iQuo (Sp.kn l (Sp.ka l (Sp.ka l x.snd.1)) 4) 3))]])) ∧ InR .i64 (iSub x.1 1) ∧ (true = true ∧ [SV.ref 0 0, SV.nils] = [SV.ref 0 0, SV.nils]) ∧ [HB.gone, HB.gone] = [HB.gone, HB.gone] ∧ ∃ (y : Int × Int × List (List C)), Sp.skI l a y.1 y.snd.1 y.snd.2 ∧ true = true ∧ ((1 = 1 ∧ 0 + 1 = 0 + 1) ∧ (IntKind.i64 = IntKind.i64 ∧ iSub x.1 1 = y.1) ∧ True) ∧ (((([Sh.int .i64] = [Sh.int .i64] ∧ l = l) ∧ (IntKind.i64 = IntKind.i64 ∧ Sp.ka l (Sp.ka l (Sp.ka l x.snd.1)) = y.snd.1) ∧ True) ∧ 59 = 59) ∧ ([Sh.int .u64] ++ ([Sh.str] ++ ([Sh.int .i64] ++ [])) = [Sh.int .u64, Sh.str, Sh.int .i64] ∧ 51 = 51 ∧ 0 + 1 = 0 + 1 ∧ x.snd.2 ++ [[C.i (iWrap .u64 (Sp.kn l x.snd.1 7)), C.s ((rGet [[C.s { data := { toList := [115, 112, 101, 97, 107, 101, 114] } }], [C.s { data := { toList := [104, 101, 97, 100, 115, 101, 116] } }], [C.s { data := { toList := [109, 105, 99] } }]] (Sp.kn l (Sp.ka l x.snd.1) 3)).headD default).str, C.i (iAdd 1 (iQuo (Sp.kn l (Sp.ka l (Sp.ka l x.snd.1)) 4) 3))]] = y.snd.2) ∧ True) ∧ y.1.toNat < x.1.toNat))))) ∧ (bLt 0 x.1 = false → 59 = 59 ∧ (l = l ∧ x.snd.1 = Sp.skA l a ∧ True) ∧ (x.snd.2 = Sp.skO l a ∧ True) ∧ True))) := by kernel_rfl
theorem v12 (l : List (List C)) (a : Int) : Holds (Wfs [.agg [.sl [.int .i64] l, .int .i64 a]] → pLe 0 a ∧ True → B12 l a) := by
  refine ⟨fun hw hp => ?_⟩
  rw [e12]
  unfold WL q0 q1
  simp only [Wfs, Wf, InR, and_true] at hw
  have hm : maxLen = 9223372036854775807 := rfl
  simp only [hm] at hw
  simp only [iAdd, iSub, iMul, iLen, iSize, bLt, bLe, bEq, bNe, bNot, bSame, bDiff, sSame, sDiff, bIf, bAnd, InR, pLe, pIn, pRoom, eq_self, true_and, and_true, true_implies, implies_true, decide_eq_true_eq, decide_eq_false_iff_not, Bool.not_eq_true', Bool.not_eq_false', Bool.true_eq_false, Bool.false_eq_true, false_implies]
  simp only [pLe] at hp
  have hp := hp.1
  clear hw
  have b6 := Sp.kn_bd (l := l) (a := a) (n := 6) (by omega)
  refine ⟨⟨hp, by omega⟩, fun _ => ⟨⟨(Sp.kn l a 6, Sp.ka l a, []), Sp.skI_init hp, rfl, rfl, rfl⟩, ?_⟩⟩
  rintro ⟨k, b, o⟩ hx _ _
  simp only at hx ⊢
  have b0 := hx.1
  have k0 := hx.2.1
  have ho := hx.2.2.1
  have b1 := Sp.ka_nn (l := l) b0
  have b2 := Sp.ka_nn (l := l) b1
  have c7 := Sp.kn_bd (l := l) (a := b) (n := 7) (by omega)
  have c3 := Sp.kn_bd (l := l) (a := Sp.ka l b) (n := 3) (by omega)
  have c4 := Sp.kn_bd (l := l) (a := Sp.ka l (Sp.ka l b)) (n := 4) (by omega)
  have q := Sp.quo_bd (m := 3) c4.1 c4.2 (by omega)
  rw [show iWrap IntKind.u64 (Sp.kn l b 7) = Sp.kn l b 7 from Sp.w64 (by omega) (by omega)]
  refine ⟨fun h => ⟨⟨b0, by omega⟩, fun _ => ⟨⟨b1, by omega⟩, fun _ => ⟨c3, fun _ => ⟨⟨b2, by omega⟩, fun _ => ⟨⟨by simp only [pNe]; omega, by omega⟩, by omega, by simp only [List.length_append, List.length_singleton]; omega, by omega, (k - 1, _, _), Sp.skI_next hx h, rfl, ⟨rfl, rfl, rfl⟩, by simp only; omega⟩⟩⟩⟩⟩, fun h => ?_⟩
  have e := Sp.skI_end hx h
  exact ⟨congrArg Prod.fst e, congrArg Prod.snd e⟩
theorem s12 : SoundCt Go.Proofs.Try.prog 12 ct12 :=
  contractHB followsMixed (look_sound (show Tb Go.Proofs.Try.prog tb12 from ⟨s22, trivial⟩)) (fun _ => false) (fun a => A12 ((cel 0 (arg 0 a)).list) ((cel 1 (arg 0 a)).int)) 6 12 ct12 rfl (by simp [ct12]) fun a => Eq.mp (by kernel_rfl) (v12 ((cel 0 (arg 0 a)).list) ((cel 1 (arg 0 a)).int))
end Go.Sx

namespace Go.Sx
/-! ### function 11: mill.Wants -/
def ct11 : Ct := { ps := [], rs := [(false, [.sl [.int .i64, .str, .int .i64, .bool, .int .u64]])], pre := fun a => pLe 0 (cel 1 (arg 0 a)).int ∧ True, out := fun a => [[.l (cel 0 (arg 0 a)).list, .i (Sp.wtA (cel 0 (arg 0 a)).list (cel 1 (arg 0 a)).int)], [.l (Sp.wtO (cel 0 (arg 0 a)).list (cel 1 (arg 0 a)).int)]], bx := some (59, [.sl [.int .i64], .int .i64]) }
def tb11 : List (Nat × Ct) := [(22, ct22), (26, ct26)]
def A11 (l : List (List C)) (a : Int) : FuncId → Nat → LoopAnn := fun ff ii => bif Nat.beq ii 3 then .ghost 3 [.int .i64, .str, .int .i64, .bool, .int .u64] 53 (.on (fun sv0 => match sv0.tmps.getD 3 .undef, sv0.tmps.getD 0 .undef with | .own rr _, .ref dk _ => .inv (Int × Int × List (List C)) (fun z => Sp.wtI l a z.1 z.2.1 z.2.2) (fun z => [(3, .own rr 0), (4, .int .i64 z.1)]) (fun z => [(dk, .box [.sl [.int .i64] l, .int .i64 (z.2.1)] 59), (rr, .row [.int .i64, .str, .int .i64, .bool, .int .u64] 53 0 (z.2.2))]) [dk, rr] [0, 2, 3, 4, 8] (fun z => z.1.toNat) | _, _ => .unroll 0)) else .unroll 0
abbrev B11 (l : List (List C)) (a : Int) : Prop := vcF Go.Proofs.Try.prog (look tb11) (fun _ => false) (A11 l a) 6 11 [.ref 0 0] [.box [.sl [.int .i64] l, .int .i64 a] 59] (fun sv heap => GivesB 59 [.sl [.int .i64], .int .i64] [(false, [.sl [.int .i64, .str, .int .i64, .bool, .int .u64]])] [[.l l, .i (Sp.wtA l a)], [.l (Sp.wtO l a)]] sv heap)
theorem e11 (l : List (List C)) (a : Int) : B11 l a = ((pLe 0 a ∧ pLe 1 5) ∧ (InR .i64 (Sp.kn l a 5) → (∃ (x : Int × Int × List (List C)), Sp.wtI l a x.1 x.snd.1 x.snd.2 ∧ true = true ∧ ((1 = 1 ∧ 0 + 1 = 0 + 1) ∧ (IntKind.i64 = IntKind.i64 ∧ Sp.kn l a 5 = x.1) ∧ True) ∧ ((([Sh.int .i64] = [Sh.int .i64] ∧ l = l) ∧ (IntKind.i64 = IntKind.i64 ∧ Sp.ka l a = x.snd.1) ∧ True) ∧ 59 = 59) ∧ ([Sh.int .i64, Sh.str, Sh.int .i64, Sh.bool, Sh.int .u64] = [Sh.int .i64, Sh.str, Sh.int .i64, Sh.bool, Sh.int .u64] ∧ 53 = 53 ∧ 0 + 1 = 0 + 1 ∧ [] = x.snd.2) ∧ True) ∧ (∀ (x : Int × Int × List (List C)), true = true ∧ true = true) ∧ ∀ (x : Int × Int × List (List C)), Sp.wtI l a x.1 x.snd.1 x.snd.2 → True ∧ InR .i64 x.1 ∧ True → (((WL [.int .i64] l)) ∧ InR .i64 x.snd.1 ∧ True) ∧ ((WL [.int .i64, .str, .int .i64, .bool, .int .u64] x.snd.2)) ∧ True → (bLt 0 x.1 = true → pLe (iLen x.snd.2) 9223372036854775807 → InR .i64 (iAdd (iLen x.snd.2) 1) ∧ (pLe 0 x.snd.1 ∧ True) ∧ ((List.brecOn.go ((((26, ct26).snd.outs [[C.l l, C.i x.snd.fst]]).headD []).headD default).str.1.toList List.length._f).1.le 9223372036854775807 → (pLe 0 (Sp.ka l x.snd.1) ∧ pLe 1 4) ∧ (InR .i64 (Sp.kn l (Sp.ka l x.snd.1) 4) → (pNe 3 0 ∧ InR .i64 (iQuo (Sp.kn l (Sp.ka l x.snd.1) 4) 3)) ∧ InR .i64 (iAdd 1 (iQuo (Sp.kn l (Sp.ka l x.snd.1) 4) 3)) ∧ (pLe 0 (Sp.ka l (Sp.ka l x.snd.1)) ∧ pLe 1 2) ∧ (InR .i64 (Sp.kn l (Sp.ka l (Sp.ka l x.snd.1)) 2) → (pLe 0 (Sp.ka l (Sp.ka l (Sp.ka l x.snd.1))) ∧ pLe 1 12) ∧ (InR .i64 (Sp.kn l (Sp.ka l (Sp.ka l (Sp.ka l x.snd.1))) 12) → (pNe 2 0 ∧ InR .i64 (iQuo (Sp.kn l (Sp.ka l (Sp.ka l (Sp.ka l x.snd.1))) 12) 2)) ∧ pRoom 48 (iLen (x.snd.2 ++ [[C.i (iAdd (iLen x.snd.2) 1), C.s (Sp.rol (Sp.kn l x.snd.1 4)), C.i (iAdd 1 (iQuo (Sp.kn l (Sp.ka l x.snd.1) 4) 3)), C.b (bEq (Sp.kn l (Sp.ka l (Sp.ka l x.snd.1)) 2) 0), C.i (iWrap .u64 (iQuo (Sp.kn l (Sp.ka l (Sp.ka l (Sp.ka l x.snd.1))) 12) 2))]])) ∧ InR .i64 (iSub x.1 1) ∧ (true = true ∧ [SV.ref 0 0, SV.nils] = [SV.ref 0 0, SV.nils]) ∧ [HB.gone, HB.gone] = [HB.gone, HB.gone] ∧ ∃ (y : Int × Int × List (List C)), Sp.wtI l a y.1 y.snd.1 y.snd.2 ∧ true = true ∧ ((1 = 1 ∧ 0 + 1 = 0 + 1) ∧ (IntKind.i64 = IntKind.i64 ∧ iSub x.1 1 = y.1) ∧ True) ∧ (((([Sh.int .i64] = [Sh.int .i64] ∧ l = l) ∧ (IntKind.i64 = IntKind.i64 ∧ Sp.ka l (Sp.ka l (Sp.ka l (Sp.ka l x.snd.1))) = y.snd.1) ∧ True) ∧ 59 = 59) ∧ ([Sh.int .i64] ++ ([Sh.str] ++ ([Sh.int .i64] ++ ([Sh.bool] ++ ([Sh.int .u64] ++ [])))) = [Sh.int .i64, Sh.str, Sh.int .i64, Sh.bool, Sh.int .u64] ∧ 53 = 53 ∧ 0 + 1 = 0 + 1 ∧ x.snd.2 ++ [[C.i (iAdd (iLen x.snd.2) 1), C.s (Sp.rol (Sp.kn l x.snd.1 4)), C.i (iAdd 1 (iQuo (Sp.kn l (Sp.ka l x.snd.1) 4) 3)), C.b (bEq (Sp.kn l (Sp.ka l (Sp.ka l x.snd.1)) 2) 0), C.i (iWrap .u64 (iQuo (Sp.kn l (Sp.ka l (Sp.ka l (Sp.ka l x.snd.1))) 12) 2))]] = y.snd.2) ∧ True) ∧ y.1.toNat < x.1.toNat))))) ∧ (bLt 0 x.1 = false → 59 = 59 ∧ (l = l ∧ x.snd.1 = Sp.wtA l a ∧ True) ∧ (x.snd.2 = Sp.wtO l a ∧ True) ∧ True))) := by kernel_rfl
theorem v11 (l : List (List C)) (a : Int) : Holds (Wfs [.agg [.sl [.int .i64] l, .int .i64 a]] → pLe 0 a ∧ True → B11 l a) := by
  refine ⟨fun hw hp => ?_⟩
  rw [e11]
  unfold WL
  simp only [Wfs, Wf, InR, and_true] at hw
  have hm : maxLen = 9223372036854775807 := rfl
  simp only [hm] at hw
  simp only [iAdd, iSub, iMul, iLen, iSize, bLt, bLe, bEq, bNe, bNot, bSame, bDiff, sSame, sDiff, bIf, bAnd, InR, pLe, pIn, pRoom, eq_self, true_and, and_true, true_implies, implies_true, decide_eq_true_eq, decide_eq_false_iff_not, Bool.not_eq_true', Bool.not_eq_false', Bool.true_eq_false, Bool.false_eq_true, false_implies]
  simp only [pLe] at hp
  have hp := hp.1
  clear hw
  have b6 := Sp.kn_bd (l := l) (a := a) (n := 5) (by omega)
  refine ⟨⟨hp, by omega⟩, fun _ => ⟨⟨(Sp.kn l a 5, Sp.ka l a, []), Sp.wtI_init hp, rfl, rfl, rfl⟩, ?_⟩⟩
  rintro ⟨k, b, o⟩ hx _ _
  simp only at hx ⊢
  have b0 := hx.1
  have k0 := hx.2.1
  have ho := hx.2.2.1
  have b1 := Sp.ka_nn (l := l) b0
  have b2 := Sp.ka_nn (l := l) b1
  have b3 := Sp.ka_nn (l := l) b2
  have c4 := Sp.kn_bd (l := l) (a := Sp.ka l b) (n := 4) (by omega)
  have q := Sp.quo_bd (m := 3) c4.1 c4.2 (by omega)
  have c12 := Sp.kn_bd (l := l) (a := Sp.ka l (Sp.ka l (Sp.ka l b))) (n := 12) (by omega)
  have q2 := Sp.quo_bd (m := 2) c12.1 c12.2 (by omega)
  rw [show iWrap IntKind.u64 (iQuo (Sp.kn l (Sp.ka l (Sp.ka l (Sp.ka l b))) 12) 2) = iQuo (Sp.kn l (Sp.ka l (Sp.ka l (Sp.ka l b))) 12) 2 from Sp.w64 (by omega) (by omega)]
  refine ⟨fun h _ => ⟨by omega, b0, fun _ => ⟨⟨b1, by omega⟩, fun _ => ⟨⟨by simp only [pNe]; omega, by omega⟩, by omega, ⟨b2, by omega⟩, fun _ => ⟨⟨b3, by omega⟩, fun _ => ⟨⟨by simp only [pNe]; omega, by omega⟩, by simp only [List.length_append, List.length_singleton]; omega, by omega, (k - 1, _, _), Sp.wtI_next hx h, rfl, ⟨rfl, rfl, rfl⟩, by simp only; omega⟩⟩⟩⟩⟩, fun h => ?_⟩
  have e := Sp.wtI_end hx h
  exact ⟨congrArg Prod.fst e, congrArg Prod.snd e⟩
theorem s11 : SoundCt Go.Proofs.Try.prog 11 ct11 :=
  contractHB followsMixed (look_sound (show Tb Go.Proofs.Try.prog tb11 from ⟨s22, ⟨s26, trivial⟩⟩)) (fun _ => false) (fun a => A11 ((cel 0 (arg 0 a)).list) ((cel 1 (arg 0 a)).int)) 6 11 ct11 rfl (by simp [ct11]) fun a => Eq.mp (by kernel_rfl) (v11 ((cel 0 (arg 0 a)).list) ((cel 1 (arg 0 a)).int))
end Go.Sx

namespace Go.Sx
/-! ### function 38: mill.Cond -/
def ct38 : Ct := { ps := [], rs := [(false, [.sl [.int .i64, .str]])], pre := fun a => pLe 0 (cel 1 (arg 0 a)).int ∧ True, out := fun a => [[.l (cel 0 (arg 0 a)).list, .i (Sp.cdA (cel 0 (arg 0 a)).list (cel 1 (arg 0 a)).int)], [.l (Sp.cdO (cel 0 (arg 0 a)).list (cel 1 (arg 0 a)).int)]], bx := some (59, [.sl [.int .i64], .int .i64]) }
def tb38 : List (Nat × Ct) := [(22, ct22), (26, ct26), (39, ct39)]
def A38 (l : List (List C)) (a : Int) : FuncId → Nat → LoopAnn := fun ff ii => bif Nat.beq ii 4 then .ghost 3 [.int .i64, .str] 98 (.on (fun sv0 => match sv0.tmps.getD 3 .undef, sv0.tmps.getD 0 .undef with | .own rr _, .ref dk _ => .inv (Int × Int × Int × List (List C)) (fun z => Sp.cdI l a z.1 z.2.1 z.2.2.1 z.2.2.2) (fun z => [(3, .own rr 0), (5, .int .i64 z.1), (4, .int .i64 z.2.2.1)]) (fun z => [(dk, .box [.sl [.int .i64] l, .int .i64 (z.2.1)] 59), (rr, .row [.int .i64, .str] 98 0 (z.2.2.2))]) [dk, rr] [0, 2, 3, 4, 5, 6, 10, 23, 34, 50, 62, 74] (fun z => z.1.toNat) | _, _ => .unroll 0)) else bif Nat.beq ii 14 then .on (fun sv0 => match sv0.tmps.getD 3 .undef, sv0.tmps.getD 0 .undef with | .own rr _, .ref dk _ => .inv (Int × Int × List (List C)) (fun z => Sp.cdJ l a z.1 z.2.1 z.2.2) (fun z => [(3, .own rr 0), (4, .int .i64 z.2.1)]) (fun z => [(dk, .box [.sl [.int .i64] l, .int .i64 (z.1)] 59), (rr, .row [.int .i64, .str] 98 0 (z.2.2))]) [dk, rr] [0, 2, 3, 4, 5, 6, 10, 23, 34, 50, 62, 74] (fun z => z.2.1.toNat) | _, _ => .unroll 0) else .unroll 0
abbrev B38 (l : List (List C)) (a : Int) : Prop := vcF Go.Proofs.Try.prog (look tb38) (fun _ => false) (A38 l a) 6 38 [.ref 0 0] [.box [.sl [.int .i64] l, .int .i64 a] 59] (fun sv heap => GivesB 59 [.sl [.int .i64], .int .i64] [(false, [.sl [.int .i64, .str]])] [[.l l, .i (Sp.cdA l a)], [.l (Sp.cdO l a)]] sv heap)
theorem e38 (l : List (List C)) (a : Int) : B38 l a = ((pLe 0 a ∧ pLe 1 9) ∧ (InR .i64 (Sp.kn l a 9) → (∃ (x : Int × Int × Int × List (List C)), Sp.cdI l a x.1 x.snd.1 x.snd.snd.1 x.snd.snd.2 ∧ true = true ∧ ((1 = 1 ∧ 0 + 1 = 0 + 1) ∧ (IntKind.i64 = IntKind.i64 ∧ Sp.kn l a 9 = x.1) ∧ (IntKind.i64 = IntKind.i64 ∧ 0 = x.snd.snd.1) ∧ True) ∧ ((([Sh.int .i64] = [Sh.int .i64] ∧ l = l) ∧ (IntKind.i64 = IntKind.i64 ∧ Sp.ka l a = x.snd.1) ∧ True) ∧ 59 = 59) ∧ ([Sh.int .i64, Sh.str] = [Sh.int .i64, Sh.str] ∧ 98 = 98 ∧ 0 + 1 = 0 + 1 ∧ [] = x.snd.snd.2) ∧ True) ∧ (∀ (x : Int × Int × Int × List (List C)), true = true ∧ true = true) ∧ ∀ (x : Int × Int × Int × List (List C)), Sp.cdI l a x.1 x.snd.1 x.snd.snd.1 x.snd.snd.2 → True ∧ InR .i64 x.1 ∧ InR .i64 x.snd.snd.1 ∧ True → (((WL [.int .i64] l)) ∧ InR .i64 x.snd.1 ∧ True) ∧ ((WL [.int .i64, .str] x.snd.snd.2)) ∧ True → (bLt 0 x.1 = true → (pLe 0 x.snd.1 ∧ pLe 1 5) ∧ (InR .i64 (Sp.kn l x.snd.1 5) → (bEq (Sp.kn l x.snd.1 5) 0 = true → (bLe 1 x.snd.snd.1 = true → pRoom 24 (iLen (x.snd.snd.2 ++ [[C.i 3, C.s (ByteArray.mk (Array.mk []))]])) ∧ InR .i64 (iSub x.1 1) ∧ (true = true ∧ [SV.ref 0 0, SV.nils, SV.undef, SV.undef] = [SV.ref 0 0, SV.nils, SV.undef, SV.undef]) ∧ [HB.gone, HB.gone] = [HB.gone, HB.gone] ∧ ∃ (y : Int × Int × Int × List (List C)), Sp.cdI l a y.1 y.snd.1 y.snd.snd.1 y.snd.snd.2 ∧ true = true ∧ ((1 = 1 ∧ 0 + 1 = 0 + 1) ∧ (IntKind.i64 = IntKind.i64 ∧ iSub x.1 1 = y.1) ∧ (IntKind.i64 = IntKind.i64 ∧ x.snd.snd.1 = y.snd.snd.1) ∧ True) ∧ (((([Sh.int .i64] = [Sh.int .i64] ∧ l = l) ∧ (IntKind.i64 = IntKind.i64 ∧ Sp.ka l x.snd.1 = y.snd.1) ∧ True) ∧ 59 = 59) ∧ ([Sh.int .i64] ++ ([Sh.str] ++ []) = [Sh.int .i64, Sh.str] ∧ 98 = 98 ∧ 0 + 1 = 0 + 1 ∧ x.snd.snd.2 ++ [[C.i 3, C.s (ByteArray.mk (Array.mk []))]] = y.snd.snd.2) ∧ True) ∧ y.1.toNat < x.1.toNat) ∧ (bLe 1 x.snd.snd.1 = false → (bLe (Sp.kn l x.snd.1 5) 2 = true → (bLe 2 x.snd.snd.1 = true → InR .i64 (iAdd 4 (Sp.kn l x.snd.1 5)) ∧ InR .i64 (iSub (iAdd 4 (Sp.kn l x.snd.1 5)) 1) ∧ pRoom 24 (iLen (x.snd.snd.2 ++ [[C.i (iSub (iAdd 4 (Sp.kn l x.snd.1 5)) 1), C.s (ByteArray.mk (Array.mk []))]])) ∧ InR .i64 (iSub x.snd.snd.1 1) ∧ InR .i64 (iSub x.1 1) ∧ (true = true ∧ [SV.ref 0 0, SV.nils, SV.undef, SV.undef] = [SV.ref 0 0, SV.nils, SV.undef, SV.undef]) ∧ [HB.gone, HB.gone] = [HB.gone, HB.gone] ∧ ∃ (y : Int × Int × Int × List (List C)), Sp.cdI l a y.1 y.snd.1 y.snd.snd.1 y.snd.snd.2 ∧ true = true ∧ ((1 = 1 ∧ 0 + 1 = 0 + 1) ∧ (IntKind.i64 = IntKind.i64 ∧ iSub x.1 1 = y.1) ∧ (IntKind.i64 = IntKind.i64 ∧ iSub x.snd.snd.1 1 = y.snd.snd.1) ∧ True) ∧ (((([Sh.int .i64] = [Sh.int .i64] ∧ l = l) ∧ (IntKind.i64 = IntKind.i64 ∧ Sp.ka l x.snd.1 = y.snd.1) ∧ True) ∧ 59 = 59) ∧ ([Sh.int .i64] ++ ([Sh.str] ++ []) = [Sh.int .i64, Sh.str] ∧ 98 = 98 ∧ 0 + 1 = 0 + 1 ∧ x.snd.snd.2 ++ [[C.i (iSub (iAdd 4 (Sp.kn l x.snd.1 5)) 1), C.s (ByteArray.mk (Array.mk []))]] = y.snd.snd.2) ∧ True) ∧ y.1.toNat < x.1.toNat) ∧ (bLe 2 x.snd.snd.1 = false → (bEq (Sp.kn l x.snd.1 5) 3 = true → (pLe 0 (Sp.ka l x.snd.1) ∧ True) ∧ ((List.brecOn.go ((((39, ct39).snd.outs [[C.l ((((22, ct22).snd.out [[C.l l, C.i x.snd.fst], [C.i 5]]).headD []).headD default).list, C.i (q1 (((22, ct22).snd.out [[C.l l, C.i x.snd.fst], [C.i 5]]).headD []))]]).headD []).headD default).str.1.toList List.length._f).1.le 9223372036854775807 → pRoom 24 (iLen (x.snd.snd.2 ++ [[C.i 2, C.s (Sp.cl4 (Sp.kn l (Sp.ka l x.snd.1) 4))]])) ∧ InR .i64 (iAdd x.snd.snd.1 1) ∧ InR .i64 (iSub x.1 1) ∧ (true = true ∧ [SV.ref 0 0, SV.nils, SV.undef, SV.undef] = [SV.ref 0 0, SV.nils, SV.undef, SV.undef]) ∧ [HB.gone, HB.gone] = [HB.gone, HB.gone] ∧ ∃ (y : Int × Int × Int × List (List C)), Sp.cdI l a y.1 y.snd.1 y.snd.snd.1 y.snd.snd.2 ∧ true = true ∧ ((1 = 1 ∧ 0 + 1 = 0 + 1) ∧ (IntKind.i64 = IntKind.i64 ∧ iSub x.1 1 = y.1) ∧ (IntKind.i64 = IntKind.i64 ∧ iAdd x.snd.snd.1 1 = y.snd.snd.1) ∧ True) ∧ (((([Sh.int .i64] = [Sh.int .i64] ∧ l = l) ∧ (IntKind.i64 = IntKind.i64 ∧ Sp.ka l (Sp.ka l x.snd.1) = y.snd.1) ∧ True) ∧ 59 = 59) ∧ ([Sh.int .i64] ++ ([Sh.str] ++ []) = [Sh.int .i64, Sh.str] ∧ 98 = 98 ∧ 0 + 1 = 0 + 1 ∧ x.snd.snd.2 ++ [[C.i 2, C.s (Sp.cl4 (Sp.kn l (Sp.ka l x.snd.1) 4))]] = y.snd.snd.2) ∧ True) ∧ y.1.toNat < x.1.toNat)) ∧ (bEq (Sp.kn l x.snd.1 5) 3 = false → (pLe 0 (Sp.ka l x.snd.1) ∧ True) ∧ ((List.brecOn.go ((((26, ct26).snd.outs [[C.l ((((22, ct22).snd.out [[C.l l, C.i x.snd.fst], [C.i 5]]).headD []).headD default).list, C.i (q1 (((22, ct22).snd.out [[C.l l, C.i x.snd.fst], [C.i 5]]).headD []))]]).headD []).headD default).str.1.toList List.length._f).1.le 9223372036854775807 → pRoom 24 (iLen (x.snd.snd.2 ++ [[C.i 1, C.s (Sp.rol (Sp.kn l (Sp.ka l x.snd.1) 4))]])) ∧ InR .i64 (iAdd x.snd.snd.1 1) ∧ InR .i64 (iSub x.1 1) ∧ (true = true ∧ [SV.ref 0 0, SV.nils, SV.undef, SV.undef] = [SV.ref 0 0, SV.nils, SV.undef, SV.undef]) ∧ [HB.gone, HB.gone] = [HB.gone, HB.gone] ∧ ∃ (y : Int × Int × Int × List (List C)), Sp.cdI l a y.1 y.snd.1 y.snd.snd.1 y.snd.snd.2 ∧ true = true ∧ ((1 = 1 ∧ 0 + 1 = 0 + 1) ∧ (IntKind.i64 = IntKind.i64 ∧ iSub x.1 1 = y.1) ∧ (IntKind.i64 = IntKind.i64 ∧ iAdd x.snd.snd.1 1 = y.snd.snd.1) ∧ True) ∧ (((([Sh.int .i64] = [Sh.int .i64] ∧ l = l) ∧ (IntKind.i64 = IntKind.i64 ∧ Sp.ka l (Sp.ka l x.snd.1) = y.snd.1) ∧ True) ∧ 59 = 59) ∧ ([Sh.int .i64] ++ ([Sh.str] ++ []) = [Sh.int .i64, Sh.str] ∧ 98 = 98 ∧ 0 + 1 = 0 + 1 ∧ x.snd.snd.2 ++ [[C.i 1, C.s (Sp.rol (Sp.kn l (Sp.ka l x.snd.1) 4))]] = y.snd.snd.2) ∧ True) ∧ y.1.toNat < x.1.toNat)))) ∧ (bLe (Sp.kn l x.snd.1 5) 2 = false → (bEq (Sp.kn l x.snd.1 5) 3 = true → (pLe 0 (Sp.ka l x.snd.1) ∧ True) ∧ ((List.brecOn.go ((((39, ct39).snd.outs [[C.l ((((22, ct22).snd.out [[C.l l, C.i x.snd.fst], [C.i 5]]).headD []).headD default).list, C.i (q1 (((22, ct22).snd.out [[C.l l, C.i x.snd.fst], [C.i 5]]).headD []))]]).headD []).headD default).str.1.toList List.length._f).1.le 9223372036854775807 → pRoom 24 (iLen (x.snd.snd.2 ++ [[C.i 2, C.s (Sp.cl4 (Sp.kn l (Sp.ka l x.snd.1) 4))]])) ∧ InR .i64 (iAdd x.snd.snd.1 1) ∧ InR .i64 (iSub x.1 1) ∧ (true = true ∧ [SV.ref 0 0, SV.nils, SV.undef, SV.undef] = [SV.ref 0 0, SV.nils, SV.undef, SV.undef]) ∧ [HB.gone, HB.gone] = [HB.gone, HB.gone] ∧ ∃ (y : Int × Int × Int × List (List C)), Sp.cdI l a y.1 y.snd.1 y.snd.snd.1 y.snd.snd.2 ∧ true = true ∧ ((1 = 1 ∧ 0 + 1 = 0 + 1) ∧ (IntKind.i64 = IntKind.i64 ∧ iSub x.1 1 = y.1) ∧ (IntKind.i64 = IntKind.i64 ∧ iAdd x.snd.snd.1 1 = y.snd.snd.1) ∧ True) ∧ (((([Sh.int .i64] = [Sh.int .i64] ∧ l = l) ∧ (IntKind.i64 = IntKind.i64 ∧ Sp.ka l (Sp.ka l x.snd.1) = y.snd.1) ∧ True) ∧ 59 = 59) ∧ ([Sh.int .i64] ++ ([Sh.str] ++ []) = [Sh.int .i64, Sh.str] ∧ 98 = 98 ∧ 0 + 1 = 0 + 1 ∧ x.snd.snd.2 ++ [[C.i 2, C.s (Sp.cl4 (Sp.kn l (Sp.ka l x.snd.1) 4))]] = y.snd.snd.2) ∧ True) ∧ y.1.toNat < x.1.toNat)) ∧ (bEq (Sp.kn l x.snd.1 5) 3 = false → (pLe 0 (Sp.ka l x.snd.1) ∧ True) ∧ ((List.brecOn.go ((((26, ct26).snd.outs [[C.l ((((22, ct22).snd.out [[C.l l, C.i x.snd.fst], [C.i 5]]).headD []).headD default).list, C.i (q1 (((22, ct22).snd.out [[C.l l, C.i x.snd.fst], [C.i 5]]).headD []))]]).headD []).headD default).str.1.toList List.length._f).1.le 9223372036854775807 → pRoom 24 (iLen (x.snd.snd.2 ++ [[C.i 1, C.s (Sp.rol (Sp.kn l (Sp.ka l x.snd.1) 4))]])) ∧ InR .i64 (iAdd x.snd.snd.1 1) ∧ InR .i64 (iSub x.1 1) ∧ (true = true ∧ [SV.ref 0 0, SV.nils, SV.undef, SV.undef] = [SV.ref 0 0, SV.nils, SV.undef, SV.undef]) ∧ [HB.gone, HB.gone] = [HB.gone, HB.gone] ∧ ∃ (y : Int × Int × Int × List (List C)), Sp.cdI l a y.1 y.snd.1 y.snd.snd.1 y.snd.snd.2 ∧ true = true ∧ ((1 = 1 ∧ 0 + 1 = 0 + 1) ∧ (IntKind.i64 = IntKind.i64 ∧ iSub x.1 1 = y.1) ∧ (IntKind.i64 = IntKind.i64 ∧ iAdd x.snd.snd.1 1 = y.snd.snd.1) ∧ True) ∧ (((([Sh.int .i64] = [Sh.int .i64] ∧ l = l) ∧ (IntKind.i64 = IntKind.i64 ∧ Sp.ka l (Sp.ka l x.snd.1) = y.snd.1) ∧ True) ∧ 59 = 59) ∧ ([Sh.int .i64] ++ ([Sh.str] ++ []) = [Sh.int .i64, Sh.str] ∧ 98 = 98 ∧ 0 + 1 = 0 + 1 ∧ x.snd.snd.2 ++ [[C.i 1, C.s (Sp.rol (Sp.kn l (Sp.ka l x.snd.1) 4))]] = y.snd.snd.2) ∧ True) ∧ y.1.toNat < x.1.toNat))))) ∧ (bEq (Sp.kn l x.snd.1 5) 0 = false → (bLe (Sp.kn l x.snd.1 5) 2 = true → (bLe 2 x.snd.snd.1 = true → InR .i64 (iAdd 4 (Sp.kn l x.snd.1 5)) ∧ InR .i64 (iSub (iAdd 4 (Sp.kn l x.snd.1 5)) 1) ∧ pRoom 24 (iLen (x.snd.snd.2 ++ [[C.i (iSub (iAdd 4 (Sp.kn l x.snd.1 5)) 1), C.s (ByteArray.mk (Array.mk []))]])) ∧ InR .i64 (iSub x.snd.snd.1 1) ∧ InR .i64 (iSub x.1 1) ∧ (true = true ∧ [SV.ref 0 0, SV.nils, SV.undef, SV.undef] = [SV.ref 0 0, SV.nils, SV.undef, SV.undef]) ∧ [HB.gone, HB.gone] = [HB.gone, HB.gone] ∧ ∃ (y : Int × Int × Int × List (List C)), Sp.cdI l a y.1 y.snd.1 y.snd.snd.1 y.snd.snd.2 ∧ true = true ∧ ((1 = 1 ∧ 0 + 1 = 0 + 1) ∧ (IntKind.i64 = IntKind.i64 ∧ iSub x.1 1 = y.1) ∧ (IntKind.i64 = IntKind.i64 ∧ iSub x.snd.snd.1 1 = y.snd.snd.1) ∧ True) ∧ (((([Sh.int .i64] = [Sh.int .i64] ∧ l = l) ∧ (IntKind.i64 = IntKind.i64 ∧ Sp.ka l x.snd.1 = y.snd.1) ∧ True) ∧ 59 = 59) ∧ ([Sh.int .i64] ++ ([Sh.str] ++ []) = [Sh.int .i64, Sh.str] ∧ 98 = 98 ∧ 0 + 1 = 0 + 1 ∧ x.snd.snd.2 ++ [[C.i (iSub (iAdd 4 (Sp.kn l x.snd.1 5)) 1), C.s (ByteArray.mk (Array.mk []))]] = y.snd.snd.2) ∧ True) ∧ y.1.toNat < x.1.toNat) ∧ (bLe 2 x.snd.snd.1 = false → (bEq (Sp.kn l x.snd.1 5) 3 = true → (pLe 0 (Sp.ka l x.snd.1) ∧ True) ∧ ((List.brecOn.go ((((39, ct39).snd.outs [[C.l ((((22, ct22).snd.out [[C.l l, C.i x.snd.fst], [C.i 5]]).headD []).headD default).list, C.i (q1 (((22, ct22).snd.out [[C.l l, C.i x.snd.fst], [C.i 5]]).headD []))]]).headD []).headD default).str.1.toList List.length._f).1.le 9223372036854775807 → pRoom 24 (iLen (x.snd.snd.2 ++ [[C.i 2, C.s (Sp.cl4 (Sp.kn l (Sp.ka l x.snd.1) 4))]])) ∧ InR .i64 (iAdd x.snd.snd.1 1) ∧ InR .i64 (iSub x.1 1) ∧ (true = true ∧ [SV.ref 0 0, SV.nils, SV.undef, SV.undef] = [SV.ref 0 0, SV.nils, SV.undef, SV.undef]) ∧ [HB.gone, HB.gone] = [HB.gone, HB.gone] ∧ ∃ (y : Int × Int × Int × List (List C)), Sp.cdI l a y.1 y.snd.1 y.snd.snd.1 y.snd.snd.2 ∧ true = true ∧ ((1 = 1 ∧ 0 + 1 = 0 + 1) ∧ (IntKind.i64 = IntKind.i64 ∧ iSub x.1 1 = y.1) ∧ (IntKind.i64 = IntKind.i64 ∧ iAdd x.snd.snd.1 1 = y.snd.snd.1) ∧ True) ∧ (((([Sh.int .i64] = [Sh.int .i64] ∧ l = l) ∧ (IntKind.i64 = IntKind.i64 ∧ Sp.ka l (Sp.ka l x.snd.1) = y.snd.1) ∧ True) ∧ 59 = 59) ∧ ([Sh.int .i64] ++ ([Sh.str] ++ []) = [Sh.int .i64, Sh.str] ∧ 98 = 98 ∧ 0 + 1 = 0 + 1 ∧ x.snd.snd.2 ++ [[C.i 2, C.s (Sp.cl4 (Sp.kn l (Sp.ka l x.snd.1) 4))]] = y.snd.snd.2) ∧ True) ∧ y.1.toNat < x.1.toNat)) ∧ (bEq (Sp.kn l x.snd.1 5) 3 = false → (pLe 0 (Sp.ka l x.snd.1) ∧ True) ∧ ((List.brecOn.go ((((26, ct26).snd.outs [[C.l ((((22, ct22).snd.out [[C.l l, C.i x.snd.fst], [C.i 5]]).headD []).headD default).list, C.i (q1 (((22, ct22).snd.out [[C.l l, C.i x.snd.fst], [C.i 5]]).headD []))]]).headD []).headD default).str.1.toList List.length._f).1.le 9223372036854775807 → pRoom 24 (iLen (x.snd.snd.2 ++ [[C.i 1, C.s (Sp.rol (Sp.kn l (Sp.ka l x.snd.1) 4))]])) ∧ InR .i64 (iAdd x.snd.snd.1 1) ∧ InR .i64 (iSub x.1 1) ∧ (true = true ∧ [SV.ref 0 0, SV.nils, SV.undef, SV.undef] = [SV.ref 0 0, SV.nils, SV.undef, SV.undef]) ∧ [HB.gone, HB.gone] = [HB.gone, HB.gone] ∧ ∃ (y : Int × Int × Int × List (List C)), Sp.cdI l a y.1 y.snd.1 y.snd.snd.1 y.snd.snd.2 ∧ true = true ∧ ((1 = 1 ∧ 0 + 1 = 0 + 1) ∧ (IntKind.i64 = IntKind.i64 ∧ iSub x.1 1 = y.1) ∧ (IntKind.i64 = IntKind.i64 ∧ iAdd x.snd.snd.1 1 = y.snd.snd.1) ∧ True) ∧ (((([Sh.int .i64] = [Sh.int .i64] ∧ l = l) ∧ (IntKind.i64 = IntKind.i64 ∧ Sp.ka l (Sp.ka l x.snd.1) = y.snd.1) ∧ True) ∧ 59 = 59) ∧ ([Sh.int .i64] ++ ([Sh.str] ++ []) = [Sh.int .i64, Sh.str] ∧ 98 = 98 ∧ 0 + 1 = 0 + 1 ∧ x.snd.snd.2 ++ [[C.i 1, C.s (Sp.rol (Sp.kn l (Sp.ka l x.snd.1) 4))]] = y.snd.snd.2) ∧ True) ∧ y.1.toNat < x.1.toNat)))) ∧ (bLe (Sp.kn l x.snd.1 5) 2 = false → (bEq (Sp.kn l x.snd.1 5) 3 = true → (pLe 0 (Sp.ka l x.snd.1) ∧ True) ∧ ((List.brecOn.go ((((39, ct39).snd.outs [[C.l ((((22, ct22).snd.out [[C.l l, C.i x.snd.fst], [C.i 5]]).headD []).headD default).list, C.i (q1 (((22, ct22).snd.out [[C.l l, C.i x.snd.fst], [C.i 5]]).headD []))]]).headD []).headD default).str.1.toList List.length._f).1.le 9223372036854775807 → pRoom 24 (iLen (x.snd.snd.2 ++ [[C.i 2, C.s (Sp.cl4 (Sp.kn l (Sp.ka l x.snd.1) 4))]])) ∧ InR .i64 (iAdd x.snd.snd.1 1) ∧ InR .i64 (iSub x.1 1) ∧ (true = true ∧ [SV.ref 0 0, SV.nils, SV.undef, SV.undef] = [SV.ref 0 0, SV.nils, SV.undef, SV.undef]) ∧ [HB.gone, HB.gone] = [HB.gone, HB.gone] ∧ ∃ (y : Int × Int × Int × List (List C)), Sp.cdI l a y.1 y.snd.1 y.snd.snd.1 y.snd.snd.2 ∧ true = true ∧ ((1 = 1 ∧ 0 + 1 = 0 + 1) ∧ (IntKind.i64 = IntKind.i64 ∧ iSub x.1 1 = y.1) ∧ (IntKind.i64 = IntKind.i64 ∧ iAdd x.snd.snd.1 1 = y.snd.snd.1) ∧ True) ∧ (((([Sh.int .i64] = [Sh.int .i64] ∧ l = l) ∧ (IntKind.i64 = IntKind.i64 ∧ Sp.ka l (Sp.ka l x.snd.1) = y.snd.1) ∧ True) ∧ 59 = 59) ∧ ([Sh.int .i64] ++ ([Sh.str] ++ []) = [Sh.int .i64, Sh.str] ∧ 98 = 98 ∧ 0 + 1 = 0 + 1 ∧ x.snd.snd.2 ++ [[C.i 2, C.s (Sp.cl4 (Sp.kn l (Sp.ka l x.snd.1) 4))]] = y.snd.snd.2) ∧ True) ∧ y.1.toNat < x.1.toNat)) ∧ (bEq (Sp.kn l x.snd.1 5) 3 = false → (pLe 0 (Sp.ka l x.snd.1) ∧ True) ∧ ((List.brecOn.go ((((26, ct26).snd.outs [[C.l ((((22, ct22).snd.out [[C.l l, C.i x.snd.fst], [C.i 5]]).headD []).headD default).list, C.i (q1 (((22, ct22).snd.out [[C.l l, C.i x.snd.fst], [C.i 5]]).headD []))]]).headD []).headD default).str.1.toList List.length._f).1.le 9223372036854775807 → pRoom 24 (iLen (x.snd.snd.2 ++ [[C.i 1, C.s (Sp.rol (Sp.kn l (Sp.ka l x.snd.1) 4))]])) ∧ InR .i64 (iAdd x.snd.snd.1 1) ∧ InR .i64 (iSub x.1 1) ∧ (true = true ∧ [SV.ref 0 0, SV.nils, SV.undef, SV.undef] = [SV.ref 0 0, SV.nils, SV.undef, SV.undef]) ∧ [HB.gone, HB.gone] = [HB.gone, HB.gone] ∧ ∃ (y : Int × Int × Int × List (List C)), Sp.cdI l a y.1 y.snd.1 y.snd.snd.1 y.snd.snd.2 ∧ true = true ∧ ((1 = 1 ∧ 0 + 1 = 0 + 1) ∧ (IntKind.i64 = IntKind.i64 ∧ iSub x.1 1 = y.1) ∧ (IntKind.i64 = IntKind.i64 ∧ iAdd x.snd.snd.1 1 = y.snd.snd.1) ∧ True) ∧ (((([Sh.int .i64] = [Sh.int .i64] ∧ l = l) ∧ (IntKind.i64 = IntKind.i64 ∧ Sp.ka l (Sp.ka l x.snd.1) = y.snd.1) ∧ True) ∧ 59 = 59) ∧ ([Sh.int .i64] ++ ([Sh.str] ++ []) = [Sh.int .i64, Sh.str] ∧ 98 = 98 ∧ 0 + 1 = 0 + 1 ∧ x.snd.snd.2 ++ [[C.i 1, C.s (Sp.rol (Sp.kn l (Sp.ka l x.snd.1) 4))]] = y.snd.snd.2) ∧ True) ∧ y.1.toNat < x.1.toNat)))))) ∧ (bLt 0 x.1 = false → (∃ (x_1 : Int × Int × List (List C)), Sp.cdJ l a x_1.1 x_1.snd.1 x_1.snd.2 ∧ true = true ∧ ((1 = 1 ∧ 1 + 1 = 1 + 1) ∧ (IntKind.i64 = IntKind.i64 ∧ x.snd.snd.1 = x_1.snd.1) ∧ True) ∧ ((([Sh.int .i64] = [Sh.int .i64] ∧ l = l) ∧ (IntKind.i64 = IntKind.i64 ∧ x.snd.1 = x_1.1) ∧ True) ∧ 59 = 59) ∧ ([Sh.int .i64, Sh.str] = [Sh.int .i64, Sh.str] ∧ 98 = 98 ∧ 1 + 1 = 1 + 1 ∧ x.snd.snd.2 = x_1.snd.2) ∧ True) ∧ (∀ (x : Int × Int × List (List C)), true = true ∧ true = true) ∧ ∀ (x_1 : Int × Int × List (List C)), Sp.cdJ l a x_1.1 x_1.snd.1 x_1.snd.2 → True ∧ InR .i64 x_1.snd.1 ∧ True → (((WL [.int .i64] l)) ∧ InR .i64 x_1.1 ∧ True) ∧ ((WL [.int .i64, .str] x_1.snd.2)) ∧ True → (bLt 1 x_1.snd.1 = true → (pLe 0 x_1.1 ∧ pLe 1 2) ∧ (InR .i64 (Sp.kn l x_1.1 2) → InR .i64 (iAdd 4 (Sp.kn l x_1.1 2)) ∧ pRoom 24 (iLen (x_1.snd.2 ++ [[C.i (iAdd 4 (Sp.kn l x_1.1 2)), C.s (ByteArray.mk (Array.mk []))]])) ∧ InR .i64 (iSub x_1.snd.1 1) ∧ (true = true ∧ (fun z => z = z) [SV.ref 0 0, SV.nils, SV.int .i64 x.1, SV.any, SV.blit false, SV.any, SV.any, SV.any, SV.undef]) ∧ [HB.gone, HB.gone] = [HB.gone, HB.gone] ∧ ∃ (y : Int × Int × List (List C)), Sp.cdJ l a y.1 y.snd.1 y.snd.2 ∧ true = true ∧ ((1 = 1 ∧ 1 + 1 = 1 + 1) ∧ (IntKind.i64 = IntKind.i64 ∧ iSub x_1.snd.1 1 = y.snd.1) ∧ True) ∧ (((([Sh.int .i64] = [Sh.int .i64] ∧ l = l) ∧ (IntKind.i64 = IntKind.i64 ∧ Sp.ka l x_1.1 = y.1) ∧ True) ∧ 59 = 59) ∧ ([Sh.int .i64] ++ ([Sh.str] ++ []) = [Sh.int .i64, Sh.str] ∧ 98 = 98 ∧ 1 + 1 = 1 + 1 ∧ x_1.snd.2 ++ [[C.i (iAdd 4 (Sp.kn l x_1.1 2)), C.s (ByteArray.mk (Array.mk []))]] = y.snd.2) ∧ True) ∧ y.snd.1.toNat < x_1.snd.1.toNat)) ∧ (bLt 1 x_1.snd.1 = false → pLe (iLen x_1.snd.2) 9223372036854775807 → (bLt 16 (iLen x_1.snd.2) = true → 59 = 59 ∧ (l = l ∧ x_1.1 = Sp.cdA l a ∧ True) ∧ ([] = Sp.cdO l a ∧ True) ∧ True) ∧ (bLt 16 (iLen x_1.snd.2) = false → 59 = 59 ∧ (l = l ∧ x_1.1 = Sp.cdA l a ∧ True) ∧ (x_1.snd.2 = Sp.cdO l a ∧ True) ∧ True))))) := by kernel_rfl
theorem v38 (l : List (List C)) (a : Int) : Holds (Wfs [.agg [.sl [.int .i64] l, .int .i64 a]] → pLe 0 a ∧ True → B38 l a) := by
  refine ⟨fun hw hp => ?_⟩
  rw [e38]
  unfold WL q1
  simp only [Wfs, Wf, InR, and_true] at hw
  have hm : maxLen = 9223372036854775807 := rfl
  simp only [hm] at hw
  simp only [iAdd, iSub, iMul, iLen, iSize, bLt, bLe, bEq, bNe, bNot, bSame, bDiff, sSame, sDiff, bIf, bAnd, InR, pLe, pIn, pRoom, eq_self, true_and, and_true, true_implies, implies_true, decide_eq_true_eq, decide_eq_false_iff_not, Bool.not_eq_true', Bool.not_eq_false', Bool.true_eq_false, Bool.false_eq_true, false_implies]
  simp only [pLe] at hp
  have hp := hp.1
  clear hw
  have b9 := Sp.kn_bd (l := l) (a := a) (n := 9) (by omega)
  refine ⟨⟨hp, by omega⟩, fun _ => ⟨⟨(Sp.kn l a 9, Sp.ka l a, 0, []), Sp.cdI_init hp, ⟨rfl, rfl⟩, rfl, rfl⟩, ?_⟩⟩
  rintro ⟨k, b, dp, o⟩ hx _ _
  simp only at hx ⊢
  have b0 := hx.1
  have k0 := hx.2.1
  have d0 := hx.2.2.1
  have dk := hx.2.2.2.1
  have ho := hx.2.2.2.2.1
  have b1 := Sp.ka_nn (l := l) b0
  have c5 := Sp.kn_bd (l := l) (a := b) (n := 5) (by omega)
  have nx : ∀ s : Int × Int × List (List C), 0 < k → Sp.cdF l (b, dp, o) = s → 0 ≤ s.2.1 → s.2.1 ≤ dp + 1 → (s.2.2.length : Int) = o.length + 1 → (-9223372036854775808 ≤ k - 1 ∧ k - 1 ≤ 9223372036854775807) ∧ ∃ y : Int × Int × Int × List (List C), Sp.cdI l a y.fst y.snd.fst y.snd.snd.fst y.snd.snd.snd ∧ (k - 1 = y.fst ∧ s.2.1 = y.snd.snd.fst) ∧ (s.1 = y.snd.fst ∧ [Sh.int IntKind.i64] ++ ([Sh.str] ++ []) = [Sh.int IntKind.i64, Sh.str] ∧ s.2.2 = y.snd.snd.snd) ∧ y.fst.toNat < k.toNat := fun s hk he h1 h2 h3 =>
    ⟨by omega, (k - 1, s.1, s.2.1, s.2.2), by rw [← he] at h1 h2 h3 ⊢; exact Sp.cdI_next hx hk h1 h2 h3, ⟨rfl, rfl⟩, ⟨rfl, rfl, rfl⟩, by simp only; omega⟩
  have ln : ∀ x : List C, (((o ++ [x]).length : Nat) : Int) = o.length + 1 := fun x => by simp only [List.length_append, List.length_singleton]; omega
  have ln' : ∀ (p : List (List C)) (x : List C), (((p ++ [x]).length : Nat) : Int) = p.length + 1 := fun p x => by simp only [List.length_append, List.length_singleton]; omega
  refine ⟨fun hk => ⟨⟨b0, by omega⟩, fun _ => ?_⟩, fun hk => ?_⟩
  · have r1 : ∀ h1 : Sp.kn l b 5 = 0, ∀ h2 : 1 ≤ dp, Sp.cdF l (b, dp, o) = (Sp.ka l b, dp, o ++ [[.i 3, .s Sp.eS]]) := fun h1 h2 => by
      unfold Sp.cdF; simp only; rw [decide_eq_true h1, decide_eq_true h2]; rfl
    have r2 : ∀ h1 : ¬ (Sp.kn l b 5 = 0 ∧ 1 ≤ dp), ∀ h2 : Sp.kn l b 5 ≤ 2, ∀ h3 : 2 ≤ dp, Sp.cdF l (b, dp, o) = (Sp.ka l b, dp - 1, o ++ [[.i (4 + Sp.kn l b 5 - 1), .s Sp.eS]]) := fun h1 h2 h3 => by
      unfold Sp.cdF; simp only; rw [show (decide (Sp.kn l b 5 = 0) && decide (1 ≤ dp)) = false from by rw [← Bool.decide_and]; exact decide_eq_false h1, decide_eq_true h2, decide_eq_true h3]; rfl
    have r3 : ∀ h1 : ¬ (Sp.kn l b 5 = 0 ∧ 1 ≤ dp), ∀ h2 : ¬ (Sp.kn l b 5 ≤ 2 ∧ 2 ≤ dp), ∀ h3 : Sp.kn l b 5 = 3, Sp.cdF l (b, dp, o) = (Sp.ka l (Sp.ka l b), dp + 1, o ++ [[.i 2, .s (Sp.cl4 (Sp.kn l (Sp.ka l b) 4))]]) := fun h1 h2 h3 => by
      unfold Sp.cdF; simp only; rw [show (decide (Sp.kn l b 5 = 0) && decide (1 ≤ dp)) = false from by rw [← Bool.decide_and]; exact decide_eq_false h1, show (decide (Sp.kn l b 5 ≤ 2) && decide (2 ≤ dp)) = false from by rw [← Bool.decide_and]; exact decide_eq_false h2, decide_eq_true h3]; rfl
    have r4 : ∀ h1 : ¬ (Sp.kn l b 5 = 0 ∧ 1 ≤ dp), ∀ h2 : ¬ (Sp.kn l b 5 ≤ 2 ∧ 2 ≤ dp), ∀ h3 : ¬ Sp.kn l b 5 = 3, Sp.cdF l (b, dp, o) = (Sp.ka l (Sp.ka l b), dp + 1, o ++ [[.i 1, .s (Sp.rol (Sp.kn l (Sp.ka l b) 4))]]) := fun h1 h2 h3 => by
      unfold Sp.cdF; simp only; rw [show (decide (Sp.kn l b 5 = 0) && decide (1 ≤ dp)) = false from by rw [← Bool.decide_and]; exact decide_eq_false h1, show (decide (Sp.kn l b 5 ≤ 2) && decide (2 ≤ dp)) = false from by rw [← Bool.decide_and]; exact decide_eq_false h2, decide_eq_false h3]; rfl
    repeat' (first | exact b0 | exact b1 | apply And.intro | intro _)
    all_goals first
      | omega
      | (rw [ln]; omega)
      | exact (nx _ hk (r1 (by assumption) (by assumption)) d0 (by simp only; omega) (ln _)).2
      | exact (nx _ hk (r2 (by omega) (by assumption) (by assumption)) (by simp only; omega) (by simp only; omega) (ln _)).2
      | exact (nx _ hk (r3 (by omega) (by omega) (by assumption)) (by simp only; omega) (by simp only; omega) (ln _)).2
      | exact (nx _ hk (r4 (by omega) (by omega) (by assumption)) (by simp only; omega) (by simp only; omega) (ln _)).2
      | trace_state
  · refine ⟨⟨(b, dp, o), Sp.cdI_end hx hk, rfl, rfl, rfl⟩, ?_⟩
    rintro ⟨b', dq, p⟩ hy _ _
    simp only at hy ⊢
    have e0 := hy.1
    have q0 := hy.2.1
    have q8 := hy.2.2.1
    have ql := hy.2.2.2.1
    have c2 := Sp.kn_bd (l := l) (a := b') (n := 2) (by omega)
    refine ⟨fun h1 => ⟨⟨e0, by omega⟩, fun _ => ⟨by omega, by rw [ln' p]; omega, by omega, (Sp.ka l b', dq - 1, _), Sp.cdJ_next hy h1, rfl, ⟨rfl, rfl, rfl⟩, by simp only; omega⟩⟩, fun h1 _ => ?_⟩
    have e := Sp.cdJ_end hy h1
    have e1 : (Sp.cdZ l a).1 = b' := by rw [← e]
    have e2 : (Sp.cdZ l a).2.2 = p := by rw [← e]
    unfold Sp.cdA Sp.cdO
    rw [e1, e2]
    exact ⟨fun h => ⟨rfl, by rw [decide_eq_true h]; rfl⟩, fun h => ⟨rfl, by rw [decide_eq_false h]; rfl⟩⟩
theorem s38 : SoundCt Go.Proofs.Try.prog 38 ct38 :=
  contractHB followsMixed (look_sound (show Tb Go.Proofs.Try.prog tb38 from ⟨s22, ⟨s26, ⟨s39, trivial⟩⟩⟩)) (fun _ => false) (fun a => A38 ((cel 0 (arg 0 a)).list) ((cel 1 (arg 0 a)).int)) 6 38 ct38 rfl (by simp [ct38]) fun a => Eq.mp (by kernel_rfl) (v38 ((cel 0 (arg 0 a)).list) ((cel 1 (arg 0 a)).int))
end Go.Sx

namespace Go.Sx
/-! ### function 23: mill.Rule -/
def ct23 : Ct := { ps := [], rs := [(true, [.int .i64, .str, .str, .int .i64, .sl [.int .i64, .str]])], pre := fun a => pLe 0 (cel 1 (arg 0 a)).int ∧ True, out := fun a => [[.l (cel 0 (arg 0 a)).list, .i (Sp.ruA (cel 0 (arg 0 a)).list (cel 1 (arg 0 a)).int)], [.i (Sp.ruK (cel 0 (arg 0 a)).list (cel 1 (arg 0 a)).int), .s (Sp.ruR (cel 0 (arg 0 a)).list (cel 1 (arg 0 a)).int), .s (Sp.ruC (cel 0 (arg 0 a)).list (cel 1 (arg 0 a)).int), .i (Sp.ruP (cel 0 (arg 0 a)).list (cel 1 (arg 0 a)).int), .l (Sp.cdO (cel 0 (arg 0 a)).list (Sp.ka2 (cel 0 (arg 0 a)).list (cel 1 (arg 0 a)).int))]], bx := some (59, [.sl [.int .i64], .int .i64]) }
def tb23 : List (Nat × Ct) := [(22, ct22), (37, ct37), (26, ct26), (39, ct39), (38, ct38)]
def A23  : FuncId → Nat → LoopAnn := fun _ _ => LoopAnn.unroll 200
abbrev B23 (l : List (List C)) (a : Int) : Prop := vcF Go.Proofs.Try.prog (look tb23) (fun _ => false) (A23) 6 23 [.ref 0 0] [.box [.sl [.int .i64] l, .int .i64 a] 59] (fun sv heap => GivesB 59 [.sl [.int .i64], .int .i64] [(true, [.int .i64, .str, .str, .int .i64, .sl [.int .i64, .str]])] [[.l l, .i (Sp.ruA l a)], [.i (Sp.ruK l a), .s (Sp.ruR l a), .s (Sp.ruC l a), .i (Sp.ruP l a), .l (Sp.cdO l (Sp.ka2 l a))]] sv heap)
theorem e23 (l : List (List C)) (a : Int) (Z2 : Int) (hZ2 : Z2 = Sp.ka l (Sp.ka l a)) (Z1 : Int) (hZ1 : Z1 = Sp.cdA l Z2) (Z3 : Int) (hZ3 : Z3 = Sp.ka l Z1) : B23 l a = ((pLe 0 a ∧ pLe 1 3 ∧ pLe (-1000000) 1 ∧ pLe 3 1000000) ∧ (InR .i64 (1 + Sp.kn l a (3 - 1 + 1)) → (pLe 0 (Sp.ka l a) ∧ True) ∧ ((List.brecOn.go ((((26, ct26).snd.outs [[C.l ((((37, ct37).snd.out [[C.l l, C.i a], [C.i 1], [C.i 3]]).headD []).headD default).list, C.i (q1 (((37, ct37).snd.out [[C.l l, C.i a], [C.i 1], [C.i 3]]).headD []))]]).headD []).headD default).str.1.toList List.length._f).1.le 9223372036854775807 → (pLe 0 Z2 ∧ True) ∧ (((WL [.int .i64, .str] (Sp.cdO l Z2))) → (pLe 0 Z1 ∧ pLe 1 4) ∧ (InR .i64 (Sp.kn l Z1 4) → (bEq (Sp.kn l Z1 4) 0 = true → (bEq (1 + Sp.kn l a (3 - 1 + 1)) 1 = true → (pLe 0 Z3 ∧ True) ∧ ((List.brecOn.go ((((39, ct39).snd.outs [[C.l ((((22, ct22).snd.out [[C.l ((((38, ct38).snd.out [[C.l ((((26, ct26).snd.out [[C.l ((((37, ct37).snd.out [[C.l l, C.i a], [C.i 1], [C.i 3]]).headD []).headD default).list, C.i (q1 (((37, ct37).snd.out [[C.l l, C.i a], [C.i 1], [C.i 3]]).headD []))]]).headD []).headD default).list, C.i (q1 (((26, ct26).snd.out [[C.l ((((37, ct37).snd.out [[C.l l, C.i a], [C.i 1], [C.i 3]]).headD []).headD default).list, C.i (q1 (((37, ct37).snd.out [[C.l l, C.i a], [C.i 1], [C.i 3]]).headD []))]]).headD []))]]).headD []).headD default).list, C.i (q1 (((38, ct38).snd.out [[C.l ((((26, ct26).snd.out [[C.l ((((37, ct37).snd.out [[C.l l, C.i a], [C.i 1], [C.i 3]]).headD []).headD default).list, C.i (q1 (((37, ct37).snd.out [[C.l l, C.i a], [C.i 1], [C.i 3]]).headD []))]]).headD []).headD default).list, C.i (q1 (((26, ct26).snd.out [[C.l ((((37, ct37).snd.out [[C.l l, C.i a], [C.i 1], [C.i 3]]).headD []).headD default).list, C.i (q1 (((37, ct37).snd.out [[C.l l, C.i a], [C.i 1], [C.i 3]]).headD []))]]).headD []))]]).headD []))], [C.i 4]]).headD []).headD default).list, C.i (q1 (((22, ct22).snd.out [[C.l ((((38, ct38).snd.out [[C.l ((((26, ct26).snd.out [[C.l ((((37, ct37).snd.out [[C.l l, C.i a], [C.i 1], [C.i 3]]).headD []).headD default).list, C.i (q1 (((37, ct37).snd.out [[C.l l, C.i a], [C.i 1], [C.i 3]]).headD []))]]).headD []).headD default).list, C.i (q1 (((26, ct26).snd.out [[C.l ((((37, ct37).snd.out [[C.l l, C.i a], [C.i 1], [C.i 3]]).headD []).headD default).list, C.i (q1 (((37, ct37).snd.out [[C.l l, C.i a], [C.i 1], [C.i 3]]).headD []))]]).headD []))]]).headD []).headD default).list, C.i (q1 (((38, ct38).snd.out [[C.l ((((26, ct26).snd.out [[C.l ((((37, ct37).snd.out [[C.l l, C.i a], [C.i 1], [C.i 3]]).headD []).headD default).list, C.i (q1 (((37, ct37).snd.out [[C.l l, C.i a], [C.i 1], [C.i 3]]).headD []))]]).headD []).headD default).list, C.i (q1 (((26, ct26).snd.out [[C.l ((((37, ct37).snd.out [[C.l l, C.i a], [C.i 1], [C.i 3]]).headD []).headD default).list, C.i (q1 (((37, ct37).snd.out [[C.l l, C.i a], [C.i 1], [C.i 3]]).headD []))]]).headD []))]]).headD []))], [C.i 4]]).headD []))]]).headD []).headD default).str.1.toList List.length._f).1.le 9223372036854775807 → 59 = 59 ∧ (l = l ∧ Sp.ka l Z3 = Sp.ruA l a ∧ True) ∧ (1 + Sp.kn l a (3 - 1 + 1) = Sp.ruK l a ∧ (ByteArray.mk (Array.mk [97, 110, 121])) = Sp.ruR l a ∧ Sp.cl4 (Sp.kn l Z3 4) = Sp.ruC l a ∧ 0 = Sp.ruP l a ∧ Sp.cdO l Z2 = Sp.cdO l (Sp.ka2 l a) ∧ True) ∧ True)) ∧ (bEq (1 + Sp.kn l a (3 - 1 + 1)) 1 = false → (bEq (1 + Sp.kn l a (3 - 1 + 1)) 2 = true → (pLe 0 Z3 ∧ pLe 1 101) ∧ (InR .i64 (Sp.kn l Z3 101) → 59 = 59 ∧ (l = l ∧ Sp.ka l Z3 = Sp.ruA l a ∧ True) ∧ (1 + Sp.kn l a (3 - 1 + 1) = Sp.ruK l a ∧ (ByteArray.mk (Array.mk [97, 110, 121])) = Sp.ruR l a ∧ (ByteArray.mk (Array.mk [])) = Sp.ruC l a ∧ Sp.kn l Z3 101 = Sp.ruP l a ∧ Sp.cdO l Z2 = Sp.cdO l (Sp.ka2 l a) ∧ True) ∧ True)) ∧ (bEq (1 + Sp.kn l a (3 - 1 + 1)) 2 = false → 59 = 59 ∧ (l = l ∧ Sp.ka l Z1 = Sp.ruA l a ∧ True) ∧ (1 + Sp.kn l a (3 - 1 + 1) = Sp.ruK l a ∧ (ByteArray.mk (Array.mk [97, 110, 121])) = Sp.ruR l a ∧ (ByteArray.mk (Array.mk [])) = Sp.ruC l a ∧ 0 = Sp.ruP l a ∧ Sp.cdO l Z2 = Sp.cdO l (Sp.ka2 l a) ∧ True) ∧ True))) ∧ (bEq (Sp.kn l Z1 4) 0 = false → (bEq (1 + Sp.kn l a (3 - 1 + 1)) 1 = true → (pLe 0 Z3 ∧ True) ∧ ((List.brecOn.go ((((39, ct39).snd.outs [[C.l ((((22, ct22).snd.out [[C.l ((((38, ct38).snd.out [[C.l ((((26, ct26).snd.out [[C.l ((((37, ct37).snd.out [[C.l l, C.i a], [C.i 1], [C.i 3]]).headD []).headD default).list, C.i (q1 (((37, ct37).snd.out [[C.l l, C.i a], [C.i 1], [C.i 3]]).headD []))]]).headD []).headD default).list, C.i (q1 (((26, ct26).snd.out [[C.l ((((37, ct37).snd.out [[C.l l, C.i a], [C.i 1], [C.i 3]]).headD []).headD default).list, C.i (q1 (((37, ct37).snd.out [[C.l l, C.i a], [C.i 1], [C.i 3]]).headD []))]]).headD []))]]).headD []).headD default).list, C.i (q1 (((38, ct38).snd.out [[C.l ((((26, ct26).snd.out [[C.l ((((37, ct37).snd.out [[C.l l, C.i a], [C.i 1], [C.i 3]]).headD []).headD default).list, C.i (q1 (((37, ct37).snd.out [[C.l l, C.i a], [C.i 1], [C.i 3]]).headD []))]]).headD []).headD default).list, C.i (q1 (((26, ct26).snd.out [[C.l ((((37, ct37).snd.out [[C.l l, C.i a], [C.i 1], [C.i 3]]).headD []).headD default).list, C.i (q1 (((37, ct37).snd.out [[C.l l, C.i a], [C.i 1], [C.i 3]]).headD []))]]).headD []))]]).headD []))], [C.i 4]]).headD []).headD default).list, C.i (q1 (((22, ct22).snd.out [[C.l ((((38, ct38).snd.out [[C.l ((((26, ct26).snd.out [[C.l ((((37, ct37).snd.out [[C.l l, C.i a], [C.i 1], [C.i 3]]).headD []).headD default).list, C.i (q1 (((37, ct37).snd.out [[C.l l, C.i a], [C.i 1], [C.i 3]]).headD []))]]).headD []).headD default).list, C.i (q1 (((26, ct26).snd.out [[C.l ((((37, ct37).snd.out [[C.l l, C.i a], [C.i 1], [C.i 3]]).headD []).headD default).list, C.i (q1 (((37, ct37).snd.out [[C.l l, C.i a], [C.i 1], [C.i 3]]).headD []))]]).headD []))]]).headD []).headD default).list, C.i (q1 (((38, ct38).snd.out [[C.l ((((26, ct26).snd.out [[C.l ((((37, ct37).snd.out [[C.l l, C.i a], [C.i 1], [C.i 3]]).headD []).headD default).list, C.i (q1 (((37, ct37).snd.out [[C.l l, C.i a], [C.i 1], [C.i 3]]).headD []))]]).headD []).headD default).list, C.i (q1 (((26, ct26).snd.out [[C.l ((((37, ct37).snd.out [[C.l l, C.i a], [C.i 1], [C.i 3]]).headD []).headD default).list, C.i (q1 (((37, ct37).snd.out [[C.l l, C.i a], [C.i 1], [C.i 3]]).headD []))]]).headD []))]]).headD []))], [C.i 4]]).headD []))]]).headD []).headD default).str.1.toList List.length._f).1.le 9223372036854775807 → 59 = 59 ∧ (l = l ∧ Sp.ka l Z3 = Sp.ruA l a ∧ True) ∧ (1 + Sp.kn l a (3 - 1 + 1) = Sp.ruK l a ∧ Sp.rol (Sp.kn l (Sp.ka l a) 4) = Sp.ruR l a ∧ Sp.cl4 (Sp.kn l Z3 4) = Sp.ruC l a ∧ 0 = Sp.ruP l a ∧ Sp.cdO l Z2 = Sp.cdO l (Sp.ka2 l a) ∧ True) ∧ True)) ∧ (bEq (1 + Sp.kn l a (3 - 1 + 1)) 1 = false → (bEq (1 + Sp.kn l a (3 - 1 + 1)) 2 = true → (pLe 0 Z3 ∧ pLe 1 101) ∧ (InR .i64 (Sp.kn l Z3 101) → 59 = 59 ∧ (l = l ∧ Sp.ka l Z3 = Sp.ruA l a ∧ True) ∧ (1 + Sp.kn l a (3 - 1 + 1) = Sp.ruK l a ∧ Sp.rol (Sp.kn l (Sp.ka l a) 4) = Sp.ruR l a ∧ (ByteArray.mk (Array.mk [])) = Sp.ruC l a ∧ Sp.kn l Z3 101 = Sp.ruP l a ∧ Sp.cdO l Z2 = Sp.cdO l (Sp.ka2 l a) ∧ True) ∧ True)) ∧ (bEq (1 + Sp.kn l a (3 - 1 + 1)) 2 = false → 59 = 59 ∧ (l = l ∧ Sp.ka l Z1 = Sp.ruA l a ∧ True) ∧ (1 + Sp.kn l a (3 - 1 + 1) = Sp.ruK l a ∧ Sp.rol (Sp.kn l (Sp.ka l a) 4) = Sp.ruR l a ∧ (ByteArray.mk (Array.mk [])) = Sp.ruC l a ∧ 0 = Sp.ruP l a ∧ Sp.cdO l Z2 = Sp.cdO l (Sp.ka2 l a) ∧ True) ∧ True)))))))) := by subst hZ3; subst hZ1; subst hZ2; kernel_rfl
theorem v23 (l : List (List C)) (a : Int) : Holds (Wfs [.agg [.sl [.int .i64] l, .int .i64 a]] → pLe 0 a ∧ True → B23 l a) := by
  refine ⟨fun hw hp => ?_⟩
  rw [e23 _ _ _ rfl _ rfl _ rfl]
  unfold WL q1
  simp only [Wfs, Wf, InR, and_true] at hw
  have hm : maxLen = 9223372036854775807 := rfl
  simp only [hm] at hw
  simp only [iAdd, iSub, iMul, iLen, iSize, bLt, bLe, bEq, bNe, bNot, bSame, bDiff, sSame, sDiff, bIf, bAnd, InR, pLe, pIn, pRoom, eq_self, true_and, and_true, true_implies, implies_true, decide_eq_true_eq, decide_eq_false_iff_not, Bool.not_eq_true', Bool.not_eq_false', Bool.true_eq_false, Bool.false_eq_true, false_implies]
  simp only [pLe] at hp
  have hp := hp.1
  clear hw
  have h1 := Sp.ka_nn (l := l) hp
  have h2 := Sp.ka_nn (l := l) h1
  have h3 := Sp.ruB_nn (l := l) hp
  have h4 := Sp.ka_nn (l := l) h3
  have k3 := Sp.kn_bd (l := l) (a := a) (n := 3) (by omega)
  have eK : 1 + Sp.kn l a (3 - 1 + 1) = Sp.ruK l a := rfl
  have eK' : 1 + Sp.kn l a 3 = Sp.ruK l a := rfl
  have eB : Sp.cdA l (Sp.ka l (Sp.ka l a)) = Sp.ruB l a := rfl
  rw [eK, eB]
  repeat' (first | assumption | exact Sp.ruR_y (by assumption) | exact Sp.ruR_n (by assumption) | exact Sp.ruC_y (by assumption) | exact Sp.ruC_n (by assumption) | exact Sp.ruP_y (by assumption) | exact Sp.ruP_n (by assumption) | exact Sp.ruP_n (by omega) | exact Sp.ruA_n (by omega) | exact Sp.ruA_y (by omega) | apply And.intro | intro _)
  all_goals first
    | omega
    | rfl
    | trace_state
theorem s23 : SoundCt Go.Proofs.Try.prog 23 ct23 :=
  contractHB followsMixed (look_sound (show Tb Go.Proofs.Try.prog tb23 from ⟨s22, ⟨s37, ⟨s26, ⟨s39, ⟨s38, trivial⟩⟩⟩⟩⟩)) (fun _ => false) (fun _ => A23) 6 23 ct23 rfl (by simp [ct23]) fun a => Eq.mp (by kernel_rfl) (v23 ((cel 0 (arg 0 a)).list) ((cel 1 (arg 0 a)).int))
end Go.Sx

namespace Go.Sx
/-! ### function 9: mill.Rules -/
def ct9 : Ct := { ps := [], rs := [(false, [.sl [.int .i64, .str, .str, .int .i64, .sl [.int .i64, .str]]])], pre := fun a => pLe 0 (cel 1 (arg 0 a)).int ∧ True, out := fun a => [[.l (cel 0 (arg 0 a)).list, .i (Sp.rsA (cel 0 (arg 0 a)).list (cel 1 (arg 0 a)).int)], [.l (Sp.rsO (cel 0 (arg 0 a)).list (cel 1 (arg 0 a)).int)]], bx := some (59, [.sl [.int .i64], .int .i64]) }
def tb9 : List (Nat × Ct) := [(22, ct22), (23, ct23)]
def A9 (l : List (List C)) (a : Int) : FuncId → Nat → LoopAnn := fun ff ii => bif Nat.beq ii 3 then .ghost 3 [.int .i64, .str, .str, .int .i64, .sl [.int .i64, .str]] 32 (.on (fun sv0 => match sv0.tmps.getD 3 .undef, sv0.tmps.getD 0 .undef with | .own rr _, .ref dk _ => .inv (Int × Int × List (List C)) (fun z => Sp.rsI l a z.1 z.2.1 z.2.2) (fun z => [(3, .own rr 0), (4, .int .i64 z.1)]) (fun z => [(dk, .box [.sl [.int .i64] l, .int .i64 (z.2.1)] 59), (rr, .row [.int .i64, .str, .str, .int .i64, .sl [.int .i64, .str]] 32 0 (z.2.2))]) [dk, rr] [0, 2, 3, 4, 8] (fun z => z.1.toNat) | _, _ => .unroll 0)) else .unroll 0
abbrev B9 (l : List (List C)) (a : Int) : Prop := vcF Go.Proofs.Try.prog (look tb9) (fun _ => false) (A9 l a) 6 9 [.ref 0 0] [.box [.sl [.int .i64] l, .int .i64 a] 59] (fun sv heap => GivesB 59 [.sl [.int .i64], .int .i64] [(false, [.sl [.int .i64, .str, .str, .int .i64, .sl [.int .i64, .str]]])] [[.l l, .i (Sp.rsA l a)], [.l (Sp.rsO l a)]] sv heap)
theorem e9 (l : List (List C)) (a : Int) : B9 l a = ((pLe 0 a ∧ pLe 1 6) ∧ (InR .i64 (Sp.kn l a 6) → (∃ (x : Int × Int × List (List C)), Sp.rsI l a x.1 x.snd.1 x.snd.2 ∧ true = true ∧ ((1 = 1 ∧ 0 + 1 = 0 + 1) ∧ (IntKind.i64 = IntKind.i64 ∧ Sp.kn l a 6 = x.1) ∧ True) ∧ ((([Sh.int .i64] = [Sh.int .i64] ∧ l = l) ∧ (IntKind.i64 = IntKind.i64 ∧ Sp.ka l a = x.snd.1) ∧ True) ∧ 59 = 59) ∧ ((fun z => z = z) [Sh.int .i64, Sh.str, Sh.str, Sh.int .i64, Sh.sl [Sh.int .i64, Sh.str]] ∧ 32 = 32 ∧ 0 + 1 = 0 + 1 ∧ [] = x.snd.2) ∧ True) ∧ (∀ (x : Int × Int × List (List C)), true = true ∧ true = true) ∧ ∀ (x : Int × Int × List (List C)), Sp.rsI l a x.1 x.snd.1 x.snd.2 → True ∧ InR .i64 x.1 ∧ True → (((WL [.int .i64] l)) ∧ InR .i64 x.snd.1 ∧ True) ∧ ((WL [Sh.int .i64, Sh.str, Sh.str, Sh.int .i64, Sh.sl [Sh.int .i64, Sh.str]] x.snd.2)) ∧ True → (bLt 0 x.1 = true → (pLe 0 x.snd.1 ∧ True) ∧ (InR .i64 (Sp.ruK l x.snd.1) ∧ (List.brecOn.go ((((23, ct23).snd.outs [[C.l l, C.i x.snd.fst]]).headD []).tail.headD default).str.1.toList List.length._f).1.le 9223372036854775807 ∧ (List.brecOn.go ((((23, ct23).snd.outs [[C.l l, C.i x.snd.fst]]).headD []).tail.tail.headD default).str.1.toList List.length._f).1.le 9223372036854775807 ∧ InR .i64 (Sp.ruP l x.snd.1) ∧ ((WL [.int .i64, .str] (Sp.cdO l (Sp.ka2 l x.snd.1)))) ∧ True → pRoom 72 (iLen (x.snd.2 ++ [[C.i (Sp.ruK l x.snd.1), C.s (Sp.ruR l x.snd.1), C.s (Sp.ruC l x.snd.1), C.i (Sp.ruP l x.snd.1), C.l (Sp.cdO l (Sp.ka2 l x.snd.1))]])) ∧ InR .i64 (iSub x.1 1) ∧ (true = true ∧ [SV.ref 0 0, SV.nils] = [SV.ref 0 0, SV.nils]) ∧ [HB.gone, HB.gone] = [HB.gone, HB.gone] ∧ ∃ (y : Int × Int × List (List C)), Sp.rsI l a y.1 y.snd.1 y.snd.2 ∧ true = true ∧ ((1 = 1 ∧ 0 + 1 = 0 + 1) ∧ (IntKind.i64 = IntKind.i64 ∧ iSub x.1 1 = y.1) ∧ True) ∧ (((([Sh.int .i64] = [Sh.int .i64] ∧ l = l) ∧ (IntKind.i64 = IntKind.i64 ∧ Sp.ruA l x.snd.1 = y.snd.1) ∧ True) ∧ 59 = 59) ∧ ([Sh.int .i64] ++ ([Sh.str] ++ ([Sh.str] ++ ([Sh.int .i64] ++ ([Sh.sl ([Sh.int .i64] ++ ([Sh.str] ++ []))] ++ [])))) = [Sh.int .i64, Sh.str, Sh.str, Sh.int .i64, Sh.sl [Sh.int .i64, Sh.str]] ∧ 32 = 32 ∧ 0 + 1 = 0 + 1 ∧ x.snd.2 ++ [[C.i (Sp.ruK l x.snd.1), C.s (Sp.ruR l x.snd.1), C.s (Sp.ruC l x.snd.1), C.i (Sp.ruP l x.snd.1), C.l (Sp.cdO l (Sp.ka2 l x.snd.1))]] = y.snd.2) ∧ True) ∧ y.1.toNat < x.1.toNat)) ∧ (bLt 0 x.1 = false → 59 = 59 ∧ (l = l ∧ x.snd.1 = Sp.rsA l a ∧ True) ∧ (x.snd.2 = Sp.rsO l a ∧ True) ∧ True))) := by kernel_rfl
theorem v9 (l : List (List C)) (a : Int) : Holds (Wfs [.agg [.sl [.int .i64] l, .int .i64 a]] → pLe 0 a ∧ True → B9 l a) := by
  refine ⟨fun hw hp => ?_⟩
  rw [e9]
  unfold WL
  simp only [Wfs, Wf, InR, and_true] at hw
  have hm : maxLen = 9223372036854775807 := rfl
  simp only [hm] at hw
  simp only [iAdd, iSub, iMul, iLen, iSize, bLt, bLe, bEq, bNe, bNot, bSame, bDiff, sSame, sDiff, bIf, bAnd, InR, pLe, pIn, pRoom, eq_self, true_and, and_true, true_implies, implies_true, decide_eq_true_eq, decide_eq_false_iff_not, Bool.not_eq_true', Bool.not_eq_false', Bool.true_eq_false, Bool.false_eq_true, false_implies]
  simp only [pLe] at hp
  have hp := hp.1
  clear hw
  have b6 := Sp.kn_bd (l := l) (a := a) (n := 6) (by omega)
  refine ⟨⟨hp, by omega⟩, fun _ => ⟨⟨(Sp.kn l a 6, Sp.ka l a, []), Sp.rsI_init hp, rfl, rfl, rfl⟩, ?_⟩⟩
  rintro ⟨k, b, o⟩ hx _ _
  simp only at hx ⊢
  have b0 := hx.1
  have k0 := hx.2.1
  have ho := hx.2.2.1
  refine ⟨fun h => ⟨b0, fun _ => ⟨by simp only [List.length_append, List.length_singleton]; omega, by omega, (k - 1, _, _), Sp.rsI_next hx h, rfl, ⟨rfl, rfl, rfl⟩, by simp only; omega⟩⟩, fun h => ?_⟩
  have e := Sp.rsI_end hx h
  exact ⟨congrArg Prod.fst e, congrArg Prod.snd e⟩
theorem s9 : SoundCt Go.Proofs.Try.prog 9 ct9 :=
  contractHB followsMixed (look_sound (show Tb Go.Proofs.Try.prog tb9 from ⟨s22, ⟨s23, trivial⟩⟩)) (fun _ => false) (fun a => A9 ((cel 0 (arg 0 a)).list) ((cel 1 (arg 0 a)).int)) 6 9 ct9 rfl (by simp [ct9]) fun a => Eq.mp (by kernel_rfl) (v9 ((cel 0 (arg 0 a)).list) ((cel 1 (arg 0 a)).int))
end Go.Sx

namespace Go.Sx
/-! ### function 25: mill.Choice -/
def ct25 : Ct := { ps := [], rs := [(true, [.str, .sl [.int .u64], .int .u64])], pre := fun a => pLe 0 (cel 1 (arg 0 a)).int ∧ True, out := fun a => [[.l (cel 0 (arg 0 a)).list, .i (Sp.chA (cel 0 (arg 0 a)).list (cel 1 (arg 0 a)).int)], [.s (Sp.rol (Sp.kn (cel 0 (arg 0 a)).list (cel 1 (arg 0 a)).int 4)), .l (Sp.chS (cel 0 (arg 0 a)).list (cel 1 (arg 0 a)).int), .i (Sp.chD (cel 0 (arg 0 a)).list (cel 1 (arg 0 a)).int)]], bx := some (59, [.sl [.int .i64], .int .i64]) }
def tb25 : List (Nat × Ct) := [(22, ct22), (26, ct26), (43, ct43)]
def A25  : FuncId → Nat → LoopAnn := fun _ _ => LoopAnn.unroll 200
abbrev B25 (l : List (List C)) (a : Int) : Prop := vcF Go.Proofs.Try.prog (look tb25) (fun _ => false) (A25) 6 25 [.ref 0 0] [.box [.sl [.int .i64] l, .int .i64 a] 59] (fun sv heap => GivesB 59 [.sl [.int .i64], .int .i64] [(true, [.str, .sl [.int .u64], .int .u64])] [[.l l, .i (Sp.chA l a)], [.s (Sp.rol (Sp.kn l a 4)), .l (Sp.chS l a), .i (Sp.chD l a)]] sv heap)
theorem e25 (l : List (List C)) (a : Int) (Z1 : List (List C)) (hZ1 : Z1 = Sp.seO l (Sp.ka l a)) (Z2 : Int) (hZ2 : Z2 = Sp.kn l (Sp.seA l (Sp.ka l a)) (iLen Z1)) : B25 l a = ((pLe 0 a ∧ True) ∧ ((List.brecOn.go ((((26, ct26).snd.outs [[C.l l, C.i a]]).headD []).headD default).str.1.toList List.length._f).1.le 9223372036854775807 → (pLe 0 (Sp.ka l a) ∧ True) ∧ (((WL [.int .u64] Z1)) → pLe (iLen Z1) 9223372036854775807 → (pLe 0 (Sp.seA l (Sp.ka l a)) ∧ pLe 1 (iLen Z1)) ∧ (InR .i64 Z2 → pIn 0 (iLen Z1) Z2 ∧ (InR .u64 (q0 (rGet Z1 Z2)) → 59 = 59 ∧ (l = l ∧ Sp.ka l (Sp.seA l (Sp.ka l a)) = Sp.chA l a ∧ True) ∧ (Sp.rol (Sp.kn l a 4) = Sp.rol (Sp.kn l a 4) ∧ Sp.seO l (Sp.ka l a) = Sp.chS l a ∧ (q0 (rGet Z1 Z2)) = Sp.chD l a ∧ True) ∧ True))))) := by subst hZ2; subst hZ1; kernel_rfl
theorem v25 (l : List (List C)) (a : Int) : Holds (Wfs [.agg [.sl [.int .i64] l, .int .i64 a]] → pLe 0 a ∧ True → B25 l a) := by
  refine ⟨fun hw hp => ?_⟩
  rw [e25 _ _ _ rfl _ rfl]
  unfold WL q0
  simp only [Wfs, Wf, InR, and_true] at hw
  have hm : maxLen = 9223372036854775807 := rfl
  simp only [hm] at hw
  simp only [iAdd, iSub, iMul, iLen, iSize, bLt, bLe, bEq, bNe, bNot, bSame, bDiff, sSame, sDiff, bIf, bAnd, InR, pLe, pIn, pRoom, eq_self, true_and, and_true, true_implies, implies_true, decide_eq_true_eq, decide_eq_false_iff_not, Bool.not_eq_true', Bool.not_eq_false', Bool.true_eq_false, Bool.false_eq_true, false_implies]
  simp only [pLe] at hp
  have hp := hp.1
  clear hw
  have h1 := Sp.ka_nn (l := l) hp
  have h2 := Sp.seO_len (l := l) (a := Sp.ka l a)
  have h3 := Sp.seA_nn (l := l) h1
  exact ⟨hp, fun _ => ⟨h1, fun _ _ => ⟨⟨h3, by omega⟩, fun _ => ⟨Sp.kn_bd (by omega), fun _ => ⟨rfl, rfl, rfl⟩⟩⟩⟩⟩
theorem s25 : SoundCt Go.Proofs.Try.prog 25 ct25 :=
  contractHB followsMixed (look_sound (show Tb Go.Proofs.Try.prog tb25 from ⟨s22, ⟨s26, ⟨s43, trivial⟩⟩⟩)) (fun _ => false) (fun _ => A25) 6 25 ct25 rfl (by simp [ct25]) fun a => Eq.mp (by kernel_rfl) (v25 ((cel 0 (arg 0 a)).list) ((cel 1 (arg 0 a)).int))
end Go.Sx

namespace Go.Sx
/-! ### function 10: mill.Memory -/
def ct10 : Ct := { ps := [], rs := [(true, [.sl [.str, .sl [.int .u64], .int .u64]])], pre := fun a => pLe 0 (cel 1 (arg 0 a)).int ∧ True, out := fun a => [[.l (cel 0 (arg 0 a)).list, .i (Sp.meA (cel 0 (arg 0 a)).list (cel 1 (arg 0 a)).int)], [.l (Sp.meO (cel 0 (arg 0 a)).list (cel 1 (arg 0 a)).int)]], bx := some (59, [.sl [.int .i64], .int .i64]) }
def tb10 : List (Nat × Ct) := [(22, ct22), (25, ct25), (24, ct24)]
def A10 (l : List (List C)) (a : Int) : FuncId → Nat → LoopAnn := fun ff ii => bif Nat.beq ii 3 then .on (fun sv0 => match sv0.tmps.getD 3 .undef, sv0.tmps.getD 0 .undef with | .ref mk _, .ref dk _ => .inv (Int × Int × List (List C)) (fun z => Sp.meI l a z.1 z.2.1 z.2.2) (fun z => [(4, .int .i64 z.1)]) (fun z => [(dk, .box [.sl [.int .i64] l, .int .i64 z.2.1] 59), (mk, .box [.sl [.str, .sl [.int .u64], .int .u64] z.2.2] 26)]) [dk, mk] [0, 2, 3, 4, 8] (fun z => z.1.toNat) | _, _ => .unroll 0) else .unroll 0
abbrev B10 (l : List (List C)) (a : Int) : Prop := vcF Go.Proofs.Try.prog (look tb10) (fun _ => false) (A10 l a) 6 10 [.ref 0 0] [.box [.sl [.int .i64] l, .int .i64 a] 59] (fun sv heap => GivesB 59 [.sl [.int .i64], .int .i64] [(true, [.sl [.str, .sl [.int .u64], .int .u64]])] [[.l l, .i (Sp.meA l a)], [.l (Sp.meO l a)]] sv heap)
theorem e10 (l : List (List C)) (a : Int) : B10 l a = ((pLe 0 a ∧ pLe 1 7) ∧ (InR .i64 (Sp.kn l a 7) → (∃ (x : Int × Int × List (List C)), Sp.meI l a x.1 x.snd.1 x.snd.2 ∧ true = true ∧ ((IntKind.i64 = IntKind.i64 ∧ Sp.kn l a 7 = x.1) ∧ True) ∧ ((([Sh.int .i64] = [Sh.int .i64] ∧ l = l) ∧ (IntKind.i64 = IntKind.i64 ∧ Sp.ka l a = x.snd.1) ∧ True) ∧ 59 = 59) ∧ ((x.snd.2 = [] ∧ True) ∧ 26 = 26) ∧ True) ∧ (∀ (x : Int × Int × List (List C)), true = true ∧ true = true) ∧ ∀ (x : Int × Int × List (List C)), Sp.meI l a x.1 x.snd.1 x.snd.2 → InR .i64 x.1 ∧ True → (((WL [.int .i64] l)) ∧ InR .i64 x.snd.1 ∧ True) ∧ (((WL [Sh.str, Sh.sl [Sh.int .u64], Sh.int .u64] x.snd.2)) ∧ True) ∧ True → (bLt 0 x.1 = true → (pLe 0 x.snd.1 ∧ True) ∧ ((List.brecOn.go ((((25, ct25).snd.outs [[C.l l, C.i x.snd.fst]]).headD []).headD default).str.1.toList List.length._f).1.le 9223372036854775807 ∧ ((WL [.int .u64] (Sp.chS l x.snd.1))) ∧ InR .u64 (Sp.chD l x.snd.1) ∧ True → True ∧ ((((WL [Sh.str, Sh.sl [Sh.int .u64], Sh.int .u64] (Sp.rmL x.snd.2 [C.s (Sp.rol (Sp.kn l x.snd.1 4)), C.l (Sp.chS l x.snd.1), C.i (Sp.chD l x.snd.1)]))) ∧ True) ∧ InR .i64 (Sp.rmE x.snd.2 [C.s (Sp.rol (Sp.kn l x.snd.1 4)), C.l (Sp.chS l x.snd.1), C.i (Sp.chD l x.snd.1)]) ∧ True → InR .i64 (iSub x.1 1) ∧ (true = true ∧ [SV.ref 0 0, SV.ref 1 0, SV.ref 2 0] = [SV.ref 0 0, SV.ref 1 0, SV.ref 2 0]) ∧ [HB.gone, HB.box [SV.nils] 26, HB.gone] = [HB.gone, HB.box [SV.nils] 26, HB.gone] ∧ ∃ (y : Int × Int × List (List C)), Sp.meI l a y.1 y.snd.1 y.snd.2 ∧ true = true ∧ ((IntKind.i64 = IntKind.i64 ∧ iSub x.1 1 = y.1) ∧ True) ∧ (((([Sh.int .i64] = [Sh.int .i64] ∧ l = l) ∧ (IntKind.i64 = IntKind.i64 ∧ Sp.chA l x.snd.1 = y.snd.1) ∧ True) ∧ 59 = 59) ∧ ((([Sh.str, Sh.sl [Sh.int .u64], Sh.int .u64] = [Sh.str, Sh.sl [Sh.int .u64], Sh.int .u64] ∧ Sp.rmL x.snd.2 [C.s (Sp.rol (Sp.kn l x.snd.1 4)), C.l (Sp.chS l x.snd.1), C.i (Sp.chD l x.snd.1)] = y.snd.2) ∧ True) ∧ 26 = 26) ∧ True) ∧ y.1.toNat < x.1.toNat))) ∧ (bLt 0 x.1 = false → 59 = 59 ∧ (l = l ∧ x.snd.1 = Sp.meA l a ∧ True) ∧ (x.snd.2 = Sp.meO l a ∧ True) ∧ True))) := by kernel_rfl
theorem v10 (l : List (List C)) (a : Int) : Holds (Wfs [.agg [.sl [.int .i64] l, .int .i64 a]] → pLe 0 a ∧ True → B10 l a) := by
  refine ⟨fun hw hp => ?_⟩
  rw [e10]
  unfold WL
  simp only [Wfs, Wf, InR, and_true] at hw
  have hm : maxLen = 9223372036854775807 := rfl
  simp only [hm] at hw
  simp only [iAdd, iSub, iMul, iLen, iSize, bLt, bLe, bEq, bNe, bNot, bSame, bDiff, sSame, sDiff, bIf, bAnd, InR, pLe, pIn, pRoom, eq_self, true_and, and_true, true_implies, implies_true, decide_eq_true_eq, decide_eq_false_iff_not, Bool.not_eq_true', Bool.not_eq_false', Bool.true_eq_false, Bool.false_eq_true, false_implies]
  simp only [pLe] at hp
  have hp := hp.1
  clear hw
  have b7 := Sp.kn_bd (l := l) (a := a) (n := 7) (by omega)
  refine ⟨⟨hp, by omega⟩, fun _ => ⟨⟨(Sp.kn l a 7, Sp.ka l a, []), Sp.meI_init hp, rfl, rfl, rfl⟩, ?_⟩⟩
  rintro ⟨k, b, o⟩ hx _ _
  simp only at hx ⊢
  have b0 := hx.1
  have k0 := hx.2.1
  refine ⟨fun h => ⟨b0, fun _ _ => ⟨by omega, (k - 1, _, _), Sp.meI_next hx h, rfl, ⟨rfl, rfl⟩, by simp only; omega⟩⟩, fun h => ?_⟩
  have e := Sp.meI_end hx h
  exact ⟨congrArg Prod.fst e, congrArg Prod.snd e⟩
theorem s10 : SoundCt Go.Proofs.Try.prog 10 ct10 :=
  contractHB followsMixed (look_sound (show Tb Go.Proofs.Try.prog tb10 from ⟨s22, ⟨s25, ⟨s24, trivial⟩⟩⟩)) (fun _ => false) (fun a => A10 ((cel 0 (arg 0 a)).list) ((cel 1 (arg 0 a)).int)) 6 10 ct10 rfl (by simp [ct10]) fun a => Eq.mp (by kernel_rfl) (v10 ((cel 0 (arg 0 a)).list) ((cel 1 (arg 0 a)).int))
end Go.Sx

