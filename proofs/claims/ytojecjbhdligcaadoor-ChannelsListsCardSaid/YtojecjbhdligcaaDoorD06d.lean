/- Contracts and conditions, continued. -/
import Derived.Test.YtojecjbhdligcaaDoorSxUse
import Derived.Test.YtojecjbhdligcaaDoorD06c
import Derived.KernelRfl
set_option linter.unusedVariables false
set_option linter.unusedSimpArgs false
set_option maxRecDepth 100000
set_option maxHeartbeats 4000000

namespace Go
open Go.Sx
def Sp.nmL (p : Int) : List UInt8 := if p = 1 then [70, 76] else if p = 2 then [70, 82] else if p = 3 then [70, 67] else if p = 4 then [76, 70] else if p = 5 then [66, 76] else if p = 6 then [66, 82] else if p = 7 then [83, 76] else if p = 8 then [83, 82] else [63]
def Sp.cod (x : List UInt8) : Int := if x = [70, 76] then 1 else if x = [70, 82] then 2 else if x = [70, 67] then 3 else if x = [76, 70] then 4 else if x = [66, 76] then 5 else if x = [66, 82] then 6 else if x = [83, 76] then 7 else if x = [83, 82] then 8 else 0
def Sp.nmC (p : Int) : List C := [.s ⟨(Sp.nmL p).toArray⟩]
def Sp.fmR (m : List (List C)) : List (List C) := m.map (fun x => Sp.nmC (Sp.i0 x))
def Sp.fmL : List Int → List UInt8
  | [] => []
  | [p] => Sp.nmL p
  | p :: q :: r => Sp.nmL p ++ 44 :: Sp.fmL (q :: r)
def Sp.fmt (m : List (List C)) : ByteArray := ⟨(Sp.fmL (m.map Sp.i0)).toArray⟩
def Sp.fmI (m : List (List C)) (z : Int) : Prop := 0 ≤ z ∧ z ≤ (m.length : Int)
def Sp.fmz (m : List (List C)) (z : Int) : List (List C) := Sp.fmR (m.take z.toNat)
def Sp.ftz (m : List (List C)) (z : Int) : ByteArray := Sp.fmt (m.take z.toNat)
def Sp.pcs : List UInt8 → List (List UInt8)
  | [] => [[]]
  | c :: r => if c = 44 then [] :: Sp.pcs r else (match Sp.pcs r with | h :: t => (c :: h) :: t | [] => [[c]])
def Sp.mpc : List (List UInt8) → Option (List Int)
  | [] => some []
  | x :: r => if Sp.cod x = 0 then none else (Sp.mpc r).map (Sp.cod x :: ·)
def Sp.prM (s : ByteArray) : Option (List Int) := Sp.mpc (Sp.pcs s.data.toList)
def Sp.prL (s : ByteArray) : List (List C) := match Sp.prM s with | some l => if Sp.vld (l.map Sp.row) = true then l.map Sp.row else [] | none => []
def Sp.prE (s : ByteArray) : Int := match Sp.prM s with | some l => if Sp.vld (l.map Sp.row) = true then 0 else 1 | none => 5
end Go

namespace Go
open Go.Sx
theorem Sp.nmL_len (p : Int) : (Sp.nmL p).length ≤ 2 := by
  unfold Sp.nmL
  repeat' split
  all_goals decide
theorem Sp.eight {p : Int} (h1 : 1 ≤ p) (h8 : p ≤ 8) : p = 1 ∨ p = 2 ∨ p = 3 ∨ p = 4 ∨ p = 5 ∨ p = 6 ∨ p = 7 ∨ p = 8 := by omega
theorem Sp.nm_tab {p : Int} (h1 : 1 ≤ p) (h8 : p ≤ 8) : ((rGet [[C.s ⟨#[63]⟩], [C.s ⟨#[70, 76]⟩], [C.s ⟨#[70, 82]⟩], [C.s ⟨#[70, 67]⟩], [C.s ⟨#[76, 70]⟩], [C.s ⟨#[66, 76]⟩], [C.s ⟨#[66, 82]⟩], [C.s ⟨#[83, 76]⟩], [C.s ⟨#[83, 82]⟩]] p).headD default).str = ⟨(Sp.nmL p).toArray⟩ := by
  rcases Sp.eight h1 h8 with rfl | rfl | rfl | rfl | rfl | rfl | rfl | rfl <;> rfl
theorem Sp.nm_off {p : Int} (h : ¬ (1 ≤ p ∧ p ≤ 8)) : Sp.nmL p = [63] := by
  unfold Sp.nmL
  repeat (rw [if_neg (by omega)])
theorem Sp.bExt {a b : ByteArray} (h : a.data.toList = b.data.toList) : a = b := by
  cases a with | mk a => cases b with | mk b => cases a with | mk a => cases b with | mk b => simp at h; rw [h]
def Sp.nms : ByteArray := ⟨#[70, 76, 70, 82, 70, 67, 76, 70, 66, 76, 66, 82, 83, 76, 83, 82]⟩
theorem Sp.nm_cut {p : Int} (h1 : 1 ≤ p) (h8 : p ≤ 8) : sCut Sp.nms (some (2 * p - 2)) (some (2 * p)) = ⟨(Sp.nmL p).toArray⟩ := by
  refine Sp.bExt ?_
  unfold sCut
  rw [Lib.extract_data]
  rcases Sp.eight h1 h8 with rfl | rfl | rfl | rfl | rfl | rfl | rfl | rfl <;> rfl
theorem Sp.fmL_len : ∀ l : List Int, (Sp.fmL l).length ≤ 3 * l.length
  | [] => by simp [Sp.fmL]
  | [p] => by have := Sp.nmL_len p; simp only [Sp.fmL, List.length_singleton]; omega
  | p :: q :: r => by
    have h1 := Sp.nmL_len p
    have h2 := Sp.fmL_len (q :: r)
    simp only [Sp.fmL, List.length_append, List.length_cons] at h2 ⊢; omega
theorem Sp.fmL_snoc : ∀ (l : List Int) (p : Int), l ≠ [] → Sp.fmL (l ++ [p]) = Sp.fmL l ++ 44 :: Sp.nmL p
  | [], _, h => absurd rfl h
  | [q], p, _ => rfl
  | q :: q' :: r, p, _ => by
    have := Sp.fmL_snoc (q' :: r) p (by simp)
    simp only [List.cons_append] at this
    simp only [List.cons_append, Sp.fmL, this, List.append_assoc]
theorem Sp.fmz_next {m : List (List C)} {z : Int} (h0 : 0 ≤ z) (hz : z < (m.length : Int)) : Sp.fmz m (z + 1) = Sp.fmz m z ++ [Sp.nmC (Sp.i0 (rGet m z))] := by
  simp only [Sp.fmz, Sp.fmR, Sp.take_next h0 hz, List.map_append, List.map_cons, List.map_nil]
theorem Sp.fmz_len {m : List (List C)} {z : Int} : (Sp.fmz m z).length ≤ m.length := by
  simp only [Sp.fmz, Sp.fmR, List.length_map, List.length_take]; omega
theorem Sp.join_fm : ∀ l : List Int, Lib.join (l.map Sp.nmL) [44] = Sp.fmL l
  | [] => rfl
  | [p] => Lib.join_one _ _
  | p :: q :: r => by
    have := Sp.join_fm (q :: r)
    simp only [List.map_cons] at this ⊢
    rw [Lib.join_cons] at this ⊢
    simp only [Lib.joinTail, List.map_cons, List.flatten_cons, Sp.fmL, ← this, List.append_assoc, List.singleton_append, List.cons_append, List.nil_append]
theorem Sp.jn_fmt (m : List (List C)) : Sp.jn (Sp.fmR m) ⟨#[44]⟩ = Sp.fmt m := by
  unfold Sp.jn Sp.jnB Sp.fmt
  rw [← Sp.join_fm]
  congr 2
  simp only [Sp.fmR, List.map_map]
  congr 1
theorem Sp.fmt_size (m : List (List C)) : (Sp.fmt m).size ≤ 3 * m.length := by
  have := Sp.fmL_len (m.map Sp.i0)
  simp only [List.length_map] at this
  simp only [Sp.fmt, ByteArray.size]
  simpa using this
theorem Sp.fmz_end {m : List (List C)} {z : Int} (h : Sp.fmI m z) (hz : ¬ z < (m.length : Int)) : Sp.fmz m z = Sp.fmR m := by
  obtain ⟨h0, h1⟩ := h
  unfold Sp.fmz
  rw [List.take_of_length_le (by omega)]
theorem Sp.ftz_end {m : List (List C)} {z : Int} (h : Sp.fmI m z) (hz : ¬ z < (m.length : Int)) : Sp.ftz m z = Sp.fmt m := by
  obtain ⟨h0, h1⟩ := h
  unfold Sp.ftz
  rw [List.take_of_length_le (by omega)]
theorem Sp.ftz_size (m : List (List C)) (z : Int) : (Sp.ftz m z).size ≤ 3 * m.length := by
  have := Sp.fmt_size (m.take z.toNat)
  simp only [List.length_take] at this
  unfold Sp.ftz; omega
theorem Sp.ftz_first {m : List (List C)} {z : Int} (h0 : 0 ≤ z) (hz : z < (m.length : Int)) (hn : ¬ 0 < z) : sCat (Sp.ftz m z) ⟨(Sp.nmL (Sp.i0 (rGet m z))).toArray⟩ = Sp.ftz m (z + 1) := by
  obtain rfl : z = 0 := by omega
  refine Sp.bExt ?_
  unfold Sp.ftz
  rw [Sp.take_next h0 hz]
  simp only [sCat, Sp.fmt, ByteArray.data_append, Array.toList_append, Int.toNat_zero, List.take_zero, List.map_nil, List.nil_append, List.map_cons, Sp.fmL]
theorem Sp.ftz_more {m : List (List C)} {z : Int} (h0 : 0 ≤ z) (hz : z < (m.length : Int)) (hn : 0 < z) : sCat (sCat (Sp.ftz m z) ⟨#[44]⟩) ⟨(Sp.nmL (Sp.i0 (rGet m z))).toArray⟩ = Sp.ftz m (z + 1) := by
  refine Sp.bExt ?_
  unfold Sp.ftz
  rw [Sp.take_next h0 hz]
  simp only [sCat, Sp.fmt, ByteArray.data_append, Array.toList_append, List.map_append, List.map_cons, List.map_nil]
  rw [Sp.fmL_snoc _ _ (by
    intro h
    have := congrArg List.length h
    simp only [List.length_map, List.length_take, List.length_nil] at this; omega)]
  simp
end Go

namespace Go.Sx
/-! ### function 11: channels.Format -/
def ct11 : Ct := { ps := [(false, [.sl [.int .i64]])], rs := [(false, [.str])], pre := fun a => pLe ((cel 0 (arg 0 a)).list.length : Int) 1000 ∧ True, out := fun a => [[.s (Sp.fmt (cel 0 (arg 0 a)).list)]] }
def tb11 : List (Nat × Ct) := [(24, ct24)]
def A11 (m : List (List C)) : FuncId → Nat → LoopAnn := fun _ ii => bif Nat.beq ii 3 then .ghost 3 [.str] 9 (.on (fun sv0 => match sv0.tmps.getD 3 .undef with | .own rc _ => .inv Int (fun z => Sp.fmI m z) (fun z => [(8, .int .i64 z), (3, .own rc 0)]) (fun z => [(rc, .row [.str] 9 0 (Sp.fmz m z))]) [rc] [0, 2, 3, 5, 6, 7, 8, 9, 17] (fun z => m.length - z.toNat) | _ => .unroll 0)) else .unroll 0
abbrev B11 (m : List (List C)) : Prop := vcF Go.Proofs.Tryd.prog (look tb11) (fun _ => false) (A11 m) 6 11 [.sl [.int .i64] m] [] (fun sv heap => Gives [(false, [.str])] [[.s (Sp.fmt m)]] sv heap)
theorem e11 (m : List (List C)) : B11 m = (pLe (iLen m) 9223372036854775807 → (∃ (x : Int), Sp.fmI m x ∧ true = true ∧ ((IntKind.i64 = IntKind.i64 ∧ 0 = x) ∧ (0 = 0 ∧ 0 + 1 = 0 + 1) ∧ True) ∧ ([Sh.str] = [Sh.str] ∧ 9 = 9 ∧ 0 + 1 = 0 + 1 ∧ [] = Sp.fmz m x) ∧ True) ∧ (∀ (x : Int), true = true ∧ true = true) ∧ ∀ (x : Int), Sp.fmI m x → InR .i64 x ∧ True ∧ True → ((Sp.fmz m x).length ≤ 9223372036854775807 ∧ ∀ (x_1 : List C), x_1 ∈ Sp.fmz m x → WfCs [.str] x_1) ∧ True → (bLt x (iLen m) = true → pIn 0 (iLen m) x ∧ (InR .i64 ((rGet m x).headD default).int → (bLt ((rGet m x).headD default).int 1 = false → (bLt 8 ((rGet m x).headD default).int = true → (List.brecOn.go ((0, List.replicate 9 Sh.str, [C.s (ByteArray.mk #[63]), C.s (ByteArray.mk #[70, 76]), C.s (ByteArray.mk #[70, 82]), C.s (ByteArray.mk #[70, 67]), C.s (ByteArray.mk #[76, 70]), C.s (ByteArray.mk #[66, 76]), C.s (ByteArray.mk #[66, 82]), C.s (ByteArray.mk #[83, 76]), C.s (ByteArray.mk #[83, 82])]).snd.snd.headD default).str.1.toList List.length._f).1.le 9223372036854775807 → pRoom 16 (iLen (Sp.fmz m x ++ [[C.s (ByteArray.mk (Array.mk [63]))]])) ∧ InR .i64 (iAdd x 1) ∧ (true = true ∧ (fun z => z = z) [SV.sl [.int .i64] m, SV.str (ByteArray.mk (Array.mk [])), SV.sl [.int .i64] m, SV.int .i64 (iLen m)]) ∧ [HB.gone] = [HB.gone] ∧ ∃ (y : Int), Sp.fmI m y ∧ true = true ∧ ((IntKind.i64 = IntKind.i64 ∧ iAdd x 1 = y) ∧ (0 = 0 ∧ 0 + 1 = 0 + 1) ∧ True) ∧ (([Sh.str] = [Sh.str] ∧ 9 = 9 ∧ 0 + 1 = 0 + 1 ∧ Sp.fmz m x ++ [[C.s (ByteArray.mk (Array.mk [63]))]] = Sp.fmz m y) ∧ True) ∧ m.length - y.toNat < m.length - x.toNat) ∧ (bLt 8 ((rGet m x).headD default).int = false → pIn 0 (↑9) ((rGet m x).headD default).int ∧ ((List.brecOn.go ((rGet ((fun (x : List (List C)) => [C.s ((0, List.replicate 9 Sh.str, [C.s (ByteArray.mk #[63]), C.s (ByteArray.mk #[70, 76]), C.s (ByteArray.mk #[70, 82]), C.s (ByteArray.mk #[70, 67]), C.s (ByteArray.mk #[76, 70]), C.s (ByteArray.mk #[66, 76]), C.s (ByteArray.mk #[66, 82]), C.s (ByteArray.mk #[83, 76]), C.s (ByteArray.mk #[83, 82])]).snd.snd.headD default).str] :: x) ((fun (x : List (List C)) => [C.s ((0, List.replicate 9 Sh.str, [C.s (ByteArray.mk #[63]), C.s (ByteArray.mk #[70, 76]), C.s (ByteArray.mk #[70, 82]), C.s (ByteArray.mk #[70, 67]), C.s (ByteArray.mk #[76, 70]), C.s (ByteArray.mk #[66, 76]), C.s (ByteArray.mk #[66, 82]), C.s (ByteArray.mk #[83, 76]), C.s { data := #[83, 82] }]).snd.snd.tail.headD default).str] :: x) ((fun (x : List (List C)) => [C.s ((0, List.replicate 9 Sh.str, [C.s (ByteArray.mk #[63]), C.s (ByteArray.mk #[70, 76]), C.s (ByteArray.mk #[70, 82]), C.s (ByteArray.mk #[70, 67]), C.s (ByteArray.mk #[76, 70]), C.s (ByteArray.mk #[66, 76]), C.s (ByteArray.mk #[66, 82]), C.s (ByteArray.mk #[83, 76]), C.s { data := #[83, 82] }]).snd.snd.tail.tail.headD default).str] :: x) ((fun (x : List (List C)) => [C.s ((0, List.replicate 9 Sh.str, [C.s (ByteArray.mk #[63]), C.s (ByteArray.mk #[70, 76]), C.s (ByteArray.mk #[70, 82]), C.s (ByteArray.mk #[70, 67]), C.s (ByteArray.mk #[76, 70]), C.s (ByteArray.mk #[66, 76]), C.s (ByteArray.mk #[66, 82]), C.s (ByteArray.mk #[83, 76]), C.s { data := #[83, 82] }]).snd.snd.tail.tail.tail.headD default).str] :: x) ((fun (x : List (List C)) => [C.s ((0, List.replicate 9 Sh.str, [C.s (ByteArray.mk #[63]), C.s (ByteArray.mk #[70, 76]), C.s (ByteArray.mk #[70, 82]), C.s (ByteArray.mk #[70, 67]), C.s (ByteArray.mk #[76, 70]), C.s (ByteArray.mk #[66, 76]), C.s (ByteArray.mk #[66, 82]), C.s (ByteArray.mk #[83, 76]), C.s { data := #[83, 82] }]).snd.snd.tail.tail.tail.tail.headD default).str] :: x) ((fun (x : List (List C)) => [C.s ((0, List.replicate 9 Sh.str, [C.s (ByteArray.mk #[63]), C.s { data := #[70, 76] }, C.s { data := #[70, 82] }, C.s { data := #[70, 67] }, C.s { data := #[76, 70] }, C.s { data := #[66, 76] }, C.s { data := #[66, 82] }, C.s { data := #[83, 76] }, C.s { data := #[83, 82] }]).snd.snd.tail.tail.tail.tail.tail.headD default).str] :: x) ((fun (x : List (List C)) => [C.s ((0, List.replicate 9 Sh.str, [C.s { data := #[63] }, C.s { data := #[70, 76] }, C.s { data := #[70, 82] }, C.s { data := #[70, 67] }, C.s { data := #[76, 70] }, C.s { data := #[66, 76] }, C.s { data := #[66, 82] }, C.s { data := #[83, 76] }, C.s { data := #[83, 82] }]).snd.snd.tail.tail.tail.tail.tail.tail.headD default).str] :: x) ((fun (x : List (List C)) => [C.s ((0, List.replicate 9 Sh.str, [C.s { data := #[63] }, C.s { data := #[70, 76] }, C.s { data := #[70, 82] }, C.s { data := #[70, 67] }, C.s { data := #[76, 70] }, C.s { data := #[66, 76] }, C.s { data := #[66, 82] }, C.s { data := #[83, 76] }, C.s { data := #[83, 82] }]).snd.snd.tail.tail.tail.tail.tail.tail.tail.headD default).str] :: x) ((fun (x : List (List C)) => [C.s ((0, List.replicate 9 Sh.str, [C.s { data := #[63] }, C.s { data := #[70, 76] }, C.s { data := #[70, 82] }, C.s { data := #[70, 67] }, C.s { data := #[76, 70] }, C.s { data := #[66, 76] }, C.s { data := #[66, 82] }, C.s { data := #[83, 76] }, C.s { data := #[83, 82] }]).snd.snd.tail.tail.tail.tail.tail.tail.tail.tail.headD default).str] :: x) []))))))))) ((rGet m x).headD default).int).headD default).str.1.toList List.length._f).1.le 9223372036854775807 → pRoom 16 (iLen (Sp.fmz m x ++ [[C.s ((rGet [[C.s (ByteArray.mk (Array.mk [63]))], [C.s (ByteArray.mk (Array.mk [70, 76]))], [C.s (ByteArray.mk (Array.mk [70, 82]))], [C.s (ByteArray.mk (Array.mk [70, 67]))], [C.s (ByteArray.mk (Array.mk [76, 70]))], [C.s (ByteArray.mk (Array.mk [66, 76]))], [C.s (ByteArray.mk (Array.mk [66, 82]))], [C.s (ByteArray.mk (Array.mk [83, 76]))], [C.s (ByteArray.mk (Array.mk [83, 82]))]] ((rGet m x).headD default).int).headD default).str]])) ∧ InR .i64 (iAdd x 1) ∧ (true = true ∧ (fun z => z = z) [SV.sl [.int .i64] m, SV.str (ByteArray.mk (Array.mk [])), SV.sl [.int .i64] m, SV.int .i64 (iLen m)]) ∧ [HB.gone] = [HB.gone] ∧ ∃ (y : Int), Sp.fmI m y ∧ true = true ∧ ((IntKind.i64 = IntKind.i64 ∧ iAdd x 1 = y) ∧ (0 = 0 ∧ 0 + 1 = 0 + 1) ∧ True) ∧ (([Sh.str] = [Sh.str] ∧ 9 = 9 ∧ 0 + 1 = 0 + 1 ∧ Sp.fmz m x ++ [[C.s ((rGet [[C.s (ByteArray.mk (Array.mk [63]))], [C.s (ByteArray.mk (Array.mk [70, 76]))], [C.s (ByteArray.mk (Array.mk [70, 82]))], [C.s (ByteArray.mk (Array.mk [70, 67]))], [C.s (ByteArray.mk (Array.mk [76, 70]))], [C.s (ByteArray.mk (Array.mk [66, 76]))], [C.s (ByteArray.mk (Array.mk [66, 82]))], [C.s (ByteArray.mk (Array.mk [83, 76]))], [C.s (ByteArray.mk (Array.mk [83, 82]))]] ((rGet m x).headD default).int).headD default).str]] = Sp.fmz m y) ∧ True) ∧ m.length - y.toNat < m.length - x.toNat))) ∧ (bLt ((rGet m x).headD default).int 1 = true → (List.brecOn.go ((0, List.replicate 9 Sh.str, [C.s (ByteArray.mk #[63]), C.s (ByteArray.mk #[70, 76]), C.s (ByteArray.mk #[70, 82]), C.s (ByteArray.mk #[70, 67]), C.s (ByteArray.mk #[76, 70]), C.s (ByteArray.mk #[66, 76]), C.s (ByteArray.mk #[66, 82]), C.s (ByteArray.mk #[83, 76]), C.s (ByteArray.mk #[83, 82])]).snd.snd.headD default).str.1.toList List.length._f).1.le 9223372036854775807 → pRoom 16 (iLen (Sp.fmz m x ++ [[C.s (ByteArray.mk (Array.mk [63]))]])) ∧ InR .i64 (iAdd x 1) ∧ (true = true ∧ (fun z => z = z) [SV.sl [.int .i64] m, SV.str (ByteArray.mk (Array.mk [])), SV.sl [.int .i64] m, SV.int .i64 (iLen m)]) ∧ [HB.gone] = [HB.gone] ∧ ∃ (y : Int), Sp.fmI m y ∧ true = true ∧ ((IntKind.i64 = IntKind.i64 ∧ iAdd x 1 = y) ∧ (0 = 0 ∧ 0 + 1 = 0 + 1) ∧ True) ∧ (([Sh.str] = [Sh.str] ∧ 9 = 9 ∧ 0 + 1 = 0 + 1 ∧ Sp.fmz m x ++ [[C.s (ByteArray.mk (Array.mk [63]))]] = Sp.fmz m y) ∧ True) ∧ m.length - y.toNat < m.length - x.toNat))) ∧ (bLt x (iLen m) = false → (pLe (↑(Sp.fmz m x).length) 1000 ∧ pLe (Sp.jz (Sp.fmz m x) (ByteArray.mk (Array.mk [44]))) 100000) ∧ ((List.brecOn.go ((((24, ct24).snd.outs [[C.l (Sp.fmz m x)], [C.s (ByteArray.mk #[44])]]).headD []).headD default).str.1.toList List.length._f).1.le 9223372036854775807 → (Sp.jn (Sp.fmz m x) (ByteArray.mk (Array.mk [44])) = Sp.fmt m ∧ True) ∧ True))) := by kernel_rfl
theorem v11 (m : List (List C)) : Holds (Wfs [.sl [.int .i64] m] → pLe (m.length : Int) 1000 ∧ True → B11 m) := by
  refine ⟨fun hw hp => ?_⟩
  rw [e11]
  simp only [Wfs, Wf, InR, and_true] at hw
  have hm : maxLen = 9223372036854775807 := rfl
  simp only [hm] at hw
  simp only [iAdd, iSub, iMul, iLen, iSize, bLt, bLe, bEq, bNe, bNot, bSame, bDiff, sSame, sDiff, InR, pLe, pIn, pRoom, eq_self, true_and, and_true, true_implies, implies_true, decide_eq_true_eq, decide_eq_false_iff_not, Bool.not_eq_true', Bool.not_eq_false']
  simp only [List.headD_cons, List.tail_cons, show ∀ x, (C.s x).str = x from fun _ => rfl]
  have hp := hp.1
  simp only [pLe] at hp
  intro _
  refine ⟨⟨0, ⟨by omega, by omega⟩, rfl, rfl⟩, fun x hx _ hr => ⟨fun hlt => ⟨⟨hx.1, hlt⟩, fun _ => ?_⟩, fun hge => ?_⟩⟩
  · have h0 := hx.1
    have hl := Sp.fmz_len (m := m) (z := x)
    have key : ∀ b : ByteArray, b = ⟨(Sp.nmL (Sp.i0 (rGet m x))).toArray⟩ → ((Sp.fmz m x ++ [[C.s b]]).length : Int) * ((16 : Nat) : Int) ≤ 140737488355328 ∧ (-9223372036854775808 ≤ x + 1 ∧ x + 1 ≤ 9223372036854775807) ∧ ∃ y, Sp.fmI m y ∧ x + 1 = y ∧ Sp.fmz m x ++ [[C.s b]] = Sp.fmz m y ∧ m.length - y.toNat < m.length - x.toNat := fun b hb =>
      ⟨by simp only [List.length_append, List.length_singleton]; omega, by omega, x + 1, ⟨by omega, by omega⟩, rfl, by rw [Sp.fmz_next h0 hlt, hb]; rfl, by omega⟩
    refine ⟨fun p1 => ⟨fun p8 _ => key _ ?_, fun p8 => ⟨⟨by omega, by omega⟩, fun _ => key _ ?_⟩⟩, fun p1 _ => key _ ?_⟩
    · rw [Sp.nm_off (by simp only [Sp.i0]; omega)]
    · exact Sp.nm_tab (p := Sp.i0 (rGet m x)) (by simp only [Sp.i0]; omega) (by simp only [Sp.i0]; omega)
    · rw [Sp.nm_off (by simp only [Sp.i0]; omega)]
  · have e := Sp.jn_fmt m
    have hs := Sp.fmt_size m
    rw [← Sp.fmz_end hx hge] at e
    refine ⟨⟨?_, ?_⟩, fun _ => e⟩
    · have := Sp.fmz_len (m := m) (z := x); omega
    · show Sp.jz (Sp.fmz m x) ⟨#[44]⟩ ≤ 100000
      rw [Sp.jz, e]; omega
theorem s11 : SoundCt Go.Proofs.Tryd.prog 11 ct11 :=
  contractH followsMixed (look_sound (show Tb Go.Proofs.Tryd.prog tb11 from ⟨s24, trivial⟩)) (fun _ => false) (fun a => A11 ((cel 0 (arg 0 a)).list)) 6 11 ct11 rfl (by simp [ct11]) fun a => Eq.mp (by kernel_rfl) (v11 ((cel 0 (arg 0 a)).list))
end Go.Sx

namespace Go.Sx
/-! ### function 12: ref06.Format -/
def ct12 : Ct := { ps := [(false, [.sl [.int .i64]])], rs := [(false, [.str])], pre := fun a => pLe ((cel 0 (arg 0 a)).list.length : Int) 1000 ∧ True, out := fun a => [[.s (Sp.fmt (cel 0 (arg 0 a)).list)]] }
def tb12 : List (Nat × Ct) := []
def A12 (m : List (List C)) : FuncId → Nat → LoopAnn := fun _ ii => bif Nat.beq ii 3 then .inv Int (fun z => Sp.fmI m z) (fun z => [(8, .int .i64 z), (3, .str (Sp.ftz m z))]) (fun _ => []) [] [0, 2, 3, 4, 5, 6, 7, 8, 9, 14, 22] (fun z => m.length - z.toNat) else .unroll 0
abbrev B12 (m : List (List C)) : Prop := vcF Go.Proofs.Tryd.prog (look tb12) (fun _ => false) (A12 m) 6 12 [.sl [.int .i64] m] [] (fun sv heap => Gives [(false, [.str])] [[.s (Sp.fmt m)]] sv heap)
theorem e12 (m : List (List C)) : B12 m = (pLe (iLen m) 9223372036854775807 → (∃ (x : Int), Sp.fmI m x ∧ true = true ∧ ((IntKind.i64 = IntKind.i64 ∧ 0 = x) ∧ (ByteArray.mk (Array.mk [])) = Sp.ftz m x ∧ True) ∧ True) ∧ (∀ (x : Int), true = true ∧ true = true) ∧ ∀ (x : Int), Sp.fmI m x → InR .i64 x ∧ (List.brecOn.go (Sp.ftz m x).1.toList List.length._f).1.le 9223372036854775807 ∧ True → True → (bLt x (iLen m) = true → pIn 0 (iLen m) x ∧ (InR .i64 ((rGet m x).headD default).int → (bLt 0 x = true → pLe (iSize (Sp.ftz m x) + iSize (ByteArray.mk (Array.mk [44]))) 9223372036854775807 ∧ (bLe 1 ((rGet m x).headD default).int = true → (bLe ((rGet m x).headD default).int 8 = true → InR .i64 (iMul 2 ((rGet m x).headD default).int) ∧ InR .i64 (iSub (iMul 2 ((rGet m x).headD default).int) 2) ∧ InR .i64 (iMul 2 ((rGet m x).headD default).int) ∧ geB (some (iSub (iMul 2 ((rGet m x).headD default).int) 2)) (some (iMul 2 ((rGet m x).headD default).int)) (iSize { data := { toList := [70, 76, 70, 82, 70, 67, 76, 70, 66, 76, 66, 82, 83, 76, 83, 82] } }) ∧ pLe (iSize (sCat (Sp.ftz m x) (ByteArray.mk (Array.mk [44]))) + iSize (sCut { data := { toList := [70, 76, 70, 82, 70, 67, 76, 70, 66, 76, 66, 82, 83, 76, 83, 82] } } (some (iSub (iMul 2 ((rGet m x).headD default).int) 2)) (some (iMul 2 ((rGet m x).headD default).int)))) 9223372036854775807 ∧ InR .i64 (iAdd x 1) ∧ (true = true ∧ (fun z => z = z) [SV.sl [.int .i64] m, SV.str (ByteArray.mk (Array.mk [])), SV.sl [.int .i64] m, SV.int .i64 (iLen m)]) ∧ ([] : List HB) = [] ∧ ∃ (y : Int), Sp.fmI m y ∧ true = true ∧ ((IntKind.i64 = IntKind.i64 ∧ iAdd x 1 = y) ∧ sCat (sCat (Sp.ftz m x) (ByteArray.mk (Array.mk [44]))) (sCut { data := { toList := [70, 76, 70, 82, 70, 67, 76, 70, 66, 76, 66, 82, 83, 76, 83, 82] } } (some (iSub (iMul 2 ((rGet m x).headD default).int) 2)) (some (iMul 2 ((rGet m x).headD default).int))) = Sp.ftz m y ∧ True) ∧ True ∧ m.length - y.toNat < m.length - x.toNat) ∧ (bLe ((rGet m x).headD default).int 8 = false → pLe (iSize (sCat (Sp.ftz m x) (ByteArray.mk (Array.mk [44]))) + iSize (ByteArray.mk (Array.mk [63]))) 9223372036854775807 ∧ InR .i64 (iAdd x 1) ∧ (true = true ∧ (fun z => z = z) [SV.sl [.int .i64] m, SV.str (ByteArray.mk (Array.mk [])), SV.sl [.int .i64] m, SV.int .i64 (iLen m)]) ∧ ([] : List HB) = [] ∧ ∃ (y : Int), Sp.fmI m y ∧ true = true ∧ ((IntKind.i64 = IntKind.i64 ∧ iAdd x 1 = y) ∧ sCat (sCat (Sp.ftz m x) (ByteArray.mk (Array.mk [44]))) (ByteArray.mk (Array.mk [63])) = Sp.ftz m y ∧ True) ∧ True ∧ m.length - y.toNat < m.length - x.toNat)) ∧ (bLe 1 ((rGet m x).headD default).int = false → pLe (iSize (sCat (Sp.ftz m x) (ByteArray.mk (Array.mk [44]))) + iSize (ByteArray.mk (Array.mk [63]))) 9223372036854775807 ∧ InR .i64 (iAdd x 1) ∧ (true = true ∧ (fun z => z = z) [SV.sl [.int .i64] m, SV.str (ByteArray.mk (Array.mk [])), SV.sl [.int .i64] m, SV.int .i64 (iLen m)]) ∧ ([] : List HB) = [] ∧ ∃ (y : Int), Sp.fmI m y ∧ true = true ∧ ((IntKind.i64 = IntKind.i64 ∧ iAdd x 1 = y) ∧ sCat (sCat (Sp.ftz m x) (ByteArray.mk (Array.mk [44]))) (ByteArray.mk (Array.mk [63])) = Sp.ftz m y ∧ True) ∧ True ∧ m.length - y.toNat < m.length - x.toNat)) ∧ (bLt 0 x = false → (bLe 1 ((rGet m x).headD default).int = true → (bLe ((rGet m x).headD default).int 8 = true → InR .i64 (iMul 2 ((rGet m x).headD default).int) ∧ InR .i64 (iSub (iMul 2 ((rGet m x).headD default).int) 2) ∧ InR .i64 (iMul 2 ((rGet m x).headD default).int) ∧ geB (some (iSub (iMul 2 ((rGet m x).headD default).int) 2)) (some (iMul 2 ((rGet m x).headD default).int)) (iSize { data := { toList := [70, 76, 70, 82, 70, 67, 76, 70, 66, 76, 66, 82, 83, 76, 83, 82] } }) ∧ pLe (iSize (Sp.ftz m x) + iSize (sCut { data := { toList := [70, 76, 70, 82, 70, 67, 76, 70, 66, 76, 66, 82, 83, 76, 83, 82] } } (some (iSub (iMul 2 ((rGet m x).headD default).int) 2)) (some (iMul 2 ((rGet m x).headD default).int)))) 9223372036854775807 ∧ InR .i64 (iAdd x 1) ∧ (true = true ∧ (fun z => z = z) [SV.sl [.int .i64] m, SV.str (ByteArray.mk (Array.mk [])), SV.sl [.int .i64] m, SV.int .i64 (iLen m)]) ∧ ([] : List HB) = [] ∧ ∃ (y : Int), Sp.fmI m y ∧ true = true ∧ ((IntKind.i64 = IntKind.i64 ∧ iAdd x 1 = y) ∧ sCat (Sp.ftz m x) (sCut { data := { toList := [70, 76, 70, 82, 70, 67, 76, 70, 66, 76, 66, 82, 83, 76, 83, 82] } } (some (iSub (iMul 2 ((rGet m x).headD default).int) 2)) (some (iMul 2 ((rGet m x).headD default).int))) = Sp.ftz m y ∧ True) ∧ True ∧ m.length - y.toNat < m.length - x.toNat) ∧ (bLe ((rGet m x).headD default).int 8 = false → pLe (iSize (Sp.ftz m x) + iSize (ByteArray.mk (Array.mk [63]))) 9223372036854775807 ∧ InR .i64 (iAdd x 1) ∧ (true = true ∧ (fun z => z = z) [SV.sl [.int .i64] m, SV.str (ByteArray.mk (Array.mk [])), SV.sl [.int .i64] m, SV.int .i64 (iLen m)]) ∧ ([] : List HB) = [] ∧ ∃ (y : Int), Sp.fmI m y ∧ true = true ∧ ((IntKind.i64 = IntKind.i64 ∧ iAdd x 1 = y) ∧ sCat (Sp.ftz m x) (ByteArray.mk (Array.mk [63])) = Sp.ftz m y ∧ True) ∧ True ∧ m.length - y.toNat < m.length - x.toNat)) ∧ (bLe 1 ((rGet m x).headD default).int = false → pLe (iSize (Sp.ftz m x) + iSize (ByteArray.mk (Array.mk [63]))) 9223372036854775807 ∧ InR .i64 (iAdd x 1) ∧ (true = true ∧ (fun z => z = z) [SV.sl [.int .i64] m, SV.str (ByteArray.mk (Array.mk [])), SV.sl [.int .i64] m, SV.int .i64 (iLen m)]) ∧ ([] : List HB) = [] ∧ ∃ (y : Int), Sp.fmI m y ∧ true = true ∧ ((IntKind.i64 = IntKind.i64 ∧ iAdd x 1 = y) ∧ sCat (Sp.ftz m x) (ByteArray.mk (Array.mk [63])) = Sp.ftz m y ∧ True) ∧ True ∧ m.length - y.toNat < m.length - x.toNat)))) ∧ (bLt x (iLen m) = false → (Sp.ftz m x = Sp.fmt m ∧ True) ∧ True)) := by kernel_rfl
theorem v12 (m : List (List C)) : Holds (Wfs [.sl [.int .i64] m] → pLe (m.length : Int) 1000 ∧ True → B12 m) := by
  refine ⟨fun hw hp => ?_⟩
  rw [e12]
  simp only [Wfs, Wf, InR, and_true] at hw
  have hm : maxLen = 9223372036854775807 := rfl
  simp only [hm] at hw
  simp only [iAdd, iSub, iMul, iLen, iSize, bLt, bLe, bEq, bNe, bNot, bSame, bDiff, sSame, sDiff, InR, pLe, pIn, pRoom, eq_self, true_and, and_true, true_implies, implies_true, decide_eq_true_eq, decide_eq_false_iff_not, Bool.not_eq_true', Bool.not_eq_false']
  have hp := hp.1
  simp only [pLe] at hp
  intro _
  refine ⟨⟨0, ⟨by omega, by omega⟩, rfl, rfl⟩, fun x hx _ => ⟨fun hlt => ⟨⟨hx.1, hlt⟩, fun _ => ?_⟩, fun hge => Sp.ftz_end hx hge⟩⟩
  have h0 := hx.1
  have hz := Sp.ftz_size m x
  have key : ∀ b, b = Sp.ftz m (x + 1) → (-9223372036854775808 ≤ x + 1 ∧ x + 1 ≤ 9223372036854775807) ∧ ∃ y, Sp.fmI m y ∧ (x + 1 = y ∧ b = Sp.ftz m y) ∧ m.length - y.toNat < m.length - x.toNat := fun b hb =>
    ⟨by omega, x + 1, ⟨by omega, by omega⟩, ⟨rfl, hb⟩, by omega⟩
  have big : ∀ a b : ByteArray, a.size ≤ 4000 → b.size ≤ 10 → (a.size : Int) + (b.size : Int) ≤ 9223372036854775807 := fun a b h1 h2 => by omega
  have sc : (sCat (Sp.ftz m x) ⟨#[44]⟩).size ≤ 4000 := by
    have : (sCat (Sp.ftz m x) ⟨#[44]⟩).size = (Sp.ftz m x).size + 1 := ByteArray.size_append
    omega
  have off : ¬ (1 ≤ Sp.i0 (rGet m x) ∧ Sp.i0 (rGet m x) ≤ 8) → (⟨#[63]⟩ : ByteArray) = ⟨(Sp.nmL (Sp.i0 (rGet m x))).toArray⟩ := fun h => by rw [Sp.nm_off h]
  have cs : ∀ (h1 : 1 ≤ Sp.i0 (rGet m x)) (h8 : Sp.i0 (rGet m x) ≤ 8), (sCut Sp.nms (some (2 * Sp.i0 (rGet m x) - 2)) (some (2 * Sp.i0 (rGet m x)))).size ≤ 10 := fun h1 h8 => by
    rw [Sp.nm_cut h1 h8]
    have := Sp.nmL_len (Sp.i0 (rGet m x))
    simp only [ByteArray.size, List.size_toArray]; omega
  have nz : ((⟨#[70, 76, 70, 82, 70, 67, 76, 70, 66, 76, 66, 82, 83, 76, 83, 82]⟩ : ByteArray).size : Int) = 16 := rfl
  refine ⟨fun xp => ⟨big _ _ (by omega) (by decide), fun p1 => ⟨fun p8 => ⟨by omega, by omega, by omega, ⟨by omega, by omega, ?_⟩, big _ _ sc (cs p1 p8), key _ ?_⟩, fun p8 => ⟨big _ _ sc (by decide), key _ ?_⟩⟩, fun p1 => ⟨big _ _ sc (by decide), key _ ?_⟩⟩,
    fun xn => ⟨fun p1 => ⟨fun p8 => ⟨by omega, by omega, by omega, ⟨by omega, by omega, ?_⟩, big _ _ (by omega) (cs p1 p8), key _ ?_⟩, fun p8 => ⟨big _ _ (by omega) (by decide), key _ ?_⟩⟩, fun p1 => ⟨big _ _ (by omega) (by decide), key _ ?_⟩⟩⟩
  · show 2 * ((rGet m x).headD default).int ≤ (16 : Int); omega
  · rw [← Sp.ftz_more h0 hlt xp, ← Sp.nm_cut (p := Sp.i0 (rGet m x)) p1 p8]; rfl
  · rw [← Sp.ftz_more h0 hlt xp, ← off (by simp only [Sp.i0]; omega)]
  · rw [← Sp.ftz_more h0 hlt xp, ← off (by simp only [Sp.i0]; omega)]
  · show 2 * ((rGet m x).headD default).int ≤ (16 : Int); omega
  · rw [← Sp.ftz_first h0 hlt xn, ← Sp.nm_cut (p := Sp.i0 (rGet m x)) p1 p8]; rfl
  · rw [← Sp.ftz_first h0 hlt xn, ← off (by simp only [Sp.i0]; omega)]
  · rw [← Sp.ftz_first h0 hlt xn, ← off (by simp only [Sp.i0]; omega)]
theorem s12 : SoundCt Go.Proofs.Tryd.prog 12 ct12 :=
  contractH followsMixed (look_sound (show Tb Go.Proofs.Tryd.prog tb12 from trivial)) (fun _ => false) (fun a => A12 ((cel 0 (arg 0 a)).list)) 6 12 ct12 rfl (by simp [ct12]) fun a => Eq.mp (by kernel_rfl) (v12 ((cel 0 (arg 0 a)).list))
end Go.Sx

