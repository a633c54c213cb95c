/- Contracts and conditions, continued. -/
import Derived.Test.YtbobgakeaoigeaaSxUse
import Derived.Test.YtbobgakeaoigeaaC22l
import Derived.Test.YtbobgakeaoigeaaC22v
import Derived.KernelRfl
set_option linter.unusedVariables false
set_option linter.unusedSimpArgs false
set_option maxRecDepth 100000
set_option maxHeartbeats 4000000

namespace Go
open Go.Sx
def Sp.disE (ns ls : List (List C)) (b0 b1 b2 b3 : Int) : Int := bif !Sp.vld ns ls then 1 else bif !Sp.h4 ls b0 b1 b2 b3 then 7 else 0
def Sp.delL (ls : List (List C)) (b0 b1 b2 b3 : Int) : List (List C) := Sp.del ls (Sp.pos ls b0 b1 b2 b3) (Sp.pos ls b0 b1 b2 b3 + 1)
def Sp.disN (ns ls : List (List C)) (b0 b1 b2 b3 : Int) : List (List C) := bif decide (Sp.disE ns ls b0 b1 b2 b3 = 0) then ns else []
def Sp.disL (ns ls : List (List C)) (b0 b1 b2 b3 : Int) : List (List C) := bif decide (Sp.disE ns ls b0 b1 b2 b3 = 0) then Sp.delL ls b0 b1 b2 b3 else []
def Sp.sub (a b : List (List C)) : Bool := a.all (fun x => Sp.has b (Sp.c0 x))
def Sp.sbI (a b : List (List C)) (j : Int) : Prop := 0 ≤ j ∧ j ≤ (a.length : Int) ∧ Sp.sub (a.take j.toNat) b = true
end Go

noncomputable section
namespace Go
open Go.Sx
variable {ns ls a b : List (List C)} {j x y n b0 b1 b2 b3 : Int}
theorem Sp.dis1 (h : Sp.vld ns ls = false) : Sp.disE ns ls b0 b1 b2 b3 = 1 := by unfold Sp.disE; rw [h]; rfl
theorem Sp.dis7 (h : Sp.vld ns ls = true) (h1 : Sp.h4 ls b0 b1 b2 b3 = false) : Sp.disE ns ls b0 b1 b2 b3 = 7 := by unfold Sp.disE; rw [h, h1]; rfl
theorem Sp.dis0 (h : Sp.vld ns ls = true) (h1 : Sp.h4 ls b0 b1 b2 b3 = true) : Sp.disE ns ls b0 b1 b2 b3 = 0 := by unfold Sp.disE; rw [h, h1]; rfl
theorem Sp.dis_err {e : Int} (h : Sp.disE ns ls b0 b1 b2 b3 = e) (he : e ≠ 0) : ([] = Sp.disN ns ls b0 b1 b2 b3 ∧ [] = Sp.disL ns ls b0 b1 b2 b3) ∧ e = Sp.disE ns ls b0 b1 b2 b3 := by
  unfold Sp.disN Sp.disL
  rw [h, decide_eq_false he]
  exact ⟨⟨rfl, rfl⟩, rfl⟩
theorem Sp.dis_ok (h : Sp.disE ns ls b0 b1 b2 b3 = 0) : (ns = Sp.disN ns ls b0 b1 b2 b3 ∧ Sp.delL ls b0 b1 b2 b3 = Sp.disL ns ls b0 b1 b2 b3) ∧ 0 = Sp.disE ns ls b0 b1 b2 b3 := by
  unfold Sp.disN Sp.disL
  rw [h]
  exact ⟨⟨rfl, rfl⟩, rfl⟩
theorem Sp.sb_init : Sp.sbI a b 0 := ⟨by omega, by omega, by rw [show (0 : Int).toNat = 0 from rfl, List.take_zero]; rfl⟩
theorem Sp.sb_step (h : Sp.sbI a b j) (hj : j < (a.length : Int)) (hh : Sp.has b (Sp.c0 (rGet a j)) = true) : Sp.sbI a b (j + 1) := by
  obtain ⟨h0, h1, h2⟩ := h
  refine ⟨by omega, by omega, ?_⟩
  unfold Sp.sub at h2 ⊢
  rw [Sp.take_succ h0 hj, List.all_append, h2]
  simp only [List.all_cons, List.all_nil, hh, Bool.and_self]
theorem Sp.sb_end (h : Sp.sbI a b j) (hj : ¬ j < (a.length : Int)) : true = Sp.sub a b := by
  obtain ⟨h0, h1, h2⟩ := h
  rw [List.take_of_length_le (by omega)] at h2
  exact h2.symm
theorem Sp.sb_no (h0 : 0 ≤ j) (hj : j < (a.length : Int)) (hh : Sp.has b (Sp.c0 (rGet a j)) = false) : false = Sp.sub a b := by
  cases hs : Sp.sub a b
  · rfl
  · unfold Sp.sub at hs
    have := List.all_eq_true.1 hs _ (Sp.row_mem h0 hj)
    rw [hh] at this; cases this
theorem Sp.sub_of (h : ∀ n, Sp.has a n = true → Sp.has b n = true) : Sp.sub a b = true := by
  unfold Sp.sub
  exact List.all_eq_true.2 fun x hx => h _ (Sp.has_iff.2 ⟨x, hx, rfl⟩)
theorem Sp.re1 (hv : Sp.vld ns ls = true) (h0 : 0 ≤ j) (hj : j < ((Sp.rch ns ls x).length : Int)) : Sp.c0 (rGet (Sp.rch ns ls x) j) ≠ x ∧ Sp.sub (Sp.rch ns ls (Sp.c0 (rGet (Sp.rch ns ls x) j))) (Sp.rch ns ls x) = true := by
  have h1 := (Sp.mem_rch hv).1 (Sp.has_iff.2 ⟨_, Sp.row_mem h0 hj, rfl⟩)
  refine ⟨h1.1, Sp.sub_of fun n hn => ?_⟩
  have h2 := (Sp.mem_rch hv).1 hn
  have h3 := Sp.Rch_trans h1.2 h2.2
  exact (Sp.mem_rch hv).2 ⟨Sp.Rch_ne hv h3, h3⟩
theorem Sp.re2 (hv : Sp.vld ns ls = true) (h0 : 0 ≤ j) (hj : j < (ls.length : Int)) : Sp.disE ns ls (Sp.c0 (rGet ls j)) (Sp.c1 (rGet ls j)) (Sp.c2 (rGet ls j)) (Sp.c3 (rGet ls j)) = 0 :=
  Sp.dis0 hv (Sp.h4_iff.2 ⟨j, h0, hj, by unfold Sp.is4; simp⟩)
theorem Sp.re3 (hv : Sp.vld ns ls = true) (he : Sp.disE ns ls b0 b1 b2 b3 = 0) : Sp.sub (Sp.rch (Sp.disN ns ls b0 b1 b2 b3) (Sp.disL ns ls b0 b1 b2 b3) x) (Sp.rch ns ls x) = true := by
  obtain ⟨⟨e1, e2⟩, _⟩ := Sp.dis_ok he
  rw [← e1, ← e2]
  refine Sp.sub_of fun n hn => ?_
  cases hw : Sp.vld ns (Sp.delL ls b0 b1 b2 b3)
  · rw [Sp.rch_nil hw, Sp.has_nil] at hn; cases hn
  · have h1 := (Sp.mem_rch hw).1 hn
    refine (Sp.mem_rch hv).2 ⟨h1.1, Sp.Rch_mono (fun l hl => ?_) h1.2⟩
    unfold Sp.delL Sp.del at hl
    rcases List.mem_append.1 hl with hl | hl
    · exact List.mem_of_mem_take hl
    · exact List.mem_of_mem_drop hl
end Go

namespace Go.Sx
/-! ### function 26: graph.Disconnect -/
def ct26 : Ct := { ps := [(true, [.sl [.int .i64, .int .i64, .int .i64, .int .i64], .sl [.int .i64, .int .i64, .int .i64, .int .i64]]), (true, [.int .i64, .int .i64, .int .i64, .int .i64])], rs := [(true, [.sl [.int .i64, .int .i64, .int .i64, .int .i64], .sl [.int .i64, .int .i64, .int .i64, .int .i64]]), (false, [.int .i64])], pre := fun _ => True, out := fun a => [[.l (Sp.disN (cel 0 (arg 0 a)).list (cel 1 (arg 0 a)).list (cel 0 (arg 1 a)).int (cel 1 (arg 1 a)).int (cel 2 (arg 1 a)).int (cel 3 (arg 1 a)).int), .l (Sp.disL (cel 0 (arg 0 a)).list (cel 1 (arg 0 a)).list (cel 0 (arg 1 a)).int (cel 1 (arg 1 a)).int (cel 2 (arg 1 a)).int (cel 3 (arg 1 a)).int)], [.i (Sp.disE (cel 0 (arg 0 a)).list (cel 1 (arg 0 a)).list (cel 0 (arg 1 a)).int (cel 1 (arg 1 a)).int (cel 2 (arg 1 a)).int (cel 3 (arg 1 a)).int)]] }
def tb26 : List (Nat × Ct) := [(14, ct14), (42, ct42), (54, ct54), (72, ct72), (73, ct73)]
def A26  : FuncId → Nat → LoopAnn := fun ff ii => bif Nat.beq ff 49 then (.on (fun sv0 => match sv0.tmps.getD 0 .undef with | .sl _ nq => (match sv0.tmps.getD 4 .undef with | .ref bb4 _ => (match sv0.heap[bb4]? with | some (.box [.int _ q0, .int _ q1, .int _ q2, .int _ q3] _) => .inv (Int × Int) (fun z => Sp.bsI nq q0 q1 q2 q3 z.1 z.2) (fun z => [(9, .int .i64 z.1), (10, .int .i64 z.2)]) (fun z => []) [] [0, 1, 2, 4, 6, 7, 8, 9, 10, 11, 17, 31] (fun z => (z.2 - z.1).toNat) | _ => .unroll 0) | _ => .unroll 0) | _ => .unroll 0)) else .unroll 0
abbrev B26 (ns : List (List C)) (ls : List (List C)) (b0 : Int) (b1 : Int) (b2 : Int) (b3 : Int) : Prop := vcF Go.Proofs.Try.prog (look tb26) (fun _ => false) (A26) 8 26 [.agg [.sl [.int .i64, .int .i64, .int .i64, .int .i64] ns, .sl [.int .i64, .int .i64, .int .i64, .int .i64] ls], .agg [.int .i64 b0, .int .i64 b1, .int .i64 b2, .int .i64 b3]] [] (fun sv heap => Gives [(true, [.sl [.int .i64, .int .i64, .int .i64, .int .i64], .sl [.int .i64, .int .i64, .int .i64, .int .i64]]), (false, [.int .i64])] [[.l (Sp.disN ns ls b0 b1 b2 b3), .l (Sp.disL ns ls b0 b1 b2 b3)], [.i (Sp.disE ns ls b0 b1 b2 b3)]] sv heap)
def h26_0 : List (List C) → Int → Int → Int → Int → List SV := fun (ls : List (List C)) (b0 b1 b2 b3 : Int) => [SV.sl [.int .i64, .int .i64, .int .i64, .int .i64] ls, SV.agg [SV.int .i64 b0, SV.int .i64 b1, SV.int .i64 b2, SV.int .i64 b3], SV.fn 42 [], SV.ref 3 0, SV.lit .i64 0, SV.blit false, SV.int .i64 (iLen ls)]
def h26_1 : List (List C) → List (List C) → Int → Int → Int → Int → List HB := fun (ns ls : List (List C)) (b0 b1 b2 b3 : Int) => [HB.box [SV.sl [.int .i64, .int .i64, .int .i64, .int .i64] ns, SV.sl [.int .i64, .int .i64, .int .i64, .int .i64] ls] 25, HB.box [SV.int .i64 b0, SV.int .i64 b1, SV.int .i64 b2, SV.int .i64 b3] 45, HB.box [SV.nils, SV.nils] 25, HB.box [SV.int .i64 b0, SV.int .i64 b1, SV.int .i64 b2, SV.int .i64 b3] 45]
theorem e26 (ns : List (List C)) (ls : List (List C)) (b0 : Int) (b1 : Int) (b2 : Int) (b3 : Int) : B26 ns ls b0 b1 b2 b3 = (True ∧ (True → True ∧ (bNot (Sp.vld ns ls) = true → ([] = Sp.disN ns ls b0 b1 b2 b3 ∧ [] = Sp.disL ns ls b0 b1 b2 b3 ∧ True) ∧ (1 = Sp.disE ns ls b0 b1 b2 b3 ∧ True) ∧ True) ∧ (bNot (Sp.vld ns ls) = false → pLe (iLen ls) 9223372036854775807 → (∃ (x : Int × Int), Sp.bsI ls b0 b1 b2 b3 x.1 x.2 ∧ true = true ∧ ((IntKind.i64 = IntKind.i64 ∧ 0 = x.1) ∧ (IntKind.i64 = IntKind.i64 ∧ iLen ls = x.2) ∧ True) ∧ True) ∧ (∀ (x : Int × Int), true = true ∧ true = true) ∧ ∀ (x : Int × Int), Sp.bsI ls b0 b1 b2 b3 x.1 x.2 → InR .i64 x.1 ∧ InR .i64 x.2 ∧ True → True → (bLt x.1 x.2 = true → InR .i64 (iAdd x.1 x.2) ∧ pSh 64 1 ∧ pIn 0 (iLen ls) (iWrap .i64 (iShr (iWrap .u64 (iAdd x.1 x.2)) 1)) ∧ (InR .i64 ((rGet ls (iWrap .i64 (iShr (iWrap .u64 (iAdd x.1 x.2)) 1))).headD default).int ∧ InR .i64 ((rGet ls (iWrap .i64 (iShr (iWrap .u64 (iAdd x.1 x.2)) 1))).tail.headD default).int ∧ InR .i64 ((rGet ls (iWrap .i64 (iShr (iWrap .u64 (iAdd x.1 x.2)) 1))).tail.tail.headD default).int ∧ InR .i64 ((rGet ls (iWrap .i64 (iShr (iWrap .u64 (iAdd x.1 x.2)) 1))).tail.tail.tail.headD default).int ∧ True → True ∧ (InR .i64 (Sp.lcmp ((rGet ls (iWrap .i64 (iShr (iWrap .u64 (iAdd x.1 x.2)) 1))).headD default).int ((rGet ls (iWrap .i64 (iShr (iWrap .u64 (iAdd x.1 x.2)) 1))).tail.headD default).int ((rGet ls (iWrap .i64 (iShr (iWrap .u64 (iAdd x.1 x.2)) 1))).tail.tail.headD default).int ((rGet ls (iWrap .i64 (iShr (iWrap .u64 (iAdd x.1 x.2)) 1))).tail.tail.tail.headD default).int b0 b1 b2 b3) → (bLt (Sp.lcmp ((rGet ls (iWrap .i64 (iShr (iWrap .u64 (iAdd x.1 x.2)) 1))).headD default).int ((rGet ls (iWrap .i64 (iShr (iWrap .u64 (iAdd x.1 x.2)) 1))).tail.headD default).int ((rGet ls (iWrap .i64 (iShr (iWrap .u64 (iAdd x.1 x.2)) 1))).tail.tail.headD default).int ((rGet ls (iWrap .i64 (iShr (iWrap .u64 (iAdd x.1 x.2)) 1))).tail.tail.tail.headD default).int b0 b1 b2 b3) 0 = true → InR .i64 (iAdd (iWrap .i64 (iShr (iWrap .u64 (iAdd x.1 x.2)) 1)) 1) ∧ (true = true ∧ h26_0 ls b0 b1 b2 b3 = h26_0 ls b0 b1 b2 b3) ∧ h26_1 ns ls b0 b1 b2 b3 = h26_1 ns ls b0 b1 b2 b3 ∧ ∃ (y : Int × Int), Sp.bsI ls b0 b1 b2 b3 y.1 y.2 ∧ true = true ∧ ((IntKind.i64 = IntKind.i64 ∧ iAdd (iWrap .i64 (iShr (iWrap .u64 (iAdd x.1 x.2)) 1)) 1 = y.1) ∧ (IntKind.i64 = IntKind.i64 ∧ x.2 = y.2) ∧ True) ∧ True ∧ (y.2 - y.1).toNat < (x.2 - x.1).toNat) ∧ (bLt (Sp.lcmp ((rGet ls (iWrap .i64 (iShr (iWrap .u64 (iAdd x.1 x.2)) 1))).headD default).int ((rGet ls (iWrap .i64 (iShr (iWrap .u64 (iAdd x.1 x.2)) 1))).tail.headD default).int ((rGet ls (iWrap .i64 (iShr (iWrap .u64 (iAdd x.1 x.2)) 1))).tail.tail.headD default).int ((rGet ls (iWrap .i64 (iShr (iWrap .u64 (iAdd x.1 x.2)) 1))).tail.tail.tail.headD default).int b0 b1 b2 b3) 0 = false → (true = true ∧ h26_0 ls b0 b1 b2 b3 = h26_0 ls b0 b1 b2 b3) ∧ h26_1 ns ls b0 b1 b2 b3 = h26_1 ns ls b0 b1 b2 b3 ∧ ∃ (y : Int × Int), Sp.bsI ls b0 b1 b2 b3 y.1 y.2 ∧ true = true ∧ ((IntKind.i64 = IntKind.i64 ∧ x.1 = y.1) ∧ (IntKind.i64 = IntKind.i64 ∧ iWrap .i64 (iShr (iWrap .u64 (iAdd x.1 x.2)) 1) = y.2) ∧ True) ∧ True ∧ (y.2 - y.1).toNat < (x.2 - x.1).toNat)))) ∧ (bLt x.1 x.2 = false → (bLt x.1 (iLen ls) = true → pIn 0 (iLen ls) x.1 ∧ (InR .i64 ((rGet ls x.1).headD default).int ∧ InR .i64 ((rGet ls x.1).tail.headD default).int ∧ InR .i64 ((rGet ls x.1).tail.tail.headD default).int ∧ InR .i64 ((rGet ls x.1).tail.tail.tail.headD default).int ∧ True → True ∧ (InR .i64 (Sp.lcmp ((rGet ls x.1).headD default).int ((rGet ls x.1).tail.headD default).int ((rGet ls x.1).tail.tail.headD default).int ((rGet ls x.1).tail.tail.tail.headD default).int b0 b1 b2 b3) → True ∧ (bNot (bEq (Sp.lcmp ((rGet ls x.1).headD default).int ((rGet ls x.1).tail.headD default).int ((rGet ls x.1).tail.tail.headD default).int ((rGet ls x.1).tail.tail.tail.headD default).int b0 b1 b2 b3) 0) = true → ([] = Sp.disN ns ls b0 b1 b2 b3 ∧ [] = Sp.disL ns ls b0 b1 b2 b3 ∧ True) ∧ (7 = Sp.disE ns ls b0 b1 b2 b3 ∧ True) ∧ True) ∧ (bNot (bEq (Sp.lcmp ((rGet ls x.1).headD default).int ((rGet ls x.1).tail.headD default).int ((rGet ls x.1).tail.tail.headD default).int ((rGet ls x.1).tail.tail.tail.headD default).int b0 b1 b2 b3) 0) = false → pLe (↑ns.length) 1000000 ∧ pLe (↑ls.length) 1000000 ∧ InR .i64 (iAdd x.1 1) ∧ ((pLe 0 x.1 ∧ pLe (iAdd x.1 1) (iAdd x.1 1)) ∧ pLe (iAdd x.1 1) ↑ls.length ∧ pLe (↑ls.length) 1000000) ∧ (ns = Sp.disN ns ls b0 b1 b2 b3 ∧ Sp.del ls x.1 (iAdd x.1 1) = Sp.disL ns ls b0 b1 b2 b3 ∧ True) ∧ (0 = Sp.disE ns ls b0 b1 b2 b3 ∧ True) ∧ True)))) ∧ (bLt x.1 (iLen ls) = false → True ∧ ([] = Sp.disN ns ls b0 b1 b2 b3 ∧ [] = Sp.disL ns ls b0 b1 b2 b3 ∧ True) ∧ (7 = Sp.disE ns ls b0 b1 b2 b3 ∧ True) ∧ True))))) := by kernel_rfl
theorem v26 (ns : List (List C)) (ls : List (List C)) (b0 : Int) (b1 : Int) (b2 : Int) (b3 : Int) : Holds (Wfs [.agg [.sl [.int .i64, .int .i64, .int .i64, .int .i64] ns, .sl [.int .i64, .int .i64, .int .i64, .int .i64] ls], .agg [.int .i64 b0, .int .i64 b1, .int .i64 b2, .int .i64 b3]] → True → B26 ns ls b0 b1 b2 b3) := by
  refine ⟨fun hw hp => ?_⟩
  rw [e26]
  simp only [Wfs, Wf, InR, and_true] at hw
  simp only [eq_self, true_and, and_true, true_implies, implies_true, iAdd, iSub, iMul, iLen, bEq, bNe, bLt, bLe, bNot, pIn, pLe, pNe, InR, decide_eq_true_eq, decide_eq_false_iff_not, Bool.not_eq_true', Bool.not_eq_false', decide_eq_decide]
  refine ⟨fun h => Sp.dis_err (Sp.dis1 h) (by omega), fun hv _ => ⟨⟨(0, _), Sp.bs_init, rfl, rfl⟩, ?_⟩⟩
  have V := Sp.vld_small hv
  rintro ⟨p, q⟩ hb hb1
  simp only at hb hb1 ⊢
  have p0 := hb.1
  have pq := hb.2.1
  have ql := hb.2.2.1
  refine ⟨fun hpq => ?_, fun hpq => ?_⟩
  · have mid : iWrap IntKind.i64 (iShr (iWrap IntKind.u64 (p + q)) 1) = (p + q) / 2 := by
      have e1 : iWrap IntKind.u64 (p + q) = p + q := by show IntKind.wrap _ _ = _; rw [IntKind.wrap_u64]; omega
      have e2 : iShr (p + q) 1 = (p + q) / 2 := by show Int.fdiv (p + q) 2 = _; rw [Int.fdiv_eq_ediv_of_nonneg _ (by omega)]
      rw [e1, e2]
      show IntKind.wrap _ _ = _
      rw [IntKind.wrap_i64]; omega
    rw [mid]
    have m0 : p ≤ (p + q) / 2 := by omega
    have m1 : (p + q) / 2 < q := by omega
    refine ⟨⟨by omega, by omega⟩, by simp [pSh], ⟨by omega, by omega⟩, fun _ _ => ⟨fun hl => ⟨by omega, ((p + q) / 2 + 1, q), Sp.bs_up hv hb m0 m1 (decide_eq_true hl), ⟨rfl, rfl⟩, by simp only; omega⟩, fun hl => ⟨(p, (p + q) / 2), Sp.bs_down hv hb m0 m1 (decide_eq_false hl), ⟨rfl, rfl⟩, by simp only; omega⟩⟩⟩
  have hpos := Sp.bs_pos hb hpq
  have hI : Sp.delL ls b0 b1 b2 b3 = Sp.del ls p (p + 1) := by unfold Sp.delL; rw [hpos]
  refine ⟨fun hpl => ⟨⟨p0, hpl⟩, fun _ _ => ⟨fun hn => Sp.dis_err (Sp.dis7 hv (Sp.bs_no hv hb hpq fun _ => hn)) (by omega), fun he => ⟨by omega, by omega, by omega, ⟨by omega, by omega⟩, ?_⟩⟩⟩, fun hpl => Sp.dis_err (Sp.dis7 hv (Sp.bs_no hv hb hpq fun h => (hpl h).elim)) (by omega)⟩
  rw [← hI]
  exact Sp.dis_ok (Sp.dis0 hv (Sp.bs_yes hpl p0 he))
theorem s26 : SoundCt Go.Proofs.Try.prog 26 ct26 :=
  contractH followsMixed (look_sound (show Tb Go.Proofs.Try.prog tb26 from ⟨s14, ⟨s42, ⟨s54, ⟨s72, ⟨s73, trivial⟩⟩⟩⟩⟩)) (fun _ => false) (fun _ => A26) 8 26 ct26 rfl (by simp [ct26]) fun a => Eq.mp (by kernel_rfl) (v26 ((cel 0 (arg 0 a)).list) ((cel 1 (arg 0 a)).list) ((cel 0 (arg 1 a)).int) ((cel 1 (arg 1 a)).int) ((cel 2 (arg 1 a)).int) ((cel 3 (arg 1 a)).int))
end Go.Sx

