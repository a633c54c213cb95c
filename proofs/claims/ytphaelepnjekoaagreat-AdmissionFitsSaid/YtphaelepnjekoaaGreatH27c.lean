import Derived.Test.YtphaelepnjekoaaGreatSxUse
import Derived.Test.YtphaelepnjekoaaGreatH27b
import Derived.KernelRfl
set_option linter.unusedVariables false
set_option linter.unusedSimpArgs false
set_option maxRecDepth 100000
set_option maxHeartbeats 4000000
namespace Go
open Go.Sx
def Sp.cd (ls : List (List C)) (id n : Int) : Nat := (ls.filter (fun l => decide (Sp.c0 l = id) && decide (Sp.c2 l = n))).length
def Sp.wI (ls : List (List C)) (i : Int) (m : List (Int × List C)) : Prop := 0 ≤ i ∧ i ≤ (ls.length : Int) ∧ ∀ n, kGet m n [.i 0] = [.i (Sp.cnt (ls.take i.toNat) [] n : Int)]
def Sp.gI (ns ls : List (List C)) (i : Int) (out : List (List C)) (dm wm : List (Int × List C)) : Prop := 0 ≤ i ∧ i ≤ (ns.length : Int) ∧ (out.length : Int) = i ∧ Sp.oI ns ls out ∧ (∀ n, kGet dm n [.b false] = [.b (Sp.has out n)]) ∧ ∀ n, kGet wm n [.i 0] = [.i (Sp.cnt ls out n : Int)]
def Sp.pr (dm wm : List (Int × List C)) (x : List C) : Bool := !((kGet dm (Sp.c0 x) [.b false]).headD default).bool && decide (((kGet wm (Sp.c0 x) [.i 0]).headD default).int = 0)
def Sp.dI (ls out : List (List C)) (id j : Int) (wm : List (Int × List C)) : Prop := 0 ≤ j ∧ j ≤ (ls.length : Int) ∧ ∀ n, kGet wm n [.i 0] = [.i ((Sp.cnt ls out n : Int) + (Sp.cd (ls.drop j.toNat) id n : Int))]
end Go
namespace Go
open Go.Sx
theorem Sp.kGet_put (m : List (Int × List C)) (a n : Int) (y z : List C) : kGet (kPut m a y) n z = if a = n then y else kGet m n z := by
 induction m with
 | nil =>
  simp only [kPut, kGet]
  by_cases h : a = n <;> simp [h]
 | cons x r ih =>
  simp only [kPut]
  by_cases hx : x.1 = a
  · rw [decide_eq_true hx, cond_true]
    simp only [kGet]
    by_cases h : a = n
    · simp [h]
    · simp [h, hx]
  · rw [decide_eq_false hx, cond_false]
    simp only [kGet]
    by_cases h : x.1 = n
    · have : ¬ a = n := fun h2 => hx (h.trans h2.symm)
      simp [h, this]
    · simp [h, ih]
theorem Sp.has_nil (n : Int) : Sp.has [] n = false := rfl
section
variable {ns ls out : List (List C)} {i j n id : Int} {m dm wm : List (Int × List C)}
theorem Sp.cnt_le : Sp.cnt ls out n ≤ ls.length := List.length_filter_le _ _
theorem Sp.wI_init : Sp.wI ls 0 [] := ⟨by omega, by omega, fun n => by simp [kGet, Sp.cnt]⟩
theorem Sp.cnt_snoc (xs : List (List C)) (x : List C) : Sp.cnt (xs ++ [x]) out n = Sp.cnt xs out n + (if Sp.c2 x = n ∧ Sp.has out (Sp.c0 x) = false then 1 else 0) := by
 unfold Sp.cnt
 rw [List.filter_append, List.length_append]
 congr 1
 rw [List.filter_cons]
 by_cases h1 : Sp.c2 x = n <;> cases h2 : Sp.has out (Sp.c0 x) <;> simp [h1, h2]
theorem Sp.wI_step (h : Sp.wI ls i m) (hi : i < (ls.length : Int)) : Sp.wI ls (i + 1) (kPut m (Sp.c2 (rGet ls i)) [.i (((kGet m (Sp.c2 (rGet ls i)) [.i 0]).headD default).int + 1)]) := by
 obtain ⟨h0, h1, h2⟩ := h
 refine ⟨by omega, by omega, fun n => ?_⟩
 rw [Sp.kGet_put, Sp.take_succ h0 hi, Sp.cnt_snoc]
 by_cases hn : Sp.c2 (rGet ls i) = n
 · rw [if_pos hn, h2, hn]
   simp [Sp.has_nil, C.int]
 · rw [if_neg hn, h2, if_neg (fun h => hn h.1)]; simp
theorem Sp.wI_get (h : Sp.wI ls i m) : 0 ≤ ((kGet m n [.i 0]).headD default).int ∧ ((kGet m n [.i 0]).headD default).int ≤ i := by
 obtain ⟨h0, h1, h2⟩ := h
 rw [h2]
 simp only [List.headD_cons, C.int]
 have := Sp.cnt_le (ls := ls.take i.toNat) (out := []) (n := n)
 simp only [List.length_take] at this
 omega
theorem Sp.gI_init (h : Sp.wI ls i m) (hi : ¬ i < (ls.length : Int)) : Sp.gI ns ls 0 [] [] m := by
 obtain ⟨h0, h1, h2⟩ := h
 refine ⟨by omega, by omega, rfl, Sp.oI_init ns ls, fun n => by simp [kGet, Sp.has_nil], fun n => ?_⟩
 rw [h2, List.take_of_length_le (by omega)]
theorem Sp.cnt_zero : Sp.cnt ls out id = 0 ↔ Sp.free ls out id = true := by
 unfold Sp.cnt Sp.free
 rw [List.length_eq_zero_iff, List.filter_eq_nil_iff, List.all_eq_true]
 constructor
 · intro h x hx
   have := h x hx
   cases h1 : decide (Sp.c2 x = id) <;> cases h2 : Sp.has out (Sp.c0 x) <;> simp_all
 · intro h x hx
   have := h x hx
   cases h1 : decide (Sp.c2 x = id) <;> cases h2 : Sp.has out (Sp.c0 x) <;> simp_all
theorem Sp.pr_rdy (h : Sp.gI ns ls i out dm wm) : Sp.pr dm wm = Sp.rdy ls out := by
 obtain ⟨_, _, _, _, h1, h2⟩ := h
 funext x
 unfold Sp.pr Sp.rdy
 rw [h1, h2]
 show (!Sp.has out (Sp.c0 x) && decide ((Sp.cnt ls out (Sp.c0 x) : Int) = 0)) = _
 have e : decide ((Sp.cnt ls out (Sp.c0 x) : Int) = 0) = Sp.free ls out (Sp.c0 x) := by
  rw [Bool.eq_iff_iff, decide_eq_true_eq, ← Sp.cnt_zero]; omega
 rw [e]
theorem Sp.gI_none (h : Sp.gI ns ls i out dm wm) (hi : Sp.idx (Sp.pr dm wm) ns 0 < 0) : out = Sp.ord ns ls := by
 rw [Sp.pr_rdy h] at hi
 exact Sp.oI_end h.2.2.2.1 hi
theorem Sp.gI_full (h : Sp.gI ns ls i out dm wm) (hi : ¬ i < (ns.length : Int)) : out = Sp.ord ns ls := by
 obtain ⟨h0, h1, h2, h3, _⟩ := h
 refine Sp.oI_end h3 ?_
 apply Classical.byContradiction
 intro h4
 have h5 := (Sp.oI_step h3 (by omega) rfl).2
 have h6 := h3.1
 omega
theorem Sp.cnt_cons (x : List C) (r : List (List C)) : Sp.cnt (x :: r) out n = (if Sp.c2 x = n ∧ Sp.has out (Sp.c0 x) = false then 1 else 0) + Sp.cnt r out n := by
 unfold Sp.cnt
 rw [List.filter_cons]
 by_cases h1 : Sp.c2 x = n <;> cases h2 : Sp.has out (Sp.c0 x) <;> simp [h1, h2]; omega
theorem Sp.cd_cons (x : List C) (r : List (List C)) : Sp.cd (x :: r) id n = (if Sp.c0 x = id ∧ Sp.c2 x = n then 1 else 0) + Sp.cd r id n := by
 unfold Sp.cd
 rw [List.filter_cons]
 by_cases h1 : Sp.c0 x = id <;> by_cases h2 : Sp.c2 x = n <;> simp [h1, h2]; omega
theorem Sp.cnt_app (a : Int) (hf : Sp.has out a = false) : ∀ (xs : List (List C)), Sp.cnt xs out n = Sp.cnt xs (out ++ [[.i a]]) n + Sp.cd xs a n
 | [] => rfl
 | x :: r => by
  have ih := Sp.cnt_app a hf r
  rw [Sp.cnt_cons, Sp.cnt_cons, Sp.cd_cons, Sp.has_app, ih]
  by_cases h3 : a = Sp.c0 x
  · subst h3
    rw [hf]
    by_cases h1 : Sp.c2 x = n
    · simp [h1]; omega
    · simp [h1]
  · have h4 : ¬ Sp.c0 x = a := fun h => h3 h.symm
    rw [decide_eq_false h3, Bool.or_false, if_neg (show ¬ (Sp.c0 x = a ∧ Sp.c2 x = n) from fun h => h4 h.1)]
    omega
theorem Sp.dI_init (h : Sp.gI ns ls i out dm wm) (hf : Sp.has out id = false) : Sp.dI ls (out ++ [[.i id]]) id 0 wm := by
 obtain ⟨_, _, _, _, _, h2⟩ := h
 refine ⟨by omega, by omega, fun n => ?_⟩
 rw [h2, Sp.cnt_app id hf]; simp
theorem Sp.dI_keep (h : Sp.dI ls out id j wm) (hj : j < (ls.length : Int)) (hc : ¬ Sp.c0 (rGet ls j) = id) : Sp.dI ls out id (j + 1) wm := by
 obtain ⟨h0, h1, h2⟩ := h
 refine ⟨by omega, by omega, fun n => ?_⟩
 rw [h2, Sp.drop_cons h0 hj, Sp.cd_cons, if_neg (fun h => hc h.1), Nat.zero_add]
theorem Sp.dI_dec (h : Sp.dI ls out id j wm) (hj : j < (ls.length : Int)) (hc : Sp.c0 (rGet ls j) = id) : Sp.dI ls out id (j + 1) (kPut wm (Sp.c2 (rGet ls j)) [.i (((kGet wm (Sp.c2 (rGet ls j)) [.i 0]).headD default).int - 1)]) := by
 obtain ⟨h0, h1, h2⟩ := h
 refine ⟨by omega, by omega, fun n => ?_⟩
 have h3 := h2 n
 rw [Sp.drop_cons h0 hj, Sp.cd_cons] at h3
 rw [Sp.kGet_put]
 by_cases hn : Sp.c2 (rGet ls j) = n
 · rw [if_pos hn, hn, h3, if_pos ⟨hc, hn⟩]
   simp only [List.headD_cons, C.int]
   congr 2; omega
 · rw [if_neg hn, h3, if_neg (fun h => hn h.2), Nat.zero_add]
theorem Sp.dI_pos (h : Sp.dI ls out id j wm) (hj : j < (ls.length : Int)) (hc : Sp.c0 (rGet ls j) = id) : 1 ≤ ((kGet wm (Sp.c2 (rGet ls j)) [.i 0]).headD default).int := by
 obtain ⟨h0, h1, h2⟩ := h
 rw [h2, Sp.drop_cons h0 hj, Sp.cd_cons, if_pos ⟨hc, rfl⟩]
 simp only [List.headD_cons, C.int]
 omega
theorem Sp.gI_step {wm' : List (Int × List C)} (h : Sp.gI ns ls i out dm wm) (hi : i < (ns.length : Int)) (hx : 0 ≤ Sp.idx (Sp.pr dm wm) ns 0) (hid : id = Sp.c0 (rGet ns (Sp.idx (Sp.pr dm wm) ns 0))) (hd : Sp.dI ls (out ++ [[.i id]]) id j wm') (hj : ¬ j < (ls.length : Int)) :
 Sp.gI ns ls (i + 1) (out ++ [[.i id]]) (kPut dm id [.b true]) wm' := by
 have hpr := Sp.pr_rdy h
 rw [hpr] at hx hid
 obtain ⟨h0, h1, h2, h3, h4, h5⟩ := h
 refine ⟨by omega, by omega, by simp only [List.length_append, List.length_singleton]; omega, (Sp.oI_step h3 hx hid).1, fun n => ?_, fun n => ?_⟩
 · rw [Sp.kGet_put, Sp.has_app]
   by_cases hn : id = n
   · simp [hn]
   · rw [if_neg hn, h4]; simp [hn]
 · obtain ⟨_, _, h6⟩ := hd
   rw [h6, List.drop_eq_nil_of_le (by omega)]
   simp [Sp.cd]
end
end Go
namespace Go.Sx
def ct99 : Ct := { ps := [(true, [.sl [.int .i64, .int .i64, .int .i64, .int .i64], .sl [.int .i64, .int .i64, .int .i64, .int .i64]])], rs := [(false, [.sl [.int .i64]])], pre := fun a => pLe ((cel 0 (arg 0 a)).list.length : Int) 1000000 ∧ True, out := fun a => [[.l (Sp.ord (cel 0 (arg 0 a)).list (cel 1 (arg 0 a)).list)]] }
def tb99 : List (Nat × Ct) := []
def A99 (ns : List (List C)) (ls : List (List C)) : FuncId → Nat → LoopAnn := fun ff ii => bif Nat.beq ff 103 then (.on (fun sv0 => match sv0.tmps.getD 0 .undef with | .sl _ nq => (match sv0.tmps.getD 1 .undef with | .fn _ [.ref db _, .ref wb _] => (match sv0.heap[db]?, sv0.heap[wb]? with | some (.box [.own dk0 _] _), some (.box [.own wk0 _] _) => (match sv0.heap[dk0]?, sv0.heap[wk0]? with | some (.mp _ _ _ _ dm), some (.mp _ _ _ _ wm) => .inv (Int) (fun z => Sp.at (Sp.pr dm wm) nq z) (fun z => [(8, .int .i64 z)]) (fun z => []) [] [0, 1, 4, 5, 7, 8, 9, 16] (fun z => nq.length - z.toNat) | _, _ => .unroll 0) | _, _ => .unroll 0) | _ => .unroll 0) | _ => .unroll 0)) else bif Nat.beq ii 3 then .on (fun sv0 => (match sv0.tmps.getD 3 .undef with | .ref bb3 _ => (match sv0.heap[bb3]? with | some (.box [.own mk0 _] _) => (match sv0.heap[mk0]? with | some (.mp _ _ _ _ _) => .inv (Int × List (Int × List C)) (fun z => Sp.wI ls z.1 z.2) (fun z => [(16, .int .i64 z.1)]) (fun z => [(mk0, .mp .i64 false [.int .i64] 0 z.2)]) [mk0] [0, 1, 2, 3, 5, 6, 7, 8, 9, 11, 14, 15, 16, 17, 29, 30, 31, 37, 51, 52, 53, 54, 60] (fun z => ls.length - z.1.toNat) | _ => .unroll 0) | _ => .unroll 0) | _ => .unroll 0)) else bif Nat.beq ii 10 then .ghost 6 [.int .i64] 3 (.on (fun sv0 => match sv0.tmps.getD 6 .undef with | .own rr _ => (match sv0.tmps.getD 3 .undef with | .ref bb3 _ => (match sv0.heap[bb3]? with | some (.box [.own wk0 _] _) => (match sv0.heap[wk0]? with | some (.mp _ _ _ _ _) => (match sv0.tmps.getD 7 .undef with | .ref bb7 _ => (match sv0.heap[bb7]? with | some (.box [.own dk0 _] _) => (match sv0.heap[dk0]? with | some (.mp _ _ _ _ _) => .inv (Int × List (List C) × List (Int × List C) × List (Int × List C)) (fun z => Sp.gI ns ls z.1 z.2.1 z.2.2.1 z.2.2.2) (fun z => [(30, .int .i64 z.1), (6, .own rr 0)]) (fun z => [(rr, .row [.int .i64] 3 0 z.2.1), (dk0, .mp .i64 false [.bool] 0 z.2.2.1), (wk0, .mp .i64 false [.int .i64] 0 z.2.2.2)]) [rr, dk0, wk0] [0, 1, 2, 3, 5, 6, 7, 8, 9, 11, 14, 15, 16, 17, 29, 30, 31, 37, 51, 52, 53, 54, 60] (fun z => ns.length - z.1.toNat) | _ => .unroll 0) | _ => .unroll 0) | _ => .unroll 0) | _ => .unroll 0) | _ => .unroll 0) | _ => .unroll 0) | _ => .unroll 0)) else bif Nat.beq ii 17 then .on (fun sv0 => match sv0.tmps.getD 6 .undef with | .own rr _ => (match curOf sv0.heap rr with | some (_, _, out) => (match sv0.tmps.getD 9 .undef with | .int _ id => (match sv0.tmps.getD 3 .undef with | .ref bb3 _ => (match sv0.heap[bb3]? with | some (.box [.own wk0 _] _) => (match sv0.heap[wk0]? with | some (.mp _ _ _ _ _) => .inv (Int × List (Int × List C)) (fun z => Sp.dI ls out id z.1 z.2) (fun z => [(53, .int .i64 z.1)]) (fun z => [(wk0, .mp .i64 false [.int .i64] 0 z.2)]) [wk0] [0, 1, 2, 3, 5, 6, 7, 8, 9, 11, 14, 15, 16, 17, 29, 30, 31, 37, 51, 52, 53, 54, 60] (fun z => ls.length - z.1.toNat) | _ => .unroll 0) | _ => .unroll 0) | _ => .unroll 0) | _ => .unroll 0) | none => .unroll 0) | _ => .unroll 0) else .unroll 0
abbrev B99 (ns : List (List C)) (ls : List (List C)) : Prop := vcF Go.Proofs.Tryz.prog (look tb99) (fun _ => false) (A99 ns ls) 8 99 [.agg [.sl [.int .i64, .int .i64, .int .i64, .int .i64] ns, .sl [.int .i64, .int .i64, .int .i64, .int .i64] ls]] [] (fun sv heap => Gives [(false, [.sl [.int .i64]])] [[.l (Sp.ord ns ls)]] sv heap)
def h99_0 : List (List C) → List (List C) → List SV := fun (ns ls : List (List C)) => [SV.agg [SV.sl [.int .i64, .int .i64, .int .i64, .int .i64] ns, SV.sl [.int .i64, .int .i64, .int .i64, .int .i64] ls], SV.ref 0 0, SV.nils, SV.ref 2 0, SV.undef, SV.undef, SV.undef, SV.undef, SV.undef, SV.sl [.int .i64, .int .i64, .int .i64, .int .i64] ls, SV.int .i64 (iLen ls), SV.undef, SV.undef, SV.undef, SV.undef, SV.undef, SV.undef, SV.undef, SV.undef, SV.undef]
def h99_1 : List (List C) → List (List C) → List HB := fun (ns ls : List (List C)) => [HB.box [SV.sl [.int .i64, .int .i64, .int .i64, .int .i64] ns, SV.sl [.int .i64, .int .i64, .int .i64, .int .i64] ls] 50, HB.gone, HB.box [SV.own 1 0] 125]
def h99_2 : List (List C) → List (List C) → Int × List (Int × List C) → Int × List (List C) × List (Int × List C) × List (Int × List C) → Int → List SV := fun (ns ls : List (List C)) (x : Int × List (Int × List C)) (x_1 : Int × List (List C) × List (Int × List C) × List (Int × List C)) (x_2 : Int) => [SV.agg [SV.sl [.int .i64, .int .i64, .int .i64, .int .i64] ns, SV.sl [.int .i64, .int .i64, .int .i64, .int .i64] ls], SV.ref 0 0, SV.nils, SV.ref 2 0, SV.any, SV.own 5 (0 + 1 + 1), SV.ref 4 0, SV.int .i64 x_2, SV.int .i64 ((rGet ns x_2).headD default).int, SV.sl [.int .i64, .int .i64, .int .i64, .int .i64] ls, SV.int .i64 (iLen ls), SV.int .i64 x.1, SV.blit false, SV.int .i64 (iLen ns), SV.int .i64 x_1.1, SV.blit true, SV.blit false, SV.sl [.int .i64, .int .i64, .int .i64, .int .i64] ls, SV.int .i64 (iLen ls)]
def h99_3 : List (List C) → List (List C) → Int × List (List C) × List (Int × List C) × List (Int × List C) → Int → List HB := fun (ns ls : List (List C)) (x : Int × List (List C) × List (Int × List C) × List (Int × List C)) (x_1 : Int) => [HB.box [SV.sl [.int .i64, .int .i64, .int .i64, .int .i64] ns, SV.sl [.int .i64, .int .i64, .int .i64, .int .i64] ls] 50, HB.gone, HB.box [SV.own 1 0] 125, HB.mp .i64 false [Sh.bool] 0 (kPut x.snd.snd.1 ((rGet ns x_1).headD default).int [C.b true]), HB.box [SV.own 3 0] 143, HB.row [.int .i64] 3 (0 + 1 + 1) (x.snd.1 ++ [[C.i ((rGet ns x_1).headD default).int]]), HB.box [SV.int .i64 ((rGet ns x_1).headD default).int, SV.int .i64 ((rGet ns x_1).tail.headD default).int, SV.int .i64 ((rGet ns x_1).tail.tail.headD default).int, SV.int .i64 ((rGet ns x_1).tail.tail.tail.headD default).int] 74]
def h99_4 : List (List C) → List (List C) → Int × List (Int × List C) → List SV := fun (ns ls : List (List C)) (x : Int × List (Int × List C)) => [SV.agg [SV.sl [.int .i64, .int .i64, .int .i64, .int .i64] ns, SV.sl [.int .i64, .int .i64, .int .i64, .int .i64] ls], SV.ref 0 0, SV.nils, SV.ref 2 0, SV.any, SV.ref 4 0, SV.sl [.int .i64, .int .i64, .int .i64, .int .i64] ls, SV.int .i64 (iLen ls), SV.int .i64 x.1, SV.blit false, SV.int .i64 (iLen ns)]
def h99_5 : List (List C) → List (List C) → List HB := fun (ns ls : List (List C)) => [HB.box [SV.sl [.int .i64, .int .i64, .int .i64, .int .i64] ns, SV.sl [.int .i64, .int .i64, .int .i64, .int .i64] ls] 50, HB.gone, HB.box [SV.own 1 0] 125, HB.gone, HB.box [SV.own 3 0] 143, HB.gone]
def h99_6 : List (List C) → List (List C) → Int × List (List C) × List (Int × List C) × List (Int × List C) → List HB := fun (ns ls : List (List C)) (x : Int × List (List C) × List (Int × List C) × List (Int × List C)) => [HB.box [SV.sl [.int .i64, .int .i64, .int .i64, .int .i64] ns, SV.sl [.int .i64, .int .i64, .int .i64, .int .i64] ls] 50, HB.mp .i64 false [Sh.int .i64] 0 x.snd.snd.2, HB.box [SV.own 1 0] 125, HB.mp .i64 false [Sh.bool] 0 x.snd.snd.1, HB.box [SV.own 3 0] 143, HB.row [.int .i64] 3 (0 + 1) x.snd.1]
def m99_0 : Prop := IntKind.i64 = IntKind.i64
def m99_1 (ns : List (List C)) (ls : List (List C)) (x_1 : Int × List (List C) × List (Int × List C) × List (Int × List C)) (x_2 : Int) : Prop := InR .i64 (iAdd x_2 1) ∧ (true = true ∧ (fun z => z = z) [SV.sl [.int .i64, .int .i64, .int .i64, .int .i64] ns, SV.fn 104 [SV.ref 4 0, SV.ref 2 0], SV.int .i64 (iLen ns)]) ∧ h99_6 ns ls x_1 = h99_6 ns ls x_1 ∧ ∃ (y : Int), Sp.at (Sp.pr x_1.snd.snd.1 x_1.snd.snd.2) ns y ∧ true = true ∧ ((m99_0 ∧ iAdd x_2 1 = y) ∧ True) ∧ True ∧ ns.length - y.toNat < ns.length - x_2.toNat
def m99_2 : Prop := [Sh.int .i64] = [Sh.int .i64]
theorem e99 (ns : List (List C)) (ls : List (List C)) : B99 ns ls = (pLe (iLen ls) 9223372036854775807 → (∃ (x : Int × List (Int × List C)), Sp.wI ls x.1 x.2 ∧ true = true ∧ ((m99_0 ∧ 0 = x.1) ∧ True) ∧ (m99_0 ∧ false = false ∧ m99_2 ∧ 0 = 0 ∧ [] = x.2) ∧ True) ∧ (∀ (x : Int × List (Int × List C)), true = true ∧ true = true) ∧ ∀ (x : Int × List (Int × List C)), Sp.wI ls x.1 x.2 → InR .i64 x.1 ∧ True → (∀ (x_1 : Int × List C), x_1 ∈ x.2 → WfCs [.int .i64] x_1.2) ∧ True → (bLt x.1 (iLen ls) = true → pIn 0 (iLen ls) x.1 ∧ (InR .i64 (q0 (rGet ls x.1)) ∧ InR .i64 (q1 (rGet ls x.1)) ∧ InR .i64 (q2 (rGet ls x.1)) ∧ InR .i64 (q3 (rGet ls x.1)) ∧ True → InR .i64 (q0 (kGet x.2 (q2 (rGet ls x.1)) [C.i 0])) → InR .i64 (iAdd (q0 (kGet x.2 (q2 (rGet ls x.1)) [C.i 0])) 1) ∧ InR .i64 (iAdd x.1 1) ∧ (true = true ∧ h99_0 ns ls = h99_0 ns ls) ∧ h99_1 ns ls = h99_1 ns ls ∧ ∃ (y : Int × List (Int × List C)), Sp.wI ls y.1 y.2 ∧ true = true ∧ ((m99_0 ∧ iAdd x.1 1 = y.1) ∧ True) ∧ ((m99_0 ∧ false = false ∧ m99_2 ∧ 0 = 0 ∧ kPut x.2 (q2 (rGet ls x.1)) [C.i (iAdd (q0 (kGet x.2 (q2 (rGet ls x.1)) [C.i 0])) 1)] = y.2) ∧ True) ∧ ls.length - y.1.toNat < ls.length - x.1.toNat)) ∧ (bLt x.1 (iLen ls) = false → pLe (iLen ns) 9223372036854775807 → (∃ (x_1 : Int × List (List C) × List (Int × List C) × List (Int × List C)), Sp.gI ns ls x_1.1 x_1.snd.1 x_1.snd.snd.1 x_1.snd.snd.2 ∧ true = true ∧ ((m99_0 ∧ 0 = x_1.1) ∧ (5 = 5 ∧ 0 + 1 = 0 + 1) ∧ True) ∧ (m99_2 ∧ 3 = 3 ∧ 0 + 1 = 0 + 1 ∧ [] = x_1.snd.1) ∧ (m99_0 ∧ false = false ∧ [Sh.bool] = [Sh.bool] ∧ 0 = 0 ∧ [] = x_1.snd.snd.1) ∧ (m99_0 ∧ false = false ∧ m99_2 ∧ 0 = 0 ∧ x.2 = x_1.snd.snd.2) ∧ True) ∧ (∀ (x : Int × List (List C) × List (Int × List C) × List (Int × List C)), true = true ∧ true = true) ∧ ∀ (x_1 : Int × List (List C) × List (Int × List C) × List (Int × List C)), Sp.gI ns ls x_1.1 x_1.snd.1 x_1.snd.snd.1 x_1.snd.snd.2 → InR .i64 x_1.1 ∧ True ∧ True → ((WL [.int .i64] x_1.snd.1)) ∧ (∀ (x : Int × List C), x ∈ x_1.snd.snd.1 → WfCs [.bool] x.2) ∧ (∀ (x : Int × List C), x ∈ x_1.snd.snd.2 → WfCs [.int .i64] x.2) ∧ True → (bLt x_1.1 (iLen ns) = true → pLe (iLen ns) 9223372036854775807 → (∃ (x : Int), Sp.at (Sp.pr x_1.snd.snd.1 x_1.snd.snd.2) ns x ∧ true = true ∧ ((m99_0 ∧ 0 = x) ∧ True) ∧ True) ∧ (∀ (x : Int), true = true ∧ true = true) ∧ ∀ (x_2 : Int), Sp.at (Sp.pr x_1.snd.snd.1 x_1.snd.snd.2) ns x_2 → InR .i64 x_2 ∧ True → True → (bLt x_2 (iLen ns) = true → pIn 0 (iLen ns) x_2 ∧ (InR .i64 (q0 (rGet ns x_2)) ∧ InR .i64 (q1 (rGet ns x_2)) ∧ InR .i64 (q2 (rGet ns x_2)) ∧ InR .i64 (q3 (rGet ns x_2)) ∧ True → True → True ∧ (bNot ((kGet x_1.snd.snd.1 (q0 (rGet ns x_2)) [C.b false]).headD default).bool = true → InR .i64 (q0 (kGet x_1.snd.snd.2 (q0 (rGet ns x_2)) [C.i 0])) → (bEq (q0 (kGet x_1.snd.snd.2 (q0 (rGet ns x_2)) [C.i 0])) 0 = true → (bLt x_2 0 = true → (x_1.snd.1 = Sp.ord ns ls ∧ True) ∧ True) ∧ (bLt x_2 0 = false → pIn 0 (iLen ns) x_2 ∧ (InR .i64 (q0 (rGet ns x_2)) → pRoom 8 (iLen (x_1.snd.1 ++ [[C.i (q0 (rGet ns x_2))]])) ∧ (pLe (iLen ls) 9223372036854775807 → (∃ (x : Int × List (Int × List C)), Sp.dI ls (x_1.snd.1 ++ [[C.i (q0 (rGet ns x_2))]]) (q0 (rGet ns x_2)) x.1 x.2 ∧ true = true ∧ ((m99_0 ∧ 0 = x.1) ∧ True) ∧ (m99_0 ∧ false = false ∧ m99_2 ∧ 0 = 0 ∧ x_1.snd.snd.2 = x.2) ∧ True) ∧ (∀ (x : Int × List (Int × List C)), true = true ∧ true = true) ∧ ∀ (x_3 : Int × List (Int × List C)), Sp.dI ls (x_1.snd.1 ++ [[C.i (q0 (rGet ns x_2))]]) (q0 (rGet ns x_2)) x_3.1 x_3.2 → InR .i64 x_3.1 ∧ True → (∀ (x : Int × List C), x ∈ x_3.2 → WfCs [.int .i64] x.2) ∧ True → (bLt x_3.1 (iLen ls) = true → pIn 0 (iLen ls) x_3.1 ∧ (InR .i64 (q0 (rGet ls x_3.1)) ∧ InR .i64 (q1 (rGet ls x_3.1)) ∧ InR .i64 (q2 (rGet ls x_3.1)) ∧ InR .i64 (q3 (rGet ls x_3.1)) ∧ True → (bEq (q0 (rGet ls x_3.1)) (q0 (rGet ns x_2)) = true → InR .i64 (q0 (kGet x_3.2 (q2 (rGet ls x_3.1)) [C.i 0])) → InR .i64 (iSub (q0 (kGet x_3.2 (q2 (rGet ls x_3.1)) [C.i 0])) 1) ∧ InR .i64 (iAdd x_3.1 1) ∧ (true = true ∧ h99_2 ns ls x x_1 x_2 = h99_2 ns ls x x_1 x_2) ∧ h99_3 ns ls x_1 x_2 = h99_3 ns ls x_1 x_2 ∧ ∃ (y : Int × List (Int × List C)), Sp.dI ls (x_1.snd.1 ++ [[C.i (q0 (rGet ns x_2))]]) (q0 (rGet ns x_2)) y.1 y.2 ∧ true = true ∧ ((m99_0 ∧ iAdd x_3.1 1 = y.1) ∧ True) ∧ ((m99_0 ∧ false = false ∧ m99_2 ∧ 0 = 0 ∧ kPut x_3.2 (q2 (rGet ls x_3.1)) [C.i (iSub (q0 (kGet x_3.2 (q2 (rGet ls x_3.1)) [C.i 0])) 1)] = y.2) ∧ True) ∧ ls.length - y.1.toNat < ls.length - x_3.1.toNat) ∧ (bEq (q0 (rGet ls x_3.1)) (q0 (rGet ns x_2)) = false → InR .i64 (iAdd x_3.1 1) ∧ (true = true ∧ h99_2 ns ls x x_1 x_2 = h99_2 ns ls x x_1 x_2) ∧ h99_3 ns ls x_1 x_2 = h99_3 ns ls x_1 x_2 ∧ ∃ (y : Int × List (Int × List C)), Sp.dI ls (x_1.snd.1 ++ [[C.i (q0 (rGet ns x_2))]]) (q0 (rGet ns x_2)) y.1 y.2 ∧ true = true ∧ ((m99_0 ∧ iAdd x_3.1 1 = y.1) ∧ True) ∧ ((m99_0 ∧ false = false ∧ m99_2 ∧ 0 = 0 ∧ x_3.2 = y.2) ∧ True) ∧ ls.length - y.1.toNat < ls.length - x_3.1.toNat))) ∧ (bLt x_3.1 (iLen ls) = false → InR .i64 (iAdd x_1.1 1) ∧ (true = true ∧ h99_4 ns ls x = h99_4 ns ls x) ∧ h99_5 ns ls = h99_5 ns ls ∧ ∃ (y : Int × List (List C) × List (Int × List C) × List (Int × List C)), Sp.gI ns ls y.1 y.snd.1 y.snd.snd.1 y.snd.snd.2 ∧ true = true ∧ ((m99_0 ∧ iAdd x_1.1 1 = y.1) ∧ (5 = 5 ∧ 0 + 1 = 0 + 1) ∧ True) ∧ ((m99_2 ∧ 3 = 3 ∧ 0 + 1 = 0 + 1 ∧ x_1.snd.1 ++ [[C.i (q0 (rGet ns x_2))]] = y.snd.1) ∧ (m99_0 ∧ false = false ∧ [Sh.bool] = [Sh.bool] ∧ 0 = 0 ∧ kPut x_1.snd.snd.1 (q0 (rGet ns x_2)) [C.b true] = y.snd.snd.1) ∧ (m99_0 ∧ false = false ∧ m99_2 ∧ 0 = 0 ∧ x_3.2 = y.snd.snd.2) ∧ True) ∧ ns.length - y.1.toNat < ns.length - x_1.1.toNat))))) ∧ (bEq (q0 (kGet x_1.snd.snd.2 (q0 (rGet ns x_2)) [C.i 0])) 0 = false → (m99_1 ns ls x_1 x_2))) ∧ (bNot ((kGet x_1.snd.snd.1 (q0 (rGet ns x_2)) [C.b false]).headD default).bool = false → (m99_1 ns ls x_1 x_2)))) ∧ (bLt x_2 (iLen ns) = false → (x_1.snd.1 = Sp.ord ns ls ∧ True) ∧ True)) ∧ (bLt x_1.1 (iLen ns) = false → (x_1.snd.1 = Sp.ord ns ls ∧ True) ∧ True))) := by kernel_rfl
theorem v99 (ns : List (List C)) (ls : List (List C)) : Holds (Wfs [.agg [.sl [.int .i64, .int .i64, .int .i64, .int .i64] ns, .sl [.int .i64, .int .i64, .int .i64, .int .i64] ls]] → pLe (ns.length : Int) 1000000 ∧ True → B99 ns ls) := by
 refine ⟨fun hw hp => ?_⟩
 rw [e99]
 delta WL q0 q1 q2 q3 m99_0 m99_1 m99_2
 simp only [Wfs, Wf, InR, and_true] at hw
 simp only [eq_self, true_and, and_true, true_implies, implies_true, iAdd, iSub, iMul, iLen, bEq, bNe, bLt, bLe, bNot, pIn, pLe, pNe, InR, decide_eq_true_eq, decide_eq_false_iff_not, Bool.not_eq_true', Bool.not_eq_false', decide_eq_decide]
 simp only [pLe] at hp
 have hsz := hp.1
 intro hll
 refine ⟨⟨(0, []), Sp.wI_init, rfl, rfl⟩, ?_⟩
 rintro ⟨i, m⟩ hx _ _
 simp only at hx ⊢
 have i0 := hx.1
 have hg := Sp.wI_get (n := ((rGet ls i).tail.tail.headD default).int) hx
 refine ⟨fun hlt => ⟨⟨i0, hlt⟩, fun _ _ => ⟨by omega, by omega, (i + 1, _), Sp.wI_step hx hlt, rfl, rfl, by simp only; omega⟩⟩, fun hge hnl => ⟨⟨(0, [], [], m), Sp.gI_init hx hge, rfl, rfl, rfl, rfl⟩, ?_⟩⟩
 rintro ⟨i, out, dm, wm⟩ hg hi1 _
 simp only at hg hi1 ⊢
 have i0 := hg.1
 refine ⟨fun hlt _ => ⟨⟨0, Sp.at_init, rfl⟩, fun q hq hq1 => ⟨fun hql => ⟨⟨hq.1, hql⟩, fun _ => ?_⟩, fun hqe => ?_⟩⟩, fun hge => Sp.gI_full hg hge⟩
 · have hpr : Sp.pr dm wm (rGet ns q) = (!((kGet dm ((rGet ns q).headD default).int [.b false]).headD default).bool && decide (((kGet wm ((rGet ns q).headD default).int [.i 0]).headD default).int = 0)) := rfl
   have q0 := hq.1
   have fin : Sp.pr dm wm (rGet ns q) = false → (-9223372036854775808 ≤ q + 1 ∧ q + 1 ≤ 9223372036854775807) ∧ ∃ y, Sp.at (Sp.pr dm wm) ns y ∧ q + 1 = y ∧ ns.length - y.toNat < ns.length - q.toNat := fun h => ⟨by omega, q + 1, Sp.at_step hq hql h, rfl, by omega⟩
   refine ⟨fun hd hwr => ⟨fun hz => ⟨fun h => by omega, fun _ => ⟨⟨q0, hql⟩, fun _ => ?_⟩⟩, fun hz => fin (by rw [hpr, hd, decide_eq_false hz]; rfl)⟩, fun hd => fin (by rw [hpr, hd]; rfl)⟩
   have hit : Sp.idx (Sp.pr dm wm) ns 0 = q := Sp.at_hit hq hql (by rw [hpr, hd, decide_eq_true hz]; rfl)
   have hid : ((rGet ns q).headD default).int = Sp.c0 (rGet ns (Sp.idx (Sp.pr dm wm) ns 0)) := by rw [hit]; rfl
   have hx0 : 0 ≤ Sp.idx (Sp.pr dm wm) ns 0 := by rw [hit]; exact q0
   have hhas : Sp.has out ((rGet ns q).headD default).int = false := by
    rw [hg.2.2.2.2.1] at hd
    exact hd
   have hol := hg.2.2.1
   refine ⟨by simp only [pRoom, List.length_append, List.length_singleton]; omega, fun _ => ⟨⟨(0, wm), Sp.dI_init hg hhas, rfl, rfl⟩, ?_⟩⟩
   rintro ⟨j, wm'⟩ hd' hj1 _
   simp only at hd' hj1 ⊢
   have j0 := hd'.1
   refine ⟨fun hjl => ⟨⟨j0, hjl⟩, fun _ => ⟨fun hc hr => ?_, fun hc => ⟨by omega, (j + 1, wm'), Sp.dI_keep hd' hjl hc, rfl, rfl, by simp only; omega⟩⟩⟩, fun hjg => ⟨by omega, (i + 1, _, _, wm'), Sp.gI_step hg hlt hx0 hid hd' hjg, rfl, ⟨rfl, rfl, rfl⟩, by simp only; omega⟩⟩
   have hpos : 1 ≤ ((kGet wm' ((rGet ls j).tail.tail.headD default).int [.i 0]).headD default).int := Sp.dI_pos hd' hjl hc
   exact ⟨by omega, by omega, (j + 1, _), Sp.dI_dec hd' hjl hc, rfl, rfl, by simp only; omega⟩
 · exact Sp.gI_none hg (by rw [Sp.at_end hq hqe]; omega)
theorem s99 : SoundCt Go.Proofs.Tryz.prog 99 ct99 :=
 contractH followsMixed (look_sound (show Tb Go.Proofs.Tryz.prog tb99 from trivial)) (fun _ => false) (fun a => A99 ((cel 0 (arg 0 a)).list) ((cel 1 (arg 0 a)).list)) 8 99 ct99 rfl (by simp [ct99]) fun a => Eq.mp (by kernel_rfl) (v99 ((cel 0 (arg 0 a)).list) ((cel 1 (arg 0 a)).list))
end Go.Sx
